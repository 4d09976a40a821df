/-
  Proved here: skeen.Same, whole. No condition but that the clocks read. slices.IndexFunc at waits, order.Honest's inner function. No condition
-/
import Derived.Test.YtkkohllhebdlcaaGreatDoorY30
set_option maxRecDepth 100000
namespace Go.Proofs.YtkkohllhebdlcaaGreatDoor
open Go.RowKit
theorem WaitsR.step {w w':World} {v:Value} {l:List Wt} (h:WaitsR w v l) (hb:Below w.heap.size w w'):WaitsR w' v l:=by
 obtain ⟨pl,h1,⟨h2,h3⟩,h4⟩:=h
 exact ⟨pl,h1,⟨h2.below wtCs_len hb,h3⟩,fun p hp=>(h4 p hp).below hb⟩
open Classical in
set_option maxHeartbeats 8000000 in
set_option maxRecDepth 100000 in
theorem skSame_any {v v':Value} {s s':Sk} {w:World} {z:Bool} (h:SkR w v s) (h':SkR w v' s') (hz:z=true↔s=s') :
  Calls Tryz.prog 14 #[v,v'] w fun e w'=>e=.returned (.bool z)∧Below w.heap.size w w':=by
 obtain ⟨a,cap,b,bc,rfl,hw,hd⟩:=h
 obtain ⟨a',cap',b',bc',rfl,hw',hd'⟩:=h'
 obtain ⟨q,hq⟩:∃ q,q=decide (s.done=s'.done):=⟨_,rfl⟩
 obtain ⟨r,hr⟩:∃ r,r=decide (s.waits=s'.waits):=⟨_,rfl⟩
 have KD:Hid (∀ W,Below w.heap.size w W→Calls Tryz.prog 32 #[.slice b s.done.length bc,.slice b' s'.done.length bc'] W fun e W'=>e=.returned (.bool q)∧Below W.heap.size W W'):=fun W hW=>eqSt_any (hd.below (fun _=>rfl) hW) (hd'.below (fun _=>rfl) hW) (by rw [hq];simp)
 have KW:Hid (∀ W,Below w.heap.size w W→Calls Tryz.prog 33 #[.slice a s.waits.length cap,.slice a' s'.waits.length cap',.func (.func 34) #[] #[]] W fun e W'=>e=.returned (.bool r)∧Below W.heap.size W W'):=fun W hW=>eqWt_any (hw.step hW) (hw'.step hW) (by rw [hr];simp)
 have HZ:Hid (z=(decide (s.clock=s'.clock) && q && r)):=LH (by
  rw [Bool.eq_iff_iff,hz,hq,hr]
  obtain ⟨c1,w1,d1⟩:=s
  obtain ⟨c2,w2,d2⟩:=s'
  simp only [Sk.mk.injEq,Bool.and_eq_true,decide_eq_true_eq]
  constructor
  ·rintro ⟨h1,h2,h3⟩;exact ⟨⟨h1,h3⟩,h2⟩
  ·rintro ⟨⟨h1,h3⟩,h2⟩;exact ⟨h1,h2,h3⟩)
 obtain ⟨wn,hwn⟩:∃ n,n=s.waits.length:=⟨_,rfl⟩
 obtain ⟨wn',hwn'⟩:∃ n,n=s'.waits.length:=⟨_,rfl⟩
 obtain ⟨dn,hdn⟩:∃ n,n=s.done.length:=⟨_,rfl⟩
 obtain ⟨dn',hdn'⟩:∃ n,n=s'.done.length:=⟨_,rfl⟩
 obtain ⟨ck,hck⟩:∃ c,c=s.clock:=⟨_,rfl⟩
 obtain ⟨ck',hck'⟩:∃ c,c=s'.clock:=⟨_,rfl⟩
 rw [← hwn,← hwn'] at KW ⊢
 rw [← hdn,← hdn'] at KD ⊢
 rw [← hck,← hck'] at HZ ⊢
 clear hw hd hw' hd' hq hr hz hwn hwn' hdn hdn' hck hck'
 by_cases hc:ck=ck'
 ·have ec:(ck == ck')=true:=by simpa using hc
  cases q
  ·obtain rfl:z=false:=by rw [HZ.out];simp
   clear HZ hc
   go_enter Tryz.func14,Tryz.ntmps14
   go_wp2_with fail
   refine (KD.out _ (by repeat (first|with_reducible (first|exact Below.refl _ _|apply Below.drew|apply below_alloc)|((first|with_reducible refine Below.alloc ?_ ?_ _|with_reducible refine Below.setCell ?_ ?_ _);rotate_left;focus (first|(simp <;> omega)|omega))))).mono ?_
   rintro e w1 ⟨rfl,hb⟩
   have HB:Hid (Below w.heap.size w w1):=below_step (by repeat (first|with_reducible (first|exact Below.refl _ _|apply Below.drew|apply below_alloc)|((first|with_reducible refine Below.alloc ?_ ?_ _|with_reducible refine Below.setCell ?_ ?_ _);rotate_left;focus (first|(simp <;> omega)|omega)))) hb
   clear hb
   go_wp2_with fail
   go_ret
   exact ⟨rfl,HB.out⟩
  ·obtain rfl:z=r:=by rw [HZ.out,decide_eq_true hc];simp
   clear HZ hc
   go_enter Tryz.func14,Tryz.ntmps14
   go_wp2_with fail
   refine (KD.out _ (by repeat (first|with_reducible (first|exact Below.refl _ _|apply Below.drew|apply below_alloc)|((first|with_reducible refine Below.alloc ?_ ?_ _|with_reducible refine Below.setCell ?_ ?_ _);rotate_left;focus (first|(simp <;> omega)|omega))))).mono ?_
   rintro e w1 ⟨rfl,hb⟩
   have HB:Hid (Below w.heap.size w w1):=below_step (by repeat (first|with_reducible (first|exact Below.refl _ _|apply Below.drew|apply below_alloc)|((first|with_reducible refine Below.alloc ?_ ?_ _|with_reducible refine Below.setCell ?_ ?_ _);rotate_left;focus (first|(simp <;> omega)|omega)))) hb
   have P:Blk _ (w.heap.size) _ _:=Blk.step (by repeat (first|((with_reducible apply Blk.new);focus (first|rfl|(simp <;> omega)))|with_reducible (first|apply Blk.drew|apply Blk.alloc|apply Blk.set_)|((with_reducible apply Blk.far);rotate_left;focus (first|(simp <;> omega)|omega)))) hb
   obtain ⟨p0,p1,p2,pz⟩:=cells3 P
   have pl:=Blk.lt P
   have HP:=LH P
   clear P
   have Q:Blk _ (w.heap.size+1) _ _:=Blk.step (by repeat (first|((with_reducible apply Blk.new);focus (first|rfl|(simp <;> omega)))|with_reducible (first|apply Blk.drew|apply Blk.alloc|apply Blk.set_)|((with_reducible apply Blk.far);rotate_left;focus (first|(simp <;> omega)|omega)))) hb
   obtain ⟨q0,q1,q2,qz⟩:=cells3 Q
   have ql:=Blk.lt Q
   have HQ:=LH Q
   clear Q
   clear hb
   go_wp2_with fail
   refine (KW.out _ (by repeat (first|with_reducible (first|exact HB.out|exact Below.refl _ _|apply Below.drew|apply below_alloc)|((first|with_reducible refine Below.alloc ?_ ?_ _|with_reducible refine Below.setCell ?_ ?_ _);rotate_left;focus (first|(simp <;> omega)|omega))))).mono ?_
   rintro e w2 ⟨rfl,hb⟩
   have HB2:Hid (Below w.heap.size w w2):=below_step (by repeat (first|with_reducible (first|exact HB.out|exact Below.refl _ _|apply Below.drew|apply below_alloc)|((first|with_reducible refine Below.alloc ?_ ?_ _|with_reducible refine Below.setCell ?_ ?_ _);rotate_left;focus (first|(simp <;> omega)|omega)))) hb
   clear hb
   go_wp2_with fail
   go_ret
   exact ⟨rfl,HB2.out⟩
 ·have ec:(ck == ck')=false:=by simpa using hc
  obtain rfl:z=false:=by rw [HZ.out,decide_eq_false hc];simp
  clear HZ hc
  go_enter Tryz.func14,Tryz.ntmps14
  go_wp2_with fail
  go_ret
  exact ⟨rfl,by repeat (first|with_reducible (first|exact Below.refl _ _|apply Below.drew|apply below_alloc)|((first|with_reducible refine Below.alloc ?_ ?_ _|with_reducible refine Below.setCell ?_ ?_ _);rotate_left;focus (first|(simp <;> omega)|omega)))⟩
end Go.Proofs.YtkkohllhebdlcaaGreatDoor
namespace Go.Proofs.YtkkohllhebdlcaaGreatDoor
open Go.RowKit
def IdxW (l:List Wt) (id:Int) (i:Int):Prop:=(i=-1∧∀ x∈l,x.msg.id≠id)∨∃ k:Nat,i=k∧∃ h:k < l.length,l[k].msg.id=id
set_option maxHeartbeats 4000000 in
set_option maxRecDepth 100000 in
theorem hon11_any (a:Option Addr) (n cap:Nat) (x:Wt) (id:Int) (sb:Nat) (w:World) (hb:w.cell? ⟨sb,6,none⟩=some (.int .i64 id)) :
  Calls Tryz.prog 16 #[.agg #[.int .i64 x.msg.id,.slice a n cap,.int .i64 x.msg.topic,.string x.msg.key,.string x.msg.body,.int .i64 x.time,.bool x.fin],.pointer (some ⟨sb,0,none⟩)] w fun e w'=>e=.returned (.bool (x.msg.id == id))∧Below w.heap.size w w':=by
 have hlt:=World.block_lt_of_cell? w _ hb
 have hlt':sb < w.heap.size:=hlt
 obtain ⟨⟨i1,g1,t1,k1,b1⟩,tm,f1⟩:=x
 simp only
 go_enter Tryz.func16,Tryz.ntmps16
 go_wp2_with fail
 go_ret
 exact ⟨rfl,(Below.refl _ _).alloc (Nat.le_refl _) _⟩
set_option maxHeartbeats 4000000 in
set_option maxRecDepth 100000 in
theorem idxW_any {v:Value} {l:List Wt} {w:World} {id:Int} {sb:Nat} (h:WaitsR w v l) (hc:w.cell? ⟨sb,6,none⟩=some (.int .i64 id)) :
  Calls Tryz.prog 15 #[v,.func (.func 16) #[] #[.pointer (some ⟨sb,0,none⟩)]] w fun e w'=>(∃ i:Int,e=.returned (.int .i64 i)∧IdxW l id i)∧Below w.heap.size w w':=by
 obtain ⟨pl,rfl,⟨⟨a,cap,rfl,hcap,hmax,-,hd⟩,hsl⟩,-⟩:=h
 unfold maxLen at hmax
 have HSL:=LH hsl
 have HT:=LH hc
 have HD:=LH hd
 obtain ⟨n,hn⟩:∃ n,n=pl.length:=⟨_,rfl⟩
 rw [← hn] at hcap ⊢
 have HN:=LH hn
 clear hn hd hc hsl
 have hn':(n:Int)≤9223372036854775807:=by omega
 go_enter Tryz.func15,Tryz.ntmps15
 go_wp2_with fail
 go_loopg [5,8] n (fun g _ i wr=>∃ k:Nat,k≤n∧g=n - k∧i=.int .i64 (k:Int)∧Hid (∀ j (h:j < pl.length),j < k→(pl[j].2.msg.id == id)=false)∧Hid (Below w.heap.size w wr))
 case atStart=>exact ⟨0,Nat.zero_le _,rfl,rfl,(fun j _ hj=>absurd hj (Nat.not_lt_zero _)),Below.refl _ _⟩
 case round =>
  obtain ⟨k,hk,rfl,rfl,hall,hb⟩:=hrel
  by_cases hlt:k < n
  ·have hk0:(0:Int)≤(k:Int):=by omega
   have hk1:(k:Int) < (n:Int):=by omega
   have hkl:k < pl.length:=by rw [← HN.out];exact hlt
   obtain ⟨bb,off,ha,h1⟩:=HD.out (by omega)
   subst ha
   have e0:=h1 k hkl 0 (by omega)
   have e1:=h1 k hkl 1 (by omega)
   have e2:=h1 k hkl 2 (by omega)
   have e3:=h1 k hkl 3 (by omega)
   have e4:=h1 k hkl 4 (by omega)
   have e5:=h1 k hkl 5 (by omega)
   have e6:=h1 k hkl 6 (by omega)
   clear h1
   obtain ⟨ga,gn,gc,esl⟩:=HSL.out pl[k] (List.getElem_mem hkl)
   obtain ⟨x,hx⟩:∃ x,x=pl[k]:=⟨_,rfl⟩
   rw [← hx] at e0 e1 e2 e3 e4 e5 e6 esl
   have HX:=LH hx
   obtain ⟨u,y⟩:=x
   simp only at esl
   subst esl
   have L:=hon11_any ga gn gc y id sb wr (keep hb.out HT.out)
   obtain ⟨⟨i1,g1,t1,k1,b1⟩,tm,f1⟩:=y
   simp only at L
   have c0:wr.cell? ⟨bb,off+(k * 7+0),none⟩=some (.int .i64 i1):=keep hb.out e0
   have c1:wr.cell? ⟨bb,off+(k * 7+1),none⟩=some (.slice ga gn gc):=keep hb.out e1
   have c2:wr.cell? ⟨bb,off+(k * 7+2),none⟩=some (.int .i64 t1):=keep hb.out e2
   have c3:wr.cell? ⟨bb,off+(k * 7+3),none⟩=some (.string k1):=keep hb.out e3
   have c4:wr.cell? ⟨bb,off+(k * 7+4),none⟩=some (.string b1):=keep hb.out e4
   have c5:wr.cell? ⟨bb,off+(k * 7+5),none⟩=some (.int .i64 tm):=keep hb.out e5
   have c6:wr.cell? ⟨bb,off+(k * 7+6),none⟩=some (.bool f1):=keep hb.out e6
   simp only [← Nat.add_assoc,Nat.add_zero] at c0 c1 c2 c3 c4 c5 c6
   clear hx e0 e1 e2 e3 e4 e5 e6
   obtain ⟨q,hq⟩:∃ q,q=(i1 == id):=⟨_,rfl⟩
   rw [← hq] at L
   have HL:=LH L
   have HQ:=LH hq
   clear L hq
   cases q
   all_goals
    go_wp2_with fail
    refine HL.out.mono ?_
    rintro e w1 ⟨rfl,hb1⟩
    have HB2:=LH (hb.out.trans (hb1.mono hb.out.size))
    clear hb hb1 c0 c1 c2 c3 c4 c5 c6
    go_wp2_with fail
   ·go_roundg (n - (k+1))
    case measure=>omega
    case rel =>
     refine ⟨k+1,by omega,rfl,by go_num,fun j hj hjk=>?_,HB2⟩
     by_cases hjk:j < k
     ·exact hall.out j hj hjk
     ·obtain rfl:j=k:=by omega
      rw [← HX.out];exact HQ.out.symm
   ·go_ret
    refine ⟨⟨k,rfl,Or.inr ⟨k,rfl,by rw [List.length_map];exact hkl,?_⟩⟩,HB2.out⟩
    rw [List.getElem_map,← HX.out]
    exact eq_of_beq HQ.out.symm
  ·obtain rfl:k=n:=by omega
   have hlt':¬ (k:Int) < (k:Int):=by omega
   go_wp2_with fail
   go_ret
   refine ⟨⟨-1,rfl,Or.inl ⟨rfl,fun x hx e=>?_⟩⟩,hb.out⟩
   obtain ⟨y,hy,rfl⟩:=List.mem_map.1 hx
   obtain ⟨j,hj,rfl⟩:=List.getElem_of_mem hy
   have h0:=hall.out j hj (by rw [HN.out];exact hj)
   rw [e] at h0
   simp at h0
end Go.Proofs.YtkkohllhebdlcaaGreatDoor
