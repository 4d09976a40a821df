/-
  Proved here: skeen.of, skeen.order. No condition. slices.MinFunc at what waits. No condition but that there is something num.GetInts: numbers off bytes. No condition but that what is asked is command's reader: take, number, text, ints. No condition but that the  command's reader: number, text, ints. No condition but that the reader
-/
import Derived.Test.YtkkohllhebdlcaaGreatDoorY03
set_option maxRecDepth 100000
namespace Go.Proofs.YtkkohllhebdlcaaGreatDoor
open Go.RowKit
set_option maxHeartbeats 4000000 in
set_option maxRecDepth 100000 in
theorem of_any (a:Option Addr) (n cap:Nat) (x:Wt) (w:World):Calls Tryz.prog 81 #[wtVal (.slice a n cap) x] w fun e w'=>e=.returned (.agg #[.int .i64 x.time,.int .i64 x.msg.id])∧Below w.heap.size w w':=by
 obtain ⟨⟨i1,g1,t1,k1,b1⟩,tm,fn⟩:=x
 simp only [wtVal]
 go_enter Tryz.func81,Tryz.ntmps81
 go_wp2_with fail
 obtain ⟨t0,t1_,-⟩:=cells2 (Blk.new (w:=w.alloc (.cells #[.int .i64 i1,.slice a n cap,.int .i64 t1,.string k1,.string b1,.int .i64 tm,.bool fn] 65)) (t:=104) (g:=w.heap.size+1) (cs:=[.int .i64 tm,.int .i64 i1]) (by simp))
 refine bodyPost_ret (v:=.agg #[.int .i64 tm,.int .i64 i1]) (by simp [results,Tryz.results81,go_sem,t0,t1_]) rfl ⟨rfl,?_⟩
 repeat (first|with_reducible (first|exact Below.refl _ _|apply Below.drew|apply below_alloc)|((first|with_reducible refine Below.alloc ?_ ?_ _|with_reducible refine Below.setCell ?_ ?_ _);rotate_left;focus (first|(simp <;> omega)|omega)))
theorem cells7 {w:World} {g:Nat} {t:TypeId} {a b c d e f h:Value} (hb:Blk w g t [a,b,c,d,e,f,h]) :
  ((w.cell? ⟨g,0,none⟩=some a∧w.cell? ⟨g,1,none⟩=some b∧w.cell? ⟨g,2,none⟩=some c∧w.cell? ⟨g,3,none⟩=some d)∧w.cell? ⟨g,4,none⟩=some e∧w.cell? ⟨g,5,none⟩=some f∧w.cell? ⟨g,6,none⟩=some h)∧∀ o,w.frozen? ⟨g,o,none⟩=false :=
 ⟨⟨⟨hb.cell 0,hb.cell 1,hb.cell 2,hb.cell 3⟩,hb.cell 4,hb.cell 5,hb.cell 6⟩,hb.free⟩
set_option maxHeartbeats 4000000 in
set_option maxRecDepth 100000 in
theorem order_any (a a':Option Addr) (n n' cap cap':Nat) (x y:Wt) (w:World):Calls Tryz.prog 83 #[wtVal (.slice a n cap) x,wtVal (.slice a' n' cap') y] w fun e w'=>e=.returned (.int .i64 (cmpW x y))∧Below w.heap.size w w':=by
 obtain ⟨r,hr⟩:∃ r,r=cmpW x y:=⟨_,rfl⟩
 rw [← hr]
 have HO:=fun (W:World)=>of_any a n cap x W
 have HO':=fun (W:World)=>of_any a' n' cap' y W
 obtain ⟨q,hq⟩:∃ q,q=lessW x y:=⟨_,rfl⟩
 obtain ⟨q',hq'⟩:∃ q,q=lessW y x:=⟨_,rfl⟩
 have HL:=LH (fun (W:World)=>(show Calls Tryz.prog 79 #[.agg #[.int .i64 x.time,.int .i64 x.msg.id],.agg #[.int .i64 y.time,.int .i64 y.msg.id]] W fun e w'=>e=.returned (.bool q)∧Below W.heap.size W w' from by rw [hq];exact less_any _ _ _ _ W))
 have HL':=LH (fun (W:World)=>(show Calls Tryz.prog 79 #[.agg #[.int .i64 y.time,.int .i64 y.msg.id],.agg #[.int .i64 x.time,.int .i64 x.msg.id]] W fun e w'=>e=.returned (.bool q')∧Below W.heap.size W w' from by rw [hq'];exact less_any _ _ _ _ W))
 rw [cmpW,← hq,← hq'] at hr
 have HR:=LH hr
 have O:=LH HO
 have O':=LH HO'
 clear hr hq hq' HO HO'
 obtain ⟨⟨i1,g1,t1,k1,b1⟩,tm,fn⟩:=x
 obtain ⟨⟨i2,g2,t2,k2,b2⟩,tm',fn'⟩:=y
 simp only [wtVal] at O O' HL HL' ⊢
 go_enter Tryz.func83,Tryz.ntmps83
 go_wp2_with fail
 refine wp_region_below (by kernel_rfl) (by kernel_rfl) ?_
 repeat
  with_reducible refine wpQuiet_step (fun K hK=>?_)
  first
   |refine quiet_not (by rfl) (hK _ ?_)
   |refine quiet_any (by rfl) ?_
    apply Exists.intro
    refine ⟨fun wq hq=>?_,hK _ ?_⟩
    ·obtain ⟨qc,_⟩:=bcell hq.out
     go_simp
     first
      |done
      |(with_reducible rfl)
      |(first|(go_at_call 81;with_reducible exact call_in hq.out (O.out _))|(go_at_call 81;with_reducible exact call_in hq.out (O'.out _))|(go_at_call 79;with_reducible exact call_in hq.out (HL.out _)))
  clear hK K
  simp only [Act.put,List.setIfInBounds_toArray,List.set_cons_zero,List.set_cons_succ]
 refine wpQuiet_nil ?_
 intro w1 hb
 have HB:Hid (Below w.heap.size w _):=below_step (by repeat (first|with_reducible (first|exact Below.refl _ _|apply Below.drew|apply below_alloc)|((first|with_reducible refine Below.alloc ?_ ?_ _|with_reducible refine Below.setCell ?_ ?_ _);rotate_left;focus (first|(simp <;> omega)|omega)))) hb
 have HP:Hid (Blk w1 w.heap.size 65 [.int .i64 i1,.slice a n cap,.int .i64 t1,.string k1,.string b1,.int .i64 tm,.bool fn]):=LH (Blk.step (by first|exact (Blk.new rfl).alloc _|exact Blk.drew ((Blk.new rfl).alloc _)) hb)
 have HQ:Hid (Blk w1 (w.heap.size+1) 65 [.int .i64 i2,.slice a' n' cap',.int .i64 t2,.string k2,.string b2,.int .i64 tm',.bool fn']):=LH (Blk.step (by first|exact Blk.new (by simp)|exact Blk.drew (Blk.new (by simp))) hb)
 clear hb
 obtain ⟨⟨⟨p0,p1,p2,p3⟩,p4,p5,p6⟩,pz⟩:=cells7 HP.out
 obtain ⟨⟨⟨q0,q1,q2,q3⟩,q4,q5,q6⟩,qz⟩:=cells7 HQ.out
 have pl:=HP.out.lt
 have ql:=HQ.out.lt
 cases q
 rotate_left
 ·obtain rfl:r=-1:=by rw [HR.out];rfl
  go_wp2_with fail
  go_ret
  exact ⟨rfl,HB.out⟩
 ·go_wp2_with fail
  refine wp_region_below (by kernel_rfl) (by kernel_rfl) ?_
  repeat
   with_reducible refine wpQuiet_step (fun K hK=>?_)
   first
    |refine quiet_not (by rfl) (hK _ ?_)
    |refine quiet_any (by rfl) ?_
     apply Exists.intro
     refine ⟨fun wq hq=>?_,hK _ ?_⟩
     ·obtain ⟨qc,_⟩:=bcell hq.out
      go_simp
      first
       |done
       |(with_reducible rfl)
       |(first|(go_at_call 81;with_reducible exact call_in hq.out (O.out _))|(go_at_call 81;with_reducible exact call_in hq.out (O'.out _))|(go_at_call 79;with_reducible exact call_in hq.out (HL'.out _)))
   clear hK K
   simp only [Act.put,List.setIfInBounds_toArray,List.set_cons_zero,List.set_cons_succ]
  refine wpQuiet_nil ?_
  intro w2 hb
  replace HB:Hid (Below w.heap.size w _):=below_step (by repeat (first|with_reducible (first|exact HB.out|exact Below.refl _ _|apply Below.drew|apply below_alloc)|((first|with_reducible refine Below.alloc ?_ ?_ _|with_reducible refine Below.setCell ?_ ?_ _);rotate_left;focus (first|(simp <;> omega)|omega)))) hb
  clear hb
  cases q'
  ·obtain rfl:r=0:=by rw [HR.out];rfl
   go_wp2_with fail
   go_ret
   exact ⟨rfl,HB.out⟩
  ·obtain rfl:r=1:=by rw [HR.out];rfl
   go_wp2_with fail
   go_ret
   exact ⟨rfl,HB.out⟩
def isSl (u:Value):Prop:=∃ a n cap,u=.slice a n cap
def WtAt (w:World) (b o:Nat) (p:Value × Wt):Prop :=
 (w.cell? ⟨b,o,none⟩=some (.int .i64 p.2.msg.id)∧w.cell? ⟨b,o+1,none⟩=some p.1∧w.cell? ⟨b,o+2,none⟩=some (.int .i64 p.2.msg.topic)∧w.cell? ⟨b,o+3,none⟩=some (.string p.2.msg.key)) ∧
  w.cell? ⟨b,o+4,none⟩=some (.string p.2.msg.body)∧w.cell? ⟨b,o+5,none⟩=some (.int .i64 p.2.time)∧w.cell? ⟨b,o+6,none⟩=some (.bool p.2.fin)
theorem WtAt.keep {w w':World} {b o:Nat} {p:Value × Wt} (h:WtAt w b o p) (hb:Below w.heap.size w w'):WtAt w' b o p:=by
 obtain ⟨⟨h0,h1,h2,h3⟩,h4,h5,h6⟩:=h
 exact ⟨⟨Go.Proofs.YtkkohllhebdlcaaGreatDoor.keep hb h0,Go.Proofs.YtkkohllhebdlcaaGreatDoor.keep hb h1,Go.Proofs.YtkkohllhebdlcaaGreatDoor.keep hb h2,Go.Proofs.YtkkohllhebdlcaaGreatDoor.keep hb h3⟩,Go.Proofs.YtkkohllhebdlcaaGreatDoor.keep hb h4,Go.Proofs.YtkkohllhebdlcaaGreatDoor.keep hb h5,Go.Proofs.YtkkohllhebdlcaaGreatDoor.keep hb h6⟩
def WtsR (w:World) (v:Value) (pl:List (Value × Wt)):Prop:=SliceR w v 7 wtCs pl∧∀ p∈pl,isSl p.1
theorem WtsR.shape {w:World} {v:Value} {pl:List (Value × Wt)} (h:WtsR w v pl):∃ a cap,v=.slice a pl.length cap∧pl.length≤cap∧cap≤maxLen∧(0 < pl.length→∃ b off,a=some ⟨b,off,none⟩∧∀ i (hi:i < pl.length),WtAt w b (off+i * 7) pl[i]):=by
 obtain ⟨⟨a,cap,h1,h2,h3,h4,h5⟩,-⟩:=h
 refine ⟨a,cap,h1,h2,h3,fun hl=>?_⟩
 obtain ⟨b,off,ha,hd⟩:=h5 hl
 refine ⟨b,off,ha,fun i hi=>?_⟩
 have c:=fun j (hj:j < 7)=>hd i hi j hj
 simp only [← Nat.add_assoc] at c
 exact ⟨⟨c 0 (by omega),c 1 (by omega),c 2 (by omega),c 3 (by omega)⟩,c 4 (by omega),c 5 (by omega),c 6 (by omega)⟩
section
variable {w W:World} {g:Nat} {t:TypeId} {a b c d e f h a' b' c' d' e' f' h':Value}
def put7 (w:World) (g:Nat) (a b c d e f h:Value):World:=((((((w.setCell ⟨g,0,none⟩ a).setCell ⟨g,1,none⟩ b).setCell ⟨g,2,none⟩ c).setCell ⟨g,3,none⟩ d).setCell ⟨g,4,none⟩ e).setCell ⟨g,5,none⟩ f).setCell ⟨g,6,none⟩ h
theorem Blk.put7 (hb:Blk w g t [a,b,c,d,e,f,h]):Blk (put7 w g a' b' c' d' e' f' h') g t [a',b',c',d',e',f',h'] :=
 ((((((hb.set_ 0 a').set_ 1 b').set_ 2 c').set_ 3 d').set_ 4 e').set_ 5 f').set_ 6 h'
theorem Blk.far7 {k:Nat} {cs:List Value} (hb:Blk w k t cs) (hk:k≠g):Blk (Go.Proofs.YtkkohllhebdlcaaGreatDoor.put7 w g a' b' c' d' e' f' h') k t cs :=
 ((((((hb.far hk _).far hk _).far hk _).far hk _).far hk _).far hk _).far hk _
theorem below7 {B:Nat} {w0:World} (hb:Below B w0 w) (hg:B≤g):Below B w0 (Go.Proofs.YtkkohllhebdlcaaGreatDoor.put7 w g a' b' c' d' e' f' h'):=by
 unfold Go.Proofs.YtkkohllhebdlcaaGreatDoor.put7
 exact ((((((hb.setCell hg _).setCell hg _).setCell hg _).setCell hg _).setCell hg _).setCell hg _).setCell hg _
end
def minP:Value × Wt→List (Value × Wt)→Value × Wt
 |m,[]=>m
 |m,x :: l=>minP (if cmpW x.2 m.2 < 0 then x else m) l
def pv (p:Value × Wt):Value:=wtVal p.1 p.2
set_option maxHeartbeats 8000000 in
set_option maxRecDepth 100000 in
theorem min_any {v:Value} {p0:Value × Wt} {pl:List (Value × Wt)} {w:World} {r:Value × Wt} (h:WtsR w v (p0 :: pl)) (hr:r=minP p0 pl) :
  Calls Tryz.prog 82 #[v,.func (.func 83) #[] #[]] w fun e w'=>e=.returned (pv r)∧Below w.heap.size w w':=by
 obtain ⟨a,cap,rfl,hcap,hmx,hd⟩:=h.shape
 obtain ⟨b,off,rfl,hat⟩:=hd (by simp)
 have HSL:=LH h.2
 obtain ⟨L,hL⟩:∃ L,L=p0 :: pl:=⟨_,rfl⟩
 obtain ⟨n,hn⟩:∃ n,n=L.length:=⟨_,rfl⟩
 have HR:=LH (show r=minP p0 (L.drop 1) by rw [hr,hL];rfl)
 have H0:=hat 0 (by simp)
 have HAT:=LH (show ∀ i (hi:i < L.length),WtAt w b (off+i * 7) L[i] by subst hL;exact hat)
 have HSL2:=LH (show ∀ p∈L,isSl p.1 by rw [hL];exact HSL.out)
 rw [← hL,← hn] at hcap ⊢
 have hn1:1≤n:=by rw [hn,hL];simp
 have HN:=LH hn
 unfold maxLen at hmx
 have n0:¬ (n:Int) < 1:=by omega
 have n1:(n:Int)≤9223372036854775807:=by omega
 have n2:(0:Int) < (n:Int):=by omega
 obtain ⟨sa,sn,sc,hsl⟩:=HSL.out p0 (by simp)
 clear hd hat hr h HSL hL hn
 obtain ⟨u0,⟨⟨i1,g1,t1,k1,b1⟩,tm,fn⟩⟩:=p0
 simp only at hsl
 subst hsl
 have hbl:=World.block_lt_of_cell? w _ H0.1.1
 have hbl:b < w.heap.size:=hbl
 obtain ⟨⟨c0,c1,c2,c3⟩,c4,c5,c6⟩:=H0
 simp only [Nat.zero_mul,Nat.add_zero,List.getElem_cons_zero] at c0 c1 c2 c3 c4 c5 c6
 go_enter Tryz.func82,Tryz.ntmps82
 go_wp2_with fail
 go_loopg [6] (n - 1) (fun g i wr=>∃ (k:Nat) (m:Value × Wt),(1≤k∧k≤n)∧g=n - k∧i=.int .i64 (k:Int)∧Hid (r=minP m (L.drop k))∧Hid (isSl m.1)∧Hid (Below w.heap.size w wr)∧Hid (Blk wr w.heap.size 65 [.int .i64 0,.slice none 0 0,.int .i64 0,.string ⟨#[]⟩,.string ⟨#[]⟩,.int .i64 0,.bool false])∧Hid (Blk wr (w.heap.size+1) 65 (wtCs m)))
 case atStart =>
  refine ⟨1,(.slice sa sn sc,⟨⟨i1,g1,t1,k1,b1⟩,tm,fn⟩),⟨Nat.le_refl _,hn1⟩,rfl,rfl,HR,LH ⟨sa,sn,sc,rfl⟩,LH ?_,LH ?_,LH ?_⟩
  ·repeat (first|with_reducible (first|exact Below.refl _ _|apply Below.drew|apply below_alloc)|((first|with_reducible refine Below.alloc ?_ ?_ _|with_reducible refine Below.setCell ?_ ?_ _);rotate_left;focus (first|(simp <;> omega)|omega)))
  ·repeat (first|with_reducible exact Blk.new rfl|((with_reducible apply Blk.new);focus (first|rfl|(simp <;> omega)))|with_reducible (first|apply Blk.drew|apply Blk.alloc|apply Blk.set_)|((with_reducible apply Blk.far);rotate_left;focus (first|(simp <;> omega)|omega)))
  ·show Blk _ _ _ [.int .i64 i1,.slice sa sn sc,.int .i64 t1,.string k1,.string b1,.int .i64 tm,.bool fn]
   repeat (first|with_reducible exact Blk.new rfl|((with_reducible apply Blk.new);focus (first|rfl|(simp <;> omega)))|with_reducible (first|apply Blk.drew|apply Blk.alloc|apply Blk.set_)|((with_reducible apply Blk.far);rotate_left;focus (first|(simp <;> omega)|omega)))
 case round =>
  clear HR
  obtain ⟨k,m,⟨hk1,hk⟩,rfl,rfl,HR,HM,HB,HA,HX⟩:=hrel
  by_cases hlt:k < n
  ·have hk0:(0:Int)≤(k:Int):=by omega
   have hk2:(k:Int) < (n:Int):=by omega
   have hkl:k < L.length:=by rw [← HN.out];exact hlt
   have h1:=(HAT.out k hkl).keep HB.out
   have hs1:=HSL2.out L[k] (List.getElem_mem hkl)
   have HR2:=HR.out
   rw [List.drop_eq_getElem_cons hkl,minP] at HR2
   obtain ⟨x,hx⟩:∃ x,x=L[k]:=⟨_,rfl⟩
   rw [← hx] at h1 hs1 HR2
   have HR3:=LH HR2
   have hbr:=World.block_lt_of_cell? _ _ h1.1.1
   have hbr:b < wr.heap.size:=hbr
   have hne:b≠w.heap.size+1:=by omega
   have hlr:=HX.out.lt
   have hs0:=HM.out
   clear hx hkl HR HR2
   obtain ⟨u1,x⟩:=x
   obtain ⟨u2,y⟩:=m
   simp only at hs0 hs1
   obtain ⟨a1,n1',q1,rfl⟩:=hs1
   obtain ⟨a2,n2',q2,rfl⟩:=hs0
   obtain ⟨c,hc⟩:∃ c,c=cmpW x y:=⟨_,rfl⟩
   have O:=LH (fun (W:World)=>(show Calls Tryz.prog 83 #[wtVal (.slice a1 n1' q1) x,wtVal (.slice a2 n2' q2) y] W fun e w'=>e=.returned (.int .i64 c)∧Below W.heap.size W w' from by rw [hc];exact order_any a1 a2 n1' n2' q1 q2 x y W))
   simp only at HR3
   rw [← hc] at HR3
   clear hc
   obtain ⟨⟨xi,xg,xt,xk,xb⟩,xm,xf⟩:=x
   obtain ⟨⟨yi,yg,yt,yk,yb⟩,ym,yf⟩:=y
   simp only [wtVal] at O
   simp only [wtCs] at HX
   simp only [WtAt] at h1
   obtain ⟨⟨d0,d1,d2,d3⟩,d4,d5,d6⟩:=h1
   obtain ⟨⟨⟨x0,x1,x2,x3⟩,x4,x5,x6⟩,xz⟩:=cells7 HX.out
   have HD:=LH (And.intro d0 (And.intro d1 (And.intro d2 (And.intro d3 (And.intro d4 (And.intro d5 d6))))))
   go_wp2_with fail
   refine wp_region_below (by kernel_rfl) (by kernel_rfl) ?_
   repeat
    with_reducible refine wpQuiet_step (fun K hK=>?_)
    first
     |refine quiet_not (by rfl) (hK _ ?_)
     |refine quiet_any (by rfl) ?_
      apply Exists.intro
      refine ⟨fun wq hq=>?_,hK _ ?_⟩
      ·obtain ⟨qc,_⟩:=bcell hq.out
       go_simp
       first
        |done
        |(with_reducible rfl)
        |((go_at_call 83;with_reducible exact call_in hq.out (O.out _)))
    clear hK K
    simp only [Act.put,List.setIfInBounds_toArray,List.set_cons_zero,List.set_cons_succ]
   refine wpQuiet_nil ?_
   intro w1 hb
   have HB1:=LH (HB.out.trans (hb.mono HB.out.size))
   have HA1:=LH (HA.out.step (by first|exact hb|exact (drewBelow _).trans hb))
   have HX1:=LH (HX.out.step (by first|exact hb|exact (drewBelow _).trans hb))
   obtain ⟨d0,d1,d2,d3,d4,d5,d6⟩:=HD.out
   have d0:=keep hb d0
   have d1:=keep hb d1
   have d2:=keep hb d2
   have d3:=keep hb d3
   have d4:=keep hb d4
   have d5:=keep hb d5
   have d6:=keep hb d6
   have hb1:b < w1.heap.size:=Nat.lt_of_lt_of_le hbr hb.size
   clear x0 x1 x2 x3 x4 x5 x6 xz HB HA HX HD hb
   obtain ⟨⟨⟨x0,x1,x2,x3⟩,x4,x5,x6⟩,xz⟩:=cells7 HX1.out
   have xl:=HX1.out.lt
   by_cases hc:c < 0
   ·have HR4:=HR3.out
    rw [if_pos hc] at HR4
    have HR5:=LH HR4
    clear HR3 HR4
    go_wp2_with fail
    go_roundg (n - (k+1))
    case measure=>omega
    case rel=>exact ⟨k+1,(.slice a1 n1' q1,⟨⟨xi,xg,xt,xk,xb⟩,xm,xf⟩),⟨by omega,by omega⟩,rfl,by go_num,HR5,LH ⟨a1,n1',q1,rfl⟩,LH (below7 HB1.out (Nat.le_succ _)),LH (HA1.out.far7 (Nat.ne_of_lt (Nat.lt_succ_self _))),LH HX1.out.put7⟩
   ·have HR4:=HR3.out
    rw [if_neg hc] at HR4
    have HR5:=LH HR4
    clear HR3 HR4
    go_wp2_with fail
    go_roundg (n - (k+1) )
    case measure=>omega
    case rel=>exact ⟨k+1,_,⟨by omega,by omega⟩,rfl,by go_num,HR5,HM,HB1,HA1,HX1⟩
  ·obtain rfl:k=n:=by omega
   have hlt':¬ (k:Int) < (k:Int):=by omega
   have HE:=HR.out
   rw [List.drop_eq_nil_of_le (by rw [← HN.out];exact Nat.le_refl _),minP] at HE
   subst HE
   obtain ⟨u2,⟨⟨yi,yg,yt,yk,yb⟩,ym,yf⟩⟩:=r
   simp only at HM
   have hs0:=HM.out
   obtain ⟨a2,n2',q2,rfl⟩:=hs0
   simp only [wtCs] at HX
   obtain ⟨⟨⟨x0,x1,x2,x3⟩,x4,x5,x6⟩,xz⟩:=cells7 HX.out
   obtain ⟨⟨⟨e0,e1,e2,e3⟩,e4,e5,e6⟩,ez⟩:=cells7 HA.out
   have xl:=HX.out.lt
   go_wp2_with fail
   have E:=cells7 (HA.out.put7 (a':=.int .i64 yi) (b':=.slice a2 n2' q2) (c':=.int .i64 yt) (d':=.string yk) (e':=.string yb) (f':=.int .i64 ym) (h':=.bool yf))
   simp only [put7] at E
   obtain ⟨⟨⟨e0,e1,e2,e3⟩,e4,e5,e6⟩,ez⟩:=E
   refine bodyPost_ret (v:=.agg #[.int .i64 yi,.slice a2 n2' q2,.int .i64 yt,.string yk,.string yb,.int .i64 ym,.bool yf]) (by simp [results,Tryz.results82,go_sem,e0,e1,e2,e3,e4,e5,e6]) rfl ⟨rfl,below7 HB.out (Nat.le_refl _)⟩
theorem info_int:(Tryz.prog.info? 3).map (fun i=>(i.zero,i.size,i.bytes))=some (some (.int .i64 0),1,8):=by kernel_rfl
def OwnI (w:World) (B:Nat) (v:Value) (l:List Int):Prop:=w.ownsRow B 3 1 v l.length (rowVals l)
theorem ownI_shape {w:World} {B:Nat} {v:Value} {l:List Int} (h:OwnI w B v l):∃ a cap,v=.slice a l.length cap:=by
 rcases h.2 with ⟨rfl,h0⟩|⟨g,cp,cur,rfl,_⟩
 ·exact ⟨none,0,by rw [h0]⟩
 ·exact ⟨_,cp,rfl⟩
def getIL:Nat→List Int→List Int→Int→List Int × Int × Int
 |0,_,acc,s=>(acc,s,0)
 |q+1,l,acc,s=>if (getN (l.drop s.toNat)).2.2=0 then getIL q l (acc++[(getN (l.drop s.toNat)).1]) (s+(getN (l.drop s.toNat)).2.1) else ([],0,(getN (l.drop s.toNat)).2.2)
def getI (l:List Int) (most:Int):List Int × Int × Int :=
 if (getN l).2.2≠0∨most < (getN l).1 then ([],0,8) else getIL (getN l).1.toNat l [] (getN l).2.1
def IntsEnd (rl:List Int) (n x:Int) (w:World) (e:Ending) (w':World):Prop :=
 ∃ a cap,e=.returned (.tuple #[.slice a rl.length cap,.int .i64 n,.int .i64 x])∧OwnI w' w.heap.size (.slice a rl.length cap) rl∧Below w.heap.size w w'
theorem ownI_nil (w:World) (B:Nat):OwnI w B (.slice none 0 0) []:=World.ownsRow_nil _ _ _ _
set_option maxHeartbeats 8000000 in
set_option maxRecDepth 100000 in
theorem getI_any {v:Value} {l:List Int} {w:World} {most:Int} {rl:List Int} {rn rx:Int} (h:SliceR w v 1 byteCell l) (hm0:0≤most) (hm1:most≤4096) (hr:getI l most=(rl,rn,rx)) :
  Calls Tryz.prog 117 #[v,.int .i64 most] w (IntsEnd rl rn rx w):=by
 have S:=LH h
 obtain ⟨i0,hi,hz0,hz1,hz2⟩:=info_parts info_int
 obtain ⟨a,cap,rfl,hcap,hmx,_,hd⟩:=h.one (c:=fun n=>.int .u8 n) 0
 obtain ⟨n,hn⟩:∃ n,n=l.length:=⟨_,rfl⟩
 rw [← hn] at hcap hd S ⊢
 have HN:=LH hn
 unfold maxLen at hmx
 rw [getI] at hr
 have n0:¬ most < 0:=by omega
 have n1:¬ (4096:Int) < most:=by omega
 rcases getN_cases l with hg|⟨m,s,hg,⟨hq0,hq1⟩,hs1,hs2⟩
 ·rw [hg,if_pos (Or.inl (by decide))] at hr
  cases hr
  have HG:=LH hg
  clear hg hd h hn
  go_enter Tryz.func117,Tryz.ntmps117
  go_wp2_with fail
  refine Calls.mono (getN_any S.out HG.out) ?_
  rintro e w1 ⟨rfl,rfl⟩
  go_wp2_with fail
  exact bodyPost_ret (v:=.tuple #[.slice none 0 0,.int .i64 0,.int .i64 8]) (by simp [results,Tryz.results117,go_sem]) rfl ⟨none,0,rfl,ownI_nil _ _,Below.refl _ _⟩
 ·rw [hg] at hr
  have HG:=LH hg
  rw [← hn] at hs2
  simp only at hr
  clear hg
  by_cases h4:most < m
  ·rw [if_pos (Or.inr h4)] at hr
   cases hr
   clear hd h hn
   go_enter Tryz.func117,Tryz.ntmps117
   go_wp2_with fail
   refine Calls.mono (getN_any S.out HG.out) ?_
   rintro e w1 ⟨rfl,rfl⟩
   go_wp2_with fail
   exact bodyPost_ret (v:=.tuple #[.slice none 0 0,.int .i64 0,.int .i64 8]) (by simp [results,Tryz.results117,go_sem]) rfl ⟨none,0,rfl,ownI_nil _ _,Below.refl _ _⟩
  ·rw [if_neg (by rintro (hh|hh) <;> omega)] at hr
   obtain ⟨s0,rfl⟩:∃ k:Nat,s=(k:Int):=⟨s.toNat,by omega⟩
   obtain ⟨q,rfl⟩:∃ q:Nat,m=(q:Int):=⟨m.toNat,by omega⟩
   rw [Int.toNat_natCast] at hr
   have HR:=LH hr
   obtain ⟨b,off,rfl,-⟩:=hd (by omega)
   clear hd h hn hr
   go_enter Tryz.func117,Tryz.ntmps117
   go_wp2_with fail
   refine Calls.mono (getN_any S.out HG.out) ?_
   rintro e w1 ⟨rfl,rfl⟩
   go_wp2_with fail
   go_loopg [4,5,8,9,10,31] q (fun g lv sv _ _ _ i wr=>∃ (k s:Nat) (acc:List Int),k≤q∧g=q - k∧i=.int .i64 (k:Int)∧sv=.int .i64 (s:Int)∧s≤n∧Hid (OwnI wr w1.heap.size lv acc)∧Hid (acc.length=k)∧Hid (getIL (q - k) l acc (s:Int)=(rl,rn,rx))∧Hid (Below w1.heap.size w1 wr))
   case atStart=>exact ⟨0,s0,[],Nat.zero_le _,rfl,rfl,rfl,by omega,ownI_nil _ _,rfl,HR,Below.refl _ _⟩
   case round =>
    clear HR
    obtain ⟨k,s,acc,hk,rfl,rfl,rfl,hsn,HO,HL,HR,HB⟩:=hrel
    by_cases hlt:k < q
    ·have hk0:(0:Int)≤(k:Int):=by omega
     have hk1:(k:Int) < (q:Int):=by omega
     have HE:=HR.out
     rw [show q - k=(q - (k+1))+1 by omega,getIL,Int.toNat_natCast] at HE
     have SD:=LH (sliceB_drop (S.out.below byteCell_len HB.out) hsn)
     have hca:(if cap=s then some (⟨b,off,none⟩:Addr) else (some (⟨b,off,none⟩:Addr)).map (·.add s))=if cap=s then some ⟨b,off,none⟩ else some ⟨b,off+s,none⟩:=by
      by_cases hc:cap=s
      ·simp [hc]
      ·by_cases h0:s=0 <;> simp [Addr.add,hc,h0]
     rw [hca] at SD
     have s63:(s:Int)≤(n:Int):=by omega
     have sc:(s:Int)≤(cap:Int):=by omega
     obtain ⟨al,cl,hv⟩:=ownI_shape HO.out
     subst hv
     rw [HL.out] at HO ⊢
     rcases getN_cases (l.drop s) with hg|⟨y,z,hg,⟨hy0,hy1⟩,hz1',hz2'⟩
     ·rw [hg,if_neg (by decide)] at HE
      cases HE
      have HG2:=LH hg
      clear hg
      by_cases hcs:cap=s
      ·subst hcs
       rw [if_pos rfl,show n - cap=0 by omega,Nat.sub_self] at SD
       go_wp2_with fail
       refine Calls.mono (getN_any SD.out HG2.out) ?_
       rintro e w2 ⟨rfl,rfl⟩
       go_wp2_with fail
       exact bodyPost_ret (v:=.tuple #[.slice none 0 0,.int .i64 0,.int .i64 8]) (by simp [results,Tryz.results117,go_sem]) rfl ⟨none,0,rfl,ownI_nil _ _,HB.out⟩
      ·rw [if_neg hcs] at SD
       go_wp2_with fail
       refine Calls.mono (getN_any SD.out HG2.out) ?_
       rintro e w2 ⟨rfl,rfl⟩
       go_wp2_with fail
       exact bodyPost_ret (v:=.tuple #[.slice none 0 0,.int .i64 0,.int .i64 8]) (by simp [results,Tryz.results117,go_sem]) rfl ⟨none,0,rfl,ownI_nil _ _,HB.out⟩
     ·rw [hg,if_pos rfl] at HE
      have HG2:=LH hg
      rw [List.length_drop,← HN.out] at hz2'
      obtain ⟨z',rfl⟩:∃ k:Nat,z=(k:Int):=⟨z.toNat,by omega⟩
      have HE':=LH HE
      have hzn:s+z'≤n:=by omega
      have hcs:¬ cap=s:=by omega
      rw [if_neg hcs] at SD
      have hadd1:(s:Int)+(z':Int)≤9223372036854775807:=by omega
      clear hg HE HR hca
      go_wp2_with fail
      refine Calls.mono (getN_any SD.out HG2.out) ?_
      rintro e w2 ⟨rfl,rfl⟩
      go_wp2_with (at_builtin;go_must (refine wpList_append_own _ rfl _ _ 37 rfl w1.heap.size 3 i0 _ 1 8 Tryz.underlying37 hi hz0 hz1 hz2 rfl (by decide) _ _ _ rfl (by show World.ownsRow _ _ _ _ _ _ _;exact ownsRow_keep HO.out ((Below.refl _ _).alloc (Nat.le_refl _) _)) ⟨w2.heap.size,0,none⟩ 1 1 [.int .i64 y] rfl rfl ?_ (by intro v hv;simp at hv;subst hv;rfl) (by have:=HL.out;unfold maxLen;omega) (by have:=HL.out;omega) (by have:=HB.out.size;simp;omega) ?_))
      ·intro j v hv
       match j,hv with
       |0,hv=>simp at hv;subst hv;simp [Addr.add]
      ·intro v' w3 hown2 hgrow _
       have HO2:=LH (show OwnI w3 w1.heap.size v' (acc++[y]) by
        show w3.ownsRow _ _ _ _ _ _
        rw [List.length_append,rowVals,List.map_append]
        exact hown2)
       have HL2:=LH (show (acc++[y]).length=k+1 by rw [List.length_append,HL.out];rfl)
       have HB2:=LH ((HB.out.alloc HB.out.size (.cells #[.int .i64 y] 3)).grown hgrow (by have:=HB.out.size;simp;omega) (fun j hj=>(HO.out.lt j hj).1))
       have HE2:=LH (show getIL (q - (k+1)) l (acc++[y]) ((s+z':Nat):Int)=(rl,rn,rx) by rw [← HE'.out];congr 1)
       clear hown2 hgrow HE'
       go_wp2_with fail
       go_roundg (q - (k+1))
       case measure=>omega
       case rel=>exact ⟨k+1,s+z',acc++[y],by omega,rfl,by go_num,by go_num,hzn,HO2,HL2,HE2,HB2⟩
    ·obtain rfl:k=q:=by omega
     have hlt':¬ (k:Int) < (k:Int):=by omega
     have HE:=HR.out
     rw [Nat.sub_self,getIL] at HE
     obtain ⟨al,cl,hv⟩:=ownI_shape HO.out
     subst hv
     cases HE
     go_wp2_with fail
     exact bodyPost_ret (v:=.tuple #[.slice al rl.length cl,.int .i64 (s:Int),.int .i64 0]) (by simp [results,Tryz.results117,go_sem]) rfl ⟨al,cl,rfl,HO.out,HB.out⟩
def RdS (w0 w:World) (g:Nat) (l:List Int) (ok:Bool):Prop :=
 ∃ a cap,Blk w g 151 [.slice a l.length cap,.bool ok]∧SliceR w0 (.slice a l.length cap) 1 byteCell l∧(w0.heap.size≤g∧Below w0.heap.size w0 w)
def FrG (g:Nat) (w w':World):Prop:=Below g w w'∧∀ b,g < b→b < w.heap.size→w'.heap[b]?=w.heap[b]?
def TakeEnd (w0:World) (g:Nat) (l:List Int) (ok:Bool) (w:World) (e:Ending) (w':World):Prop:=e=.returned (.tuple #[])∧RdS w0 w' g l ok∧FrG g w w'
theorem FrG.trans {g:Nat} {w w1 w2:World} (h:FrG g w w1) (h':FrG g w1 w2):FrG g w w2 :=
 ⟨h.1.trans h'.1,fun b h1 h2=>(h'.2 b h1 (Nat.lt_of_lt_of_le h2 h.1.size)).trans (h.2 b h1 h2)⟩
theorem FrG.up {g:Nat} {w w1 w2:World} (h:FrG g w w1) (hb:Below w1.heap.size w1 w2) (hg:g≤w.heap.size):FrG g w w2 :=
 ⟨h.1.trans (hb.mono (Nat.le_trans hg h.1.size)),fun b h1 h2=>(hb.block b (Nat.lt_of_lt_of_le h2 h.1.size)).trans (h.2 b h1 h2)⟩
theorem take_end {w0 w:World} {g m k j cap:Nat} {a:Option Addr} {l l':List Int} {ok ok':Bool} (hb:Blk w g 151 [.slice a m cap,.bool ok]) (hs:SliceR w0 (.slice a m cap) 1 byteCell l) (hle:w0.heap.size≤g) (hbl:Below w0.heap.size w0 w) (hm:m=l.length)
  (hj:j=min k m) (hl:l'=l.drop k):TakeEnd w0 g l' ok' w (.returned (.tuple #[])) ((w.setCell ⟨g,1,none⟩ (.bool ok')).setCell ⟨g,0,none⟩ (.slice (if cap=j then a else a.map (·.add j)) (m - j) (cap - j))).drew:=by
 have e1:l'=l.drop j:=by
  rw [hl]
  by_cases hk:k≤m
  ·rw [show j=k by omega]
  ·rw [List.drop_eq_nil_of_le (by omega),List.drop_eq_nil_of_le (by omega)]
 have e2:l'.length=m - j:=by rw [e1,List.length_drop,hm]
 refine ⟨rfl,⟨if cap=j then a else a.map (·.add j),cap - j,?_,?_,hle,?_⟩,?_,fun b hb1 hb2=>?_⟩
 ·rw [e2]
  exact ((hb.set_ 1 (.bool ok')).set_ 0 _).drew
 ·rw [e2,e1]
  exact sliceB_drop hs (by omega)
 ·exact ((hbl.setCell (p:=⟨g,1,none⟩) hle _).setCell (p:=⟨g,0,none⟩) hle _).drew
 ·exact (((Below.refl g w).setCell (p:=⟨g,1,none⟩) (Nat.le_refl g) _).setCell (p:=⟨g,0,none⟩) (Nat.le_refl g) _).drew
 ·show ((w.setCell ⟨g,1,none⟩ (.bool ok')).setCell ⟨g,0,none⟩ _).heap[b]?=w.heap[b]?
  rw [heap_setCell_other _ _ _ _ (fun e=>by have e':b=g:=e;omega),heap_setCell_other _ _ _ _ (fun e=>by have e':b=g:=e;omega)]
set_option maxHeartbeats 8000000 in
set_option maxRecDepth 100000 in
theorem take_any {w0 w:World} {g:Nat} {l:List Int} {ok:Bool} (n x:Int) (h:RdS w0 w g l ok) (hn:0≤n) {l':List Int} {ok':Bool} (hl:l'=l.drop n.toNat) (hok:ok'=(ok && decide (x=0))) :
  Calls Tryz.prog 116 #[.pointer (some ⟨g,0,none⟩),.int .i64 n,.int .i64 x] w (TakeEnd w0 g l' ok' w):=by
 obtain ⟨a,cap,hb,hs,hle,hbl⟩:=h
 obtain ⟨g0,g1,gz⟩:=cells2 hb
 have gl:=hb.lt
 obtain ⟨m,hm⟩:∃ m,m=l.length:=⟨_,rfl⟩
 rw [← hm] at g0 hs hb
 obtain ⟨k,rfl⟩:∃ k:Nat,n=(k:Int):=⟨n.toNat,by omega⟩
 rw [Int.toNat_natCast] at hl
 have E:=LH (fun (j:Nat) (hj:j=min k m)=>take_end (ok':=ok') hb hs hle hbl hm hj hl)
 obtain ⟨a',cap',hv,hc1,hc2,hc3,-⟩:=hs
 injection hv with e1 e2 e3
 subst e1
 subst e3
 clear e2
 unfold maxLen at hc2
 rw [← hm] at hc1
 clear hb hbl hm hl
 cases ok
 ·have hok':ok'=false:=by rw [hok];rfl
  clear hok
  subst hok'
  by_cases hkm:k≤m
  ·have hmin:min (k:Int) (m:Int)=(k:Int):=by omega
   have hkm1:(k:Int)≤(m:Int):=by omega
   have hkc1:(k:Int)≤(cap:Int):=by omega
   by_cases hcj:cap=k
   ·subst hcj
    go_enter Tryz.func116,Tryz.ntmps116
    go_wp2_with fail
    go_region
    all_goals
     have e:=E.out cap (by omega)
     (try rw [if_neg hcj] at e)
     (try rw [if_pos rfl] at e)
     (try (have e0:m - cap=0:=(by omega);rw [e0] at e))
     exact bodyPost_ret (v:=.tuple #[]) (by simp [results,Tryz.results116,go_sem]) rfl (by simpa using e)
   ·go_enter Tryz.func116,Tryz.ntmps116
    go_wp2_with fail
    go_region
    all_goals
     have e:=E.out k (by omega)
     (try rw [if_neg hcj] at e)
     (try rw [if_pos rfl] at e)
     (try (have e0:m - cap=0:=(by omega);rw [e0] at e))
     exact bodyPost_ret (v:=.tuple #[]) (by simp [results,Tryz.results116,go_sem]) rfl (by simpa using e)
  ·have hmin:min (k:Int) (m:Int)=(m:Int):=by omega
   have hmc1:(m:Int)≤(cap:Int):=by omega
   by_cases hcj:cap=m
   ·subst hcj
    go_enter Tryz.func116,Tryz.ntmps116
    go_wp2_with fail
    go_region
    all_goals
     have e:=E.out cap (by omega)
     (try rw [if_neg hcj] at e)
     (try rw [if_pos rfl] at e)
     (try (have e0:m - cap=0:=(by omega);rw [e0] at e))
     exact bodyPost_ret (v:=.tuple #[]) (by simp [results,Tryz.results116,go_sem]) rfl (by simpa using e)
   ·go_enter Tryz.func116,Tryz.ntmps116
    go_wp2_with fail
    go_region
    all_goals
     have e:=E.out m (by omega)
     (try rw [if_neg hcj] at e)
     (try rw [if_pos rfl] at e)
     (try (have e0:m - cap=0:=(by omega);rw [e0] at e))
     exact bodyPost_ret (v:=.tuple #[]) (by simp [results,Tryz.results116,go_sem]) rfl (by simpa using e)
 ·by_cases hx:x=0
  ·have hok':ok'=true:=by rw [hok,hx];rfl
   clear hok
   subst hok'
   subst hx
   by_cases hkm:k≤m
   ·have hmin:min (k:Int) (m:Int)=(k:Int):=by omega
    have hkm1:(k:Int)≤(m:Int):=by omega
    have hkc1:(k:Int)≤(cap:Int):=by omega
    by_cases hcj:cap=k
    ·subst hcj
     go_enter Tryz.func116,Tryz.ntmps116
     go_wp2_with fail
     go_region
     all_goals
      have e:=E.out cap (by omega)
      (try rw [if_neg hcj] at e)
      (try rw [if_pos rfl] at e)
      (try (have e0:m - cap=0:=(by omega);rw [e0] at e))
      exact bodyPost_ret (v:=.tuple #[]) (by simp [results,Tryz.results116,go_sem]) rfl (by simpa using e)
    ·go_enter Tryz.func116,Tryz.ntmps116
     go_wp2_with fail
     go_region
     all_goals
      have e:=E.out k (by omega)
      (try rw [if_neg hcj] at e)
      (try rw [if_pos rfl] at e)
      (try (have e0:m - cap=0:=(by omega);rw [e0] at e))
      exact bodyPost_ret (v:=.tuple #[]) (by simp [results,Tryz.results116,go_sem]) rfl (by simpa using e)
   ·have hmin:min (k:Int) (m:Int)=(m:Int):=by omega
    have hmc1:(m:Int)≤(cap:Int):=by omega
    by_cases hcj:cap=m
    ·subst hcj
     go_enter Tryz.func116,Tryz.ntmps116
     go_wp2_with fail
     go_region
     all_goals
      have e:=E.out cap (by omega)
      (try rw [if_neg hcj] at e)
      (try rw [if_pos rfl] at e)
      (try (have e0:m - cap=0:=(by omega);rw [e0] at e))
      exact bodyPost_ret (v:=.tuple #[]) (by simp [results,Tryz.results116,go_sem]) rfl (by simpa using e)
    ·go_enter Tryz.func116,Tryz.ntmps116
     go_wp2_with fail
     go_region
     all_goals
      have e:=E.out m (by omega)
      (try rw [if_neg hcj] at e)
      (try rw [if_pos rfl] at e)
      (try (have e0:m - cap=0:=(by omega);rw [e0] at e))
      exact bodyPost_ret (v:=.tuple #[]) (by simp [results,Tryz.results116,go_sem]) rfl (by simpa using e)
  ·have hok':ok'=false:=by rw [hok];simp [hx]
   have hx0:(x == 0)=false:=by simp [hx]
   clear hok
   subst hok'
   by_cases hkm:k≤m
   ·have hmin:min (k:Int) (m:Int)=(k:Int):=by omega
    have hkm1:(k:Int)≤(m:Int):=by omega
    have hkc1:(k:Int)≤(cap:Int):=by omega
    by_cases hcj:cap=k
    ·subst hcj
     go_enter Tryz.func116,Tryz.ntmps116
     go_wp2_with fail
     go_region
     all_goals
      have e:=E.out cap (by omega)
      (try rw [if_neg hcj] at e)
      (try rw [if_pos rfl] at e)
      (try (have e0:m - cap=0:=(by omega);rw [e0] at e))
      exact bodyPost_ret (v:=.tuple #[]) (by simp [results,Tryz.results116,go_sem]) rfl (by simpa using e)
    ·go_enter Tryz.func116,Tryz.ntmps116
     go_wp2_with fail
     go_region
     all_goals
      have e:=E.out k (by omega)
      (try rw [if_neg hcj] at e)
      (try rw [if_pos rfl] at e)
      (try (have e0:m - cap=0:=(by omega);rw [e0] at e))
      exact bodyPost_ret (v:=.tuple #[]) (by simp [results,Tryz.results116,go_sem]) rfl (by simpa using e)
   ·have hmin:min (k:Int) (m:Int)=(m:Int):=by omega
    have hmc1:(m:Int)≤(cap:Int):=by omega
    by_cases hcj:cap=m
    ·subst hcj
     go_enter Tryz.func116,Tryz.ntmps116
     go_wp2_with fail
     go_region
     all_goals
      have e:=E.out cap (by omega)
      (try rw [if_neg hcj] at e)
      (try rw [if_pos rfl] at e)
      (try (have e0:m - cap=0:=(by omega);rw [e0] at e))
      exact bodyPost_ret (v:=.tuple #[]) (by simp [results,Tryz.results116,go_sem]) rfl (by simpa using e)
    ·go_enter Tryz.func116,Tryz.ntmps116
     go_wp2_with fail
     go_region
     all_goals
      have e:=E.out m (by omega)
      (try rw [if_neg hcj] at e)
      (try rw [if_pos rfl] at e)
      (try (have e0:m - cap=0:=(by omega);rw [e0] at e))
      exact bodyPost_ret (v:=.tuple #[]) (by simp [results,Tryz.results116,go_sem]) rfl (by simpa using e)
theorem RdS.keep {w0 w w':World} {g:Nat} {l:List Int} {ok:Bool} (h:RdS w0 w g l ok) (hb:Below w.heap.size w w'):RdS w0 w' g l ok:=by
 obtain ⟨a,cap,h1,h2,h3,h4⟩:=h
 exact ⟨a,cap,Blk.step h1 hb,h2,h3,h4.trans (hb.mono h4.size)⟩
theorem FrG.down {g:Nat} {w w1 w2:World} (hb:Below w.heap.size w w1) (h:FrG g w1 w2) (hg:g≤w.heap.size):FrG g w w2 :=
 ⟨(hb.mono hg).trans h.1,fun b h1 h2=>(h.2 b h1 (Nat.lt_of_lt_of_le h2 hb.size)).trans (hb.block b h2)⟩
theorem ownI_fr {w w':World} {g B:Nat} {v:Value} {l:List Int} (h:OwnI w B v l) (hB:g < B) (hf:FrG g w w'):OwnI w' B v l:=by
 refine ⟨h.1,?_⟩
 rcases id h.2 with h0|⟨k,cap,cur,hv,hg,hh,r⟩
 ·exact Or.inl h0
 ·have hk:=(h.lt k (by rw [hv];rfl)).2
  exact Or.inr ⟨k,cap,cur,hv,hg,by rw [hf.2 k (by omega) hk];exact hh,r⟩
def NumEnd (w0:World) (g:Nat) (n:Int) (l:List Int) (ok:Bool) (w:World) (e:Ending) (w':World):Prop:=e=.returned (.int .i64 n)∧RdS w0 w' g l ok∧FrG g w w'
def StEnd (w0:World) (g:Nat) (s:ByteArray) (l:List Int) (ok:Bool) (w:World) (e:Ending) (w':World):Prop:=e=.returned (.string s)∧RdS w0 w' g l ok∧FrG g w w'
def IsEnd (w0:World) (g:Nat) (r:List Int) (l:List Int) (ok:Bool) (w:World) (e:Ending) (w':World):Prop:=∃ a cap,e=.returned (.slice a r.length cap)∧OwnI w' w.heap.size (.slice a r.length cap) r∧RdS w0 w' g l ok∧FrG g w w'
theorem numbers_any {w0 w:World} {g:Nat} {l:List Int} {ok:Bool} (h:RdS w0 w g l ok) {n:Int} {l':List Int} {ok':Bool} (hn:n=(getN l).1) (hl:l'=l.drop (getN l).2.1.toNat) (hok:ok'=(ok && decide ((getN l).2.2=0))) :
  Calls Tryz.prog 91 #[.pointer (some ⟨g,0,none⟩)] w (NumEnd w0 g n l' ok' w):=by
 have HR:=LH h
 obtain ⟨a,cap,hb,hs,hle,hbl⟩:=h
 obtain ⟨g0,g1,gz⟩:=cells2 hb
 have gl:=hb.lt
 obtain ⟨s,x,hgn⟩:∃ s x,getN l=(n,s,x):=⟨_,_,by rw [hn]⟩
 have hs0:0≤s:=by
  rcases getN_cases l with h|⟨_,_,h,_,h2,_⟩
  ·rw [hgn] at h;cases h;exact Int.le_refl _
  ·rw [hgn] at h;cases h;omega
 rw [hgn] at hl hok
 have S:=LH (hs.below byteCell_len hbl)
 have HG:=LH hgn
 obtain ⟨m,hm⟩:∃ m,m=l.length:=⟨_,rfl⟩
 rw [← hm] at g0 S
 have HL:=LH hl
 have HO:=LH hok
 have HGL:=LH (Nat.le_of_lt gl)
 clear hn hl hok hgn hb hs hbl hm
 go_enter Tryz.func91,Tryz.ntmps91
 go_wp2_with fail
 refine Calls.mono (getN_any S.out HG.out) ?_
 rintro e w1 ⟨rfl,rfl⟩
 go_wp2_with fail
 refine Calls.mono (take_any s x HR.out hs0 HL.out HO.out) ?_
 rintro e w2 ⟨rfl,hr,hf⟩
 go_wp2_with fail
 go_ret
 exact ⟨rfl,hr,hf⟩
theorem text_any {w0 w:World} {g:Nat} {l:List Int} {ok:Bool} (h:RdS w0 w g l ok) {n:ByteArray} {l':List Int} {ok':Bool} (hn:n=(getT l).1) (hl:l'=l.drop (getT l).2.1.toNat) (hok:ok'=(ok && decide ((getT l).2.2=0))) :
  Calls Tryz.prog 93 #[.pointer (some ⟨g,0,none⟩)] w (StEnd w0 g n l' ok' w):=by
 have HR:=LH h
 obtain ⟨a,cap,hb,hs,hle,hbl⟩:=h
 obtain ⟨g0,g1,gz⟩:=cells2 hb
 have gl:=hb.lt
 obtain ⟨s,x,hgn⟩:∃ s x,getT l=(n,s,x):=⟨_,_,by rw [hn]⟩
 have hs0:0≤s:=by
  rw [getT] at hgn
  split at hgn
  ·cases hgn;exact Int.le_refl _
  ·rcases getN_cases l with h|⟨_,_,h,⟨h1,_⟩,h2,_⟩
   ·rw [h] at hgn;cases hgn;decide
   ·rw [h] at hgn;cases hgn;simp only;omega
 rw [hgn] at hl hok
 have S:=LH (hs.below byteCell_len hbl)
 have HG:=LH hgn
 obtain ⟨m,hm⟩:∃ m,m=l.length:=⟨_,rfl⟩
 rw [← hm] at g0 S
 have HL:=LH hl
 have HO:=LH hok
 clear hn hl hok hgn hb hs hbl hm
 go_enter Tryz.func93,Tryz.ntmps93
 go_wp2_with fail
 refine Calls.mono (getT_any S.out HG.out) ?_
 rintro e w1 ⟨rfl,rfl⟩
 go_wp2_with fail
 refine Calls.mono (take_any s x HR.out hs0 HL.out HO.out) ?_
 rintro e w2 ⟨rfl,hr,hf⟩
 go_wp2_with fail
 go_ret
 exact ⟨rfl,hr,hf⟩
theorem getIL_pos:∀ (q:Nat) (l acc:List Int) (s:Int),0≤s→0≤(getIL q l acc s).2.1
 |0,_,_,s,h=>h
 |q+1,l,acc,s,h=>by
  rw [getIL]
  split
  ·refine getIL_pos q l _ _ ?_
   rcases getN_cases (l.drop s.toNat) with h1|⟨_,_,h1,_,h2,_⟩
   ·rw [h1];simpa using h
   ·rw [h1];simp only;omega
  ·exact Int.le_refl _
theorem ints_any {w0 w:World} {g:Nat} {l:List Int} {ok:Bool} (most:Int) (hm0:0≤most) (hm1:most≤4096) (h:RdS w0 w g l ok) {n:List Int} {l':List Int} {ok':Bool} (hn:n=(getI l most).1) (hl:l'=l.drop (getI l most).2.1.toNat) (hok:ok'=(ok && decide ((getI l most).2.2=0))) :
  Calls Tryz.prog 92 #[.pointer (some ⟨g,0,none⟩),.int .i64 most] w (IsEnd w0 g n l' ok' w):=by
 have HR:=LH h
 obtain ⟨a,cap,hb,hs,hle,hbl⟩:=h
 obtain ⟨g0,g1,gz⟩:=cells2 hb
 have gl:=hb.lt
 obtain ⟨s,x,hgn⟩:∃ s x,getI l most=(n,s,x):=⟨_,_,by rw [hn]⟩
 have hs0:0≤s:=by
  rw [getI] at hgn
  split at hgn
  ·cases hgn;exact Int.le_refl _
  ·have:=getIL_pos (getN l).1.toNat l [] (getN l).2.1 (by
    rcases getN_cases l with h|⟨_,_,h,_,h2,_⟩
    ·rw [h];exact Int.le_refl _
    ·rw [h];simp only;omega)
   rw [hgn] at this
   exact this
 rw [hgn] at hl hok
 have S:=LH (hs.below byteCell_len hbl)
 have HG:=LH hgn
 obtain ⟨m,hm⟩:∃ m,m=l.length:=⟨_,rfl⟩
 rw [← hm] at g0 S
 have HL:=LH hl
 have HO:=LH hok
 clear hn hl hok hgn hb hs hbl hm
 go_enter Tryz.func92,Tryz.ntmps92
 go_wp2_with fail
 refine Calls.mono (getI_any S.out hm0 hm1 HG.out) ?_
 rintro e w1 ⟨a1,cap1,rfl,oi,hb⟩
 have HR1:=LH (HR.out.keep hb)
 have OI:=LH oi
 have HB:=LH hb
 clear oi hb
 go_wp2_with fail
 refine Calls.mono (take_any s x HR1.out hs0 HL.out HO.out) ?_
 rintro e w2 ⟨rfl,hr,hf⟩
 have HF:=LH hf
 have HRR:=LH hr
 clear hr hf
 go_wp2_with fail
 go_ret
 exact ⟨a1,cap1,rfl,ownI_fr OI.out gl HF.out,HRR.out,FrG.down HB.out HF.out (Nat.le_of_lt gl)⟩
end Go.Proofs.YtkkohllhebdlcaaGreatDoor
