/-
  Proved here: stream.Twin. No condition but that the topics read and are not great. Plain: topics with a message more. No program in sight but its types. Plain: a command on a topic. No program in sight but its types. Plain: which commands are refused. No program in sight. stream.commit, behind stream.Do's own look at the topics. stream.with. The topic that is put in is the caller's own. compact.Compact where n
-/
import Derived.Test.YtkkohllhebdlcaaGreatDoorY08
import Derived.Test.YtkkohllhebdlcaaGreatDoorY12
import Derived.Test.YtkkohllhebdlcaaGreatDoorY14
import Derived.Deep.AppendLies
import Derived.Lib.MinMax
set_option maxRecDepth 100000
set_option maxRecDepth 100000
namespace Go.Proofs.YtkkohllhebdlcaaGreatDoor
open Go.RowKit
def fewS (s:Str):Prop:=s.tops.length≤1000000∧(∀ t∈s.tops,t.ents.length≤1000000)∧few s.coms
def StrEnd (s:Str) (w:World) (e:Ending) (w':World):Prop:=∃ ta tc,e=.returned (.agg #[ta,tc])∧OwnS w' w.heap.size (.agg #[ta,tc]) s∧Below w.heap.size w w'
theorem OwnT.snoc2 {w w':World} {B n:Nat} {v v' u:Value} {l:List Top} {t:Top} {pl:List (Value × Top)} (h1:pl.map (·.2)=l) (h2:w.ownsRow B 156 4 v n (pl.flatMap topCells)) (h3:∀ p∈pl,OwnE w B p.1 p.2.ents)
  (hu:OwnE w B u t.ents) (hg:w.grownBy w' v.ownBlock) (hv:w'.ownsRow B 156 4 v' (n+1) (pl.flatMap topCells++topCells (u,t))) (hn:n=l.length):OwnT w' B v' (l++[t]):=by
 have hne:∀ q:Value × Top,OwnE w B q.1 q.2.ents→OwnE w' B q.1 q.2.ents:=fun q hq=>ownsRow_grown' hq hg (fun k hk=>rows_ne hq h2 (by decide) hk)
 refine ⟨pl++[(u,t)],by simp [h1],?_,fun p hp=>?_⟩
 ·rw [List.length_append,← hn]
  simpa [List.flatMap_append] using hv
 ·rcases List.mem_append.1 hp with hp|hp
  ·exact hne p (h3 p hp)
  ·rw [List.mem_singleton.1 hp]
   exact hne (u,t) hu
set_option maxHeartbeats 8000000 in
set_option maxRecDepth 100000 in
theorem strTwin_any {v:Value} {s:Str} {w:World} (h:StrR w v s) (hf:fewS s):Calls Tryz.prog 45 #[v] w (StrEnd s w):=by
 obtain ⟨i0,hi,hz0,hz1,hz2⟩:=info_parts info_top
 obtain ⟨hf1,hf2,hf3⟩:=hf
 have HF2:=LH hf2
 have HF3:=LH hf3
 obtain ⟨a,cap,b,nc,cc,rfl,hT,hR⟩:=h.shape
 obtain ⟨aa,ccap,hv,hcap,hmx,_,hd⟩:=hT.shape
 cases hv
 have HD:=LH hd
 have RR:=LH hR
 obtain ⟨n,hn⟩:∃ n,n=s.tops.length:=⟨_,rfl⟩
 rw [← hn] at HD hcap hf1 ⊢
 have HN:=LH hn
 have nn0:(n:Int)≤1000000:=by omega
 clear hf2 hf3 hT hR hd hn h hmx
 go_enter Tryz.func45,Tryz.ntmps45
 go_wp2_with fail
 refine Calls.mono (twin_any (m:=s.coms) ?_ HF3.out) ?_
 ·exact RR.out.below (by repeat (first|with_reducible (first|exact Below.refl _ _|apply Below.drew|apply below_alloc)|((first|with_reducible refine Below.alloc ?_ ?_ _|with_reducible refine Below.setCell ?_ ?_ _);rotate_left;focus (first|(simp <;> omega)|omega))))
 rintro e w1 ⟨vc,rfl,oc,hb⟩
 obtain ⟨ac,nac,cac,rfl⟩:=oc.reads.shape
 have HB:Hid (Below w.heap.size w _):=below_step (by repeat (first|with_reducible (first|exact Below.refl _ _|apply Below.drew|apply below_alloc)|((first|with_reducible refine Below.alloc ?_ ?_ _|with_reducible refine Below.setCell ?_ ?_ _);rotate_left;focus (first|(simp <;> omega)|omega)))) hb
 have P:Blk _ (w.heap.size) _ _:=Blk.step (by repeat (first|((with_reducible apply Blk.new);focus (first|rfl|(simp <;> omega)))|with_reducible (first|apply Blk.drew|apply Blk.alloc|apply Blk.set_)|((with_reducible apply Blk.far);rotate_left;focus (first|(simp <;> omega)|omega)))) hb
 obtain ⟨p0,p1,pz⟩:=cells2 P
 have pl:=Blk.lt P
 have HP:=LH P
 clear P
 have R:Blk _ (w.heap.size+1) _ _:=Blk.step (by repeat (first|((with_reducible apply Blk.new);focus (first|rfl|(simp <;> omega)))|with_reducible (first|apply Blk.drew|apply Blk.alloc|apply Blk.set_)|((with_reducible apply Blk.far);rotate_left;focus (first|(simp <;> omega)|omega)))) hb
 obtain ⟨r0,r1,rz⟩:=cells2 R
 have rl:=Blk.lt R
 have HR:=LH R
 clear R
 have OC:Hid (OwnC w1 (w.heap.size+2) _ _):=oc.le (by simp)
 have HCL:=LH (show ∀ k,(Value.slice ac nac cac).ownBlock=some k→k < w1.heap.size from fun k hk=>(oc.choose_spec.1.lt k hk).2)
 have s1:w.heap.size+2≤w1.heap.size:=rl
 clear hb oc
 go_wp2_with fail
 go_loopg [13] n (fun g i wr=>∃ (k:Nat) (al:Option Addr) (capl:Nat),k≤n∧g=n - k∧i=.int .i64 (k:Int)∧Hid (OwnT wr (w1.heap.size+1) (.slice al k capl) (s.tops.take k))∧Hid (OwnC wr (w.heap.size+2) (.slice ac nac cac) s.coms)∧Hid (Below w.heap.size w wr) ∧
  Hid (Blk wr (w.heap.size+1) 36 [.slice none 0 0,.slice none 0 0])∧Hid (Blk wr w1.heap.size 36 [.slice al k capl,.slice ac nac cac]))
 case atStart =>
  refine ⟨0,none,0,Nat.zero_le _,rfl,rfl,OwnT.nil _ _,OC.out.alloc _,?_,?_,?_⟩
  ·show Below _ _ _
   repeat (first|with_reducible (first|exact HB.out|exact Below.refl _ _|apply Below.drew|apply below_alloc)|((first|with_reducible refine Below.alloc ?_ ?_ _|with_reducible refine Below.setCell ?_ ?_ _);rotate_left;focus (first|(simp <;> omega)|omega)))
  ·show Blk _ _ _ _
   repeat (first|with_reducible exact HR.out|((with_reducible apply Blk.new);focus (first|rfl|(simp <;> omega)))|with_reducible (first|apply Blk.drew|apply Blk.alloc|apply Blk.set_)|((with_reducible apply Blk.far);rotate_left;focus (first|(simp <;> omega)|omega)))
  ·show Blk _ _ _ _
   exact Blk.new rfl
 case round =>
  clear OC HB HP HR p0 p1 pz pl r0 r1 rz rl
  obtain ⟨k,al,capl,hk,rfl,rfl,OT,OC,HB,HR,HQ⟩:=hrel
  obtain ⟨q0,q1,qz⟩:=cells2 HQ.out
  obtain ⟨r0,r1,rz⟩:=cells2 HR.out
  have ql:=HQ.out.lt
  have rl:=HR.out.lt
  have hws:w.heap.size < wr.heap.size:=by omega
  by_cases hlt:k < n
  ·have hk0:(0:Int)≤(k:Int):=by omega
   have hk1:(k:Int) < (n:Int):=by omega
   obtain ⟨g,off,ha,hat⟩:=HD.out (by omega)
   subst ha
   obtain ⟨ea,ecap,⟨⟨⟨c0,c1⟩,c2⟩,c3⟩,hTT⟩:=(hat k hlt).keep HB.out
   have T:=LH hTT
   have hg1:g < wr.heap.size:=World.block_lt_of_cell? wr _ c0
   obtain ⟨x,hx⟩:∃ x,x=s.tops.getD k default:=⟨_,rfl⟩
   rw [← hx] at c0 c1 c2 c3 T
   have hkl:k < s.tops.length:=by rw [← HN.out];exact hlt
   have HLX:=LH (show x.ents.length≤1000000 by rw [hx,getD_lt hkl];exact HF2.out _ (List.getElem_mem hkl))
   have HTK:=LH (show s.tops.take (k+1)=s.tops.take k++[x] by rw [hx,List.take_succ_eq_append_getElem hkl,getD_lt hkl])
   have hlk:(s.tops.take k).length=k:=by rw [List.length_take];omega
   have HLK:=LH hlk
   obtain ⟨pl,hpl,hrow,hent⟩:=OT.out
   rw [hlk] at hrow
   have HROW:=LH hrow
   have HPL:=LH hpl
   have HENT:=LH hent
   clear hat hTT hx hlk hpl hrow hent
   go_wp2_with fail
   go_region_law (first|(go_simp;go_at_call 69;refine (topTwin_any (T.out.below (by repeat (first|with_reducible (first|exact Below.refl _ _|apply Below.drew|apply below_alloc)|((first|with_reducible refine Below.alloc ?_ ?_ _|with_reducible refine Below.setCell ?_ ?_ _);rotate_left;focus (first|(simp <;> omega)|omega))))) HLX.out).mono ?_;rintro e w4 ⟨a4,c4,rfl,o4,hb⟩;have HQ4:=LH (Blk.step (Blk.drew (Blk.alloc HQ.out _)) hb);have HX4:=LH (Blk.step (Blk.drew (Blk.new (w:=wr) (t:=156) (cs:=[.int .i64 x.base,.int .i64 x.next,.int .i64 x.mark,.slice ea x.ents.length ecap]) rfl)) hb);have HW4:Hid (Below wr.heap.size wr w4):=below_step (by repeat (first|with_reducible (first|exact Below.refl _ _|apply Below.drew|apply below_alloc)|((first|with_reducible refine Below.alloc ?_ ?_ _|with_reducible refine Below.setCell ?_ ?_ _);rotate_left;focus (first|(simp <;> omega)|omega)))) hb;have O4:=LH (own_base (B':=w1.heap.size+1) o4 (by simp;omega));have hz4:wr.heap.size < w4.heap.size:=HX4.out.lt;have hy4:w1.heap.size < w4.heap.size:=HQ4.out.lt;obtain ⟨m0,m1,mz⟩:=cells2 HQ4.out;obtain ⟨n0,n1,n2,n3,nz⟩:=cells4 HX4.out;clear hb o4)|(refine step_append_lies _ rfl _ _ 33 rfl (w1.heap.size+1) 156 i0 _ 4 48 Tryz.underlying33 hi hz0 hz1 hz2 rfl (by decide) _ k _ rfl ((ownsRow_keep HROW.out HW4.out).alloc _) ⟨w4.heap.size,0,none⟩ 1 1 (topCells (.slice a4 x.ents.length c4,x)) rfl rfl (news_top _ x rfl) (topCells_one _ _ _ x) (by decide) (by unfold maxLen;omega) (by omega) (by simp;omega) _ rfl ?_;intro g5 cap5 w5 hown hgrow hat5 hlt5;have HQ5:=LH (Blk.grown (HQ4.out.alloc _) hgrow (fun e=>Nat.lt_irrefl _ (HROW.out.lt _ e).1));obtain ⟨m0,m1,mz⟩:=cells2 HQ5.out))
   all_goals
    have hB5:w1.heap.size+1≤w4.heap.size+1:=by omega
    have OT5:Hid (OwnT w5 (w1.heap.size+1) (.slice (some ⟨g5,0,none⟩) (k+1) cap5) (s.tops.take (k+1))):=by
     rw [HTK.out]
     exact OwnT.snoc2 HPL.out ((ownsRow_keep HROW.out HW4.out).alloc _) (fun p hp=>own_below (own_below (HENT.out p hp) HW4.out) ((Below.refl _ _).alloc (Nat.le_refl _) _)) (own_below O4.out ((Below.refl _ _).alloc (Nat.le_refl _) _)) hgrow hown HLK.out.symm
    have OC5:=LH (OwnC.grown (OwnC.alloc (show OwnC w4 _ _ _ from OC.out.keep HW4.out) _) hgrow ((ownsRow_keep HROW.out HW4.out).alloc _) rfl (by decide) (by decide))
    have HB5:Hid (Below w.heap.size w w5):=Below.grown ((Below.step HB.out HW4.out (by omega)).alloc (by omega) _) hgrow (by simp;omega) (fun j hj=>by have:=(HROW.out.lt j hj).1;omega)
    have HR5:=LH (Blk.grown ((HR.out.step HW4.out).alloc _) hgrow (fun e=>by have:=(HROW.out.lt _ e).1;omega))
    have hl5:w1.heap.size < w5.heap.size:=HQ5.out.lt
    clear hown hgrow
    go_wp2_with fail
    go_roundg (n - (k+1))
    case measure=>omega
    case rel =>
     refine ⟨k+1,some ⟨g5,0,none⟩,cap5,by omega,rfl,by go_num,?_,?_,?_,?_,?_⟩
     ·show OwnT _ _ _ _
      exact OT5.out.far (by omega)
     ·exact LH (OwnC.blk OC5.out HQ5.out (by decide) (by decide))
     ·show Below _ _ _
      exact HB5.out.setCell (by show w.heap.size≤w1.heap.size;omega) _
     ·show Blk _ _ _ _
      exact HR5.out.far (by omega) _
     ·show Blk _ _ _ _
      exact HQ5.out.set_ 0 _
  ·obtain rfl:k=n:=by omega
   have hlt':¬ (k:Int) < (k:Int):=by omega
   go_wp2_with fail
   have e:s.tops.take k=s.tops:=by rw [HN.out];exact List.take_length
   have OT6:=OT.out
   rw [e] at OT6
   obtain ⟨t0,t1,-⟩:=cells2 ((HR.out.set_ 0 (.slice al k capl)).set_ 1 (.slice ac nac cac))
   refine bodyPost_ret (v:=.agg #[.slice al k capl,.slice ac nac cac]) (by simp [results,Tryz.results45,go_sem,t0,t1]) rfl ⟨_,_,rfl,⟨_,_,rfl,?_,?_⟩,?_⟩
   ·exact OwnT.le ((OT6.far (by omega)).far (by omega)) (by omega)
   ·exact OwnRows.le (OwnC.far (OwnC.far OC.out (by omega)) (by omega)) (by omega)
   ·exact (HB.out.setCell (by simp) _).setCell (by simp) _
end Go.Proofs.YtkkohllhebdlcaaGreatDoor
set_option maxRecDepth 100000
namespace Go.Proofs.YtkkohllhebdlcaaGreatDoor
open Go.RowKit
def Str.zero:Str:=⟨[],[]⟩
def putS (s:Str) (id topic:Int) (k b:ByteArray):Str × Int × Int :=
 if askS s topic=0 then (if (addP (topN s topic) id k b).2.2=0 then (⟨s.tops.set topic.toNat (addP (topN s topic) id k b).1,s.coms⟩,(addP (topN s topic) id k b).2.1,0) else (Str.zero,0,(addP (topN s topic) id k b).2.2)) else (Str.zero,0,askS s topic)
theorem few_of_may {s:Str} (h:mayS s):fewS s:=by
 obtain ⟨⟨h1,h2⟩,h3,_⟩:=h
 refine ⟨by omega,fun t ht=>?_,?_⟩
 ·have:=(h2 t ht).1
  unfold Top.head at this
  omega
 ·obtain ⟨hl,hr⟩:=okC_spec h3
  refine ⟨by omega,fun r hr'=>?_⟩
  have:=(hr r hr').1
  omega
theorem OwnS.zero (w:World) (B:Nat):OwnS w B (.agg #[.slice none 0 0,.slice none 0 0]) Str.zero:=⟨_,_,rfl,OwnT.nil _ _,OwnRows.nil _ _ _ _⟩
theorem OwnS.blk {W:World} {B b o:Nat} {t:TypeId} {cs:List Value} {v u:Value} {s:Str} (h:OwnS W B v s) (hb:Blk W b t cs) (h1t:156≠t) (h2t:215≠t) (h3t:37≠t) (h4t:3≠t):OwnS (W.setCell ⟨b,o,none⟩ u) B v s:=by
 obtain ⟨ta,tc,rfl,h1,h2⟩:=h
 exact ⟨ta,tc,rfl,h1.blk hb h1t h2t,OwnC.blk h2 hb h3t h4t⟩
def PutEnd (u:Str) (n x:Int) (w:World) (e:Ending) (w':World):Prop:=∃ ta tc,e=.returned (.tuple #[.agg #[ta,tc],.int .i64 n,.int .i64 x])∧OwnS w' w.heap.size (.agg #[ta,tc]) u∧Below w.heap.size w w'
def DoEnd (u:Str) (x:Int) (w:World) (e:Ending) (w':World):Prop:=∃ ta tc,e=.returned (.tuple #[.agg #[ta,tc],.int .i64 x])∧OwnS w' w.heap.size (.agg #[ta,tc]) u∧Below w.heap.size w w'
end Go.Proofs.YtkkohllhebdlcaaGreatDoor
set_option maxRecDepth 100000
namespace Go.Proofs.YtkkohllhebdlcaaGreatDoor
open Go.RowKit
def turnS (s:Str) (topic:Int) (r:Top × Int):Str × Int:=if r.2=0 then (⟨s.tops.set topic.toNat r.1,s.coms⟩,0) else (Str.zero,r.2)
def commitS (s:Str) (topic who n:Int):Str × Int :=
 if who < 0∨8≤who∨n < 0∨1073741824 < n then (Str.zero,2) else if (topN s topic).next < n then (Str.zero,170) else (⟨s.tops,setC s.coms topic who n⟩,0)
def doS (s:Str) (kind topic who n:Int):Str × Int :=
 if askS s topic=0 then (if kind=4 then commitS s topic who n else if kind=5 then turnS s topic (trimP (topN s topic) n) else if kind=6 then turnS s topic (compactP (topN s topic) n) else (Str.zero,2)) else (Str.zero,askS s topic)
end Go.Proofs.YtkkohllhebdlcaaGreatDoor
namespace Go.Proofs.YtkkohllhebdlcaaGreatDoor
open Go.RowKit
theorem askS_may {s:Str} {n:Int} (hm:mayS s) (h0:0≤n) (h1:n < 4):askS s n=0:=askS_zero.2 ⟨hm,h0,h1⟩
theorem topN_may {s:Str} {n:Int} (hm:mayS s) (h0:0≤n) (h1:n < 4):(topN s n).may:=hm.1.2 _ (topN_mem hm h0 h1)
def rightD (kind topic who n:Int):Prop:=((kind=5∨kind=6)∨(kind=4∧0≤who∧who < 8))∧(0≤topic∧topic < 4)∧0≤n∧n≤1073741824
theorem doS_no {s:Str} {kind topic who n:Int} (hm:mayS s) (h:¬ rightD kind topic who n):doS s kind topic who n=(Str.zero,2):=by
 unfold doS
 by_cases ht:0≤topic∧topic < 4
 ·have hmt:=topN_may hm ht.1 ht.2
  rw [if_pos (askS_may hm ht.1 ht.2)]
  by_cases h4:kind=4
  ·rw [if_pos h4,commitS,if_pos]
   unfold rightD at h
   omega
  ·rw [if_neg h4]
   by_cases hn:n < 0∨1073741824 < n
   ·rw [trimP_arg hmt hn,compactP_arg hmt hn]
    simp [turnS]
   ·rw [if_neg (by unfold rightD at h;omega),if_neg (by unfold rightD at h;omega)]
 ·have e:askS s topic=2:=by rw [askS,if_pos hm,if_neg ht]
  rw [if_neg (by rw [e];decide),e]
instance (kind topic who n:Int):Decidable (rightD kind topic who n):=by unfold rightD;infer_instance
end Go.Proofs.YtkkohllhebdlcaaGreatDoor
set_option maxRecDepth 100000
namespace Go.Proofs.YtkkohllhebdlcaaGreatDoor
open Go.RowKit
set_option maxHeartbeats 8000000 in
set_option maxRecDepth 100000 in
theorem strCommit_any {v:Value} {s u:Str} {w:World} {x kind mid mt id time:Int} {ga ma:Option Addr} {gn gc mn mc:Nat} {mk mb:ByteArray} (topic who n:Int) (h:StrR w v s) (ha:askS s topic=0) (hu:commitS s topic who n=(u,x)) :
  Calls Tryz.prog 95 #[v,.agg #[.int .u8 kind,.int .i64 mid,.slice ga gn gc,.int .i64 mt,.string mk,.string mb,.int .i64 id,.int .i64 time,.slice ma mn mc,.int .i64 topic,.int .i64 who,.int .i64 n]] w (DoEnd u x w):=by
 have HS:=LH h
 obtain ⟨a,cap,bb,nc,cc,rfl,hT,-⟩:=h.shape
 obtain ⟨hm,h0,h1⟩:=askS_zero.1 ha
 have h4:=hm.1.1
 have HF:=LH (few_of_may hm)
 have HM:=LH hm
 obtain ⟨i,rfl⟩:∃ i:Nat,topic=(i:Int):=⟨topic.toNat,by omega⟩
 have HI:=LH (show i < s.tops.length by omega)
 obtain ⟨⟨-,hcap,hmx⟩,g,off,rfl,hat⟩:=StrR.top hT (i:=i) h0 (by omega)
 rw [show s.tops.getD (i:Int).toNat default=topN s i from rfl] at hat
 obtain ⟨t,ht⟩:∃ t,t=topN s i:=⟨_,rfl⟩
 rw [commitS,← ht] at hu
 rw [← ht] at hat
 simp only [Int.toNat_natCast] at hat
 have HAT:=LH hat
 have h5:(i:Int) < (s.tops.length:Int):=by omega
 have hgw:g < w.heap.size:=World.block_lt_of_cell? w _ hat.choose_spec.choose_spec.1.1.1.1
 unfold maxLen at hmx
 by_cases hb:who < 0∨8≤who∨n < 0∨1073741824 < n
 ·rw [if_pos hb] at hu
  cases hu
  clear h hT ha hm h4 ht hat
  go_enter Tryz.func95,Tryz.ntmps95
  by_cases c1:who < 0
  rotate_left
  by_cases c2:8≤who
  rotate_left
  by_cases c3:n < 0
  rotate_left
  have c4:1073741824 < n:=by omega
  all_goals
   go_wp2_with fail
   refine bodyPost_ret (v:=.tuple #[.agg #[.slice none 0 0,.slice none 0 0],.int .i64 2]) (by simp [results,Tryz.results95,go_sem]) rfl ⟨_,_,rfl,OwnS.zero _ _,?_⟩
   repeat (first|with_reducible (first|exact Below.refl _ _|apply Below.drew|apply below_alloc)|((first|with_reducible refine Below.alloc ?_ ?_ _|with_reducible refine Below.setCell ?_ ?_ _);rotate_left;focus (first|(simp <;> omega)|omega)))
 ·rw [if_neg hb] at hu
  have b1:¬ who < 0:=by omega
  have b2:¬ 8≤who:=by omega
  have b3:¬ n < 0:=by omega
  have b4:¬ 1073741824 < n:=by omega
  obtain ⟨ea,ecap,⟨⟨⟨c0,c1⟩,c2⟩,c3⟩,-⟩:=HAT.out
  obtain ⟨nx,hnx⟩:∃ nx,nx=t.next:=⟨_,rfl⟩
  rw [← hnx] at hu c1
  have HNX:=LH hnx
  clear hnx
  have d1:((((w.alloc (.cells #[.slice (some ⟨g,off,none⟩) s.tops.length cap,.slice bb nc cc] 36)).alloc (.cells #[.int .u8 kind,.int .i64 mid,.slice ga gn gc,.int .i64 mt,.string mk,.string mb,.int .i64 id,.int .i64 time,.slice ma mn mc,.int .i64 (i:Int),.int .i64 who,.int .i64 n] 58)).alloc (.cells #[.slice none 0 0,.slice none 0 0] 36)).drew).cell? ⟨g,off+i * 4+1,none⟩=some (.int .i64 nx):=(Below.cell (B:=w.heap.size) (by repeat (first|with_reducible (first|exact Below.refl _ _|apply Below.drew|apply below_alloc)|((first|with_reducible refine Below.alloc ?_ ?_ _|with_reducible refine Below.setCell ?_ ?_ _);rotate_left;focus (first|(simp <;> omega)|omega)))) hgw).trans c1
  have g0:g≠w.heap.size:=by omega
  have g1:g≠w.heap.size+1:=by omega
  have g2:g≠w.heap.size+1+1:=by omega
  by_cases hn:nx < n
  ·rw [if_pos hn] at hu
   cases hu
   clear h hT ha hm h4 ht hat hb
   go_enter Tryz.func95,Tryz.ntmps95
   go_wp2_with fail
   go_region
   go_wp2_with fail
   refine bodyPost_ret (v:=.tuple #[.agg #[.slice none 0 0,.slice none 0 0],.int .i64 170]) (by simp [results,Tryz.results95,go_sem]) rfl ⟨_,_,rfl,OwnS.zero _ _,?_⟩
   repeat (first|with_reducible (first|exact Below.refl _ _|apply Below.drew|apply below_alloc)|((first|with_reducible refine Below.alloc ?_ ?_ _|with_reducible refine Below.setCell ?_ ?_ _);rotate_left;focus (first|(simp <;> omega)|omega)))
  ·rw [if_neg hn] at hu
   cases hu
   have HOK:=LH (show okC s.coms=true from hm.2.1)
   have e0:(0:Int)≤who:=by omega
   have e1:who < 8:=by omega
   have e2:0≤n:=by omega
   have e3:n≤1073741824:=by omega
   have HE:=LH (show (0≤who∧who < 8)∧0≤n∧n≤1073741824 from ⟨⟨e0,e1⟩,e2,e3⟩)
   clear h hT ha hm h4 ht hat hb e0 e1 e2 e3
   go_enter Tryz.func95,Tryz.ntmps95
   go_wp2_with fail
   go_region
   go_wp2_with fail
   refine Calls.mono (strTwin_any (s:=s) ?_ HF.out) ?_
   ·exact HS.out.below (by repeat (first|with_reducible (first|exact Below.refl _ _|apply Below.drew|apply below_alloc)|((first|with_reducible refine Below.alloc ?_ ?_ _|with_reducible refine Below.setCell ?_ ?_ _);rotate_left;focus (first|(simp <;> omega)|omega))))
   rintro e w1 ⟨ta,tc,rfl,os,hb⟩
   obtain ⟨a1,cap1,b1,nc1,cc1,ev,-,-⟩:=os.reads.shape
   cases ev
   clear d1 c0 c1 c2 c3
   have HB:Hid (Below w.heap.size w _):=below_step (by repeat (first|with_reducible (first|exact Below.refl _ _|apply Below.drew|apply below_alloc)|((first|with_reducible refine Below.alloc ?_ ?_ _|with_reducible refine Below.setCell ?_ ?_ _);rotate_left;focus (first|(simp <;> omega)|omega)))) hb
   have P:Blk _ (w.heap.size) _ _:=Blk.step (by repeat (first|((with_reducible apply Blk.new);focus (first|rfl|(simp <;> omega)))|with_reducible (first|apply Blk.drew|apply Blk.alloc|apply Blk.set_)|((with_reducible apply Blk.far);rotate_left;focus (first|(simp <;> omega)|omega)))) hb
   obtain ⟨p0,p1,pz⟩:=cells2 P
   have pl:=Blk.lt P
   have HP:=LH P
   clear P
   have HC:Hid (Blk w1 (w.heap.size+1) 58 [.int .u8 kind,.int .i64 mid,.slice ga gn gc,.int .i64 mt,.string mk,.string mb,.int .i64 id,.int .i64 time,.slice ma mn mc,.int .i64 (i:Int),.int .i64 who,.int .i64 n]):=Blk.step (by repeat (first|with_reducible exact Blk.new rfl|((with_reducible apply Blk.new);focus (first|rfl|(simp <;> omega)))|with_reducible (first|apply Blk.drew|apply Blk.alloc|apply Blk.set_)|((with_reducible apply Blk.far);rotate_left;focus (first|(simp <;> omega)|omega)))) hb
   have R:Blk _ (w.heap.size+2) _ _:=Blk.step (by repeat (first|((with_reducible apply Blk.new);focus (first|rfl|(simp <;> omega)))|with_reducible (first|apply Blk.drew|apply Blk.alloc|apply Blk.set_)|((with_reducible apply Blk.far);rotate_left;focus (first|(simp <;> omega)|omega)))) hb
   obtain ⟨r0,r1,rz⟩:=cells2 R
   have rl:=Blk.lt R
   have HR:=LH R
   clear R
   obtain ⟨⟨-,-,-,d9,d10,d11⟩,dz⟩:=cells12 HC.out
   have cl:=HC.out.lt
   obtain ⟨_,_,ev,ot,oc⟩:=os
   cases ev
   have OT:Hid (OwnT w1 (w.heap.size+3) _ _):=ot.le (by simp)
   have OC:Hid (OwnC w1 (w.heap.size+3) _ _):=OwnRows.le oc (by simp)
   clear hb ot oc
   go_wp2_with fail
   have OT1:=LH ((OT.out.far (b:=w.heap.size) (o:=0) (u:=.slice a1 s.tops.length cap1) (by omega)).far (b:=w.heap.size) (o:=1) (u:=.slice b1 nc1 cc1) (by omega))
   have OC1:=LH (OwnC.far (b:=w.heap.size) (o:=1) (u:=.slice b1 nc1 cc1) (OwnC.far (b:=w.heap.size) (o:=0) (u:=.slice a1 s.tops.length cap1) OC.out (by omega)) (by omega))
   refine Calls.mono (set_yes (m:=s.coms) (i:Int) who n OC1.out.reads HOK.out h0 h1 HE.out.1.1 HE.out.1.2 HE.out.2.1 HE.out.2.2) ?_
   rintro e w2 ⟨vc,rfl,oc,hb⟩
   obtain ⟨ac,nac,cac,rfl⟩:=oc.reads.shape
   have hz:w.heap.size+3≤w1.heap.size:=rl
   clear p0 p1 pz pl r0 r1 rz rl d9 d10 d11 dz cl
   have HB2:Hid (Below w.heap.size w _):=below_step (by repeat (first|with_reducible (first|exact HB.out|exact Below.refl _ _|apply Below.drew|apply below_alloc)|((first|with_reducible refine Below.alloc ?_ ?_ _|with_reducible refine Below.setCell ?_ ?_ _);rotate_left;focus (first|(simp <;> omega)|omega)))) hb
   have P:Blk _ (w.heap.size) _ _:=Blk.step (by repeat (first|with_reducible exact HP.out|((with_reducible apply Blk.new);focus (first|rfl|(simp <;> omega)))|with_reducible (first|apply Blk.drew|apply Blk.alloc|apply Blk.set_)|((with_reducible apply Blk.far);rotate_left;focus (first|(simp <;> omega)|omega)))) hb
   try simp only [List.set_cons_zero,List.set_cons_succ] at P
   obtain ⟨p0,p1,pz⟩:=cells2 P
   have pl:=Blk.lt P
   have HP:=LH P
   clear P
   have R:Blk _ (w.heap.size+2) _ _:=Blk.step (by repeat (first|with_reducible exact HR.out|((with_reducible apply Blk.new);focus (first|rfl|(simp <;> omega)))|with_reducible (first|apply Blk.drew|apply Blk.alloc|apply Blk.set_)|((with_reducible apply Blk.far);rotate_left;focus (first|(simp <;> omega)|omega)))) hb
   try simp only [List.set_cons_zero,List.set_cons_succ] at R
   obtain ⟨r0,r1,rz⟩:=cells2 R
   have rl:=Blk.lt R
   have HR:=LH R
   clear R
   have OT2:=LH (OT1.out.keep hb)
   have OC2:Hid (OwnC w2 (w.heap.size+3) _ _):=LH (OwnRows.le oc (by simp;omega))
   clear hb oc
   go_wp2_with fail
   have HP3:=HP.out.set_ 1 (.slice ac nac cac)
   have HR3:=HR.out.far (b:=w.heap.size) (o:=1) (by omega) (.slice ac nac cac)
   have OT3:=OT2.out.far (b:=w.heap.size) (o:=1) (u:=.slice ac nac cac) (by omega)
   have OC3:=OwnC.far (b:=w.heap.size) (o:=1) (u:=.slice ac nac cac) OC2.out (by omega)
   have HR4:=HR3.set_ 0 (.slice a1 s.tops.length cap1)
   obtain ⟨t0,t1,-⟩:=cells2 (HR4.set_ 1 (.slice ac nac cac))
   refine bodyPost_ret (v:=.tuple #[.agg #[.slice a1 s.tops.length cap1,.slice ac nac cac],.int .i64 0]) (by simp [results,Tryz.results95,go_sem,t0,t1]) rfl ⟨_,_,rfl,⟨_,_,rfl,?_,?_⟩,?_⟩
   ·exact OwnT.le ((OT3.far (by omega)).far (by omega)) (by omega)
   ·exact OwnRows.le (OwnC.far (OwnC.far OC3 (by omega)) (by omega)) (by omega)
   ·exact ((HB2.out.setCell (p:=⟨w.heap.size,1,none⟩) (by simp) _).setCell (p:=⟨w.heap.size+2,0,none⟩) (by simp) _).setCell (p:=⟨w.heap.size+2,1,none⟩) (by simp) _
end Go.Proofs.YtkkohllhebdlcaaGreatDoor
namespace Go.Proofs.YtkkohllhebdlcaaGreatDoor
open Go.RowKit
def OwnEnd (s:Str) (B:Nat) (w:World) (e:Ending) (w':World):Prop:=∃ ta tc,e=.returned (.agg #[ta,tc])∧OwnS w' B (.agg #[ta,tc]) s∧Below w.heap.size w w'
set_option maxHeartbeats 8000000 in
set_option maxRecDepth 100000 in
theorem with_any {v:Value} {s:Str} {w:World} {B:Nat} {t:Top} {ua:Option Addr} {uc:Nat} (i:Nat) (h:StrR w v s) (hf:fewS s) (hi:i < s.tops.length) (hu:OwnE w B (.slice ua t.ents.length uc) t.ents) (hB:B≤w.heap.size) :
  Calls Tryz.prog 98 #[v,.int .i64 (i:Int),.agg #[.int .i64 t.base,.int .i64 t.next,.int .i64 t.mark,.slice ua t.ents.length uc]] w (OwnEnd ⟨s.tops.set i t,s.coms⟩ B w):=by
 have S:=LH h
 have HF:=LH hf
 have HI:=LH hi
 have HU:=LH hu
 obtain ⟨a,cap,b,nc,cc,rfl,-,-⟩:=h.shape
 have hn:=hf.1
 clear hu h hf
 go_enter Tryz.func98,Tryz.ntmps98
 go_wp2_with fail
 refine Calls.mono (strTwin_any ?_ HF.out) ?_
 ·exact S.out.below (by repeat (first|with_reducible (first|exact Below.refl _ _|apply Below.drew|apply below_alloc)|((first|with_reducible refine Below.alloc ?_ ?_ _|with_reducible refine Below.setCell ?_ ?_ _);rotate_left;focus (first|(simp <;> omega)|omega))))
 rintro e w1 ⟨ta,tc,rfl,os,hb⟩
 obtain ⟨a1,cap1,b1,nc1,cc1,ev,-,-⟩:=os.reads.shape
 cases ev
 have HB:Hid (Below w.heap.size w _):=below_step (by repeat (first|with_reducible (first|exact Below.refl _ _|apply Below.drew|apply below_alloc)|((first|with_reducible refine Below.alloc ?_ ?_ _|with_reducible refine Below.setCell ?_ ?_ _);rotate_left;focus (first|(simp <;> omega)|omega)))) hb
 have P:Blk _ (w.heap.size) _ _:=Blk.step (by repeat (first|((with_reducible apply Blk.new);focus (first|rfl|(simp <;> omega)))|with_reducible (first|apply Blk.drew|apply Blk.alloc|apply Blk.set_)|((with_reducible apply Blk.far);rotate_left;focus (first|(simp <;> omega)|omega)))) hb
 obtain ⟨p0,p1,pz⟩:=cells2 P
 have pl:=Blk.lt P
 have HP:=LH P
 clear P
 have X:Blk _ (w.heap.size+1) _ _:=Blk.step (by repeat (first|((with_reducible apply Blk.new);focus (first|rfl|(simp <;> omega)))|with_reducible (first|apply Blk.drew|apply Blk.alloc|apply Blk.set_)|((with_reducible apply Blk.far);rotate_left;focus (first|(simp <;> omega)|omega)))) hb
 obtain ⟨x0,x1,x2,x3,xz⟩:=cells4 X
 have xl:=Blk.lt X
 have HX:=LH X
 clear X
 have R:Blk _ (w.heap.size+2) _ _:=Blk.step (by repeat (first|((with_reducible apply Blk.new);focus (first|rfl|(simp <;> omega)))|with_reducible (first|apply Blk.drew|apply Blk.alloc|apply Blk.set_)|((with_reducible apply Blk.far);rotate_left;focus (first|(simp <;> omega)|omega)))) hb
 obtain ⟨r0,r1,rz⟩:=cells2 R
 have rl:=Blk.lt R
 have HR:=LH R
 clear R
 obtain ⟨_,_,ev,ot,oc⟩:=os
 cases ev
 have OT:Hid (OwnT w1 (w.heap.size+3) _ _):=ot.le (by simp)
 have OC:Hid (OwnC w1 (w.heap.size+3) _ _):=OwnRows.le oc (by simp)
 clear hb ot oc
 obtain ⟨g,hg,⟨hg1,hg2⟩,⟨-,hn1,hn2⟩,hat,hfz⟩:=OT.out.at_ HI.out
 subst hg
 obtain ⟨ea,ecap,⟨⟨⟨c0,c1⟩,c2⟩,c3⟩,-⟩:=hat
 unfold maxLen at hn2
 have hi0:(0:Int)≤(i:Int):=by omega
 have hi1:(i:Int) < (s.tops.length:Int):=by omega
 go_wp2_with fail
 have HW1:Below w.heap.size w ((w1.setCell ⟨w.heap.size,0,none⟩ (.slice (some ⟨g,0,none⟩) s.tops.length cap1)).setCell ⟨w.heap.size,1,none⟩ (.slice b1 nc1 cc1)):=(HB.out.setCell (by simp) _).setCell (by simp) _
 have OT1:=(OT.out.far (o:=0) (b:=w.heap.size) (u:=.slice (some ⟨g,0,none⟩) s.tops.length cap1) (by omega)).far (o:=1) (b:=w.heap.size) (u:=.slice b1 nc1 cc1) (by omega)
 have OC1:=OwnC.far (o:=1) (b:=w.heap.size) (u:=.slice b1 nc1 cc1) (OwnC.far (o:=0) (b:=w.heap.size) (u:=.slice (some ⟨g,0,none⟩) s.tops.length cap1) OC.out (by omega)) (by omega)
 have HR1:=(HR.out.far (o:=0) (b:=w.heap.size) (by omega) (.slice (some ⟨g,0,none⟩) s.tops.length cap1)).far (o:=1) (b:=w.heap.size) (by omega) (.slice b1 nc1 cc1)
 obtain ⟨ps,-,hrow,-⟩:=id OT1
 have OT2:=(OT1.le (B':=B) (by omega)).put HI.out (own_below HU.out HW1)
 have OC2:=OwnC.over OC1 (fun b hb=>heap_putT (i:=i) (u:=.slice ua t.ents.length uc) (t:=t) hb) hrow rfl (by decide) (by decide)
 have HR2:=(((HR1.far (b:=g) (o:=i * 4) (by omega) (.int .i64 t.base)).far (b:=g) (o:=i * 4+1) (by omega) (.int .i64 t.next)).far (b:=g) (o:=i * 4+2) (by omega) (.int .i64 t.mark)).far (b:=g) (o:=i * 4+3) (by omega) (.slice ua t.ents.length uc)
 have HB2:=below_putT (i:=i) (u:=.slice ua t.ents.length uc) (t:=t) HW1 (show w.heap.size≤g by omega)
 have HR3:=HR2.set_ 0 (.slice (some ⟨g,0,none⟩) s.tops.length cap1)
 obtain ⟨t0,t1,-⟩:=cells2 (HR3.set_ 1 (.slice b1 nc1 cc1))
 refine bodyPost_ret (v:=.agg #[.slice (some ⟨g,0,none⟩) s.tops.length cap1,.slice b1 nc1 cc1]) (by simp [results,Tryz.results98,go_sem,t0,t1]) rfl ⟨_,_,rfl,⟨_,_,rfl,?_,?_⟩,?_⟩
 ·exact OwnT.blk (OwnT.blk OT2 HR2 (by decide) (by decide)) HR3 (by decide) (by decide)
 ·exact OwnRows.le (OwnC.far (OwnC.far OC2 (by omega)) (by omega)) (by omega)
 ·exact (HB2.setCell (p:=⟨w.heap.size+2,0,none⟩) (by simp) _).setCell (p:=⟨w.heap.size+2,1,none⟩) (by simp) _
end Go.Proofs.YtkkohllhebdlcaaGreatDoor
namespace Go.Proofs.YtkkohllhebdlcaaGreatDoor
open Go.RowKit Go.Shelf
attribute [local go_sem] Oper.semAt_some
set_option maxHeartbeats 2000000 in
set_option maxRecDepth 100000 in
theorem compact_bad {v:Value} {t:Top} {w:World} (tq:Int) (h:TopR w v t) (hk:∀ x∈t.ents,x.key.size≤maxLen) (hm:¬ t.may) :
  Calls Tryz.prog 97 #[v,.int .i64 tq] w (TopEnd1 Top.zero 8 w):=by
 have T:=LH h
 have HK:=LH hk
 have HM:=LH hm
 obtain ⟨a,cap,rfl,_⟩:=h
 clear hk hm
 go_enter Tryz.func97,Tryz.ntmps97
 go_wp2_with fail
 refine Calls.mono (check_no ?_ HK.out HM.out) ?_
 ·exact T.out.below (by repeat (first|with_reducible (first|exact Below.refl _ _|apply Below.drew|apply below_alloc)|((first|with_reducible refine Below.alloc ?_ ?_ _|with_reducible refine Below.setCell ?_ ?_ _);rotate_left;focus (first|(simp <;> omega)|omega))))
 rintro e w2 ⟨rfl,hb⟩
 have HB:Hid (Below w.heap.size w _):=below_step (by repeat (first|with_reducible (first|exact Below.refl _ _|apply Below.drew|apply below_alloc)|((first|with_reducible refine Below.alloc ?_ ?_ _|with_reducible refine Below.setCell ?_ ?_ _);rotate_left;focus (first|(simp <;> omega)|omega)))) hb
 have R:Blk _ (w.heap.size+1) _ _:=Blk.step (by repeat (first|((with_reducible apply Blk.new);focus (first|rfl|(simp <;> omega)))|with_reducible (first|apply Blk.drew|apply Blk.alloc|apply Blk.set_)|((with_reducible apply Blk.far);rotate_left;focus (first|(simp <;> omega)|omega)))) hb
 obtain ⟨r0,r1,r2,r3,rz⟩:=cells4 R
 have rl:=Blk.lt R
 have HR:=LH R
 clear R
 clear hb
 go_wp2_with fail
 refine bodyPost_ret (v:=.tuple #[noTop,.int .i64 8]) (by simp [noTop,results,Tryz.results97,go_sem,r0,r1,r2,r3]) rfl (topEnd1_zero 8 rfl ?_)
 repeat (first|with_reducible (first|exact HB.out|exact Below.refl _ _|apply Below.drew|apply below_alloc)|((first|with_reducible refine Below.alloc ?_ ?_ _|with_reducible refine Below.setCell ?_ ?_ _);rotate_left;focus (first|(simp <;> omega)|omega)))
set_option maxHeartbeats 2000000 in
set_option maxRecDepth 100000 in
theorem compact_arg {v:Value} {t:Top} {w:World} (tq:Int) (h:TopR w v t) (hk:∀ x∈t.ents,x.key.size≤maxLen) (hm:t.may) (hto:tq < 0∨1073741824 < tq) :
  Calls Tryz.prog 97 #[v,.int .i64 tq] w (TopEnd1 Top.zero 2 w):=by
 have T:=LH h
 have HK:=LH hk
 have HM:=LH hm
 obtain ⟨a,cap,rfl,_⟩:=h
 clear hk hm
 have hto2:tq < 0∨(0≤tq∧1073741824 < tq):=by omega
 clear hto
 rcases hto2 with h1|⟨h1,h2⟩
 all_goals
  go_enter Tryz.func97,Tryz.ntmps97
  go_wp2_with fail
  refine Calls.mono (check_yes ?_ HK.out HM.out) ?_
  ·exact T.out.below (by repeat (first|with_reducible (first|exact Below.refl _ _|apply Below.drew|apply below_alloc)|((first|with_reducible refine Below.alloc ?_ ?_ _|with_reducible refine Below.setCell ?_ ?_ _);rotate_left;focus (first|(simp <;> omega)|omega))))
  rintro e w2 ⟨rfl,hb⟩
  have HB:Hid (Below w.heap.size w _):=below_step (by repeat (first|with_reducible (first|exact Below.refl _ _|apply Below.drew|apply below_alloc)|((first|with_reducible refine Below.alloc ?_ ?_ _|with_reducible refine Below.setCell ?_ ?_ _);rotate_left;focus (first|(simp <;> omega)|omega)))) hb
  have R:Blk _ (w.heap.size+1) _ _:=Blk.step (by repeat (first|((with_reducible apply Blk.new);focus (first|rfl|(simp <;> omega)))|with_reducible (first|apply Blk.drew|apply Blk.alloc|apply Blk.set_)|((with_reducible apply Blk.far);rotate_left;focus (first|(simp <;> omega)|omega)))) hb
  obtain ⟨r0,r1,r2,r3,rz⟩:=cells4 R
  have rl:=Blk.lt R
  have HR:=LH R
  clear R
  clear hb
  go_wp2_with fail
  refine bodyPost_ret (v:=.tuple #[noTop,.int .i64 2]) (by simp [noTop,results,Tryz.results97,go_sem,r0,r1,r2,r3]) rfl (topEnd1_zero 2 rfl ?_)
  repeat (first|with_reducible (first|exact HB.out|exact Below.refl _ _|apply Below.drew|apply below_alloc)|((first|with_reducible refine Below.alloc ?_ ?_ _|with_reducible refine Below.setCell ?_ ?_ _);rotate_left;focus (first|(simp <;> omega)|omega)))
end Go.Proofs.YtkkohllhebdlcaaGreatDoor
