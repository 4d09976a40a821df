/-
  Proved here: stream.Twin. No condition but that the topics read and are not great. Plain: topics with a message more. No program in sight but its types. Plain: what is left when a topic is compacted. No program in sight. Plain: a command on a topic. No program in sight but its types. Plain law of what is kept: a topic of which something was let go may b Plain law of compaction: what is left, told from the fron
-/
import Derived.Test.YtdfmcgekfogpbabGreatDoorY11
import Derived.Deep.RegionLaw
import Derived.Deep.AppendLies
set_option maxRecDepth 100000
set_option maxRecDepth 100000
namespace Go.Proofs.YtdfmcgekfogpbabGreatDoor
open Go.RowKit
def fewS (s:Str):Prop:=s.tops.length≤1000000∧(∀ t∈s.tops,t.ents.length≤1000000)∧few s.coms
def StrEnd (s:Str) (w:World) (e:Ending) (w':World):Prop:=∃ ta tc,e=.returned (.agg #[ta,tc])∧OwnS w' w.heap.size (.agg #[ta,tc]) s∧Below w.heap.size w w'
theorem OwnT.snoc2 {w w':World} {B n:Nat} {v v' u:Value} {l:List Top} {t:Top} {pl:List (Value × Top)} (h1:pl.map (·.2)=l) (h2:w.ownsRow B 103 4 v n (pl.flatMap topCells)) (h3:∀ p∈pl,OwnE w B p.1 p.2.ents)
  (hu:OwnE w B u t.ents) (hg:w.grownBy w' v.ownBlock) (hv:w'.ownsRow B 103 4 v' (n+1) (pl.flatMap topCells++topCells (u,t))) (hn:n=l.length):OwnT w' B v' (l++[t]):=by
 have hne:∀ q:Value × Top,OwnE w B q.1 q.2.ents→OwnE w' B q.1 q.2.ents:=fun q hq=>ownsRow_grown' hq hg (fun k hk=>rows_ne hq h2 (by decide) hk)
 refine ⟨pl++[(u,t)],by simp [h1],?_,fun p hp=>?_⟩
 ·rw [List.length_append,← hn]
  simpa [List.flatMap_append] using hv
 ·rcases List.mem_append.1 hp with hp|hp
  ·exact hne p (h3 p hp)
  ·rw [List.mem_singleton.1 hp]
   exact hne (u,t) hu
set_option maxHeartbeats 8000000 in
set_option maxRecDepth 100000 in
theorem strTwin_any {v:Value} {s:Str} {w:World} (h:StrR w v s) (hf:fewS s):Calls Tryz.prog 51 #[v] w (StrEnd s w):=by
 obtain ⟨i0,hi,hz0,hz1,hz2⟩:=info_parts info_top
 obtain ⟨hf1,hf2,hf3⟩:=hf
 have HF2:=LH hf2
 have HF3:=LH hf3
 obtain ⟨a,cap,b,nc,cc,rfl,hT,hR⟩:=h.shape
 obtain ⟨aa,ccap,hv,hcap,hmx,_,hd⟩:=hT.shape
 cases hv
 have HD:=LH hd
 have RR:=LH hR
 obtain ⟨n,hn⟩:∃ n,n=s.tops.length:=⟨_,rfl⟩
 rw [← hn] at HD hcap hf1 ⊢
 have HN:=LH hn
 have nn0:(n:Int)≤1000000:=by omega
 clear hf2 hf3 hT hR hd hn h hmx
 go_enter Tryz.func51,Tryz.ntmps51
 go_wp2_with fail
 refine Calls.mono (twin_any (m:=s.coms) ?_ HF3.out) ?_
 ·exact RR.out.below (by repeat (first|with_reducible (first|exact Below.refl _ _|apply Below.drew|apply below_alloc)|((first|with_reducible refine Below.alloc ?_ ?_ _|with_reducible refine Below.setCell ?_ ?_ _);rotate_left;focus (first|(simp <;> omega)|omega))))
 rintro e w1 ⟨vc,rfl,oc,hb⟩
 obtain ⟨ac,nac,cac,rfl⟩:=oc.reads.shape
 have HB:Hid (Below w.heap.size w _):=below_step (by repeat (first|with_reducible (first|exact Below.refl _ _|apply Below.drew|apply below_alloc)|((first|with_reducible refine Below.alloc ?_ ?_ _|with_reducible refine Below.setCell ?_ ?_ _);rotate_left;focus (first|(simp <;> omega)|omega)))) hb
 have P:Blk _ (w.heap.size) _ _:=Blk.step (by repeat (first|((with_reducible apply Blk.new);focus (first|rfl|(simp <;> omega)))|with_reducible (first|apply Blk.drew|apply Blk.alloc|apply Blk.set_)|((with_reducible apply Blk.far);rotate_left;focus (first|(simp <;> omega)|omega)))) hb
 obtain ⟨p0,p1,pz⟩:=cells2 P
 have pl:=Blk.lt P
 have HP:=LH P
 clear P
 have R:Blk _ (w.heap.size+1) _ _:=Blk.step (by repeat (first|((with_reducible apply Blk.new);focus (first|rfl|(simp <;> omega)))|with_reducible (first|apply Blk.drew|apply Blk.alloc|apply Blk.set_)|((with_reducible apply Blk.far);rotate_left;focus (first|(simp <;> omega)|omega)))) hb
 obtain ⟨r0,r1,rz⟩:=cells2 R
 have rl:=Blk.lt R
 have HR:=LH R
 clear R
 have OC:Hid (OwnC w1 (w.heap.size+2) _ _):=oc.le (by simp)
 have HCL:=LH (show ∀ k,(Value.slice ac nac cac).ownBlock=some k→k < w1.heap.size from fun k hk=>(oc.choose_spec.1.lt k hk).2)
 have s1:w.heap.size+2≤w1.heap.size:=rl
 clear hb oc
 go_wp2_with fail
 go_loopg [13] n (fun g i wr=>∃ (k:Nat) (al:Option Addr) (capl:Nat),k≤n∧g=n - k∧i=.int .i64 (k:Int)∧Hid (OwnT wr (w1.heap.size+1) (.slice al k capl) (s.tops.take k))∧Hid (OwnC wr (w.heap.size+2) (.slice ac nac cac) s.coms)∧Hid (Below w.heap.size w wr) ∧
  Hid (Blk wr (w.heap.size+1) 33 [.slice none 0 0,.slice none 0 0])∧Hid (Blk wr w1.heap.size 33 [.slice al k capl,.slice ac nac cac]))
 case atStart =>
  refine ⟨0,none,0,Nat.zero_le _,rfl,rfl,OwnT.nil _ _,OC.out.alloc _,?_,?_,?_⟩
  ·show Below _ _ _
   repeat (first|with_reducible (first|exact HB.out|exact Below.refl _ _|apply Below.drew|apply below_alloc)|((first|with_reducible refine Below.alloc ?_ ?_ _|with_reducible refine Below.setCell ?_ ?_ _);rotate_left;focus (first|(simp <;> omega)|omega)))
  ·show Blk _ _ _ _
   repeat (first|with_reducible exact HR.out|((with_reducible apply Blk.new);focus (first|rfl|(simp <;> omega)))|with_reducible (first|apply Blk.drew|apply Blk.alloc|apply Blk.set_)|((with_reducible apply Blk.far);rotate_left;focus (first|(simp <;> omega)|omega)))
  ·show Blk _ _ _ _
   exact Blk.new rfl
 case round =>
  clear OC HB HP HR p0 p1 pz pl r0 r1 rz rl
  obtain ⟨k,al,capl,hk,rfl,rfl,OT,OC,HB,HR,HQ⟩:=hrel
  obtain ⟨q0,q1,qz⟩:=cells2 HQ.out
  obtain ⟨r0,r1,rz⟩:=cells2 HR.out
  have ql:=HQ.out.lt
  have rl:=HR.out.lt
  have hws:w.heap.size < wr.heap.size:=by omega
  by_cases hlt:k < n
  ·have hk0:(0:Int)≤(k:Int):=by omega
   have hk1:(k:Int) < (n:Int):=by omega
   obtain ⟨g,off,ha,hat⟩:=HD.out (by omega)
   subst ha
   obtain ⟨ea,ecap,⟨⟨⟨c0,c1⟩,c2⟩,c3⟩,hTT⟩:=(hat k hlt).keep HB.out
   have T:=LH hTT
   have hg1:g < wr.heap.size:=World.block_lt_of_cell? wr _ c0
   obtain ⟨x,hx⟩:∃ x,x=s.tops.getD k default:=⟨_,rfl⟩
   rw [← hx] at c0 c1 c2 c3 T
   have hkl:k < s.tops.length:=by rw [← HN.out];exact hlt
   have HLX:=LH (show x.ents.length≤1000000 by rw [hx,getD_lt hkl];exact HF2.out _ (List.getElem_mem hkl))
   have HTK:=LH (show s.tops.take (k+1)=s.tops.take k++[x] by rw [hx,List.take_succ_eq_append_getElem hkl,getD_lt hkl])
   have hlk:(s.tops.take k).length=k:=by rw [List.length_take];omega
   have HLK:=LH hlk
   obtain ⟨pl,hpl,hrow,hent⟩:=OT.out
   rw [hlk] at hrow
   have HROW:=LH hrow
   have HPL:=LH hpl
   have HENT:=LH hent
   clear hat hTT hx hlk hpl hrow hent
   go_wp2_with fail
   go_region_law (first|(go_simp;go_at_call 92;refine (topTwin_any (T.out.below (by repeat (first|with_reducible (first|exact Below.refl _ _|apply Below.drew|apply below_alloc)|((first|with_reducible refine Below.alloc ?_ ?_ _|with_reducible refine Below.setCell ?_ ?_ _);rotate_left;focus (first|(simp <;> omega)|omega))))) HLX.out).mono ?_;rintro e w4 ⟨a4,c4,rfl,o4,hb⟩;have HQ4:=LH (Blk.step (Blk.drew (Blk.alloc HQ.out _)) hb);have HX4:=LH (Blk.step (Blk.drew (Blk.new (w:=wr) (t:=103) (cs:=[.int .i64 x.base,.int .i64 x.next,.int .i64 x.mark,.slice ea x.ents.length ecap]) rfl)) hb);have HW4:Hid (Below wr.heap.size wr w4):=below_step (by repeat (first|with_reducible (first|exact Below.refl _ _|apply Below.drew|apply below_alloc)|((first|with_reducible refine Below.alloc ?_ ?_ _|with_reducible refine Below.setCell ?_ ?_ _);rotate_left;focus (first|(simp <;> omega)|omega)))) hb;have O4:=LH (own_base (B':=w1.heap.size+1) o4 (by simp;omega));have hz4:wr.heap.size < w4.heap.size:=HX4.out.lt;have hy4:w1.heap.size < w4.heap.size:=HQ4.out.lt;obtain ⟨m0,m1,mz⟩:=cells2 HQ4.out;obtain ⟨n0,n1,n2,n3,nz⟩:=cells4 HX4.out;clear hb o4)|(refine step_append_lies _ rfl _ _ 30 rfl (w1.heap.size+1) 103 i0 _ 4 48 Tryz.underlying30 hi hz0 hz1 hz2 rfl (by decide) _ k _ rfl ((ownsRow_keep HROW.out HW4.out).alloc _) ⟨w4.heap.size,0,none⟩ 1 1 (topCells (.slice a4 x.ents.length c4,x)) rfl rfl (news_top _ x rfl) (topCells_one _ _ _ x) (by decide) (by unfold maxLen;omega) (by omega) (by simp;omega) _ rfl ?_;intro g5 cap5 w5 hown hgrow hat5 hlt5;have HQ5:=LH (Blk.grown (HQ4.out.alloc _) hgrow (fun e=>Nat.lt_irrefl _ (HROW.out.lt _ e).1));obtain ⟨m0,m1,mz⟩:=cells2 HQ5.out))
   all_goals
    have hB5:w1.heap.size+1≤w4.heap.size+1:=by omega
    have OT5:Hid (OwnT w5 (w1.heap.size+1) (.slice (some ⟨g5,0,none⟩) (k+1) cap5) (s.tops.take (k+1))):=by
     rw [HTK.out]
     exact OwnT.snoc2 HPL.out ((ownsRow_keep HROW.out HW4.out).alloc _) (fun p hp=>own_below (own_below (HENT.out p hp) HW4.out) ((Below.refl _ _).alloc (Nat.le_refl _) _)) (own_below O4.out ((Below.refl _ _).alloc (Nat.le_refl _) _)) hgrow hown HLK.out.symm
    have OC5:=LH (OwnC.grown (OwnC.alloc (show OwnC w4 _ _ _ from OC.out.keep HW4.out) _) hgrow ((ownsRow_keep HROW.out HW4.out).alloc _) rfl (by decide) (by decide))
    have HB5:Hid (Below w.heap.size w w5):=Below.grown ((Below.step HB.out HW4.out (by omega)).alloc (by omega) _) hgrow (by simp;omega) (fun j hj=>by have:=(HROW.out.lt j hj).1;omega)
    have HR5:=LH (Blk.grown ((HR.out.step HW4.out).alloc _) hgrow (fun e=>by have:=(HROW.out.lt _ e).1;omega))
    have hl5:w1.heap.size < w5.heap.size:=HQ5.out.lt
    clear hown hgrow
    go_wp2_with fail
    go_roundg (n - (k+1))
    case measure=>omega
    case rel =>
     refine ⟨k+1,some ⟨g5,0,none⟩,cap5,by omega,rfl,by go_num,?_,?_,?_,?_,?_⟩
     ·show OwnT _ _ _ _
      exact OT5.out.far (by omega)
     ·exact LH (OwnC.blk OC5.out HQ5.out (by decide) (by decide))
     ·show Below _ _ _
      exact HB5.out.setCell (by show w.heap.size≤w1.heap.size;omega) _
     ·show Blk _ _ _ _
      exact HR5.out.far (by omega) _
     ·show Blk _ _ _ _
      exact HQ5.out.set_ 0 _
  ·obtain rfl:k=n:=by omega
   have hlt':¬ (k:Int) < (k:Int):=by omega
   go_wp2_with fail
   have e:s.tops.take k=s.tops:=by rw [HN.out];exact List.take_length
   have OT6:=OT.out
   rw [e] at OT6
   obtain ⟨t0,t1,-⟩:=cells2 ((HR.out.set_ 0 (.slice al k capl)).set_ 1 (.slice ac nac cac))
   refine bodyPost_ret (v:=.agg #[.slice al k capl,.slice ac nac cac]) (by simp [results,Tryz.results51,go_sem,t0,t1]) rfl ⟨_,_,rfl,⟨_,_,rfl,?_,?_⟩,?_⟩
   ·exact OwnT.le ((OT6.far (by omega)).far (by omega)) (by omega)
   ·exact OwnRows.le (OwnC.far (OwnC.far OC.out (by omega)) (by omega)) (by omega)
   ·exact (HB.out.setCell (by simp) _).setCell (by simp) _
end Go.Proofs.YtdfmcgekfogpbabGreatDoor
set_option maxRecDepth 100000
namespace Go.Proofs.YtdfmcgekfogpbabGreatDoor
open Go.RowKit
def Str.zero:Str:=⟨[],[]⟩
def putS (s:Str) (id topic:Int) (k b:ByteArray):Str × Int × Int :=
 if askS s topic=0 then (if (addP (topN s topic) id k b).2.2=0 then (⟨s.tops.set topic.toNat (addP (topN s topic) id k b).1,s.coms⟩,(addP (topN s topic) id k b).2.1,0) else (Str.zero,0,(addP (topN s topic) id k b).2.2)) else (Str.zero,0,askS s topic)
theorem few_of_may {s:Str} (h:mayS s):fewS s:=by
 obtain ⟨⟨h1,h2⟩,h3,_⟩:=h
 refine ⟨by omega,fun t ht=>?_,?_⟩
 ·have:=(h2 t ht).1
  unfold Top.head at this
  omega
 ·obtain ⟨hl,hr⟩:=okC_spec h3
  refine ⟨by omega,fun r hr'=>?_⟩
  have:=(hr r hr').1
  omega
theorem OwnS.zero (w:World) (B:Nat):OwnS w B (.agg #[.slice none 0 0,.slice none 0 0]) Str.zero:=⟨_,_,rfl,OwnT.nil _ _,OwnRows.nil _ _ _ _⟩
theorem OwnS.blk {W:World} {B b o:Nat} {t:TypeId} {cs:List Value} {v u:Value} {s:Str} (h:OwnS W B v s) (hb:Blk W b t cs) (h1t:103≠t) (h2t:50≠t) (h3t:34≠t) (h4t:3≠t):OwnS (W.setCell ⟨b,o,none⟩ u) B v s:=by
 obtain ⟨ta,tc,rfl,h1,h2⟩:=h
 exact ⟨ta,tc,rfl,h1.blk hb h1t h2t,OwnC.blk h2 hb h3t h4t⟩
def PutEnd (u:Str) (n x:Int) (w:World) (e:Ending) (w':World):Prop:=∃ ta tc,e=.returned (.tuple #[.agg #[ta,tc],.int .i64 n,.int .i64 x])∧OwnS w' w.heap.size (.agg #[ta,tc]) u∧Below w.heap.size w w'
def DoEnd (u:Str) (x:Int) (w:World) (e:Ending) (w':World):Prop:=∃ ta tc,e=.returned (.tuple #[.agg #[ta,tc],.int .i64 x])∧OwnS w' w.heap.size (.agg #[ta,tc]) u∧Below w.heap.size w w'
def hasC (l:List ByteArray) (k:ByteArray):Bool:=l.any fun y=>decide (y=k)
theorem hasC_iff {l:List ByteArray} {k:ByteArray}:hasC l k=true↔k∈l:=by simp [hasC]
def stepC (m:Int) (s:List ByteArray × List Ent) (x:Ent):List ByteArray × List Ent :=
 if x.off < m then (if hasC s.1 x.key=true then (s.1.filter fun k=>decide (k≠x.key),s.2++[x]) else s) else (s.1,s.2++[x])
def keysC (m:Int) (l:List Ent):List ByteArray:=l.foldl (fun s x=>if x.off < m then x.key :: s else s) []
def runC (m:Int) (l pre:List Ent):List ByteArray × List Ent:=pre.foldl (stepC m) (keysC m l,[])
def leftC (m:Int) (l:List Ent):List Ent:=(runC m l l.reverse).2.reverse
def markC (t:Top) (tq:Int):Int:=max t.mark (min tq t.next)
def compactP (t:Top) (tq:Int):Top × Int :=
 if t.may then (if tq < 0∨1073741824 < tq then (Top.zero,2) else (⟨t.base,t.next,markC t tq,leftC (markC t tq) t.ents⟩,0)) else (Top.zero,8)
theorem compactP_bad {t:Top} {tq:Int} (h:¬ t.may):compactP t tq=(Top.zero,8):=by simp [compactP,h]
theorem compactP_arg {t:Top} {tq:Int} (h:t.may) (h':tq < 0∨1073741824 < tq):compactP t tq=(Top.zero,2):=by simp [compactP,h,h']
theorem compactP_yes {t:Top} {tq:Int} (h:t.may) (h':¬ (tq < 0∨1073741824 < tq)):compactP t tq=(⟨t.base,t.next,markC t tq,leftC (markC t tq) t.ents⟩,0):=by simp [compactP,h,h']
theorem keysC_snoc (m:Int) (l:List Ent) (x:Ent):keysC m (l++[x])=if x.off < m then x.key :: keysC m l else keysC m l:=by simp [keysC]
theorem runC_snoc (m:Int) (l pre:List Ent) (x:Ent):runC m l (pre++[x])=stepC m (runC m l pre) x:=by simp [runC]
theorem stepC_out {m:Int} {s:List ByteArray × List Ent} {x:Ent} (h:¬ x.off < m):stepC m s x=(s.1,s.2++[x]):=by simp [stepC,h]
theorem stepC_no {m:Int} {s:List ByteArray × List Ent} {x:Ent} (h:x.off < m) (hk:x.key ∉ s.1):stepC m s x=s:=by
 have:¬ hasC s.1 x.key=true:=fun e=>hk (hasC_iff.1 e)
 rw [stepC,if_pos h,if_neg this]
theorem stepC_yes {m:Int} {s:List ByteArray × List Ent} {x:Ent} (h:x.off < m) (hk:x.key∈s.1):stepC m s x=(s.1.filter fun k=>decide (k≠x.key),s.2++[x]):=by rw [stepC,if_pos h,if_pos (hasC_iff.2 hk)]
theorem runC_len (m:Int) (l pre:List Ent):(runC m l pre).2.length≤pre.length:=by
 have:∀ (pre:List Ent) (s:List ByteArray × List Ent),(pre.foldl (stepC m) s).2.length≤s.2.length+pre.length:=by
  intro pre
  induction pre with
  |nil=>intro s;simp
  |cons x pre ih =>
   intro s
   refine Nat.le_trans (ih _) ?_
   have:(stepC m s x).2.length≤s.2.length+1:=by
    unfold stepC
    repeat' split
    all_goals simp
   simp only [List.length_cons];omega
 simpa [runC] using this pre (keysC m l,[])
end Go.Proofs.YtdfmcgekfogpbabGreatDoor
set_option maxRecDepth 100000
namespace Go.Proofs.YtdfmcgekfogpbabGreatDoor
open Go.RowKit
def turnS (s:Str) (topic:Int) (r:Top × Int):Str × Int:=if r.2=0 then (⟨s.tops.set topic.toNat r.1,s.coms⟩,0) else (Str.zero,r.2)
def commitS (s:Str) (topic who n:Int):Str × Int :=
 if who < 0∨8≤who∨n < 0∨1073741824 < n then (Str.zero,2) else if (topN s topic).next < n then (Str.zero,170) else (⟨s.tops,setC s.coms topic who n⟩,0)
def doS (s:Str) (kind topic who n:Int):Str × Int :=
 if askS s topic=0 then (if kind=4 then commitS s topic who n else if kind=5 then turnS s topic (trimP (topN s topic) n) else if kind=6 then turnS s topic (compactP (topN s topic) n) else (Str.zero,2)) else (Str.zero,askS s topic)
end Go.Proofs.YtdfmcgekfogpbabGreatDoor
namespace Go.Proofs.YtdfmcgekfogpbabGreatDoor
theorem chk_mono {t t':Top} (h1:t'.mark=t.mark) (h2:t'.next=t.next):∀ (l:List Ent) (last:Int) (seen seen':List ByteArray),(∀ k,k∈seen'→k∈seen)→Top.chk t last seen l→Top.chk t' last seen' l
 |[],last,_,_,_,h=>by
  have h':max (last+1) t.mark=t.next:=h
  show max (last+1) t'.mark=t'.next
  rw [h1,h2];exact h'
 |x :: l,last,seen,seen',hs,⟨⟨a1,a2,a3,a4,a5⟩,hr⟩=>by
  refine ⟨⟨a1,a2,by rw [h2];exact a3,by rw [h1];exact a4,fun hm hk=>a5 (by rw [← h1];exact hm) (hs _ hk)⟩,?_⟩
  refine chk_mono h1 h2 l x.off _ _ ?_ hr
  rw [h1]
  intro k hk
  by_cases hm:x.off < t.mark
  ·rw [if_pos hm] at hk ⊢
   rcases List.mem_cons.1 hk with rfl|hk
   ·exact List.mem_cons_self
   ·exact List.mem_cons_of_mem _ (hs _ hk)
  ·rw [if_neg hm] at hk ⊢
   exact hs _ hk
theorem chk_above (t:Top):∀ (l:List Ent) (last:Int) (seen:List ByteArray),Top.chk t last seen l→∀ y∈l,last < y.off
 |[],_,_,_,_,hy=>by cases hy
 |x :: l,last,seen,⟨⟨_,a2,_⟩,hr⟩,y,hy=>by
  rcases List.mem_cons.1 hy with rfl|hy
  ·exact a2
  ·have:=chk_above t l x.off _ hr y hy
   omega
theorem chk_from {t t':Top} (h1:t'.mark=t.mark) (h2:t'.next=t.next) {b:Int} (hbn:b≤t.next):∀ (l:List Ent) (last:Int) (seen seen':List ByteArray),last+1≤b→(∀ k,k∈seen'→k∈seen)→Top.chk t last seen l→Top.chk t' (b - 1) seen' (fromE b l)
 |[],last,_,_,hb,_,h=>by
  have h':max (last+1) t.mark=t.next:=h
  show max (b - 1+1) t'.mark=t'.next
  rw [h1,h2];omega
 |x :: l,last,seen,seen',hb,hs,⟨⟨a1,a2,a3,a4,a5⟩,hr⟩=>by
  by_cases hx:b≤x.off
  ·have e:fromE b (x :: l)=x :: l:=by
    have:fromE b l=l:=fromE_all (fun y hy=>by have:=chk_above t l x.off _ hr y hy;omega)
    show List.filter _ _=_
    rw [List.filter_cons_of_pos (by simpa using hx)]
    exact congrArg _ this
   rw [e]
   refine ⟨⟨a1,by omega,by rw [h2];exact a3,by rw [h1];omega,fun hm hk=>a5 (by rw [← h1];exact hm) (hs _ hk)⟩,?_⟩
   refine chk_mono h1 h2 l x.off _ _ ?_ hr
   rw [h1]
   intro k hk
   by_cases hm:x.off < t.mark
   ·rw [if_pos hm] at hk ⊢
    rcases List.mem_cons.1 hk with rfl|hk
    ·exact List.mem_cons_self
    ·exact List.mem_cons_of_mem _ (hs _ hk)
   ·rw [if_neg hm] at hk ⊢
    exact hs _ hk
  ·have e:fromE b (x :: l)=fromE b l:=by
    show List.filter _ _=_
    rw [List.filter_cons_of_neg (by simpa using hx)]
    rfl
   rw [e]
   refine chk_from h1 h2 hbn l x.off _ _ (by omega) ?_ hr
   intro k hk
   by_cases hm:x.off < t.mark
   ·rw [if_pos hm];exact List.mem_cons_of_mem _ (hs _ hk)
   ·rw [if_neg hm];exact hs _ hk
def trimT (t:Top) (tq:Int):Top:=⟨trimTo t tq,t.next,t.mark,fromE (trimTo t tq) t.ents⟩
theorem trim_may {t:Top} {tq:Int} (h:t.may) (_:0≤tq):(trimT t tq).may:=by
 have hh:=h.1
 obtain ⟨a1,a2,a3,a4,a5,a6,a7⟩:=hh
 have hb:trimTo t tq≤t.next:=by unfold trimTo;omega
 have hb0:t.base≤trimTo t tq:=by unfold trimTo;omega
 refine (Top.may_iff _).2 ⟨⟨a1,a2,by show 0≤trimTo t tq;omega,hb,a5,a6,Nat.le_trans (fromE_len _ _) a7⟩,?_⟩
 exact chk_from (t:=t) (t':=trimT t tq) rfl rfl hb t.ents (t.base - 1) [] [] (by omega) (fun _ h=>h) ((Top.may_iff t).1 h).2
theorem from_from {b c:Int} (h:b≤c) (l:List Ent):fromE c (fromE b l)=fromE c l:=by
 show List.filter _ (List.filter _ l)=List.filter _ l
 rw [List.filter_filter]
 congr 1
 funext x
 by_cases e:c≤x.off
 ·have:b≤x.off:=by omega
  simp [e,this]
 ·simp [e]
def hasL (m:Int) (k:ByteArray) (l:List Ent):Bool:=l.any fun y=>decide (y.off < m) && decide (y.key=k)
theorem hasL_iff {m:Int} {k:ByteArray} {l:List Ent}:hasL m k l=true↔∃ y∈l,y.off < m∧y.key=k:=by simp [hasL]
theorem hasL_mono {m n:Int} {k:ByteArray} {l:List Ent} (hmn:m≤n) (h:hasL m k l=true):hasL n k l=true:=by
 obtain ⟨y,hy,h1,h2⟩:=hasL_iff.1 h
 exact hasL_iff.2 ⟨y,hy,by omega,h2⟩
theorem hasL_cons (m:Int) (k:ByteArray) (x:Ent) (l:List Ent):hasL m k (x :: l)=((decide (x.off < m) && decide (x.key=k)) || hasL m k l):=by simp [hasL]
def keepF (m:Int):List Ent→List Ent
 |[]=>[]
 |x :: l=>if (decide (x.off < m) && hasL m x.key l)=true then keepF m l else x :: keepF m l
theorem keepF_skip {m:Int} {x:Ent} {l:List Ent} (h:x.off < m) (hh:hasL m x.key l=true):keepF m (x :: l)=keepF m l:=by simp [keepF,h,hh]
theorem keepF_keep {m:Int} {x:Ent} {l:List Ent} (h:¬ (x.off < m∧hasL m x.key l=true)):keepF m (x :: l)=x :: keepF m l:=by
 rw [keepF,if_neg (by simpa using h)]
theorem keysC_iff (m:Int) (k:ByteArray):∀ l:List Ent,k∈keysC m l↔hasL m k l=true:=by
 have:∀ (l:List Ent) (s:List ByteArray),k∈l.foldl (fun s x=>if x.off < m then x.key :: s else s) s↔k∈s∨hasL m k l=true:=by
  intro l
  induction l with
  |nil=>intro s;simp [hasL]
  |cons x l ih =>
   intro s
   rw [List.foldl_cons,ih,hasL_cons]
   by_cases h:x.off < m
   ·simp only [h,if_true,List.mem_cons,decide_true,Bool.true_and,Bool.or_eq_true,decide_eq_true_eq]
    constructor
    ·rintro ((rfl|h)|h)
     ·exact Or.inr (Or.inl rfl)
     ·exact Or.inl h
     ·exact Or.inr (Or.inr h)
    ·rintro (h|rfl|h)
     ·exact Or.inl (Or.inr h)
     ·exact Or.inl (Or.inl rfl)
     ·exact Or.inr h
   ·simp [h]
 intro l
 have h:=this l []
 simpa [keysC] using h
theorem run_keep (m:Int) (l:List Ent):∀ (suf pre:List Ent),l=pre++suf→(runC m l suf.reverse).2=(keepF m suf).reverse∧∀ k,k∈(runC m l suf.reverse).1↔(hasL m k l=true∧hasL m k suf=false)
 |[],_,_=>by
  refine ⟨rfl,fun k=>?_⟩
  show k∈keysC m l↔_
  rw [keysC_iff]
  simp [hasL]
 |x :: suf,pre,he=>by
  obtain ⟨h1,h2⟩:=run_keep m l suf (pre++[x]) (by rw [he];simp)
  rw [List.reverse_cons,runC_snoc]
  by_cases hx:x.off < m
  ·have hxl:hasL m x.key l=true:=hasL_iff.2 ⟨x,by rw [he];simp,hx,rfl⟩
   by_cases hs:hasL m x.key suf=true
   ·have hno:x.key ∉ (runC m l suf.reverse).1:=fun h=>by have:=((h2 _).1 h).2;rw [hs] at this;cases this
    rw [stepC_no hx hno,keepF_skip hx hs]
    refine ⟨h1,fun k=>?_⟩
    rw [h2,hasL_cons]
    by_cases hk:x.key=k
    ·subst hk
     simp [hs]
    ·simp [hk]
   ·have hs':hasL m x.key suf=false:=by simpa using hs
    rw [stepC_yes hx ((h2 _).2 ⟨hxl,hs'⟩),keepF_keep (fun h=>hs h.2)]
    refine ⟨by simp [h1],fun k=>?_⟩
    simp only [List.mem_filter,h2,hasL_cons,hx,decide_true,Bool.true_and,Bool.or_eq_false_iff,decide_eq_false_iff_not,decide_eq_true_eq]
    constructor
    ·rintro ⟨⟨a,b⟩,c⟩;exact ⟨a,fun e=>c e.symm,b⟩
    ·rintro ⟨a,c,b⟩;exact ⟨⟨a,b⟩,fun e=>c e.symm⟩
  ·rw [stepC_out hx,keepF_keep (fun h=>hx h.1)]
   refine ⟨by simp [h1],fun k=>?_⟩
   rw [h2,hasL_cons]
   simp [hx]
theorem left_keep (m:Int) (l:List Ent):leftC m l=keepF m l:=by
 rw [leftC,(run_keep m l l [] rfl).1,List.reverse_reverse]
def risesS (l:List Ent):Prop:=l.Pairwise fun x y=>x.off < y.off
theorem keepF_sub (m:Int):∀ l:List Ent,(keepF m l).Sublist l
 |[]=>List.Sublist.refl _
 |x :: l=>by
  by_cases h:x.off < m∧hasL m x.key l=true
  ·rw [keepF_skip h.1 h.2];exact (keepF_sub m l).cons _
  ·rw [keepF_keep h];exact (keepF_sub m l).cons_cons _
theorem chk_keep {t t':Top} {m:Int} (h1:t'.mark=m) (h2:t'.next=t.next) (hm:t.mark≤m) (hn:m≤t.next):∀ (l:List Ent) (last last':Int) (seen seen':List ByteArray),last'≤last→(last'=last∨last < m)→(∀ k∈seen',hasL m k l=false)→Top.chk t last seen l→Top.chk t' last' seen' (keepF m l)
 |[],last,last',_,_,ha,hb,_,h=>by
  have h':max (last+1) t.mark=t.next:=h
  show max (last'+1) t'.mark=t'.next
  rw [h1,h2];omega
 |x :: l,last,last',seen,seen',ha,hb,hs,⟨⟨a1,a2,a3,a4,a5⟩,hr⟩=>by
  have hs2:∀ k∈seen',hasL m k l=false:=fun k hk=>by
   have:=hs k hk
   rw [hasL_cons,Bool.or_eq_false_iff] at this
   exact this.2
  by_cases h:x.off < m∧hasL m x.key l=true
  ·rw [keepF_skip h.1 h.2]
   exact chk_keep h1 h2 hm hn l x.off last' _ seen' (by omega) (Or.inr h.1) hs2 hr
  ·rw [keepF_keep h]
   refine ⟨⟨a1,by omega,by rw [h2];exact a3,by rw [h1];omega,fun hx hk=>?_⟩,chk_keep h1 h2 hm hn l x.off x.off _ _ (Int.le_refl _) (Or.inl rfl) (fun k hk=>?_) hr⟩
   ·have:=hs _ hk
    rw [hasL_cons,Bool.or_eq_false_iff] at this
    rw [h1] at hx
    simp [hx] at this
   ·by_cases hx:x.off < t'.mark
    ·rw [if_pos hx] at hk
     rcases List.mem_cons.1 hk with rfl|hk
     ·rw [h1] at hx
      cases e:hasL m x.key l with
      |true=>exact absurd ⟨hx,e⟩ h
      |false=>rfl
     ·exact hs2 k hk
    ·rw [if_neg hx] at hk
     exact hs2 k hk
def compT (t:Top) (tq:Int):Top:=⟨t.base,t.next,markC t tq,keepF (markC t tq) t.ents⟩
theorem mark_bounds {t:Top} (h:t.may) (tq:Int):t.mark≤markC t tq∧markC t tq≤t.next∧0≤markC t tq:=by
 obtain ⟨a1,a2,a3,a4,a5,a6,a7⟩:=h.1
 unfold markC
 omega
theorem comp_may {t:Top} (tq:Int) (h:t.may):(compT t tq).may:=by
 obtain ⟨b1,b2,b3⟩:=mark_bounds h tq
 obtain ⟨a1,a2,a3,a4,a5,a6,a7⟩:=h.1
 refine (Top.may_iff _).2 ⟨⟨a1,a2,a3,a4,b3,b2,Nat.le_trans (keepF_sub _ _).length_le a7⟩,?_⟩
 exact chk_keep (t:=t) (t':=compT t tq) rfl rfl b1 b2 t.ents (t.base - 1) (t.base - 1) [] [] (Int.le_refl _) (Or.inl rfl) (fun _ h=>by cases h) ((Top.may_iff t).1 h).2
theorem compactP_T {t:Top} {tq:Int} (h:t.may) (h':¬ (tq < 0∨1073741824 < tq)):compactP t tq=(compT t tq,0):=by rw [compactP_yes h h',left_keep];rfl
theorem hasL_keep {m n:Int} (hmn:m≤n) (k:ByteArray):∀ l:List Ent,hasL n k (keepF m l)=hasL n k l
 |[]=>rfl
 |x :: l=>by
  by_cases h:x.off < m∧hasL m x.key l=true
  ·rw [keepF_skip h.1 h.2,hasL_keep hmn k l,hasL_cons]
   by_cases hk:x.key=k
   ·have:=hasL_mono hmn h.2
    rw [hk] at this
    rw [this,Bool.or_true]
   ·simp [hk]
  ·rw [keepF_keep h,hasL_cons,hasL_cons,hasL_keep hmn k l]
theorem keep_keep {m n:Int} (hmn:m≤n):∀ l:List Ent,keepF n (keepF m l)=keepF n l
 |[]=>rfl
 |x :: l=>by
  by_cases h:x.off < m∧hasL m x.key l=true
  ·rw [keepF_skip h.1 h.2,keep_keep hmn l,keepF_skip (by omega) (hasL_mono hmn h.2)]
  ·rw [keepF_keep h]
   by_cases h2:x.off < n∧hasL n x.key l=true
   ·rw [keepF_skip h2.1 h2.2,keepF_skip h2.1 (by rw [hasL_keep hmn];exact h2.2),keep_keep hmn l]
   ·rw [keepF_keep h2,keepF_keep (by rw [hasL_keep hmn];exact h2),keep_keep hmn l]
end Go.Proofs.YtdfmcgekfogpbabGreatDoor
set_option maxRecDepth 100000
namespace Go.Proofs.YtdfmcgekfogpbabGreatDoor
open Go.RowKit
theorem may_set {s:Str} {i:Nat} {t:Top} (hm:mayS s) (ht:t.may) (hn:(s.tops.getD i default).next≤t.next):mayS ⟨s.tops.set i t,s.coms⟩:=by
 obtain ⟨⟨h1,h2⟩,h3,h4⟩:=hm
 refine ⟨⟨by simpa using h1,fun x hx=>?_⟩,h3,fun j hj k hk=>?_⟩
 ·rcases List.mem_or_eq_of_mem_set hx with h|rfl
  ·exact h2 x h
  ·exact ht
 ·have h5:=h4 j hj k hk
  show (s.coms.getD j []).getD k 0≤((s.tops.set i t).getD j default).next
  by_cases hij:i=j
  ·subst hij
   rw [getD_set_same (by omega)]
   omega
  ·rw [getD_set_other hij]
   exact h5
theorem may_com {s:Str} {i:Nat} {who n:Int} (hm:mayS s) (hi:i < 4) (e0:0≤who) (e1:who < 8) (e2:0≤n) (e3:n≤1073741824) (hn:n≤(s.tops.getD i default).next):mayS ⟨s.tops,setC s.coms (i:Int) who n⟩:=by
 obtain ⟨⟨h1,h2⟩,h3,h4⟩:=hm
 refine ⟨⟨h1,h2⟩,okC_set h3 (by omega) (by omega) e0 e1 e2 e3,fun j hj k hk=>?_⟩
 have h5:=h4 j hj k hk
 have h6:=getC_set h3 (t:=(i:Int)) (k:=who) (n:=n) (t':=(j:Int)) (k':=(k:Int)) (by omega) (by omega) e0 e1 (by omega) (by omega)
 simp only [getC,Int.toNat_natCast] at h6
 show ((setC s.coms (i:Int) who n).getD j []).getD k 0≤(s.tops.getD j default).next
 rw [h6]
 split
 ·rename_i hh
  obtain ⟨ha,hb⟩:=hh
  have:j=i:=by omega
  subst this
  have hwk:who.toNat=k:=by omega
  rw [hwk] at *
  omega
 ·exact h5
theorem askS_may {s:Str} {n:Int} (hm:mayS s) (h0:0≤n) (h1:n < 4):askS s n=0:=askS_zero.2 ⟨hm,h0,h1⟩
theorem topN_may {s:Str} {n:Int} (hm:mayS s) (h0:0≤n) (h1:n < 4):(topN s n).may:=hm.1.2 _ (topN_mem hm h0 h1)
def rightD (kind topic who n:Int):Prop:=((kind=5∨kind=6)∨(kind=4∧0≤who∧who < 8))∧(0≤topic∧topic < 4)∧0≤n∧n≤1073741824
theorem doS_no {s:Str} {kind topic who n:Int} (hm:mayS s) (h:¬ rightD kind topic who n):doS s kind topic who n=(Str.zero,2):=by
 unfold doS
 by_cases ht:0≤topic∧topic < 4
 ·have hmt:=topN_may hm ht.1 ht.2
  rw [if_pos (askS_may hm ht.1 ht.2)]
  by_cases h4:kind=4
  ·rw [if_pos h4,commitS,if_pos]
   unfold rightD at h
   omega
  ·rw [if_neg h4]
   by_cases hn:n < 0∨1073741824 < n
   ·rw [trimP_arg hmt hn,compactP_arg hmt hn]
    simp [turnS]
   ·rw [if_neg (by unfold rightD at h;omega),if_neg (by unfold rightD at h;omega)]
 ·have e:askS s topic=2:=by rw [askS,if_pos hm,if_neg ht]
  rw [if_neg (by rw [e];decide),e]
instance (kind topic who n:Int):Decidable (rightD kind topic who n):=by unfold rightD;infer_instance
end Go.Proofs.YtdfmcgekfogpbabGreatDoor
set_option maxRecDepth 100000
namespace Go.Proofs.YtdfmcgekfogpbabGreatDoor
open Go.RowKit
structure Pl where
 all:List Ent
 base:Int
 mark:Int
structure Mdl where
 tops:List Pl
 coms:List (List Int)
instance:Inhabited Pl:=⟨⟨[],0,0⟩⟩
def entP (p:Pl):List Ent:=fromE p.base (keepF p.mark p.all)
def topM (p:Pl):Top:=⟨p.base,p.all.length,p.mark,entP p⟩
def streamM (m:Mdl):Str:=⟨m.tops.map topM,m.coms⟩
def entAt (p:Pl) (i:Nat):Prop:=(p.all.getD i default).off=(i:Int)∧Top.okEnt (p.all.getD i default)
instance (p:Pl) (i:Nat):Decidable (entAt p i):=by unfold entAt;infer_instance
def shapedP (p:Pl):Prop:=(∀ i,i < p.all.length→entAt p i)∧p.all.length≤600∧(0≤p.base∧p.base≤(p.all.length:Int))∧0≤p.mark∧p.mark≤(p.all.length:Int)
instance (p:Pl):Decidable (shapedP p):=by unfold shapedP;infer_instance
def mayM (m:Mdl):Prop:=(m.tops.length=4∧∀ p∈m.tops,shapedP p∧(entP p).length≤200)∧okC m.coms=true∧∀ i,i < 4→∀ k,k < 8→((m.coms.getD i []).getD k 0)≤((m.tops.getD i default).all.length:Int)
instance (m:Mdl):Decidable (mayM m):=by unfold mayM;infer_instance
theorem drop_cons {l:List Ent} {k:Nat} (h:k < l.length):l.drop k=l.getD k default :: l.drop (k+1):=by
 rw [List.drop_eq_getElem_cons h,getD_at h]
theorem chk_all {p:Pl} (h:∀ i,i < p.all.length→entAt p i):∀ (n k:Nat),k+n=p.all.length→Top.chk ⟨0,p.all.length,0,p.all⟩ ((k:Int) - 1) [] (p.all.drop k)
 |0,k,hk=>by
  rw [List.drop_eq_nil_of_le (by omega)]
  show max ((k:Int) - 1+1) 0=(p.all.length:Int)
  omega
 |n+1,k,hk=>by
  have hlt:k < p.all.length:=by omega
  obtain ⟨h1,h2⟩:=h k hlt
  rw [drop_cons hlt]
  refine ⟨⟨h2,by rw [h1];omega,by rw [h1];show (k:Int) < (p.all.length:Int);omega,by rw [h1];show (k:Int)≤max ((k:Int) - 1+1) 0;omega,fun h0=>by rw [h1] at h0;exact absurd h0 (by show ¬ (k:Int) < 0;omega)⟩,?_⟩
  rw [if_neg (by rw [h1];show ¬ (k:Int) < 0;omega),h1]
  have:=chk_all h n (k+1) (by omega)
  rwa [show ((k+1:Nat):Int) - 1=(k:Int) by omega] at this
theorem topM_chk {p:Pl} (h:shapedP p):Top.chk (topM p) (p.base - 1) [] (entP p):=by
 obtain ⟨h1,h2,⟨h3,h4⟩,h5,h6⟩:=h
 have c0:=chk_all h1 p.all.length 0 (by omega)
 rw [List.drop_zero] at c0
 have c1:=chk_keep (t:=⟨0,p.all.length,0,p.all⟩) (t':=⟨0,p.all.length,p.mark,keepF p.mark p.all⟩) (m:=p.mark) rfl rfl h5 h6 p.all _ (-1) [] [] (by simp) (Or.inl (by simp)) (fun _ hk=>by cases hk) c0
 exact chk_from (t:=⟨0,p.all.length,p.mark,keepF p.mark p.all⟩) (t':=topM p) rfl rfl h4 _ (-1) [] [] (by omega) (fun _ h=>h) c1
theorem topM_may {p:Pl} (h:shapedP p):(topM p).may↔(entP p).length≤200:=by
 rw [Top.may_iff]
 constructor
 ·exact fun hh=>hh.1.2.2.2.2.2.2
 ·intro hl
  obtain ⟨h1,h2,⟨h3,h4⟩,h5,h6⟩:=id h
  exact ⟨⟨by show (0:Int)≤(p.all.length:Int);omega,by show (p.all.length:Int)≤1073741824;omega,h3,h4,h5,h6,hl⟩,topM_chk h⟩
theorem getD_map_top {l:List Pl} {i:Nat} (h:i < l.length):(l.map topM).getD i default=topM (l.getD i default):=by simp [List.getD,h]
theorem mayM_iff {m:Mdl} (h:∀ p∈m.tops,shapedP p):mayS (streamM m)↔mayM m:=by
 constructor
 ·rintro ⟨⟨h1,h2⟩,h3,h4⟩
  have hl:m.tops.length=4:=by simpa [streamM] using h1
  refine ⟨⟨hl,fun p hp=>⟨h p hp,(topM_may (h p hp)).1 (h2 _ (List.mem_map.2 ⟨p,hp,rfl⟩))⟩⟩,h3,fun i hi k hk=>?_⟩
  have:=h4 i hi k hk
  rw [show (streamM m).tops.getD i default=topM (m.tops.getD i default) from getD_map_top (by omega)] at this
  exact this
 ·rintro ⟨⟨h1,h2⟩,h3,h4⟩
  refine ⟨⟨by simpa [streamM] using h1,fun t ht=>?_⟩,h3,fun i hi k hk=>?_⟩
  ·obtain ⟨p,hp,rfl⟩:=List.mem_map.1 ht
   exact (topM_may (h p hp)).2 (h2 p hp).2
  ·rw [show (streamM m).tops.getD i default=topM (m.tops.getD i default) from getD_map_top (by omega)]
   exact h4 i hi k hk
theorem mayM_shaped {m:Mdl} (h:mayM m):∀ p∈m.tops,shapedP p:=fun p hp=>(h.1.2 p hp).1
theorem mayM_str {m:Mdl} (h:mayM m):mayS (streamM m):=(mayM_iff (mayM_shaped h)).2 h
def keptI (p:Pl) (i:Nat):Bool:=decide (p.base≤(p.all.getD i default).off) && !(decide ((p.all.getD i default).off < p.mark) && hasL p.mark (p.all.getD i default).key (p.all.drop (i+1)))
def preP (p:Pl):Nat→List Ent
 |0=>[]
 |k+1=>preP p k++(if keptI p k=true then [p.all.getD k default] else [])
theorem preP_len (p:Pl):∀ k,(preP p k).length≤k
 |0=>Nat.le_refl _
 |k+1=>by
  have:=preP_len p k
  rw [preP,List.length_append]
  split <;> simp <;> omega
theorem preP_end (p:Pl):∀ (n k:Nat),k+n=p.all.length→preP p k++fromE p.base (keepF p.mark (p.all.drop k))=preP p p.all.length
 |0,k,hk=>by
  obtain rfl:k=p.all.length:=by omega
  rw [List.drop_eq_nil_of_le (Nat.le_refl _)]
  exact List.append_nil _
 |n+1,k,hk=>by
  have hlt:k < p.all.length:=by omega
  rw [← preP_end p n (k+1) (by omega),preP,List.append_assoc]
  congr 1
  rw [drop_cons hlt]
  generalize hx:p.all.getD k default=x
  have hkI:keptI p k=(decide (p.base≤x.off) && !(decide (x.off < p.mark) && hasL p.mark x.key (p.all.drop (k+1)))):=by rw [keptI,hx]
  rw [hkI]
  by_cases h:x.off < p.mark∧hasL p.mark x.key (p.all.drop (k+1))=true
  ·rw [keepF_skip h.1 h.2]
   simp [h.1,h.2]
  ·rw [keepF_keep h]
   have h':(decide (x.off < p.mark) && hasL p.mark x.key (p.all.drop (k+1)))=false:=by
    rw [← Bool.not_eq_true,Bool.and_eq_true,decide_eq_true_eq];exact h
   rw [h']
   by_cases hb:p.base≤x.off
   ·simp [fromE,hb]
   ·simp [fromE,hb]
theorem preP_all (p:Pl):preP p p.all.length=entP p:=by
 have:=preP_end p p.all.length 0 (by omega)
 rw [List.drop_zero] at this
 exact this.symm
theorem keptI_off {p:Pl} {i:Nat} (h:entAt p i):keptI p i=(decide (p.base≤(i:Int)) && !(decide ((i:Int) < p.mark) && hasL p.mark (p.all.getD i default).key (p.all.drop (i+1)))):=by rw [keptI,h.1]
def askM (m:Mdl) (n:Int):Int:=if mayM m then (if 0≤n∧n < 4 then 0 else 2) else 8
def plN (m:Mdl) (n:Int):Pl:=m.tops.getD n.toNat default
def fetchL (p:Pl) (o:Int):Ent × Int:=if o < 0 then (default,2) else if (p.all.length:Int)≤o then (default,170) else if o < p.base then (default,171) else if keptI p o.toNat=true then (p.all.getD o.toNat default,0) else (default,172)
def fetchM (m:Mdl) (n o:Int):Ent × Int:=if askM m n=0 then fetchL (plN m n) o else (default,askM m n)
def farM (m:Mdl) (n k:Int):Int × Int:=if mayM m then (if (0≤n∧n < 4)∧0≤k∧k < 8 then (getC m.coms n k,0) else (0,2)) else (0,8)
def endM (m:Mdl) (n:Int):Int × Int:=if askM m n=0 then (((plN m n).all.length:Int),0) else (0,askM m n)
theorem askM_zero {m:Mdl} {n:Int}:askM m n=0↔mayM m∧0≤n∧n < 4:=by
 unfold askM
 by_cases h:mayM m
 ·by_cases h2:0≤n∧n < 4
  ·simp [h,h2]
  ·rw [if_pos h,if_neg h2];simp [h];omega
 ·rw [if_neg h];simp [h]
theorem plN_mem {m:Mdl} {n:Int} (h:mayM m) (h0:0≤n) (h1:n < 4):plN m n∈m.tops:=by
 have:=h.1.1
 rw [plN,getD_lt (show n.toNat < m.tops.length by omega)]
 exact List.getElem_mem _
def Mdl.zero:Mdl:=⟨[],[]⟩
def putM (m:Mdl) (id topic:Int) (k b:ByteArray):Mdl × Int × Int :=
 if askM m topic=0 then
  (if id < 0∨6291456≤id then (Mdl.zero,0,2) else if 16 < k.size∨64 < b.size then (Mdl.zero,0,3) else if (plN m topic).all.length=600∨(entP (plN m topic)).length=200 then (Mdl.zero,0,9)
   else (⟨m.tops.set topic.toNat ⟨(plN m topic).all++[⟨((plN m topic).all.length:Int),id,k,b⟩],(plN m topic).base,(plN m topic).mark⟩,m.coms⟩,((plN m topic).all.length:Int),0))
 else (Mdl.zero,0,askM m topic)
def doM (m:Mdl) (kind topic who n:Int):Mdl × Int :=
 if mayM m then
  (if ¬ rightD kind topic who n then (Mdl.zero,2)
   else if kind=4 then (if ((plN m topic).all.length:Int) < n then (Mdl.zero,170) else (⟨m.tops,setC m.coms topic who n⟩,0))
   else if kind=5 then (⟨m.tops.set topic.toNat ⟨(plN m topic).all,max (plN m topic).base (min n ((plN m topic).all.length:Int)),(plN m topic).mark⟩,m.coms⟩,0)
   else (⟨m.tops.set topic.toNat ⟨(plN m topic).all,(plN m topic).base,max (plN m topic).mark (min n ((plN m topic).all.length:Int))⟩,m.coms⟩,0))
 else (Mdl.zero,8)
end Go.Proofs.YtdfmcgekfogpbabGreatDoor
