/-
  Proved here: Plain law of compaction: what is left, told from the front; the docume topic.Add. No condition but that the topic reads.
-/
import Derived.Test.YtkkohllhebdlcaaGreatDoorY05
import Derived.Test.YtkkohllhebdlcaaGreatDoorY10
import Derived.Test.YtkkohllhebdlcaaGreatDoorY11
import Derived.Deep.RegionHeld3
set_option maxRecDepth 100000
namespace Go.Proofs.YtkkohllhebdlcaaGreatDoor
open Go.RowKit
def hasL (m:Int) (k:ByteArray) (l:List Ent):Bool:=l.any fun y=>decide (y.off < m) && decide (y.key=k)
theorem hasL_iff {m:Int} {k:ByteArray} {l:List Ent}:hasL m k l=true↔∃ y∈l,y.off < m∧y.key=k:=by simp [hasL]
theorem hasL_mono {m n:Int} {k:ByteArray} {l:List Ent} (hmn:m≤n) (h:hasL m k l=true):hasL n k l=true:=by
 obtain ⟨y,hy,h1,h2⟩:=hasL_iff.1 h
 exact hasL_iff.2 ⟨y,hy,by omega,h2⟩
theorem hasL_cons (m:Int) (k:ByteArray) (x:Ent) (l:List Ent):hasL m k (x :: l)=((decide (x.off < m) && decide (x.key=k)) || hasL m k l):=by simp [hasL]
def keepF (m:Int):List Ent→List Ent
 |[]=>[]
 |x :: l=>if (decide (x.off < m) && hasL m x.key l)=true then keepF m l else x :: keepF m l
theorem keepF_skip {m:Int} {x:Ent} {l:List Ent} (h:x.off < m) (hh:hasL m x.key l=true):keepF m (x :: l)=keepF m l:=by simp [keepF,h,hh]
theorem keepF_keep {m:Int} {x:Ent} {l:List Ent} (h:¬ (x.off < m∧hasL m x.key l=true)):keepF m (x :: l)=x :: keepF m l:=by
 rw [keepF,if_neg (by simpa using h)]
theorem keysC_iff (m:Int) (k:ByteArray):∀ l:List Ent,k∈keysC m l↔hasL m k l=true:=by
 have:∀ (l:List Ent) (s:List ByteArray),k∈l.foldl (fun s x=>if x.off < m then x.key :: s else s) s↔k∈s∨hasL m k l=true:=by
  intro l
  induction l with
  |nil=>intro s;simp [hasL]
  |cons x l ih =>
   intro s
   rw [List.foldl_cons,ih,hasL_cons]
   by_cases h:x.off < m
   ·simp only [h,if_true,List.mem_cons,decide_true,Bool.true_and,Bool.or_eq_true,decide_eq_true_eq]
    constructor
    ·rintro ((rfl|h)|h)
     ·exact Or.inr (Or.inl rfl)
     ·exact Or.inl h
     ·exact Or.inr (Or.inr h)
    ·rintro (h|rfl|h)
     ·exact Or.inl (Or.inr h)
     ·exact Or.inl (Or.inl rfl)
     ·exact Or.inr h
   ·simp [h]
 intro l
 have h:=this l []
 simpa [keysC] using h
theorem run_keep (m:Int) (l:List Ent):∀ (suf pre:List Ent),l=pre++suf→(runC m l suf.reverse).2=(keepF m suf).reverse∧∀ k,k∈(runC m l suf.reverse).1↔(hasL m k l=true∧hasL m k suf=false)
 |[],_,_=>by
  refine ⟨rfl,fun k=>?_⟩
  show k∈keysC m l↔_
  rw [keysC_iff]
  simp [hasL]
 |x :: suf,pre,he=>by
  obtain ⟨h1,h2⟩:=run_keep m l suf (pre++[x]) (by rw [he];simp)
  rw [List.reverse_cons,runC_snoc]
  by_cases hx:x.off < m
  ·have hxl:hasL m x.key l=true:=hasL_iff.2 ⟨x,by rw [he];simp,hx,rfl⟩
   by_cases hs:hasL m x.key suf=true
   ·have hno:x.key ∉ (runC m l suf.reverse).1:=fun h=>by have:=((h2 _).1 h).2;rw [hs] at this;cases this
    rw [stepC_no hx hno,keepF_skip hx hs]
    refine ⟨h1,fun k=>?_⟩
    rw [h2,hasL_cons]
    by_cases hk:x.key=k
    ·subst hk
     simp [hs]
    ·simp [hk]
   ·have hs':hasL m x.key suf=false:=by simpa using hs
    rw [stepC_yes hx ((h2 _).2 ⟨hxl,hs'⟩),keepF_keep (fun h=>hs h.2)]
    refine ⟨by simp [h1],fun k=>?_⟩
    simp only [List.mem_filter,h2,hasL_cons,hx,decide_true,Bool.true_and,Bool.or_eq_false_iff,decide_eq_false_iff_not,decide_eq_true_eq]
    constructor
    ·rintro ⟨⟨a,b⟩,c⟩;exact ⟨a,fun e=>c e.symm,b⟩
    ·rintro ⟨a,c,b⟩;exact ⟨⟨a,b⟩,fun e=>c e.symm⟩
  ·rw [stepC_out hx,keepF_keep (fun h=>hx h.1)]
   refine ⟨by simp [h1],fun k=>?_⟩
   rw [h2,hasL_cons]
   simp [hx]
theorem left_keep (m:Int) (l:List Ent):leftC m l=keepF m l:=by
 rw [leftC,(run_keep m l l [] rfl).1,List.reverse_reverse]
def risesS (l:List Ent):Prop:=l.Pairwise fun x y=>x.off < y.off
theorem keepF_sub (m:Int):∀ l:List Ent,(keepF m l).Sublist l
 |[]=>List.Sublist.refl _
 |x :: l=>by
  by_cases h:x.off < m∧hasL m x.key l=true
  ·rw [keepF_skip h.1 h.2];exact (keepF_sub m l).cons _
  ·rw [keepF_keep h];exact (keepF_sub m l).cons_cons _
theorem chk_keep {t t':Top} {m:Int} (h1:t'.mark=m) (h2:t'.next=t.next) (hm:t.mark≤m) (hn:m≤t.next):∀ (l:List Ent) (last last':Int) (seen seen':List ByteArray),last'≤last→(last'=last∨last < m)→(∀ k∈seen',hasL m k l=false)→Top.chk t last seen l→Top.chk t' last' seen' (keepF m l)
 |[],last,last',_,_,ha,hb,_,h=>by
  have h':max (last+1) t.mark=t.next:=h
  show max (last'+1) t'.mark=t'.next
  rw [h1,h2];omega
 |x :: l,last,last',seen,seen',ha,hb,hs,⟨⟨a1,a2,a3,a4,a5⟩,hr⟩=>by
  have hs2:∀ k∈seen',hasL m k l=false:=fun k hk=>by
   have:=hs k hk
   rw [hasL_cons,Bool.or_eq_false_iff] at this
   exact this.2
  by_cases h:x.off < m∧hasL m x.key l=true
  ·rw [keepF_skip h.1 h.2]
   exact chk_keep h1 h2 hm hn l x.off last' _ seen' (by omega) (Or.inr h.1) hs2 hr
  ·rw [keepF_keep h]
   refine ⟨⟨a1,by omega,by rw [h2];exact a3,by rw [h1];omega,fun hx hk=>?_⟩,chk_keep h1 h2 hm hn l x.off x.off _ _ (Int.le_refl _) (Or.inl rfl) (fun k hk=>?_) hr⟩
   ·have:=hs _ hk
    rw [hasL_cons,Bool.or_eq_false_iff] at this
    rw [h1] at hx
    simp [hx] at this
   ·by_cases hx:x.off < t'.mark
    ·rw [if_pos hx] at hk
     rcases List.mem_cons.1 hk with rfl|hk
     ·rw [h1] at hx
      cases e:hasL m x.key l with
      |true=>exact absurd ⟨hx,e⟩ h
      |false=>rfl
     ·exact hs2 k hk
    ·rw [if_neg hx] at hk
     exact hs2 k hk
def compT (t:Top) (tq:Int):Top:=⟨t.base,t.next,markC t tq,keepF (markC t tq) t.ents⟩
theorem mark_bounds {t:Top} (h:t.may) (tq:Int):t.mark≤markC t tq∧markC t tq≤t.next∧0≤markC t tq:=by
 obtain ⟨a1,a2,a3,a4,a5,a6,a7⟩:=h.1
 unfold markC
 omega
theorem comp_may {t:Top} (tq:Int) (h:t.may):(compT t tq).may:=by
 obtain ⟨b1,b2,b3⟩:=mark_bounds h tq
 obtain ⟨a1,a2,a3,a4,a5,a6,a7⟩:=h.1
 refine (Top.may_iff _).2 ⟨⟨a1,a2,a3,a4,b3,b2,Nat.le_trans (keepF_sub _ _).length_le a7⟩,?_⟩
 exact chk_keep (t:=t) (t':=compT t tq) rfl rfl b1 b2 t.ents (t.base - 1) (t.base - 1) [] [] (Int.le_refl _) (Or.inl rfl) (fun _ h=>by cases h) ((Top.may_iff t).1 h).2
theorem compactP_T {t:Top} {tq:Int} (h:t.may) (h':¬ (tq < 0∨1073741824 < tq)):compactP t tq=(compT t tq,0):=by rw [compactP_yes h h',left_keep];rfl
theorem hasL_keep {m n:Int} (hmn:m≤n) (k:ByteArray):∀ l:List Ent,hasL n k (keepF m l)=hasL n k l
 |[]=>rfl
 |x :: l=>by
  by_cases h:x.off < m∧hasL m x.key l=true
  ·rw [keepF_skip h.1 h.2,hasL_keep hmn k l,hasL_cons]
   by_cases hk:x.key=k
   ·have:=hasL_mono hmn h.2
    rw [hk] at this
    rw [this,Bool.or_true]
   ·simp [hk]
  ·rw [keepF_keep h,hasL_cons,hasL_cons,hasL_keep hmn k l]
theorem keep_keep {m n:Int} (hmn:m≤n):∀ l:List Ent,keepF n (keepF m l)=keepF n l
 |[]=>rfl
 |x :: l=>by
  by_cases h:x.off < m∧hasL m x.key l=true
  ·rw [keepF_skip h.1 h.2,keep_keep hmn l,keepF_skip (by omega) (hasL_mono hmn h.2)]
  ·rw [keepF_keep h]
   by_cases h2:x.off < n∧hasL n x.key l=true
   ·rw [keepF_skip h2.1 h2.2,keepF_skip h2.1 (by rw [hasL_keep hmn];exact h2.2),keep_keep hmn l]
   ·rw [keepF_keep h2,keepF_keep (by rw [hasL_keep hmn];exact h2),keep_keep hmn l]
end Go.Proofs.YtkkohllhebdlcaaGreatDoor
set_option maxRecDepth 100000
namespace Go.Proofs.YtkkohllhebdlcaaGreatDoor
open Go.RowKit
set_option maxHeartbeats 4000000 in
set_option maxRecDepth 100000 in
theorem add_any {v:Value} {t u:Top} {w:World} {x y:Int} (id:Int) (k b:ByteArray) (h:TopR w v t) (hk:∀ x∈t.ents,x.key.size≤maxLen) (hf:addP t id k b=(u,x,y)) :
  Calls Tryz.prog 99 #[v,.int .i64 id,.string k,.string b] w (TopEnd2 u x y w):=by
 obtain ⟨i0,hi,hz0,hz1,hz2⟩:=info_parts info_ent
 have T:=LH h
 have HK:=LH hk
 obtain ⟨a,cap,rfl,hs⟩:=h
 by_cases hm:t.may
 ·have HM:=LH hm
  have HL:=LH (show t.ents.length≤200 from hm.1.2.2.2.2.2.2)
  have n0:0≤t.next:=hm.1.1
  have n1:t.next≤1073741824:=hm.1.2.1
  rw [addP,if_pos hm] at hf
  by_cases h1:id < 0∨6291456≤id
  ·rw [if_pos h1] at hf
   cases hf
   clear hm hs hk
   by_cases h2:id < 0
   ·clear h1
    go_enter Tryz.func99,Tryz.ntmps99
    go_wp2_with fail
    refine Calls.mono (check_yes ?_ HK.out HM.out) ?_
    ·exact T.out.below (by repeat (first|with_reducible (first|exact Below.refl _ _|apply Below.drew|apply below_alloc)|((first|with_reducible refine Below.alloc ?_ ?_ _|with_reducible refine Below.setCell ?_ ?_ _);rotate_left;focus (first|(simp <;> omega)|omega))))
    rintro e w2 ⟨rfl,hb⟩
    have HB:Hid (Below w.heap.size w _):=below_step (by repeat (first|with_reducible (first|exact Below.refl _ _|apply Below.drew|apply below_alloc)|((first|with_reducible refine Below.alloc ?_ ?_ _|with_reducible refine Below.setCell ?_ ?_ _);rotate_left;focus (first|(simp <;> omega)|omega)))) hb
    have R:Blk _ (w.heap.size+1) _ _:=Blk.step (by repeat (first|((with_reducible apply Blk.new);focus (first|rfl|(simp <;> omega)))|with_reducible (first|apply Blk.drew|apply Blk.alloc|apply Blk.set_)|((with_reducible apply Blk.far);rotate_left;focus (first|(simp <;> omega)|omega)))) hb
    obtain ⟨r0,r1,r2,r3,rz⟩:=cells4 R
    have rl:=Blk.lt R
    have HR:=LH R
    clear R
    clear hb
    go_wp2_with fail
    refine bodyPost_ret (v:=.tuple #[.agg #[.int .i64 0,.int .i64 0,.int .i64 0,.slice none 0 0],.int .i64 0,.int .i64 2]) (by simp [results,Tryz.results99,go_sem,r0,r1,r2,r3]) rfl (topEnd2_zero _ _ rfl ?_)
    repeat (first|with_reducible (first|exact HB.out|exact Below.refl _ _|apply Below.drew|apply below_alloc)|((first|with_reducible refine Below.alloc ?_ ?_ _|with_reducible refine Below.setCell ?_ ?_ _);rotate_left;focus (first|(simp <;> omega)|omega)))
   ·have h3:6291456≤id:=by omega
    clear h1
    go_enter Tryz.func99,Tryz.ntmps99
    go_wp2_with fail
    refine Calls.mono (check_yes ?_ HK.out HM.out) ?_
    ·exact T.out.below (by repeat (first|with_reducible (first|exact Below.refl _ _|apply Below.drew|apply below_alloc)|((first|with_reducible refine Below.alloc ?_ ?_ _|with_reducible refine Below.setCell ?_ ?_ _);rotate_left;focus (first|(simp <;> omega)|omega))))
    rintro e w2 ⟨rfl,hb⟩
    have HB:Hid (Below w.heap.size w _):=below_step (by repeat (first|with_reducible (first|exact Below.refl _ _|apply Below.drew|apply below_alloc)|((first|with_reducible refine Below.alloc ?_ ?_ _|with_reducible refine Below.setCell ?_ ?_ _);rotate_left;focus (first|(simp <;> omega)|omega)))) hb
    have R:Blk _ (w.heap.size+1) _ _:=Blk.step (by repeat (first|((with_reducible apply Blk.new);focus (first|rfl|(simp <;> omega)))|with_reducible (first|apply Blk.drew|apply Blk.alloc|apply Blk.set_)|((with_reducible apply Blk.far);rotate_left;focus (first|(simp <;> omega)|omega)))) hb
    obtain ⟨r0,r1,r2,r3,rz⟩:=cells4 R
    have rl:=Blk.lt R
    have HR:=LH R
    clear R
    clear hb
    go_wp2_with fail
    refine bodyPost_ret (v:=.tuple #[.agg #[.int .i64 0,.int .i64 0,.int .i64 0,.slice none 0 0],.int .i64 0,.int .i64 2]) (by simp [results,Tryz.results99,go_sem,r0,r1,r2,r3]) rfl (topEnd2_zero _ _ rfl ?_)
    repeat (first|with_reducible (first|exact HB.out|exact Below.refl _ _|apply Below.drew|apply below_alloc)|((first|with_reducible refine Below.alloc ?_ ?_ _|with_reducible refine Below.setCell ?_ ?_ _);rotate_left;focus (first|(simp <;> omega)|omega)))
  ·rw [if_neg h1] at hf
   have h1a:0≤id:=by omega
   have h1b:id < 6291456:=by omega
   clear h1
   by_cases h2:16 < k.size∨64 < b.size
   ·rw [if_pos h2] at hf
    cases hf
    have E:=fun w=>entry_no t.next id k b w (by omega)
    have HE:=LH E
    clear hm hs hk E h2
    go_enter Tryz.func99,Tryz.ntmps99
    go_wp2_with fail
    refine Calls.mono (check_yes ?_ HK.out HM.out) ?_
    ·exact T.out.below (by repeat (first|with_reducible (first|exact Below.refl _ _|apply Below.drew|apply below_alloc)|((first|with_reducible refine Below.alloc ?_ ?_ _|with_reducible refine Below.setCell ?_ ?_ _);rotate_left;focus (first|(simp <;> omega)|omega))))
    rintro e w2 ⟨rfl,hb⟩
    have HB:Hid (Below w.heap.size w _):=below_step (by repeat (first|with_reducible (first|exact Below.refl _ _|apply Below.drew|apply below_alloc)|((first|with_reducible refine Below.alloc ?_ ?_ _|with_reducible refine Below.setCell ?_ ?_ _);rotate_left;focus (first|(simp <;> omega)|omega)))) hb
    have R:Blk _ (w.heap.size+1) _ _:=Blk.step (by repeat (first|((with_reducible apply Blk.new);focus (first|rfl|(simp <;> omega)))|with_reducible (first|apply Blk.drew|apply Blk.alloc|apply Blk.set_)|((with_reducible apply Blk.far);rotate_left;focus (first|(simp <;> omega)|omega)))) hb
    obtain ⟨r0,r1,r2,r3,rz⟩:=cells4 R
    have rl:=Blk.lt R
    have HR:=LH R
    clear R
    have X:Blk _ (w.heap.size+2) _ _:=Blk.step (by repeat (first|((with_reducible apply Blk.new);focus (first|rfl|(simp <;> omega)))|with_reducible (first|apply Blk.drew|apply Blk.alloc|apply Blk.set_)|((with_reducible apply Blk.far);rotate_left;focus (first|(simp <;> omega)|omega)))) hb
    obtain ⟨x0,x1,x2,x3,xz⟩:=cells4 X
    have xl:=Blk.lt X
    have HX:=LH X
    clear X
    clear hb
    go_wp2_with fail
    refine (HE.out _).mono ?_
    rintro e w3 ⟨rfl,hb⟩
    replace HB:Hid (Below w.heap.size w _):=below_step (by repeat (first|with_reducible (first|exact HB.out|exact Below.refl _ _|apply Below.drew|apply below_alloc)|((first|with_reducible refine Below.alloc ?_ ?_ _|with_reducible refine Below.setCell ?_ ?_ _);rotate_left;focus (first|(simp <;> omega)|omega)))) hb
    clear r0 r1 r2 r3 rz rl
    replace HR:Hid (Blk _ (w.heap.size+1) _ _):=Blk.step (by repeat (first|with_reducible exact HR.out|((with_reducible apply Blk.new);focus (first|rfl|(simp <;> omega)))|with_reducible (first|apply Blk.drew|apply Blk.alloc|apply Blk.set_)|((with_reducible apply Blk.far);rotate_left;focus (first|(simp <;> omega)|omega)))) hb
    obtain ⟨r0,r1,r2,r3,rz⟩:=cells4 HR.out
    have rl:=Blk.lt HR.out
    clear hb
    go_wp2_with fail
    refine bodyPost_ret (v:=.tuple #[.agg #[.int .i64 0,.int .i64 0,.int .i64 0,.slice none 0 0],.int .i64 0,.int .i64 3]) (by simp [results,Tryz.results99,go_sem,r0,r1,r2,r3]) rfl (topEnd2_zero _ _ rfl ?_)
    repeat (first|with_reducible (first|exact HB.out|exact Below.refl _ _|apply Below.drew|apply below_alloc)|((first|with_reducible refine Below.alloc ?_ ?_ _|with_reducible refine Below.setCell ?_ ?_ _);rotate_left;focus (first|(simp <;> omega)|omega)))
   ·rw [if_neg h2] at hf
    have E:=fun w=>entry_yes t.next id k b w h1a h1b (by omega) (by omega)
    have HE:=LH E
    clear E h2
    by_cases h3:t.next=1073741824∨t.ents.length=200
    ·rw [if_pos h3] at hf
     cases hf
     have h4:(t.next == 1073741824)=true∨((t.next == 1073741824)=false∧((t.ents.length:Int) == 200)=true):=by
      by_cases h5:t.next=1073741824
      ·exact Or.inl (by simpa using h5)
      ·exact Or.inr ⟨by simpa using h5,by have:=h3.resolve_left h5;simp;omega⟩
     clear hm hs hk h3
     rcases h4 with h4|⟨h4,h5⟩
     all_goals
      go_enter Tryz.func99,Tryz.ntmps99
      go_wp2_with fail
      refine Calls.mono (check_yes ?_ HK.out HM.out) ?_
      ·exact T.out.below (by repeat (first|with_reducible (first|exact Below.refl _ _|apply Below.drew|apply below_alloc)|((first|with_reducible refine Below.alloc ?_ ?_ _|with_reducible refine Below.setCell ?_ ?_ _);rotate_left;focus (first|(simp <;> omega)|omega))))
      rintro e w2 ⟨rfl,hb⟩
      have HB:Hid (Below w.heap.size w _):=below_step (by repeat (first|with_reducible (first|exact Below.refl _ _|apply Below.drew|apply below_alloc)|((first|with_reducible refine Below.alloc ?_ ?_ _|with_reducible refine Below.setCell ?_ ?_ _);rotate_left;focus (first|(simp <;> omega)|omega)))) hb
      have A:Blk _ (w.heap.size) _ _:=Blk.step (by repeat (first|((with_reducible apply Blk.new);focus (first|rfl|(simp <;> omega)))|with_reducible (first|apply Blk.drew|apply Blk.alloc|apply Blk.set_)|((with_reducible apply Blk.far);rotate_left;focus (first|(simp <;> omega)|omega)))) hb
      obtain ⟨a0,a1,a2,a3,az⟩:=cells4 A
      have al:=Blk.lt A
      have HA:=LH A
      clear A
      have R:Blk _ (w.heap.size+1) _ _:=Blk.step (by repeat (first|((with_reducible apply Blk.new);focus (first|rfl|(simp <;> omega)))|with_reducible (first|apply Blk.drew|apply Blk.alloc|apply Blk.set_)|((with_reducible apply Blk.far);rotate_left;focus (first|(simp <;> omega)|omega)))) hb
      obtain ⟨r0,r1,r2,r3,rz⟩:=cells4 R
      have rl:=Blk.lt R
      have HR:=LH R
      clear R
      have X:Blk _ (w.heap.size+2) _ _:=Blk.step (by repeat (first|((with_reducible apply Blk.new);focus (first|rfl|(simp <;> omega)))|with_reducible (first|apply Blk.drew|apply Blk.alloc|apply Blk.set_)|((with_reducible apply Blk.far);rotate_left;focus (first|(simp <;> omega)|omega)))) hb
      obtain ⟨x0,x1,x2,x3,xz⟩:=cells4 X
      have xl:=Blk.lt X
      have HX:=LH X
      clear X
      clear hb
      go_wp2_with fail
      refine (HE.out _).mono ?_
      rintro e w3 ⟨rfl,hb⟩
      replace HB:Hid (Below w.heap.size w _):=below_step (by repeat (first|with_reducible (first|exact HB.out|exact Below.refl _ _|apply Below.drew|apply below_alloc)|((first|with_reducible refine Below.alloc ?_ ?_ _|with_reducible refine Below.setCell ?_ ?_ _);rotate_left;focus (first|(simp <;> omega)|omega)))) hb
      clear a0 a1 a2 a3 az al
      replace HA:Hid (Blk _ (w.heap.size) _ _):=Blk.step (by repeat (first|with_reducible exact HA.out|((with_reducible apply Blk.new);focus (first|rfl|(simp <;> omega)))|with_reducible (first|apply Blk.drew|apply Blk.alloc|apply Blk.set_)|((with_reducible apply Blk.far);rotate_left;focus (first|(simp <;> omega)|omega)))) hb
      obtain ⟨a0,a1,a2,a3,az⟩:=cells4 HA.out
      have al:=Blk.lt HA.out
      clear r0 r1 r2 r3 rz rl
      replace HR:Hid (Blk _ (w.heap.size+1) _ _):=Blk.step (by repeat (first|with_reducible exact HR.out|((with_reducible apply Blk.new);focus (first|rfl|(simp <;> omega)))|with_reducible (first|apply Blk.drew|apply Blk.alloc|apply Blk.set_)|((with_reducible apply Blk.far);rotate_left;focus (first|(simp <;> omega)|omega)))) hb
      obtain ⟨r0,r1,r2,r3,rz⟩:=cells4 HR.out
      have rl:=Blk.lt HR.out
      clear hb
      go_wp2_with fail
      refine bodyPost_ret (v:=.tuple #[.agg #[.int .i64 0,.int .i64 0,.int .i64 0,.slice none 0 0],.int .i64 0,.int .i64 9]) (by simp [results,Tryz.results99,go_sem,r0,r1,r2,r3]) rfl (topEnd2_zero _ _ rfl ?_)
      repeat (first|with_reducible (first|exact HB.out|exact Below.refl _ _|apply Below.drew|apply below_alloc)|((first|with_reducible refine Below.alloc ?_ ?_ _|with_reducible refine Below.setCell ?_ ?_ _);rotate_left;focus (first|(simp <;> omega)|omega)))
    ·rw [if_neg h3] at hf
     cases hf
     have h4:(t.next == 1073741824)=false:=by simp;omega
     have h5:((t.ents.length:Int) == 200)=false:=by simp;omega
     have HL2:=LH (show t.ents.length≤1000000 by have:=HL.out;omega)
     have n2:t.next < 1073741824:=by omega
     clear hm hs hk h3
     go_enter Tryz.func99,Tryz.ntmps99
     go_wp2_with fail
     refine Calls.mono (check_yes ?_ HK.out HM.out) ?_
     ·exact T.out.below (by repeat (first|with_reducible (first|exact Below.refl _ _|apply Below.drew|apply below_alloc)|((first|with_reducible refine Below.alloc ?_ ?_ _|with_reducible refine Below.setCell ?_ ?_ _);rotate_left;focus (first|(simp <;> omega)|omega))))
     rintro e w2 ⟨rfl,hb⟩
     have HB:Hid (Below w.heap.size w _):=below_step (by repeat (first|with_reducible (first|exact Below.refl _ _|apply Below.drew|apply below_alloc)|((first|with_reducible refine Below.alloc ?_ ?_ _|with_reducible refine Below.setCell ?_ ?_ _);rotate_left;focus (first|(simp <;> omega)|omega)))) hb
     have A:Blk _ (w.heap.size) _ _:=Blk.step (by repeat (first|((with_reducible apply Blk.new);focus (first|rfl|(simp <;> omega)))|with_reducible (first|apply Blk.drew|apply Blk.alloc|apply Blk.set_)|((with_reducible apply Blk.far);rotate_left;focus (first|(simp <;> omega)|omega)))) hb
     obtain ⟨a0,a1,a2,a3,az⟩:=cells4 A
     have al:=Blk.lt A
     have HA:=LH A
     clear A
     have R:Blk _ (w.heap.size+1) _ _:=Blk.step (by repeat (first|((with_reducible apply Blk.new);focus (first|rfl|(simp <;> omega)))|with_reducible (first|apply Blk.drew|apply Blk.alloc|apply Blk.set_)|((with_reducible apply Blk.far);rotate_left;focus (first|(simp <;> omega)|omega)))) hb
     obtain ⟨r0,r1,r2,r3,rz⟩:=cells4 R
     have rl:=Blk.lt R
     have HR:=LH R
     clear R
     have X:Blk _ (w.heap.size+2) _ _:=Blk.step (by repeat (first|((with_reducible apply Blk.new);focus (first|rfl|(simp <;> omega)))|with_reducible (first|apply Blk.drew|apply Blk.alloc|apply Blk.set_)|((with_reducible apply Blk.far);rotate_left;focus (first|(simp <;> omega)|omega)))) hb
     obtain ⟨x0,x1,x2,x3,xz⟩:=cells4 X
     have xl:=Blk.lt X
     have HX:=LH X
     clear X
     replace T:Hid (TopR _ _ _):=topR_step T.out (by repeat (first|with_reducible (first|exact Below.refl _ _|apply Below.drew|apply below_alloc)|((first|with_reducible refine Below.alloc ?_ ?_ _|with_reducible refine Below.setCell ?_ ?_ _);rotate_left;focus (first|(simp <;> omega)|omega)))) hb
     clear hb
     go_wp2_with fail
     refine (HE.out _).mono ?_
     rintro e w3 ⟨rfl,hb⟩
     replace HB:Hid (Below w.heap.size w _):=below_step (by repeat (first|with_reducible (first|exact HB.out|exact Below.refl _ _|apply Below.drew|apply below_alloc)|((first|with_reducible refine Below.alloc ?_ ?_ _|with_reducible refine Below.setCell ?_ ?_ _);rotate_left;focus (first|(simp <;> omega)|omega)))) hb
     clear a0 a1 a2 a3 az al
     replace HA:Hid (Blk _ (w.heap.size) _ _):=Blk.step (by repeat (first|with_reducible exact HA.out|((with_reducible apply Blk.new);focus (first|rfl|(simp <;> omega)))|with_reducible (first|apply Blk.drew|apply Blk.alloc|apply Blk.set_)|((with_reducible apply Blk.far);rotate_left;focus (first|(simp <;> omega)|omega)))) hb
     obtain ⟨a0,a1,a2,a3,az⟩:=cells4 HA.out
     have al:=Blk.lt HA.out
     clear r0 r1 r2 r3 rz rl
     replace HR:Hid (Blk _ (w.heap.size+1) _ _):=Blk.step (by repeat (first|with_reducible exact HR.out|((with_reducible apply Blk.new);focus (first|rfl|(simp <;> omega)))|with_reducible (first|apply Blk.drew|apply Blk.alloc|apply Blk.set_)|((with_reducible apply Blk.far);rotate_left;focus (first|(simp <;> omega)|omega)))) hb
     obtain ⟨r0,r1,r2,r3,rz⟩:=cells4 HR.out
     have rl:=Blk.lt HR.out
     clear x0 x1 x2 x3 xz xl
     replace HX:Hid (Blk _ (w.heap.size+2) _ _):=Blk.step (by repeat (first|with_reducible exact HX.out|((with_reducible apply Blk.new);focus (first|rfl|(simp <;> omega)))|with_reducible (first|apply Blk.drew|apply Blk.alloc|apply Blk.set_)|((with_reducible apply Blk.far);rotate_left;focus (first|(simp <;> omega)|omega)))) hb
     obtain ⟨x0,x1,x2,x3,xz⟩:=cells4 HX.out
     have xl:=Blk.lt HX.out
     replace T:Hid (TopR _ _ _):=topR_step T.out (by repeat (first|with_reducible (first|exact Below.refl _ _|apply Below.drew|apply below_alloc)|((first|with_reducible refine Below.alloc ?_ ?_ _|with_reducible refine Below.setCell ?_ ?_ _);rotate_left;focus (first|(simp <;> omega)|omega)))) hb
     clear hb
     go_wp2_with fail
     refine Calls.mono (topTwin_any ?_ HL2.out) ?_
     ·exact T.out.below (by repeat (first|with_reducible (first|exact Below.refl _ _|apply Below.drew|apply below_alloc)|((first|with_reducible refine Below.alloc ?_ ?_ _|with_reducible refine Below.setCell ?_ ?_ _);rotate_left;focus (first|(simp <;> omega)|omega))))
     rintro e w4 ⟨a4,cap4,rfl,o4,hb⟩
     have s4:w.heap.size+2 < w3.heap.size:=xl
     replace HB:Hid (Below w.heap.size w _):=below_step (by repeat (first|with_reducible (first|exact HB.out|exact Below.refl _ _|apply Below.drew|apply below_alloc)|((first|with_reducible refine Below.alloc ?_ ?_ _|with_reducible refine Below.setCell ?_ ?_ _);rotate_left;focus (first|(simp <;> omega)|omega)))) hb
     clear a0 a1 a2 a3 az al
     replace HA:Hid (Blk _ (w.heap.size) _ _):=Blk.step (by repeat (first|with_reducible exact HA.out|((with_reducible apply Blk.new);focus (first|rfl|(simp <;> omega)))|with_reducible (first|apply Blk.drew|apply Blk.alloc|apply Blk.set_)|((with_reducible apply Blk.far);rotate_left;focus (first|(simp <;> omega)|omega)))) hb
     obtain ⟨a0,a1,a2,a3,az⟩:=cells4 HA.out
     have al:=Blk.lt HA.out
     clear r0 r1 r2 r3 rz rl
     replace HR:Hid (Blk _ (w.heap.size+1) _ _):=Blk.step (by repeat (first|with_reducible exact HR.out|((with_reducible apply Blk.new);focus (first|rfl|(simp <;> omega)))|with_reducible (first|apply Blk.drew|apply Blk.alloc|apply Blk.set_)|((with_reducible apply Blk.far);rotate_left;focus (first|(simp <;> omega)|omega)))) hb
     obtain ⟨r0,r1,r2,r3,rz⟩:=cells4 HR.out
     have rl:=Blk.lt HR.out
     clear x0 x1 x2 x3 xz xl
     replace HX:Hid (Blk _ (w.heap.size+2) _ _):=Blk.step (by repeat (first|with_reducible exact HX.out|((with_reducible apply Blk.new);focus (first|rfl|(simp <;> omega)))|with_reducible (first|apply Blk.drew|apply Blk.alloc|apply Blk.set_)|((with_reducible apply Blk.far);rotate_left;focus (first|(simp <;> omega)|omega)))) hb
     obtain ⟨x0,x1,x2,x3,xz⟩:=cells4 HX.out
     have xl:=Blk.lt HX.out
     have O4:=LH o4
     have s5:w3.heap.size≤w4.heap.size:=hb.size
     clear hb o4 h4 h5
     go_wp2_with (at_builtin;go_must (refine wpList_append_own _ rfl _ _ 154 rfl w3.heap.size 215 i0 _ 4 48 Tryz.underlying154 hi hz0 hz1 hz2 rfl (by decide) _ _ _ rfl (own_alloc (own_set (own_set (own_set (own_set O4.out (by omega)) (by omega)) (by omega)) (by omega))) ⟨w4.heap.size,0,none⟩ 1 1 (entCells ⟨t.next,id,k,b⟩) rfl rfl ?_ (by intro v hv;simp [entCells] at hv;rcases hv with rfl|rfl|rfl|rfl <;> rfl) (by have:=HL.out;unfold maxLen;omega) (by have:=HL.out;omega) (by simp;omega) ?_))
     ·exact news_ent ⟨t.next,id,k,b⟩ (by simp)
     ·intro v' w5 hown hgrow _
      have OW:OwnE w5 w3.heap.size v' (t.ents++[⟨t.next,id,k,b⟩]):=by
       show w5.ownsRow _ _ _ _ _ _
       simpa [List.flatMap_append] using hown
      obtain ⟨a5,cap5,hv5⟩:=own_shape OW
      subst hv5
      have O5:=LH OW
      have HAA:Hid (Blk _ (w.heap.size) _ _):=Blk.grown (by repeat (first|with_reducible exact HA.out|((with_reducible apply Blk.new);focus (first|rfl|(simp <;> omega)))|with_reducible (first|apply Blk.drew|apply Blk.alloc|apply Blk.set_)|((with_reducible apply Blk.far);rotate_left;focus (first|(simp <;> omega)|omega)))) hgrow (own_ne O4.out (by omega))
      obtain ⟨aa0,aa1,aa2,aa3,aaz⟩:=cells4 HAA.out
      have aal:=Blk.lt HAA.out
      have HRR:Hid (Blk _ (w.heap.size+1) _ _):=Blk.grown (by repeat (first|with_reducible exact HR.out|((with_reducible apply Blk.new);focus (first|rfl|(simp <;> omega)))|with_reducible (first|apply Blk.drew|apply Blk.alloc|apply Blk.set_)|((with_reducible apply Blk.far);rotate_left;focus (first|(simp <;> omega)|omega)))) hgrow (own_ne O4.out (by omega))
      obtain ⟨rr0,rr1,rr2,rr3,rrz⟩:=cells4 HRR.out
      have rrl:=Blk.lt HRR.out
      have HXX:Hid (Blk _ (w.heap.size+2) _ _):=Blk.grown (by repeat (first|with_reducible exact HX.out|((with_reducible apply Blk.new);focus (first|rfl|(simp <;> omega)))|with_reducible (first|apply Blk.drew|apply Blk.alloc|apply Blk.set_)|((with_reducible apply Blk.far);rotate_left;focus (first|(simp <;> omega)|omega)))) hgrow (own_ne O4.out (by omega))
      obtain ⟨xx0,xx1,xx2,xx3,xxz⟩:=cells4 HXX.out
      have xxl:=Blk.lt HXX.out
      have HB5:Hid (Below w.heap.size w w5):=below_grown (by repeat (first|with_reducible (first|exact HB.out|exact Below.refl _ _|apply Below.drew|apply below_alloc)|((first|with_reducible refine Below.alloc ?_ ?_ _|with_reducible refine Below.setCell ?_ ?_ _);rotate_left;focus (first|(simp <;> omega)|omega)))) hgrow (own_alloc (own_set (own_set (own_set (own_set O4.out (by omega)) (by omega)) (by omega)) (by omega))) (by omega)
      have wn:IntKind.i64.wrap (t.next+1)=t.next+1:=IntWalk.i64_in _ (by omega)
      clear hown OW hgrow a0 a1 a2 a3 az r0 r1 r2 r3 rz x0 x1 x2 x3 xz
      go_wp2_with fail
      refine at_code (fun W=>Blk W w.heap.size 156 [.int .i64 t.base,.int .i64 (t.next+1),.int .i64 t.mark,.slice a5 (t.ents++[(⟨t.next,id,k,b⟩:Ent)]).length cap5]∧Blk W (w.heap.size+1) 156 [.int .i64 0,.int .i64 0,.int .i64 0,.slice none 0 0]∧Blk W (w.heap.size+2) 215 (entCells ⟨t.next,id,k,b⟩)∧Below w.heap.size w W∧OwnE W w3.heap.size (.slice a5 (t.ents++[(⟨t.next,id,k,b⟩:Ent)]).length cap5) (t.ents++[⟨t.next,id,k,b⟩])) ⟨?_,?_,?_,?_,?_⟩ ?_
      ·have h:=(HAA.out.set_ 3 (.slice a5 (t.ents++[(⟨t.next,id,k,b⟩:Ent)]).length cap5)).set_ 1 (.int .i64 (t.next+1))
       simpa using h
      ·repeat (first|with_reducible exact HRR.out|((with_reducible apply Blk.new);focus (first|rfl|(simp <;> omega)))|with_reducible (first|apply Blk.drew|apply Blk.alloc|apply Blk.set_)|((with_reducible apply Blk.far);rotate_left;focus (first|(simp <;> omega)|omega)))
      ·repeat (first|with_reducible exact HXX.out|((with_reducible apply Blk.new);focus (first|rfl|(simp <;> omega)))|with_reducible (first|apply Blk.drew|apply Blk.alloc|apply Blk.set_)|((with_reducible apply Blk.far);rotate_left;focus (first|(simp <;> omega)|omega)))
       exact HXX.out
      ·repeat (first|with_reducible (first|exact HB5.out|exact Below.refl _ _|apply Below.drew|apply below_alloc)|((first|with_reducible refine Below.alloc ?_ ?_ _|with_reducible refine Below.setCell ?_ ?_ _);rotate_left;focus (first|(simp <;> omega)|omega)))
      ·repeat (first|with_reducible (first|exact O5.out|apply own_drew|apply own_alloc)|((with_reducible apply own_set);rotate_left;focus (first|(simp <;> omega)|omega)))
      clear HAA HRR HXX HB5 O5 HA HR HX HB O4
      rintro W ⟨q1,q2,q3,q4,q5⟩
      obtain ⟨a0,a1,a2,a3,az⟩:=cells4 q1
      obtain ⟨r0,r1,r2,r3,rz⟩:=cells4 q2
      have x0:=q3.cell 0
      simp only [entCells,List.getElem?_cons_zero] at x0
      have Q4:=LH q4
      have Q5:=LH q5
      clear q1 q2 q3 q4 q5
      clear aa0 aa1 aa2 aa3 aaz rr0 rr1 rr2 rr3 rrz xx0 xx1 xx2 xx3 xxz T
      go_region_held3 (fun W=>W.cell? ⟨w.heap.size,0,none⟩=some (.int .i64 t.base)∧W.cell? ⟨w.heap.size,1,none⟩=some (.int .i64 (t.next+1))∧W.cell? ⟨w.heap.size,2,none⟩=some (.int .i64 t.mark) ∧
        W.cell? ⟨w.heap.size,3,none⟩=some (.slice a5 (t.ents++[(⟨t.next,id,k,b⟩:Ent)]).length cap5)∧W.cell? ⟨w.heap.size+2,0,none⟩=some (.int .i64 t.next)) (go_keep) (fail)
      go_wp2_with fail
      refine bodyPost_ret (v:=.tuple #[.agg #[.int .i64 t.base,.int .i64 (t.next+1),.int .i64 t.mark,.slice a5 (t.ents++[(⟨t.next,id,k,b⟩:Ent)]).length cap5],.int .i64 t.next,.int .i64 0]) (by simp [results,Tryz.results99,go_sem,r0,r1,r2,r3]) rfl ⟨a5,cap5,rfl,?_,?_⟩
      ·refine own_base (B:=w3.heap.size) ?_ (by omega)
       repeat (first|with_reducible (first|exact Q5.out|apply own_drew|apply own_alloc)|((with_reducible apply own_set);rotate_left;focus (first|(simp <;> omega)|omega)))
      ·repeat (first|with_reducible (first|exact Q4.out|exact Below.refl _ _|apply Below.drew|apply below_alloc)|((first|with_reducible refine Below.alloc ?_ ?_ _|with_reducible refine Below.setCell ?_ ?_ _);rotate_left;focus (first|(simp <;> omega)|omega)))
 ·have HM:=LH hm
  rw [addP,if_neg hm] at hf
  cases hf
  clear hm hs hk
  go_enter Tryz.func99,Tryz.ntmps99
  go_wp2_with fail
  refine Calls.mono (check_no ?_ HK.out HM.out) ?_
  ·exact T.out.below (by repeat (first|with_reducible (first|exact Below.refl _ _|apply Below.drew|apply below_alloc)|((first|with_reducible refine Below.alloc ?_ ?_ _|with_reducible refine Below.setCell ?_ ?_ _);rotate_left;focus (first|(simp <;> omega)|omega))))
  rintro e w2 ⟨rfl,hb⟩
  have HB:Hid (Below w.heap.size w _):=below_step (by repeat (first|with_reducible (first|exact Below.refl _ _|apply Below.drew|apply below_alloc)|((first|with_reducible refine Below.alloc ?_ ?_ _|with_reducible refine Below.setCell ?_ ?_ _);rotate_left;focus (first|(simp <;> omega)|omega)))) hb
  have R:Blk _ (w.heap.size+1) _ _:=Blk.step (by repeat (first|((with_reducible apply Blk.new);focus (first|rfl|(simp <;> omega)))|with_reducible (first|apply Blk.drew|apply Blk.alloc|apply Blk.set_)|((with_reducible apply Blk.far);rotate_left;focus (first|(simp <;> omega)|omega)))) hb
  obtain ⟨r0,r1,r2,r3,rz⟩:=cells4 R
  have rl:=Blk.lt R
  have HR:=LH R
  clear R
  clear hb
  go_wp2_with fail
  refine bodyPost_ret (v:=.tuple #[.agg #[.int .i64 0,.int .i64 0,.int .i64 0,.slice none 0 0],.int .i64 0,.int .i64 8]) (by simp [results,Tryz.results99,go_sem,r0,r1,r2,r3]) rfl (topEnd2_zero _ _ rfl ?_)
  repeat (first|with_reducible (first|exact HB.out|exact Below.refl _ _|apply Below.drew|apply below_alloc)|((first|with_reducible refine Below.alloc ?_ ?_ _|with_reducible refine Below.setCell ?_ ?_ _);rotate_left;focus (first|(simp <;> omega)|omega)))
end Go.Proofs.YtkkohllhebdlcaaGreatDoor
