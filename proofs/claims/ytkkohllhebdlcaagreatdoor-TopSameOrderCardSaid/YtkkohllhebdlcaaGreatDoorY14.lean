/-
  Proved here: stream.Check and what it calls: slices.ContainsFunc at topics, slices. Plain: what is read of a group's topics. No program in sight. stream.asked, Fetch, Committed, End. No condition but that the topics  keep.Trim where nothing is let go. No condition but that the topic rea
-/
import Derived.Test.YtkkohllhebdlcaaGreatDoorY05
import Derived.Test.YtkkohllhebdlcaaGreatDoorY10
import Derived.Laws.Small
set_option maxRecDepth 100000
set_option maxRecDepth 100000
namespace Go.Proofs.YtkkohllhebdlcaaGreatDoor
open Go.RowKit
def mayS (s:Str):Prop:=(s.tops.length=4∧(∀ t∈s.tops,t.may))∧okC s.coms=true∧∀ i,i < 4→∀ k,k < 8→((s.coms.getD i []).getD k 0)≤(s.tops.getD i default).next
instance (s:Str):Decidable (mayS s):=by unfold mayS;infer_instance
def strKeys (s:Str):Prop:=∀ t∈s.tops,∀ x∈t.ents,x.key.size≤maxLen
def topBad (t:Top):Bool:=!decide t.may
theorem topBad_any {v:Value} {t:Top} {w:World} (h:TopR w v t) (hk:∀ x∈t.ents,x.key.size≤maxLen) :
  Calls Tryz.prog 130 #[v] w fun e w'=>e=.returned (.bool (topBad t))∧Below w.heap.size w w':=by
 have T:=LH h
 have HK:=LH hk
 obtain ⟨a,cap,rfl,_⟩:=h
 clear hk
 by_cases hm:t.may
 ·have HM:=LH hm
  rw [topBad,decide_eq_true hm]
  clear hm
  go_enter Tryz.func130,Tryz.ntmps130
  go_wp2_with fail
  refine Calls.mono (check_yes ?_ HK.out HM.out) ?_
  ·exact T.out.below (by repeat (first|with_reducible (first|exact Below.refl _ _|apply Below.drew|apply below_alloc)|((first|with_reducible refine Below.alloc ?_ ?_ _|with_reducible refine Below.setCell ?_ ?_ _);rotate_left;focus (first|(simp <;> omega)|omega))))
  rintro e w2 ⟨rfl,hb⟩
  have HB:Hid (Below w.heap.size w _):=below_step (by repeat (first|with_reducible (first|exact Below.refl _ _|apply Below.drew|apply below_alloc)|((first|with_reducible refine Below.alloc ?_ ?_ _|with_reducible refine Below.setCell ?_ ?_ _);rotate_left;focus (first|(simp <;> omega)|omega)))) hb
  clear hb
  go_wp2_with fail
  go_ret
  exact ⟨rfl,HB.out⟩
 ·have HM:=LH hm
  rw [topBad,decide_eq_false hm]
  clear hm
  go_enter Tryz.func130,Tryz.ntmps130
  go_wp2_with fail
  refine Calls.mono (check_no ?_ HK.out HM.out) ?_
  ·exact T.out.below (by repeat (first|with_reducible (first|exact Below.refl _ _|apply Below.drew|apply below_alloc)|((first|with_reducible refine Below.alloc ?_ ?_ _|with_reducible refine Below.setCell ?_ ?_ _);rotate_left;focus (first|(simp <;> omega)|omega))))
  rintro e w2 ⟨rfl,hb⟩
  have HB:Hid (Below w.heap.size w _):=below_step (by repeat (first|with_reducible (first|exact Below.refl _ _|apply Below.drew|apply below_alloc)|((first|with_reducible refine Below.alloc ?_ ?_ _|with_reducible refine Below.setCell ?_ ?_ _);rotate_left;focus (first|(simp <;> omega)|omega)))) hb
  clear hb
  go_wp2_with fail
  go_ret
  exact ⟨rfl,HB.out⟩
def SomeTop (l:List Top) (w:World) (e:Ending) (w':World):Prop:=(∃ i:Int,e=.returned (.int .i64 i)∧(if l.any topBad then 0≤i else i=-1))∧Below w.heap.size w w'
set_option maxHeartbeats 1000000 in
set_option maxRecDepth 100000 in
theorem idxTop_any {v:Value} {l:List Top} {w:World} (h:TopsR w v l) (hk:∀ t∈l,∀ x∈t.ents,x.key.size≤maxLen) :
  Calls Tryz.prog 137 #[v,.func (.func 130) #[] #[]] w (SomeTop l w):=by
 have HK:=LH hk
 obtain ⟨a,cap,rfl,hcap,hm,_,hd⟩:=h.shape
 unfold maxLen at hm
 have HD:=LH hd
 obtain ⟨n,hn⟩:∃ n,n=l.length:=⟨_,rfl⟩
 rw [← hn] at HD hcap ⊢
 have HN:=LH hn
 have hn':(n:Int)≤9223372036854775807:=by omega
 clear hk hd h hn
 go_enter Tryz.func137,Tryz.ntmps137
 go_wp2_with fail
 go_loopg [5,8] n (fun g _ i wr=>∃ k:Nat,k≤n∧g=n - k∧i=.int .i64 (k:Int)∧Hid (∀ j,j < k→topBad (l.getD j default)=false)∧Hid (Below w.heap.size w wr))
 case atStart=>exact ⟨0,Nat.zero_le _,rfl,rfl,(fun j hj=>absurd hj (Nat.not_lt_zero _)),Below.refl _ _⟩
 case round =>
  obtain ⟨k,hk,rfl,rfl,hno,HB⟩:=hrel
  by_cases hlt:k < n
  ·have hk0:(0:Int)≤(k:Int):=by omega
   have hk1:(k:Int) < (n:Int):=by omega
   obtain ⟨bb,off,ha,hat⟩:=HD.out (by omega)
   subst ha
   obtain ⟨x,hx⟩:∃ x,x=l.getD k default:=⟨_,rfl⟩
   have hat2:=hat k hlt
   rw [← hx] at hat2
   obtain ⟨ea,ecap,⟨⟨⟨c0,c1⟩,c2⟩,c3⟩,hT⟩:=hat2.keep HB.out
   have T:=LH hT
   have HX:=LH hx
   have HKX:=LH (show ∀ y∈x.ents,y.key.size≤maxLen by
    have hkl:k < l.length:=by rw [← HN.out];exact hlt
    refine HK.out x ?_
    rw [hx,show l.getD k default=l[k] by simp [List.getD,hkl]]
    exact List.getElem_mem hkl)
   obtain ⟨q,hq⟩:∃ q,q=topBad x:=⟨_,rfl⟩
   have L:∀ W,TopR W (.agg #[.int .i64 x.base,.int .i64 x.next,.int .i64 x.mark,.slice ea x.ents.length ecap]) x→Calls Tryz.prog 130 #[.agg #[.int .i64 x.base,.int .i64 x.next,.int .i64 x.mark,.slice ea x.ents.length ecap]] W fun e w'=>e=.returned (.bool q)∧Below W.heap.size W w':=fun W hW=>by rw [hq];exact topBad_any hW HKX.out
   have HL:=LH L
   have HQ:=LH hq
   clear hat hat2 hT hx hq L
   cases q
   all_goals
    go_wp2_with fail
    refine Calls.mono (HL.out _ ?_) ?_
    ·exact T.out.below (by repeat (first|with_reducible (first|exact Below.refl _ _|apply Below.drew|apply below_alloc)|((first|with_reducible refine Below.alloc ?_ ?_ _|with_reducible refine Below.setCell ?_ ?_ _);rotate_left;focus (first|(simp <;> omega)|omega))))
    rintro e w1 ⟨rfl,hb⟩
    replace HB:Hid (Below w.heap.size w _):=below_step (by repeat (first|with_reducible (first|exact HB.out|exact Below.refl _ _|apply Below.drew|apply below_alloc)|((first|with_reducible refine Below.alloc ?_ ?_ _|with_reducible refine Below.setCell ?_ ?_ _);rotate_left;focus (first|(simp <;> omega)|omega)))) hb
    clear hb c0 c1 c2 c3
    go_wp2_with fail
   ·go_roundg (n - (k+1))
    case measure=>omega
    case rel =>
     refine ⟨k+1,by omega,rfl,by go_num,fun j hj=>?_,HB⟩
     by_cases hjk:j < k
     ·exact hno.out j hjk
     ·obtain rfl:j=k:=by omega
      rw [← HX.out,← HQ.out]
   ·go_ret
    refine ⟨⟨k,rfl,?_⟩,HB.out⟩
    have:l.any topBad=true:=by
     rw [List.any_eq_true]
     have h1:=HN.out
     refine ⟨x,?_,HQ.out.symm⟩
     rw [HX.out,show l.getD k default=l[k]'(by omega) by simp [List.getD,show k < l.length by omega]]
     exact List.getElem_mem _
    rw [if_pos this]
    omega
  ·obtain rfl:k=n:=by omega
   have hlt':¬ (k:Int) < (k:Int):=by omega
   go_wp2_with fail
   go_ret
   refine ⟨⟨-1,rfl,?_⟩,HB.out⟩
   have:l.any topBad=false:=by
    rw [List.any_eq_false]
    intro y hy
    obtain ⟨j,hj,rfl⟩:=List.getElem_of_mem hy
    have h1:=HN.out
    have h2:=hno.out j (by omega)
    simpa [List.getD,hj] using h2
   rw [this]
   rfl
theorem contTop_any {v:Value} {l:List Top} {w:World} (h:TopsR w v l) (hk:∀ t∈l,∀ x∈t.ents,x.key.size≤maxLen) :
  Calls Tryz.prog 131 #[v,.func (.func 130) #[] #[]] w fun e w'=>e=.returned (.bool (l.any topBad))∧Below w.heap.size w w':=by
 have K:=LH (idxTop_any h hk)
 obtain ⟨a,cap,rfl,_⟩:=h.shape
 obtain ⟨c,hc⟩:∃ c,c=l.any topBad:=⟨_,rfl⟩
 rw [← hc]
 have HC:=LH hc
 obtain ⟨n,hn⟩:∃ n,n=l.length:=⟨_,rfl⟩
 rw [← hn] at K ⊢
 clear hc h hk hn
 go_enter Tryz.func131,Tryz.ntmps131
 go_wp2_with fail
 refine K.out.mono ?_
 rintro e w1 ⟨⟨i,rfl,hi⟩,hb⟩
 rw [← HC.out] at hi
 cases c
 ·simp only [Bool.false_eq_true,if_false] at hi
  subst hi
  go_wp2_with fail
  go_ret
  exact ⟨rfl,hb⟩
 ·rw [if_pos rfl] at hi
  go_wp2_with fail
  go_ret
  exact ⟨rfl,hb⟩
def maxL (l:List Int):Int:=l.foldl max (l.getD 0 0)
theorem foldl_max (l:List Int):∀ a:Int,(a≤l.foldl max a∧∀ x∈l,x≤l.foldl max a)∧(l.foldl max a=a∨l.foldl max a∈l):=by
 induction l with
 |nil=>intro a;exact ⟨⟨Int.le_refl _,fun x hx=>by cases hx⟩,Or.inl rfl⟩
 |cons y l ih =>
  intro a
  obtain ⟨⟨h1,h2⟩,h3⟩:=ih (max a y)
  refine ⟨⟨by simp only [List.foldl_cons];omega,fun x hx=>?_⟩,?_⟩
  ·rcases List.mem_cons.1 hx with rfl|hx
   ·simp only [List.foldl_cons];omega
   ·exact h2 x hx
  ·simp only [List.foldl_cons]
   rcases h3 with h3|h3
   ·rw [h3]
    by_cases h:a≤y
    ·right;rw [show max a y=y by omega];exact List.mem_cons_self
    ·left;omega
   ·right;exact List.mem_cons_of_mem _ h3
theorem maxL_spec {l:List Int} (hl:0 < l.length):(∀ x∈l,x≤maxL l)∧maxL l∈l:=by
 obtain ⟨⟨_,h2⟩,h3⟩:=foldl_max l (l.getD 0 0)
 refine ⟨h2,?_⟩
 rcases h3 with h3|h3
 ·unfold maxL
  rw [h3,show l.getD 0 0=l[0] by simp [List.getD,hl]]
  exact List.getElem_mem _
 ·exact h3
theorem maxL_eq {l:List Int} {m:Int} (h1:∀ x∈l,x≤m) (h2:m∈l):m=maxL l:=by
 obtain ⟨h3,h4⟩:=maxL_spec (l:=l) (List.length_pos_of_mem h2)
 have:=h1 _ h4
 have:=h3 _ h2
 omega
def MaxEnd (l:List Int) (w:World) (e:Ending) (w':World):Prop:=e=.returned (.int .i64 (maxL l))∧w=w'
theorem maxInt_any {v:Value} {l:List Int} {w:World} (h:SliceR w v 1 intCell l) (hl:0 < l.length) :
  Calls Tryz.prog 133 #[v] w (MaxEnd l w):=by
 obtain ⟨a,cap,rfl,hcap,hm,_,hc⟩:=h.one (c:=fun n=>.int .i64 n) 0
 obtain ⟨b,off,rfl,hd⟩:=hc hl
 unfold maxLen at hm
 have HD:=LH hd
 have c0:=hd 0 hl
 rw [Nat.add_zero] at c0
 obtain ⟨n,hn⟩:∃ n,n=l.length:=⟨_,rfl⟩
 rw [← hn] at HD hcap hl ⊢
 have HN:=LH hn
 have hn':(n:Int)≤9223372036854775807:=by omega
 have hl':(0:Int) < (n:Int):=by omega
 have hl1:¬ (n:Int) < 1:=by omega
 obtain ⟨x0,hx0⟩:∃ x,x=l.getD 0 0:=⟨_,rfl⟩
 rw [← hx0] at c0
 have HX0:=LH hx0
 clear hc hd h hn hx0
 go_enter Tryz.func133,Tryz.ntmps133
 go_wp2_with fail
 go_loopg [3,4] (n - 1) (fun g m i wr=>∃ (k:Nat) (y:Int),1≤k∧k≤n∧g=n - k∧i=.int .i64 (k:Int)∧m=.int .i64 y∧Hid ((∀ j,j < k→l.getD j 0≤y)∧y∈l)∧wr=w)
 case atStart =>
  refine ⟨1,x0,Nat.le_refl _,hl,rfl,rfl,rfl,⟨fun j hj=>?_,?_⟩,rfl⟩
  ·obtain rfl:j=0:=by omega
   rw [HX0.out];exact Int.le_refl _
  ·have:=HN.out
   rw [HX0.out,show l.getD 0 0=l[0]'(by omega) by simp [List.getD,show 0 < l.length by omega]]
   exact List.getElem_mem _
 case round =>
  obtain ⟨k,y,h1k,hk,rfl,rfl,rfl,hy,rfl⟩:=hrel
  by_cases hlt:k < n
  ·have hk0:(0:Int)≤(k:Int):=by omega
   have hk1:(k:Int) < (n:Int):=by omega
   have cc:=HD.out k hlt
   obtain ⟨x,hx⟩:∃ x,x=l.getD k 0:=⟨_,rfl⟩
   rw [← hx] at cc
   have HX:=LH hx
   have HXM:Hid (x∈l):=by
    have hl2:=HN.out
    rw [hx,show l.getD k 0=l[k]'(by omega) by simp [List.getD,show k < l.length by omega]]
    exact LH (List.getElem_mem _)
   clear hx
   go_wp2_with fail
   all_goals
    go_roundg (n - (k+1))
    case measure=>omega
    case rel =>
     refine ⟨k+1,_,by omega,by omega,rfl,by go_num,rfl,⟨fun j hj=>?_,?_⟩,rfl⟩
     ·by_cases hjk:j < k
      ·have:=hy.out.1 j hjk;omega
      ·obtain rfl:j=k:=by omega
       rw [← HX.out];omega
     ·first
       |exact HXM.out
       |exact hy.out.2
       |(rcases Int.le_total y x with h|h
         ·rw [Int.max_eq_right h];exact HXM.out
         ·rw [Int.max_eq_left h];exact hy.out.2)
  ·obtain rfl:k=n:=by omega
   have hlt':¬ (k:Int) < (k:Int):=by omega
   go_wp2_with fail
   go_ret
   have e:y=maxL l:=maxL_eq (fun z hz=>?_) hy.out.2
   ·rw [e]
    exact ⟨rfl,rfl⟩
   obtain ⟨j,hj,rfl⟩:=List.getElem_of_mem hz
   have:=hy.out.1 j (by rw [HN.out];exact hj)
   simpa [List.getD,hj] using this
def rowIn (s:Str) (i:Nat):Bool:=decide (maxL (s.coms.getD i [])≤(s.tops.getD i default).next)
theorem mayS_iff {s:Str} (h4:s.tops.length=4) (hb:s.tops.any topBad=false) (hok:okC s.coms=true):mayS s↔∀ i,i < 4→rowIn s i=true:=by
 obtain ⟨hl,hr⟩:=okC_spec hok
 have hrow:∀ i,i < 4→(s.coms.getD i []).length=8:=fun i hi=>(hr _ (row_mem (by omega))).1
 have ht:∀ t∈s.tops,t.may:=fun t ht=>by
  have:=List.any_eq_false.1 hb t ht
  simpa [topBad] using this
 constructor
 ·intro h i hi
  obtain ⟨h1,h2⟩:=maxL_spec (l:=s.coms.getD i []) (by rw [hrow i hi];omega)
  obtain ⟨k,hk,e⟩:=List.getElem_of_mem h2
  have:=h.2.2 i hi k (by rw [← hrow i hi];exact hk)
  rw [rowIn,decide_eq_true_eq,← e]
  rwa [getD_lt hk] at this
 ·intro h
  refine ⟨⟨h4,ht⟩,hok,fun i hi k hk=>?_⟩
  have h0:=h i hi
  rw [rowIn,decide_eq_true_eq] at h0
  have hk2:k < (s.coms.getD i []).length:=by rw [hrow i hi];exact hk
  have:=(maxL_spec (l:=s.coms.getD i []) (by omega)).1 _ (num_mem hk2)
  omega
set_option maxHeartbeats 4000000 in
set_option maxRecDepth 100000 in
theorem strCheck_any {v:Value} {s:Str} {w:World} (h:StrR w v s) (hk:strKeys s) (c:Int) (hc:c=if mayS s then 0 else 8) :
  Calls Tryz.prog 119 #[v] w fun e w'=>e=.returned (.int .i64 c)∧Below w.heap.size w w':=by
 have HK:=LH hk
 have HCC:=LH hc
 have HS:=LH h
 obtain ⟨a,cap,b,nc,cc,rfl,hT,hR⟩:=h.shape
 have TT:=LH hT
 have RR:=LH hR
 obtain ⟨n,hn⟩:∃ n,n=s.tops.length:=⟨_,rfl⟩
 rw [← hn] at TT HS ⊢
 have HN:=LH hn
 clear hk hc hT hR hn h
 by_cases h4:n=4
 ·subst h4
  obtain ⟨q,hq⟩:∃ q,q=s.tops.any topBad:=⟨_,rfl⟩
  have HQ:=LH hq
  have L:=fun W (hW:TopsR W (.slice a 4 cap) s.tops)=>contTop_any hW HK.out
  rw [← hq] at L
  have HL:=LH L
  clear L hq
  cases q
  ·obtain ⟨d,hd⟩:∃ d,d=okC s.coms:=⟨_,rfl⟩
   have HD:=LH hd
   have M:=fun W (hW:RowsR W (.slice b nc cc) s.coms)=>comCheck_any hW
   rw [← hd] at M
   have HM:=LH M
   clear M hd
   cases d
   ·go_enter Tryz.func119,Tryz.ntmps119
    go_wp2_with fail
    refine Calls.mono (HL.out _ ?_) ?_
    ·exact TT.out.below (by repeat (first|with_reducible (first|exact Below.refl _ _|apply Below.drew|apply below_alloc)|((first|with_reducible refine Below.alloc ?_ ?_ _|with_reducible refine Below.setCell ?_ ?_ _);rotate_left;focus (first|(simp <;> omega)|omega))))
    rintro e w1 ⟨rfl,hb⟩
    have HB:Hid (Below w.heap.size w _):=below_step (by repeat (first|with_reducible (first|exact Below.refl _ _|apply Below.drew|apply below_alloc)|((first|with_reducible refine Below.alloc ?_ ?_ _|with_reducible refine Below.setCell ?_ ?_ _);rotate_left;focus (first|(simp <;> omega)|omega)))) hb
    have P:Blk _ (w.heap.size) _ _:=Blk.step (by repeat (first|((with_reducible apply Blk.new);focus (first|rfl|(simp <;> omega)))|with_reducible (first|apply Blk.drew|apply Blk.alloc|apply Blk.set_)|((with_reducible apply Blk.far);rotate_left;focus (first|(simp <;> omega)|omega)))) hb
    obtain ⟨p0,p1,pz⟩:=cells2 P
    have pl:=Blk.lt P
    have HP:=LH P
    clear P
    clear hb
    go_wp2_with fail
    refine Calls.mono (HM.out _ ?_) ?_
    ·exact RR.out.below (by repeat (first|with_reducible (first|exact HB.out|exact Below.refl _ _|apply Below.drew|apply below_alloc)|((first|with_reducible refine Below.alloc ?_ ?_ _|with_reducible refine Below.setCell ?_ ?_ _);rotate_left;focus (first|(simp <;> omega)|omega))))
    rintro e w2 ⟨rfl,hb⟩
    replace HB:Hid (Below w.heap.size w _):=below_step (by repeat (first|with_reducible (first|exact HB.out|exact Below.refl _ _|apply Below.drew|apply below_alloc)|((first|with_reducible refine Below.alloc ?_ ?_ _|with_reducible refine Below.setCell ?_ ?_ _);rotate_left;focus (first|(simp <;> omega)|omega)))) hb
    clear hb
    go_wp2_with fail
    go_ret
    refine ⟨?_,HB.out⟩
    rw [HCC.out,if_neg (fun hm=>by have:=hm.2.1;rw [← HD.out] at this;cases this)]
    rfl
   ·have M2:=HM.out
    simp only [if_true] at M2
    clear HM
    have HM:=LH M2
    clear M2
    have h4c:s.coms.length=4:=(okC_spec HD.out.symm).1
    obtain ⟨⟨hnc,hcap2,hmx2⟩,hrows⟩:=RR.out.at_
    obtain rfl:nc=4:=by omega
    obtain ⟨gr,ro,hbr,hrow⟩:=hrows (by omega)
    obtain ⟨_,hcapt,hmxt,_,htop⟩:∃ x:Unit,4≤cap∧cap≤maxLen∧True∧∃ g off,a=some ⟨g,off,none⟩∧∀ i,i < 4→TopAt w g (off+i * 4) (s.tops.getD i default):=by
     obtain ⟨a',cap',hv,h1,h2,_,h3⟩:=TT.out.shape
     rw [← HN.out] at hv h1 h3
     cases hv
     exact ⟨(),h1,h2,trivial,h3 (by omega)⟩
    obtain ⟨gt,tq,hbt,htop⟩:=htop
    subst hbr hbt
    have HROW:=LH hrow
    have HTOP:=LH htop
    unfold maxLen at hmx2 hmxt
    have HIFF:=LH (mayS_iff HN.out.symm HQ.out.symm HD.out.symm)
    have HR8:=LH (show ∀ i,i < 4→(s.coms.getD i []).length=8 from fun i hi=>((okC_spec HD.out.symm).2 _ (row_mem (by omega))).1)
    clear hrows hrow htop hnc h4c
    go_enter Tryz.func119,Tryz.ntmps119
    go_wp2_with fail
    refine Calls.mono (HL.out _ ?_) ?_
    ·exact TT.out.below (by repeat (first|with_reducible (first|exact Below.refl _ _|apply Below.drew|apply below_alloc)|((first|with_reducible refine Below.alloc ?_ ?_ _|with_reducible refine Below.setCell ?_ ?_ _);rotate_left;focus (first|(simp <;> omega)|omega))))
    rintro e w1 ⟨rfl,hb⟩
    have HB:Hid (Below w.heap.size w _):=below_step (by repeat (first|with_reducible (first|exact Below.refl _ _|apply Below.drew|apply below_alloc)|((first|with_reducible refine Below.alloc ?_ ?_ _|with_reducible refine Below.setCell ?_ ?_ _);rotate_left;focus (first|(simp <;> omega)|omega)))) hb
    have P:Blk _ (w.heap.size) _ _:=Blk.step (by repeat (first|((with_reducible apply Blk.new);focus (first|rfl|(simp <;> omega)))|with_reducible (first|apply Blk.drew|apply Blk.alloc|apply Blk.set_)|((with_reducible apply Blk.far);rotate_left;focus (first|(simp <;> omega)|omega)))) hb
    obtain ⟨p0,p1,pz⟩:=cells2 P
    have pl:=Blk.lt P
    have HP:=LH P
    clear P
    clear hb
    go_wp2_with fail
    refine Calls.mono (HM.out _ ?_) ?_
    ·exact RR.out.below (by repeat (first|with_reducible (first|exact HB.out|exact Below.refl _ _|apply Below.drew|apply below_alloc)|((first|with_reducible refine Below.alloc ?_ ?_ _|with_reducible refine Below.setCell ?_ ?_ _);rotate_left;focus (first|(simp <;> omega)|omega))))
    rintro e w2 ⟨rfl,hb⟩
    replace HB:Hid (Below w.heap.size w _):=below_step (by repeat (first|with_reducible (first|exact HB.out|exact Below.refl _ _|apply Below.drew|apply below_alloc)|((first|with_reducible refine Below.alloc ?_ ?_ _|with_reducible refine Below.setCell ?_ ?_ _);rotate_left;focus (first|(simp <;> omega)|omega)))) hb
    clear p0 p1 pz pl
    replace HP:Hid (Blk _ (w.heap.size) _ _):=Blk.step (by repeat (first|with_reducible exact HP.out|((with_reducible apply Blk.new);focus (first|rfl|(simp <;> omega)))|with_reducible (first|apply Blk.drew|apply Blk.alloc|apply Blk.set_)|((with_reducible apply Blk.far);rotate_left;focus (first|(simp <;> omega)|omega)))) hb
    obtain ⟨p0,p1,pz⟩:=cells2 HP.out
    have pl:=Blk.lt HP.out
    clear hb
    go_wp2_with fail
    go_loopg [25] 4 (fun g i wr=>∃ k:Nat,k≤4∧g=4 - k∧i=.int .i64 (k:Int)∧Hid (∀ j,j < k→rowIn s j=true)∧Hid (Below w.heap.size w wr)∧Hid (Blk wr w.heap.size 36 [.slice (some ⟨gt,tq,none⟩) 4 cap,.slice (some ⟨gr,ro,none⟩) 4 cc]))
    case atStart=>exact ⟨0,by omega,rfl,rfl,(fun j hj=>absurd hj (Nat.not_lt_zero _)),HB,HP⟩
    case round =>
     clear HB HP p0 p1 pz pl
     obtain ⟨k,hk,rfl,rfl,hall,HB,HP⟩:=hrel
     obtain ⟨p0,p1,pz⟩:=cells2 HP.out
     have pl:=HP.out.lt
     by_cases hlt:k < 4
     ·have hk0:(0:Int)≤(k:Int):=by omega
      have hk1:(k:Int) < 4:=by omega
      obtain ⟨ra,rcap,r0,hrs⟩:=(HROW.out k hlt).keep HB.out
      obtain ⟨ea,ecap,⟨⟨⟨_,c1⟩,_⟩,_⟩,_⟩:=(HTOP.out k hlt).keep HB.out
      rw [HR8.out k hlt] at r0 hrs
      have HRS:=LH hrs
      have hgt:gt < wr.heap.size:=World.block_lt_of_cell? wr _ c1
      have hgr:gr < wr.heap.size:=World.block_lt_of_cell? wr _ r0
      obtain ⟨mx,hmx⟩:∃ mx,mx=maxL (s.coms.getD k []):=⟨_,rfl⟩
      obtain ⟨nx,hnx⟩:∃ nx,nx=(s.tops.getD k default).next:=⟨_,rfl⟩
      rw [← hnx] at c1
      have HIN:=LH (show rowIn s k=decide (mx≤nx) by rw [hmx,hnx];rfl)
      have HMAX:=LH (show ∀ W,Below wr.heap.size wr W→Calls Tryz.prog 133 #[.slice ra 8 rcap] W fun e w'=>e=.returned (.int .i64 mx)∧Below W.heap.size W w' from fun W hW=>by
       rw [hmx]
       refine Calls.mono (maxInt_any (l:=s.coms.getD k []) ?_ (by rw [HR8.out k hlt];omega)) ?_
       ·exact hrs.below (fun _=>rfl) hW
       ·rintro e w' ⟨rfl,rfl⟩
        exact ⟨rfl,Below.refl _ _⟩)
      clear hrs hmx hnx
      by_cases hgt2:nx < mx
      ·have HGT:=LH hgt2
       go_wp2_with fail
       refine wp_region_below (by kernel_rfl) (by kernel_rfl) ?_
       repeat
        with_reducible refine wpQuiet_step (fun K hK=>?_)
        first
         |refine quiet_not (by rfl) (hK _ ?_)
         |refine quiet_any (by rfl) ?_
          apply Exists.intro
          refine ⟨fun wq hq=>?_,hK _ ?_⟩
          ·obtain ⟨qc,_⟩:=bcell hq.out
           go_simp
           first
            |done
            |(with_reducible rfl)
            |((go_at_call 133;exact call_in hq.out (HMAX.out _ hq.out)))
        clear hK K
        simp only [Act.put,List.setIfInBounds_toArray,List.set_cons_zero,List.set_cons_succ]
       refine wpQuiet_nil ?_
       rintro w4 hb
       replace HB:Hid (Below w.heap.size w _):=below_step (by repeat (first|with_reducible (first|exact HB.out|exact Below.refl _ _|apply Below.drew|apply below_alloc)|((first|with_reducible refine Below.alloc ?_ ?_ _|with_reducible refine Below.setCell ?_ ?_ _);rotate_left;focus (first|(simp <;> omega)|omega)))) hb
       clear hb
       go_wp2_with fail
       go_ret
       refine ⟨?_,HB.out⟩
       rw [HCC.out,if_neg (fun hm=>by have h0:=HIFF.out.1 hm k hlt;rw [HIN.out,decide_eq_true_eq] at h0;have:=HGT.out;omega)]
       rfl
      ·have HGT:=LH hgt2
       go_wp2_with fail
       refine wp_region_below (by kernel_rfl) (by kernel_rfl) ?_
       repeat
        with_reducible refine wpQuiet_step (fun K hK=>?_)
        first
         |refine quiet_not (by rfl) (hK _ ?_)
         |refine quiet_any (by rfl) ?_
          apply Exists.intro
          refine ⟨fun wq hq=>?_,hK _ ?_⟩
          ·obtain ⟨qc,_⟩:=bcell hq.out
           go_simp
           first
            |done
            |(with_reducible rfl)
            |((go_at_call 133;exact call_in hq.out (HMAX.out _ hq.out)))
        clear hK K
        simp only [Act.put,List.setIfInBounds_toArray,List.set_cons_zero,List.set_cons_succ]
       refine wpQuiet_nil ?_
       rintro w4 hb
       replace HB:Hid (Below w.heap.size w _):=below_step (by repeat (first|with_reducible (first|exact HB.out|exact Below.refl _ _|apply Below.drew|apply below_alloc)|((first|with_reducible refine Below.alloc ?_ ?_ _|with_reducible refine Below.setCell ?_ ?_ _);rotate_left;focus (first|(simp <;> omega)|omega)))) hb
       clear p0 p1 pz pl
       replace HP:Hid (Blk _ (w.heap.size) _ _):=Blk.step (by repeat (first|with_reducible exact HP.out|((with_reducible apply Blk.new);focus (first|rfl|(simp <;> omega)))|with_reducible (first|apply Blk.drew|apply Blk.alloc|apply Blk.set_)|((with_reducible apply Blk.far);rotate_left;focus (first|(simp <;> omega)|omega)))) hb
       obtain ⟨p0,p1,pz⟩:=cells2 HP.out
       have pl:=Blk.lt HP.out
       clear hb
       go_wp2_with fail
       go_roundg (4 - (k+1))
       case measure=>omega
       case rel =>
        refine ⟨k+1,by omega,rfl,by go_num,fun j hj=>?_,HB,HP⟩
        by_cases hjk:j < k
        ·exact hall.out j hjk
        ·obtain rfl:j=k:=by omega
         rw [HIN.out,decide_eq_true_eq]
         have:=HGT.out
         omega
     ·obtain rfl:k=4:=by omega
      go_wp2_with fail
      go_ret
      refine ⟨?_,HB.out⟩
      rw [HCC.out,if_pos (HIFF.out.2 hall.out)]
      rfl
  ·go_enter Tryz.func119,Tryz.ntmps119
   go_wp2_with fail
   refine Calls.mono (HL.out _ ?_) ?_
   ·exact TT.out.below (by repeat (first|with_reducible (first|exact Below.refl _ _|apply Below.drew|apply below_alloc)|((first|with_reducible refine Below.alloc ?_ ?_ _|with_reducible refine Below.setCell ?_ ?_ _);rotate_left;focus (first|(simp <;> omega)|omega))))
   rintro e w1 ⟨rfl,hb⟩
   have HB:Hid (Below w.heap.size w _):=below_step (by repeat (first|with_reducible (first|exact Below.refl _ _|apply Below.drew|apply below_alloc)|((first|with_reducible refine Below.alloc ?_ ?_ _|with_reducible refine Below.setCell ?_ ?_ _);rotate_left;focus (first|(simp <;> omega)|omega)))) hb
   clear hb
   go_wp2_with fail
   go_ret
   refine ⟨?_,HB.out⟩
   have hm:¬ mayS s:=fun hm=>by
    obtain ⟨t,ht,hb⟩:=List.any_eq_true.1 HQ.out.symm
    have:=hm.1.2 t ht
    simp [topBad,this] at hb
   rw [HCC.out,if_neg hm]
   rfl
 ·have hd:((n:Int) != 4)=true:=by simp;omega
  have hm:¬ mayS s:=fun hm=>h4 (by rw [HN.out];exact hm.1.1)
  have HM:=LH hm
  clear hm h4
  go_enter Tryz.func119,Tryz.ntmps119
  go_wp2_with fail
  go_ret
  refine ⟨by rw [HCC.out,if_neg HM.out];rfl,?_⟩
  repeat (first|with_reducible (first|exact Below.refl _ _|apply Below.drew|apply below_alloc)|((first|with_reducible refine Below.alloc ?_ ?_ _|with_reducible refine Below.setCell ?_ ?_ _);rotate_left;focus (first|(simp <;> omega)|omega)))
end Go.Proofs.YtkkohllhebdlcaaGreatDoor
set_option maxRecDepth 100000
namespace Go.Proofs.YtkkohllhebdlcaaGreatDoor
open Go.RowKit
def askS (s:Str) (n:Int):Int:=if mayS s then (if 0≤n∧n < 4 then 0 else 2) else 8
def topN (s:Str) (n:Int):Top:=s.tops.getD n.toNat default
theorem askS_zero {s:Str} {n:Int}:askS s n=0↔mayS s∧0≤n∧n < 4:=by
 unfold askS
 by_cases h:mayS s
 ·by_cases h2:0≤n∧n < 4
  ·simp [h,h2]
  ·rw [if_pos h,if_neg h2];simp [h];omega
 ·rw [if_neg h];simp [h]
theorem topN_mem {s:Str} {n:Int} (h:mayS s) (h0:0≤n) (h1:n < 4):topN s n∈s.tops:=by
 have:=h.1.1
 rw [topN,getD_lt (show n.toNat < s.tops.length by omega)]
 exact List.getElem_mem _
theorem keysS_of_may {s:Str} (h:mayS s):strKeys s:=fun t ht x hx=>by
 have hm:=h.1.2 t ht
 obtain ⟨i,hi,rfl⟩:=List.getElem_of_mem hx
 have:=(hm.2.1 i hi).1.2.2.1
 rw [getD_at hi] at this
 exact Nat.le_trans this (by unfold maxLen;omega)
theorem StrR.top {w:World} {a:Option Addr} {n cap:Nat} {l:List Top} (h:TopsR w (.slice a n cap) l) {i:Int} (h0:0≤i) (h1:i < (l.length:Int)) :
  (n=l.length∧n≤cap∧cap≤maxLen)∧∃ b off,a=some ⟨b,off,none⟩∧TopAt w b (off+i.toNat * 4) (l.getD i.toNat default):=by
 obtain ⟨a',cap',hv,h2,h3,_,hd⟩:=h.shape
 cases hv
 obtain ⟨b,off,rfl,hd2⟩:=hd (by omega)
 exact ⟨⟨rfl,h2,h3⟩,b,off,rfl,hd2 _ (by omega)⟩
theorem strAsked_any {v:Value} {s:Str} {w:World} {c:Int} (n:Int) (h:StrR w v s) (hk:strKeys s) (hc:askS s n=c) :
  Calls Tryz.prog 94 #[v,.int .i64 n] w fun e w'=>e=.returned (.int .i64 c)∧Below w.heap.size w w':=by
 have HS:=LH h
 have HK:=LH hk
 obtain ⟨a,cap,b,nc,cc,rfl,_,_⟩:=h.shape
 obtain ⟨d,hd⟩:∃ d:Int,d=if mayS s then 0 else 8:=⟨_,rfl⟩
 have HD:=LH hd
 have hall:(d=8∧c=8)∨(d=0∧((n < 0∧c=2)∨(0≤n∧4≤n∧c=2)∨(0≤n∧n < 4∧c=0))):=by
  subst hc
  unfold askS
  by_cases hm:mayS s
  ·rw [if_pos hm] at hd ⊢
   refine Or.inr ⟨hd,?_⟩
   split <;> omega
  ·rw [if_neg hm] at hd ⊢
   exact Or.inl ⟨hd,rfl⟩
 clear h hk hc hd
 obtain ⟨nt,hnt⟩:∃ nt,nt=s.tops.length:=⟨_,rfl⟩
 rw [← hnt] at HS ⊢
 clear hnt
 rcases hall with ⟨rfl,rfl⟩|⟨rfl,(⟨h1,rfl⟩|⟨h1,h2,rfl⟩|⟨h1,h2,rfl⟩)⟩
 all_goals
  go_enter Tryz.func94,Tryz.ntmps94
  go_wp2_with fail
  refine Calls.mono (strCheck_any ?_ HK.out _ HD.out) ?_
  ·exact HS.out.below (by repeat (first|with_reducible (first|exact Below.refl _ _|apply Below.drew|apply below_alloc)|((first|with_reducible refine Below.alloc ?_ ?_ _|with_reducible refine Below.setCell ?_ ?_ _);rotate_left;focus (first|(simp <;> omega)|omega))))
  rintro e w1 ⟨rfl,hb⟩
  have HB:Hid (Below w.heap.size w _):=below_step (by repeat (first|with_reducible (first|exact Below.refl _ _|apply Below.drew|apply below_alloc)|((first|with_reducible refine Below.alloc ?_ ?_ _|with_reducible refine Below.setCell ?_ ?_ _);rotate_left;focus (first|(simp <;> omega)|omega)))) hb
  clear hb
  go_wp2_with fail
  go_ret
  exact ⟨rfl,HB.out⟩
def noTop:Value:=.agg #[.int .i64 0,.int .i64 0,.int .i64 0,.slice none 0 0]
set_option maxHeartbeats 1000000 in
set_option maxRecDepth 100000 in
theorem trim_bad {v:Value} {t:Top} {w:World} (tq:Int) (h:TopR w v t) (hk:∀ x∈t.ents,x.key.size≤maxLen) (hm:¬ t.may) :
  Calls Tryz.prog 96 #[v,.int .i64 tq] w fun e w'=>e=.returned (.tuple #[noTop,.int .i64 8])∧Below w.heap.size w w':=by
 have hb0:∀ o o':Obj,Below w.heap.size w ((w.alloc o).alloc o'):=fun o o'=>((Below.refl _ _).alloc (Nat.le_refl _) o).alloc (by simp) o'
 have K:=fun (o o':Obj)=>check_no (h.below (hb0 o o')) hk hm
 have HK:=LH K
 have HB:=LH hb0
 obtain ⟨a,cap,rfl,_⟩:=h
 clear K hb0 hk hm
 go_enter Tryz.func96,Tryz.ntmps96
 go_wp2_with fail
 refine (HK.out _ _).mono ?_
 rintro e w2 ⟨rfl,hb⟩
 have HB2:=LH ((HB.out _ _).trans (hb.mono (by simp;omega)))
 have r0:=keep hb (a:=⟨w.heap.size+1,0,none⟩) (v:=.int .i64 0) (by go_simp)
 have r1:=keep hb (a:=⟨w.heap.size+1,1,none⟩) (v:=.int .i64 0) (by go_simp)
 have r2:=keep hb (a:=⟨w.heap.size+1,2,none⟩) (v:=.int .i64 0) (by go_simp)
 have r3:=keep hb (a:=⟨w.heap.size+1,3,none⟩) (v:=.slice none 0 0) (by go_simp)
 have q0:w2.frozen? ⟨w.heap.size+1,0,none⟩=false:=by rw [hb.frozen (p:=⟨w.heap.size+1,0,none⟩) (by simp)];go_simp
 have q1:w2.frozen? ⟨w.heap.size+1,1,none⟩=false:=by rw [hb.frozen (p:=⟨w.heap.size+1,1,none⟩) (by simp)];go_simp
 have q2:w2.frozen? ⟨w.heap.size+1,2,none⟩=false:=by rw [hb.frozen (p:=⟨w.heap.size+1,2,none⟩) (by simp)];go_simp
 have q3:w2.frozen? ⟨w.heap.size+1,3,none⟩=false:=by rw [hb.frozen (p:=⟨w.heap.size+1,3,none⟩) (by simp)];go_simp
 clear hb
 go_wp2_with fail
 refine bodyPost_ret (v:=.tuple #[noTop,.int .i64 8]) (by simp [noTop,results,Tryz.results96,go_sem,r0,r1,r2,r3]) rfl ⟨rfl,?_⟩
 exact (((HB2.out.setCell (p:=⟨w.heap.size+1,0,none⟩) (Nat.le_succ _) _).setCell (p:=⟨w.heap.size+1,1,none⟩) (Nat.le_succ _) _).setCell (p:=⟨w.heap.size+1,2,none⟩) (Nat.le_succ _) _).setCell (p:=⟨w.heap.size+1,3,none⟩) (Nat.le_succ _) _
set_option maxHeartbeats 1000000 in
set_option maxRecDepth 100000 in
theorem trim_arg {v:Value} {t:Top} {w:World} (tq:Int) (h:TopR w v t) (hk:∀ x∈t.ents,x.key.size≤maxLen) (hm:t.may) (hto:tq < 0∨1073741824 < tq) :
  Calls Tryz.prog 96 #[v,.int .i64 tq] w fun e w'=>e=.returned (.tuple #[noTop,.int .i64 2])∧Below w.heap.size w w':=by
 have hb0:∀ o o':Obj,Below w.heap.size w ((w.alloc o).alloc o'):=fun o o'=>((Below.refl _ _).alloc (Nat.le_refl _) o).alloc (by simp) o'
 have K:=fun (o o':Obj)=>check_yes (h.below (hb0 o o')) hk hm
 have HK:=LH K
 have HB:=LH hb0
 obtain ⟨a,cap,rfl,_⟩:=h
 clear K hb0 hk hm
 rcases hto with hto|hto
 all_goals
  go_enter Tryz.func96,Tryz.ntmps96
  go_wp2_with fail
  refine (HK.out _ _).mono ?_
  rintro e w2 ⟨rfl,hb⟩
  have HB2:=LH ((HB.out _ _).trans (hb.mono (by simp;omega)))
  have r0:=keep hb (a:=⟨w.heap.size+1,0,none⟩) (v:=.int .i64 0) (by go_simp)
  have r1:=keep hb (a:=⟨w.heap.size+1,1,none⟩) (v:=.int .i64 0) (by go_simp)
  have r2:=keep hb (a:=⟨w.heap.size+1,2,none⟩) (v:=.int .i64 0) (by go_simp)
  have r3:=keep hb (a:=⟨w.heap.size+1,3,none⟩) (v:=.slice none 0 0) (by go_simp)
  have q0:w2.frozen? ⟨w.heap.size+1,0,none⟩=false:=by rw [hb.frozen (p:=⟨w.heap.size+1,0,none⟩) (by simp)];go_simp
  have q1:w2.frozen? ⟨w.heap.size+1,1,none⟩=false:=by rw [hb.frozen (p:=⟨w.heap.size+1,1,none⟩) (by simp)];go_simp
  have q2:w2.frozen? ⟨w.heap.size+1,2,none⟩=false:=by rw [hb.frozen (p:=⟨w.heap.size+1,2,none⟩) (by simp)];go_simp
  have q3:w2.frozen? ⟨w.heap.size+1,3,none⟩=false:=by rw [hb.frozen (p:=⟨w.heap.size+1,3,none⟩) (by simp)];go_simp
  clear hb
  go_wp2_with fail
  refine bodyPost_ret (v:=.tuple #[noTop,.int .i64 2]) (by simp [noTop,results,Tryz.results96,go_sem,r0,r1,r2,r3]) rfl ⟨rfl,?_⟩
  exact (((HB2.out.setCell (p:=⟨w.heap.size+1,0,none⟩) (Nat.le_succ _) _).setCell (p:=⟨w.heap.size+1,1,none⟩) (Nat.le_succ _) _).setCell (p:=⟨w.heap.size+1,2,none⟩) (Nat.le_succ _) _).setCell (p:=⟨w.heap.size+1,3,none⟩) (Nat.le_succ _) _
end Go.Proofs.YtkkohllhebdlcaaGreatDoor
