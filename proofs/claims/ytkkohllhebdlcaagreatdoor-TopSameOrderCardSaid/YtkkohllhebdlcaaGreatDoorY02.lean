/-
  Proved here: The frame of a law's row: a call that returns true and leaves all old 
-/
import Derived.Test.YtkkohllhebdlcaaGreatDoorY00
import Derived.WalkKit
import Derived.ProofKit
import Derived.OpenShut
import Derived.SizedLaws
set_option maxRecDepth 100000
namespace Go.Proofs.YtkkohllhebdlcaaGreatDoor
open Go.ChangeShapes Go.WideShapes Go.ChangeAt Go.RowKit
theorem trodAll_below {H:Type} {enc:TypeId × Value→H} {P:Program} (hl:laidOutB P=true) {W W':World} (hb:Below W.heap.size W W') :
  ∀ {ts:List TypeId} {vs:List Value} {ds:List (DataW H)} {ps:List MemPlace},(∀ t∈ts,P.readableRec t=true∧t < P.types.size) →
   DataW.TrodAll enc P W 0 (fun _=>true) true ts vs ds ps→(∀ x∈ps,x.block < W.heap.size)→DataW.TrodAll enc P W' 0 (fun b=>decide (b < W.heap.size)) true ts vs ds ps
 |[],[],[],_,_,h,_=>h
 |_ :: _,_ :: _,_ :: _,_,ht,⟨p,q,hd,hr,e⟩,hlt=>by
  subst e
  refine ⟨p,q,Below.trod hl (ht _ (List.mem_cons_self ..)).1 (ht _ (List.mem_cons_self ..)).2 hd hb (fun x hx=>hlt x (List.mem_append.2 (.inl hx))),?_,rfl⟩
  exact trodAll_below hl hb (fun t h=>ht t (List.mem_cons_of_mem _ h)) hr (fun x hx=>hlt x (List.mem_append.2 (.inr hx)))
 |[],_ :: _,_,_,_,h,_=>h.elim
 |[],[],_ :: _,_,_,h,_=>h.elim
 |_ :: _,[],_,_,_,h,_=>h.elim
 |_ :: _,_ :: _,[],_,_,h,_=>h.elim
theorem law_post {H:Type} {enc:TypeId × Value→H} {P:Program} {f:Func} {s:ChangeSpec} {W W':World} {args:Array Value} {ds gs:List (DataW H)} {before:List MemPlace} {tb:TypeId}
  (hW:DataW.Whole enc P f.params.toList s.vars false W args.toList ds gs before) (hv:s.vars=[]) (hs:s.fn H (ds++gs)={ results:=[.lit (.bool true)],args:=ds })
  (hrt:f.resultTypes=#[tb]) (htb:P.underlying tb=some .bool) (hl:laidOutB P=true) (hr:f.params.toList.all (fun t=>P.readableRec t && decide (t < P.types.size))=true)
  (hb:Below W.heap.size W W'):s.post enc P f false true false false W args (.bool true) W':=by
 have hlt:=fun x hx=>hW.lt x hx
 have hW0:=hW
 obtain ⟨p,q,hA,hV,he,hfz,_⟩:=hW0
 rw [hv] at hV
 have hq:q=[]:=by cases gs with
  |nil=>exact hV
  |cons _ _=>exact hV.elim
 subst hq
 rw [List.append_nil] at he
 subst he
 have hr':∀ t∈f.params.toList,P.readableRec t=true∧t < P.types.size:=fun t ht=>by
  have:=List.all_eq_true.1 hr t ht
  simpa using this
 refine ⟨ds,gs,before,[],before,[],hW,?_,?_,?_,hb.frame _,fun h=>by cases h⟩
 ·rw [hs,hrt]
  exact trodAll_cons_mk (shut_bool htb true) trodAll_mk0
 ·rw [hs]
  exact trodAll_below hl hb hr' hA hlt
 ·rw [hs,hv]
  exact rfl
end Go.Proofs.YtkkohllhebdlcaaGreatDoor
