/-
  The given statement TopSameOrder: of honest logs any two groups put what both put in the same order; its row, and the card that ties the one listed variable to the program's text. No condition of ours.
-/
import Derived.Test.YtkkohllhebdlcaaGreatDoorChecked
import Derived.Test.YtkkohllhebdlcaaGreatDoorRows
import Derived.Test.YtkkohllhebdlcaaGreatDoorCards
import Derived.Test.YtkkohllhebdlcaaGreatDoorTie
import Derived.Test.YtkkohllhebdlcaaGreatDoorY02
import Derived.Test.YtkkohllhebdlcaaGreatDoorY45
import Derived.ChangeMaps5
import Derived.LaidLaws
import Derived.LaidHandle
import Derived.Stop.Joined
import Derived.SevenTiedAt
namespace Go.Proofs.YtkkohllhebdlcaaGreatDoor.TopSameOrder
open Go.RowKit Go.ChangeShapes Go.WideShapes Go.ChangeAt Go.ChangeMaps
theorem cells_str:Tryz.prog.cellsOf 9=1:=by kernel_rfl
theorem cells_strs:Tryz.prog.cellsOf 43=1:=by kernel_rfl
theorem small_texts {m:List (List ByteArray)} (h:∀ l∈m,∀ s∈l,s.size≤reachBytes):∀ l∈m,∀ s∈l,s.size≤maxLen:=fun l hl s hs=>Nat.le_trans (h l hl s hs) (by unfold reachBytes maxLen;omega)
theorem own:ownKnob Tryz.prog.godebug=none:=by kernel_rfl
theorem gl_et:Tryz.prog.globalNamed "errors.errorType"=some 0:=by kernel_rfl
theorem gl_rt:(Tryz.prog.cutTypes.find? (·.1 == "internal/reflectlite.rtype")).map (·.2)=some 165:=by kernel_rfl
theorem gl_one:((List.range Tryz.prog.types.size).filter fun t=>Tryz.prog.rowNamed t [101,114,114,111,114])=[71]:=by kernel_rfl
theorem handle_of_laid {W:World} (h:laidMetH Tryz.prog Rows.topSameOrderRow.laid W):ErrTy W:=by
 have h':laidMet Tryz.prog [] W∧handlesMet Tryz.prog Rows.topSameOrderRow.laid W:=h
 obtain ⟨name,u,ty,e1,e2,e3,e4,e5⟩:=h'.2 _ (List.mem_singleton.2 rfl)
 have en:name=[101,114,114,111,114]:=(Option.some.inj e1).symm
 subst en
 obtain rfl:=Option.some.inj (gl_rt.symm.trans e2)
 have hm:ty∈(List.range Tryz.prog.types.size).filter fun t=>Tryz.prog.rowNamed t [101,114,114,111,114]:=List.mem_filter.2 ⟨List.mem_range.2 e3,e4⟩
 rw [gl_one] at hm
 obtain rfl:=List.mem_singleton.1 hm
 have hh:typeHandle Tryz.prog 71=.pointer (some ⟨1,71,none⟩):=by kernel_rfl
 rw [hh] at e5
 simpa [ErrTy] using World.var?_cell gl_et e5 0
noncomputable def laidWorld (os:Os):World :=
 let w0:=World.holding Tryz.prog os ⟨#[],#[],[]⟩
 { w0 with heap:=w0.heap.modify 0 fun
   |.cells _ t frozen=>.cells #[.iface 165 (.agg #[.pointer (some ⟨1,71,none⟩)])] t frozen
   |o=>o }
theorem laidWorld_met (os:Os) (args:Array Value):laidMetH Tryz.prog Rows.topSameOrderRow.laid ((laidWorld os).forCall (fun _ _=>0) ⟨#[],args,[]⟩).memory :=
 laidMetH_of_parts (laidMet_nil _ _) (by kernel_rfl)
set_option maxRecDepth 100000 in
set_option linter.unusedVariables false in
theorem lifted (os:Os) (started:os.Started) (H:Type) (enc:TypeId × Value→H) :
  ReturnsInHanded {} Tryz.checked os 3 .any (fun w args=>(Rows.topSameOrderSpec.pre enc Tryz.prog Tryz.f3 Rows.topSameOrderRow.domain false w args∧laidMetH Tryz.prog Rows.topSameOrderRow.laid w)∧sizedMet enc Tryz.prog Tryz.f3 (OpenSpec.ofChange Rows.topSameOrderSpec) false w args) (Rows.topSameOrderSpec.post enc Tryz.prog Tryz.f3 false true false false):=by
 refine returnsInHanded_of_change_and (C:=Tryz.checked) (X:=fun w _=>laidMetH Tryz.prog Rows.topSameOrderRow.laid w) (fun _ _ _ hh h=>h.of_heap hh) own started (by kernel_rfl) Tryz.func3
  (ChangeSpec.witness_at (enc:=enc) (C:=Tryz.checked) (os:=os) (X:=fun w _=>laidMetH Tryz.prog Rows.topSameOrderRow.laid w) false (laidWorld os) #[.slice none 0 0] 8 rfl (by kernel_rfl) (by kernel_rfl) (by kernel_rfl) (by kernel_rfl) (by kernel_rfl) (laidWorld_met os _)) ?_
 intro W base args ds gs before hval0 hW hcnd hsz0 hL hholds
 have HG:=handle_of_laid hL
 have hsz:(DataW.weightsEach Tryz.prog (Tryz.f3.params.toList++Rows.topSameOrderSpec.plain.varTypes Tryz.prog) (ds++gs)).all (·≤reachBytes)=true:=hsz0
 have hval:∀ (j:Nat) t v,Tryz.f3.params[j]?=some t→args[j]?=some v→Value.okWide Tryz.prog W .any base t v:=hval0
 have hW':=hW
 obtain ⟨p,q,hA0,hV,_,hfz,_⟩:=hW
 have hA:DataW.TrodAll enc Tryz.prog W 0 (fun _=>true) true Tryz.f3.params.toList args.toList ds p:=hA0
 rw [Tryz.params3] at hA hval hsz
 obtain ⟨v0,vs0,d0,ds0,p0,q0,hargs,rfl,rfl,h0,r0⟩:=trodAll_cons hA
 obtain ⟨rfl,rfl,rfl⟩:=trodAll_nil r0
 obtain rfl:args=#[v0]:=by cases args;simp_all
 obtain ⟨rfl,_⟩:=trodVars_none hV
 have hwt:∀ (j:Nat) (t:TypeId) (d:DataW H),(_:List TypeId)[j]?=some t→(_:List (DataW H))[j]?=some d→∀ n∈d.weights Tryz.prog t,n≤reachBytes:=fun j t d ht hd n hn=>by simpa using List.all_eq_true.1 hsz n (DataW.weights_mem_each ht hd n hn)
 obtain ⟨m0,R0,w0⟩:=open_logs (hval 0 _ v0 rfl rfl) h0 (hwt 0 _ _ rfl rfl) Tryz.underlying22 Tryz.underlying43 Tryz.underlying9 cells_strs cells_str
 refine (walk HG R0 (small_texts w0)).mono fun e W' ⟨he,hb⟩=>?_
 subst he
 exact ⟨_,rfl,law_post hW' rfl rfl rfl Tryz.underlying4 (by kernel_rfl) (by kernel_rfl) hb⟩
theorem over:Rows.topSameOrderRow.holds Tryz.pinned (OpenSpec.ofChange Rows.topSameOrderSpec) :=
 OpenClaim.holds_of_wide 3 Tryz.f3 rfl rfl rfl rfl rfl rfl rfl ⟨rfl,rfl,rfl,rfl,rfl⟩ rfl rfl rfl rfl rfl (by kernel_rfl) Tryz.func3 (by kernel_rfl)
  (of_decide_eq_true (by kernel_rfl)) (by unfold Func.isWrapper;rw [if_neg (of_decide_eq_false (by kernel_rfl))];exact ⟨rfl,rfl⟩)
  (fun os started H enc _=>lifted os started H enc)
theorem in_any:(Tryz.f3.params.toList.all fun t=>!Tryz.prog.wantsStandIn t)=true:=by kernel_rfl
theorem proved:Rows.TopSameOrderCardSaid :=
 Claim7.holds_tied_plain_at .later [] [.handle] true Rows.topSameOrderCard.stood.harness true
  over (fun _ h=>by cases h) (by kernel_rfl) (fun _ h=>by cases h) topSameOrder_row_tie rfl ⟨rfl,rfl⟩ (by kernel_rfl) rfl
  (fun f fn hf hfn=>by
   obtain rfl:f=3:=Option.some.inj ((show Tryz.prog.funcNamed "towncrier/towncriertop.TopSameOrder"=some 3 by kernel_rfl).symm.trans hf) |>.symm
   obtain rfl:fn=Tryz.f3:=(Option.some.inj (Tryz.func3.symm.trans hfn)).symm
   exact ⟨by kernel_rfl,fun j t ht=>by
    have hm:t∈Tryz.f3.params.toList:=Array.mem_toList_iff.2 (Array.mem_of_getElem? ht)
    have hw:Tryz.prog.wantsStandIn t=false:=by simpa using List.all_eq_true.1 in_any t hm
    exact hw⟩)
  (by kernel_rfl)
#print axioms proved
end Go.Proofs.YtkkohllhebdlcaaGreatDoor.TopSameOrder
