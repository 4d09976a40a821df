/-
  The given statement TopModel: a group's topics are, behind any log, what the plain model tells; its row, and the card that ties the one listed variable to the program's text. No condition of ours.
-/
import Derived.Test.YtdfmcgekfogpbabGreatDoorChecked
import Derived.Test.YtdfmcgekfogpbabGreatDoorRows
import Derived.Test.YtdfmcgekfogpbabGreatDoorCards
import Derived.Test.YtdfmcgekfogpbabGreatDoorTie
import Derived.Test.YtdfmcgekfogpbabGreatDoorY46
import Derived.ChangeMaps5
import Derived.LaidLaws
import Derived.LaidHandle
import Derived.Stop.Joined
import Derived.SevenTiedAt
namespace Go.Proofs.YtdfmcgekfogpbabGreatDoor.TopModel
open Go.RowKit Go.ChangeShapes Go.WideShapes Go.ChangeAt Go.ChangeMaps
theorem cells_str:Tryz.prog.cellsOf 9=1:=by kernel_rfl
theorem small_text {l:List ByteArray} (h:∀ s∈l,s.size≤reachBytes):∀ s∈l,s.size≤maxLen:=fun s hs=>Nat.le_trans (h s hs) (by unfold reachBytes maxLen;omega)
theorem own:ownKnob Tryz.prog.godebug=none:=by kernel_rfl
theorem gl_et:Tryz.prog.globalNamed "errors.errorType"=some 0:=by kernel_rfl
theorem gl_rt:(Tryz.prog.cutTypes.find? (·.1 == "internal/reflectlite.rtype")).map (·.2)=some 184:=by kernel_rfl
theorem gl_one:((List.range Tryz.prog.types.size).filter fun t=>Tryz.prog.rowNamed t [101,114,114,111,114])=[68]:=by kernel_rfl
theorem handle_of_laid {W:World} (h:laidMetH Tryz.prog Rows.topModelRow.laid W):ErrTy W:=by
 have h':laidMet Tryz.prog [] W∧handlesMet Tryz.prog Rows.topModelRow.laid W:=h
 obtain ⟨name,u,ty,e1,e2,e3,e4,e5⟩:=h'.2 _ (List.mem_singleton.2 rfl)
 have en:name=[101,114,114,111,114]:=(Option.some.inj e1).symm
 subst en
 obtain rfl:=Option.some.inj (gl_rt.symm.trans e2)
 have hm:ty∈(List.range Tryz.prog.types.size).filter fun t=>Tryz.prog.rowNamed t [101,114,114,111,114]:=List.mem_filter.2 ⟨List.mem_range.2 e3,e4⟩
 rw [gl_one] at hm
 obtain rfl:=List.mem_singleton.1 hm
 have hh:typeHandle Tryz.prog 68=.pointer (some ⟨1,68,none⟩):=by kernel_rfl
 rw [hh] at e5
 simpa [ErrTy] using World.var?_cell gl_et e5 0
noncomputable def laidWorld (os:Os):World :=
 let w0:=World.holding Tryz.prog os ⟨#[],#[],[]⟩
 { w0 with heap:=w0.heap.modify 0 fun
   |.cells _ t frozen=>.cells #[.iface 184 (.agg #[.pointer (some ⟨1,68,none⟩)])] t frozen
   |o=>o }
theorem laidWorld_met (os:Os) (args:Array Value):laidMetH Tryz.prog Rows.topModelRow.laid ((laidWorld os).forCall (fun _ _=>0) ⟨#[],args,[]⟩).memory :=
 laidMetH_of_parts (laidMet_nil _ _) (by kernel_rfl)
set_option maxRecDepth 100000 in
set_option linter.unusedVariables false in
theorem lifted (os:Os) (started:os.Started) (H:Type) (enc:TypeId × Value→H) :
  ReturnsInHanded {} Tryz.checked os 3 .any (fun w args=>(Rows.topModelSpec.pre enc Tryz.prog Tryz.f3 Rows.topModelRow.domain false w args∧laidMetH Tryz.prog Rows.topModelRow.laid w)∧sizedMet enc Tryz.prog Tryz.f3 (OpenSpec.ofChange Rows.topModelSpec) false w args) (Rows.topModelSpec.post enc Tryz.prog Tryz.f3 false true false false):=by
 refine returnsInHanded_of_change_and (C:=Tryz.checked) (X:=fun w _=>laidMetH Tryz.prog Rows.topModelRow.laid w) (fun _ _ _ hh h=>h.of_heap hh) own started (by kernel_rfl) Tryz.func3
  (ChangeSpec.witness_at (enc:=enc) (C:=Tryz.checked) (os:=os) (X:=fun w _=>laidMetH Tryz.prog Rows.topModelRow.laid w) false (laidWorld os) #[.int .i64 0,.slice none 0 0,.int .i64 0,.int .i64 0,.int .i64 0] 8 rfl (by kernel_rfl) (by kernel_rfl) (by kernel_rfl) (by kernel_rfl) (by kernel_rfl) (laidWorld_met os _)) ?_
 intro W base args ds gs before hval0 hW hcnd hsz0 hL hholds
 have HG:=handle_of_laid hL
 have hsz:(DataW.weightsEach Tryz.prog (Tryz.f3.params.toList++Rows.topModelSpec.plain.varTypes Tryz.prog) (ds++gs)).all (·≤reachBytes)=true:=hsz0
 have hval:∀ (j:Nat) t v,Tryz.f3.params[j]?=some t→args[j]?=some v→Value.okWide Tryz.prog W .any base t v:=hval0
 have hW':=hW
 obtain ⟨p,q,hA0,hV,_,hfz,_⟩:=hW
 have hA:DataW.TrodAll enc Tryz.prog W 0 (fun _=>true) true Tryz.f3.params.toList args.toList ds p:=hA0
 rw [Tryz.params3] at hA hval hsz
 obtain ⟨v0,vs0,d0,ds0,p0,q0,hargs,rfl,rfl,h0,r0⟩:=trodAll_cons hA
 obtain ⟨v1,vs1,d1,ds1,p1,q1,rfl,rfl,rfl,h1,r1⟩:=trodAll_cons r0
 obtain ⟨v2,vs2,d2,ds2,p2,q2,rfl,rfl,rfl,h2,r2⟩:=trodAll_cons r1
 obtain ⟨v3,vs3,d3,ds3,p3,q3,rfl,rfl,rfl,h3,r3⟩:=trodAll_cons r2
 obtain ⟨v4,vs4,d4,ds4,p4,q4,rfl,rfl,rfl,h4,r4⟩:=trodAll_cons r3
 obtain ⟨rfl,rfl,rfl⟩:=trodAll_nil r4
 obtain rfl:args=#[v0,v1,v2,v3,v4]:=by cases args;simp_all
 obtain ⟨rfl,_⟩:=trodVars_none hV
 have hwt:∀ (j:Nat) (t:TypeId) (d:DataW H),(_:List TypeId)[j]?=some t→(_:List (DataW H))[j]?=some d→∀ n∈d.weights Tryz.prog t,n≤reachBytes:=fun j t d ht hd n hn=>by simpa using List.all_eq_true.1 hsz n (DataW.weights_mem_each ht hd n hn)
 obtain ⟨a0,rfl,rfl,_,w0⟩:=open_int Tryz.underlying3 (hval 0 _ v0 rfl rfl) h0
 obtain ⟨l1,R1,w1⟩:=open_strings (hval 1 _ v1 rfl rfl) h1 (hwt 1 _ _ rfl rfl) Tryz.underlying22 Tryz.underlying9 cells_str
 obtain ⟨a2,rfl,rfl,_,w2⟩:=open_int Tryz.underlying3 (hval 2 _ v2 rfl rfl) h2
 obtain ⟨a3,rfl,rfl,_,w3⟩:=open_int Tryz.underlying3 (hval 3 _ v3 rfl rfl) h3
 obtain ⟨a4,rfl,rfl,_,w4⟩:=open_int Tryz.underlying3 (hval 4 _ v4 rfl rfl) h4
 refine (walk a0 a2 a3 a4 HG R1 (small_text w1)).mono fun e W' ⟨he,hb⟩=>?_
 subst he
 exact ⟨_,rfl,law_post hW' rfl rfl rfl Tryz.underlying4 (by kernel_rfl) (by kernel_rfl) hb⟩
theorem over:Rows.topModelRow.holds Tryz.pinned (OpenSpec.ofChange Rows.topModelSpec) :=
 OpenClaim.holds_of_wide 3 Tryz.f3 rfl rfl rfl rfl rfl rfl rfl ⟨rfl,rfl,rfl,rfl,rfl⟩ rfl rfl rfl rfl rfl (by kernel_rfl) Tryz.func3 (by kernel_rfl)
  (of_decide_eq_true (by kernel_rfl)) (by unfold Func.isWrapper;rw [if_neg (of_decide_eq_false (by kernel_rfl))];exact ⟨rfl,rfl⟩)
  (fun os started H enc _=>lifted os started H enc)
theorem in_any:(Tryz.f3.params.toList.all fun t=>!Tryz.prog.wantsStandIn t)=true:=by kernel_rfl
theorem proved:Rows.TopModelCardSaid :=
 Claim7.holds_tied_plain_at .later [] [.handle] true Rows.topModelCard.stood.harness true
  over (fun _ h=>by cases h) (by kernel_rfl) (fun _ h=>by cases h) topModel_row_tie rfl ⟨rfl,rfl⟩ (by kernel_rfl) rfl
  (fun f fn hf hfn=>by
   obtain rfl:f=3:=Option.some.inj ((show Tryz.prog.funcNamed "towncrier/towncriertop.TopModel"=some 3 by kernel_rfl).symm.trans hf) |>.symm
   obtain rfl:fn=Tryz.f3:=(Option.some.inj (Tryz.func3.symm.trans hfn)).symm
   exact ⟨by kernel_rfl,fun j t ht=>by
    have hm:t∈Tryz.f3.params.toList:=Array.mem_toList_iff.2 (Array.mem_of_getElem? ht)
    have hw:Tryz.prog.wantsStandIn t=false:=by simpa using List.all_eq_true.1 in_any t hm
    exact hw⟩)
  (by kernel_rfl)
#print axioms proved
end Go.Proofs.YtdfmcgekfogpbabGreatDoor.TopModel
