/-
  Proved here: errors.As at what a group's step returns, its target a variable for th
-/
import Derived.Test.YtdfmcgekfogpbabGreatDoorY05
set_option maxRecDepth 100000
namespace Go.Proofs.YtdfmcgekfogpbabGreatDoor
open Go.RowKit Go.Extern.Stop Go.Stop Go.Extern
theorem asValueOfP (t:Addr) (w:World):(ReflectliteValue.unpack (.iface 120 (.pointer (some t)))).run Tryz.prog w
  = .ok (.agg #[.pointer (some ⟨1,120,none⟩),.pointer (some ⟨w.heap.size,0,none⟩),.int .u64 150]) (w.alloc (.cells #[.pointer (some t)] 120)):=by kernel_rfl
theorem asTypeP (a:Addr) (w:World):(ReflectliteValue.methodAny (ReflectliteValue.valueError "reflectlite.Value.Type" 0) (fun t _ _ _=>ReflectliteType.toType t) #[.agg #[.pointer (some ⟨1,120,none⟩),.pointer (some a),.int .u64 150]]).run Tryz.prog w
  = .ok (.iface 184 (.agg #[.pointer (some ⟨1,120,none⟩)])) w:=by kernel_rfl
theorem asMethodKind (h:Value) (w:World):(Go.method 403 184 (.agg #[h]) "Kind").run Tryz.prog w=.ok (174,h) w:=by kernel_rfl
theorem asKindP (w:World):((ReflectliteType.abiMethod fun t=>(fun a:Nat=>Value.int IntKind.u8 (a:Int)) <$> Rtype.kind t) #[.pointer (some ⟨1,120,none⟩)]).run Tryz.prog w=.ok (.int .u8 22) w:=by kernel_rfl
theorem asKindW (w:World):((ReflectliteType.abiMethod fun t=>(fun a:Nat=>Value.int IntKind.u8 (a:Int)) <$> Rtype.kind t) #[.pointer (some ⟨1,83,none⟩)]).run Tryz.prog w=.ok (.int .u8 25) w:=by kernel_rfl
theorem rlm (z:Sem Value) (f:TypeId→Addr→Nat→Nat→Sem Value) (v:Value) :
  ReflectliteValue.method z f #[v]=(do match ← ReflectliteValue.parts v with|none=>z|some (t,a,fl)=>f t a fl (fl % 32)):=rfl
theorem asPartsP (a:Addr) (w:World):(ReflectliteValue.parts (.agg #[.pointer (some ⟨1,120,none⟩),.pointer (some a),.int .u64 150])).run Tryz.prog w=.ok (some (120,a,150)) w:=by kernel_rfl
theorem asIsNil (a p:Addr) (W:World) (ha:W.cell? a=some (.pointer (some p))) :
  (ReflectliteValue.method (ReflectliteValue.valueError "reflectlite.Value.IsNil" 0) ReflectliteValue.isNil #[.agg #[.pointer (some ⟨1,120,none⟩),.pointer (some a),.int .u64 150]]).run Tryz.prog W=.ok (.bool false) W:=by
 rw [rlm]
 simp only [Sem.run_bind,asPartsP,Result.andThen]
 simp [ReflectliteValue.isNil,loadVar,isAgg,underlying,Tryz.underlying120,ha,Result.andThen]
theorem asMethodElem (h:Value) (w:World):(Go.method 403 184 (.agg #[h]) "Elem").run Tryz.prog w=.ok (186,.agg #[h]) w:=by kernel_rfl
theorem asMethodImplements (h:Value) (w:World):(Go.method 403 184 (.agg #[h]) "Implements").run Tryz.prog w=.ok (187,.agg #[h]) w:=by kernel_rfl
theorem asMethodAssignableTo (h:Value) (w:World):(Go.method 403 184 (.agg #[h]) "AssignableTo").run Tryz.prog w=.ok (184,.agg #[h]) w:=by kernel_rfl
theorem asElemP (w:World):(ReflectliteType.method ReflectliteType.elem #[.agg #[.pointer (some ⟨1,120,none⟩)]]).run Tryz.prog w=.ok (.iface 184 (.agg #[.pointer (some ⟨1,83,none⟩)])) w:=by kernel_rfl
theorem asImplementsW (w:World):(ReflectliteType.relation "Implements" ReflectliteType.implements_ #[.agg #[.pointer (some ⟨1,83,none⟩)],.iface 184 (.agg #[.pointer (some ⟨1,68,none⟩)])]).run Tryz.prog w=.ok (.bool true) w:=by kernel_rfl
theorem asTypeOfF (v:Value) (w:World):(ReflectliteType.typeOf #[.iface 167 v]).run Tryz.prog w=.ok (.iface 184 (.agg #[.pointer (some ⟨1,167,none⟩)])) w:=by kernel_rfl
theorem asAssignableF (w:World):(ReflectliteType.relation "AssignableTo" ReflectliteType.assignableTo #[.agg #[.pointer (some ⟨1,167,none⟩)],.iface 184 (.agg #[.pointer (some ⟨1,83,none⟩)])]).run Tryz.prog w=.ok (.bool false) w:=by kernel_rfl
theorem asAssignableW (w:World):(ReflectliteType.relation "AssignableTo" ReflectliteType.assignableTo #[.agg #[.pointer (some ⟨1,83,none⟩)],.iface 184 (.agg #[.pointer (some ⟨1,83,none⟩)])]).run Tryz.prog w=.ok (.bool true) w:=by kernel_rfl
theorem asValueOfW (x:Int) (w:World):(ReflectliteValue.unpack (.iface 83 (.agg #[.int .i64 x]))).run Tryz.prog w
  = .ok (.agg #[.pointer (some ⟨1,83,none⟩),.pointer (some ⟨w.heap.size,0,none⟩),.int .u64 153]) (w.alloc (.cells #[.int .i64 x] 83)):=by kernel_rfl
theorem asElemOfP (w:World):(Rtype.elem? 120).run Tryz.prog w=.ok (some 83) w:=by kernel_rfl
theorem asMkW (p:Addr) (w:World):(ReflectliteValue.mk 83 p ReflectliteValue.flagAddr).run Tryz.prog w=.ok (.agg #[.pointer (some ⟨1,83,none⟩),.pointer (some p),.int .u64 409]) w:=by kernel_rfl
theorem asElemV (a p:Addr) (W:World) (ha:W.cell? a=some (.pointer (some p))) :
  (ReflectliteValue.method (ReflectliteValue.valueError "reflectlite.Value.Elem" 0) ReflectliteValue.elem #[.agg #[.pointer (some ⟨1,120,none⟩),.pointer (some a),.int .u64 150]]).run Tryz.prog W
   = .ok (.agg #[.pointer (some ⟨1,83,none⟩),.pointer (some p),.int .u64 409]) W:=by
 rw [rlm]
 simp only [Sem.run_bind,asPartsP,Result.andThen]
 simp [ReflectliteValue.elem,loadVar,isAgg,underlying,Tryz.underlying120,ha,Result.andThen,asElemOfP,asMkW]
theorem rls (v x:Value):ReflectliteValue.set #[v,x]=(do
  let (some (dst,a,fl),some (src,b,_)):=(← ReflectliteValue.parts v,← ReflectliteValue.parts x)
   |unsupported (.noEntry "extern/(internal/reflectlite.Value).Set.zeroValue")
  if fl / ReflectliteValue.flagAddr % 2 == 0 then unsupported (.noEntry "extern/(internal/reflectlite.Value).Set.unaddressable")
  let val ← loadVar src b
  if ← Rtype.directlyAssignable dst src then storeVar dst a val
  else if ← Rtype.implements dst src then
   if (← Rtype.kind src) == 20 then
    match val with
    |.nilIface=>unsupported (.noEntry "extern/reflectlite: a nil value of one interface type handed on as a value of another")
    |_=>storeVar dst a val
   else storeVar dst a (.iface src val)
  else panicString ("reflectlite.Set: value of type "++(← Rtype.spelt src) ++ " is not assignable to type "++(← Rtype.spelt dst))
  pure (.tuple #[])):=rfl
theorem asPartsA (a:Addr) (w:World):(ReflectliteValue.parts (.agg #[.pointer (some ⟨1,83,none⟩),.pointer (some a),.int .u64 409])).run Tryz.prog w=.ok (some (83,a,409)) w:=by kernel_rfl
theorem asPartsW (a:Addr) (w:World):(ReflectliteValue.parts (.agg #[.pointer (some ⟨1,83,none⟩),.pointer (some a),.int .u64 153])).run Tryz.prog w=.ok (some (83,a,153)) w:=by kernel_rfl
theorem asDirectW (w:World):(Rtype.directlyAssignable 83 83).run Tryz.prog w=.ok true w:=by kernel_rfl
theorem asSetW (ta b:Addr) (x:Int) (old:Value) (W:World) (hb:W.cell? b=some (.int .i64 x)) (ht:W.cell? ta=some old) (hf:W.frozen? ta=false) :
  (ReflectliteValue.set #[.agg #[.pointer (some ⟨1,83,none⟩),.pointer (some ta),.int .u64 409],.agg #[.pointer (some ⟨1,83,none⟩),.pointer (some b),.int .u64 153]]).run Tryz.prog W
   = .ok (.tuple #[]) (W.setCell ta (.int .i64 x)):=by
 rw [rls]
 simp only [Sem.run_bind,asPartsA,asPartsW,Result.andThen]
 simp [ReflectliteValue.flagAddr,loadVar,loadCells,loadCellsFrom,hb,Result.andThen,asDirectW,storeVar,Value.cells,storeCells,Addr.add]
 rw [run_store Tryz.prog W ta _ _ (by rfl)]
 simp [ht,hf]
theorem noAsF (v:Value) (xT:TypeId) (w:World):(Instr.typeAssert (.iface 167 v) xT 238 true).run Tryz.prog w=.ok (.tuple #[.nilIface,.bool false]) w:=run_typeAssert_lacksB Tryz.underlying238 (by kernel_rfl) (by kernel_rfl) v xT w
set_option maxHeartbeats 4000000 in
set_option maxRecDepth 100000 in
theorem as_from (s:ByteArray) (x:Int) (t:Addr) (old:Value) (w:World) (hg:w.cell? ⟨0,0,none⟩=some (.iface 184 (.agg #[.pointer (some ⟨1,68,none⟩)]))) (ht0:w.cell? t=some old) (hf0:w.frozen? t=false) :
  Calls Tryz.prog 44 #[.iface 167 (.agg #[.string s,.iface 83 (.agg #[.int .i64 x])]),.iface 120 (.pointer (some t))] w fun ev w'=>ev=.returned (.bool true)∧w'=(((((w.alloc (.cells #[.pointer (some t)] 120)).alloc (.cells #[.pointer (some ⟨1,120,none⟩),.pointer (some ⟨w.heap.size,0,none⟩),.int .u64 150] 171)).alloc (.cells #[.pointer (some ⟨1,120,none⟩),.pointer (some ⟨w.heap.size,0,none⟩),.int .u64 150] 171)).alloc (.cells #[.string s,.iface 83 (.agg #[.int .i64 x])] 167)).alloc (.cells #[.int .i64 x] 83)).setCell t (.int .i64 x):=by
 have hV:=@run_callFunc_extern Tryz.prog 81 _ (fun args=>ReflectliteValue.unpack (args.getD 0 (.tuple #[]))) Tryz.func81 (by kernel_rfl) (by kernel_rfl) (by kernel_rfl) (by kernel_rfl)
 have hT:=@run_callFunc_extern Tryz.prog 82 _ (ReflectliteValue.methodAny (ReflectliteValue.valueError "reflectlite.Value.Type" 0) (fun t _ _ _=>ReflectliteType.toType t)) Tryz.func82 (by kernel_rfl) (by kernel_rfl) (by kernel_rfl) (by kernel_rfl)
 have hN:=@run_callFunc_extern Tryz.prog 83 _ (ReflectliteValue.method (ReflectliteValue.valueError "reflectlite.Value.IsNil" 0) ReflectliteValue.isNil) Tryz.func83 (by kernel_rfl) (by kernel_rfl) (by kernel_rfl) (by kernel_rfl)
 have hK:=@run_callFunc_extern Tryz.prog 174 _ (ReflectliteType.abiMethod fun t=>do pure (.int .u8 (← Rtype.kind t))) Tryz.func174 (by kernel_rfl) (by kernel_rfl) (by kernel_rfl) (by kernel_rfl)
 have hE:=@run_callFunc_extern Tryz.prog 186 _ (ReflectliteType.method ReflectliteType.elem) Tryz.func186 (by kernel_rfl) (by kernel_rfl) (by kernel_rfl) (by kernel_rfl)
 have hI:=@run_callFunc_extern Tryz.prog 187 _ (ReflectliteType.relation "Implements" ReflectliteType.implements_) Tryz.func187 (by kernel_rfl) (by kernel_rfl) (by kernel_rfl) (by kernel_rfl)
 have hO:=@run_callFunc_extern Tryz.prog 48 _ ReflectliteType.typeOf Tryz.func48 (by kernel_rfl) (by kernel_rfl) (by kernel_rfl) (by kernel_rfl)
 have hA:=@run_callFunc_extern Tryz.prog 184 _ (ReflectliteType.relation "AssignableTo" ReflectliteType.assignableTo) Tryz.func184 (by kernel_rfl) (by kernel_rfl) (by kernel_rfl) (by kernel_rfl)
 have hL:=@run_callFunc_extern Tryz.prog 125 _ (ReflectliteValue.method (ReflectliteValue.valueError "reflectlite.Value.Elem" 0) ReflectliteValue.elem) Tryz.func125 (by kernel_rfl) (by kernel_rfl) (by kernel_rfl) (by kernel_rfl)
 have hS:=@run_callFunc_extern Tryz.prog 126 _ ReflectliteValue.set Tryz.func126 (by kernel_rfl) (by kernel_rfl) (by kernel_rfl) (by kernel_rfl)
 have tF:=asTypeOfF
 have tW:=isTypeOfW
 have mA:=asMethodAssignableTo
 have aF:=asAssignableF
 have aW:=asAssignableW
 have vP:=asValueOfP
 have vW:=asValueOfW
 have tP:=asTypeP
 have mK:=asMethodKind
 have mE:=asMethodElem
 have mI:=asMethodImplements
 have mU:=methodUnwrap
 have kP:=asKindP
 have kW:=asKindW
 have eP:=asElemP
 have iW:=asImplementsW
 have nA:=noAsF
 have hU:=hasUnwrapF
 have n8:=asIsNil ⟨w.heap.size,0,none⟩ t ((w.alloc (.cells #[.pointer (some t)] 120)).alloc (.cells #[.pointer (some ⟨1,120,none⟩),.pointer (some ⟨w.heap.size,0,none⟩),.int .u64 150] 171)) (by simp)
 have hlt:0 < w.heap.size:=by
  rcases Nat.eq_zero_or_pos w.heap.size with h0|h
  ·simp [World.cell?,h0] at hg
  ·exact h
 have hg2:((w.alloc (.cells #[.pointer (some t)] 120)).alloc (.cells #[.pointer (some ⟨1,120,none⟩),.pointer (some ⟨w.heap.size,0,none⟩),.int .u64 150] 171)).cell? ⟨0,0,none⟩=some (.iface 184 (.agg #[.pointer (some ⟨1,68,none⟩)])):=by
  rw [World.cell?_alloc_lt _ _ ⟨0,0,none⟩ (by simp),World.cell?_alloc_lt _ _ ⟨0,0,none⟩ hlt];exact hg
 have htl:t.block < w.heap.size:=by
  rcases Nat.lt_or_ge t.block w.heap.size with h|h
  ·exact h
  ·simp [World.cell?,Array.getElem?_eq_none h] at ht0
 have el:=asElemV ⟨w.heap.size,0,none⟩ t ((((w.alloc (.cells #[.pointer (some t)] 120)).alloc (.cells #[.pointer (some ⟨1,120,none⟩),.pointer (some ⟨w.heap.size,0,none⟩),.int .u64 150] 171)).alloc (.cells #[.pointer (some ⟨1,120,none⟩),.pointer (some ⟨w.heap.size,0,none⟩),.int .u64 150] 171)).alloc (.cells #[.string s,.iface 83 (.agg #[.int .i64 x])] 167)) (by rw [World.cell?_alloc_lt _ _ ⟨w.heap.size,0,none⟩ (by simp;omega),World.cell?_alloc_lt _ _ ⟨w.heap.size,0,none⟩ (by simp;omega)];simp)
 have st:=asSetW t ⟨w.heap.size+1+1+1+1,0,none⟩ x old (((((w.alloc (.cells #[.pointer (some t)] 120)).alloc (.cells #[.pointer (some ⟨1,120,none⟩),.pointer (some ⟨w.heap.size,0,none⟩),.int .u64 150] 171)).alloc (.cells #[.pointer (some ⟨1,120,none⟩),.pointer (some ⟨w.heap.size,0,none⟩),.int .u64 150] 171)).alloc (.cells #[.string s,.iface 83 (.agg #[.int .i64 x])] 167)).alloc (.cells #[.int .i64 x] 83))
  (by rw [World.cell?_alloc_at _ _ _ _ (by simp)];rfl)
  (by rw [World.cell?_alloc_lt _ _ t (by simp;omega),World.cell?_alloc_lt _ _ t (by simp;omega),World.cell?_alloc_lt _ _ t (by simp;omega),World.cell?_alloc_lt _ _ t (by simp;omega),World.cell?_alloc_lt _ _ t htl];exact ht0)
  (by rw [World.frozen?_alloc_old _ _ t (by simp;omega),World.frozen?_alloc_old _ _ t (by simp;omega),World.frozen?_alloc_old _ _ t (by simp;omega),World.frozen?_alloc_old _ _ t (by simp;omega),World.frozen?_alloc_old _ _ t (Nat.ne_of_lt htl)];exact hf0)
 go_enter Tryz.func44,Tryz.ntmps44
 go_wp2
 refine wp_loop_rounds 2 ?_
 rw [rounds_succ]
 go_wp2
 rw [rounds_succ]
 go_wp2
 go_ret
 exact ⟨rfl,rfl⟩
def ErrTy (w:World):Prop:=w.cell? ⟨0,0,none⟩=some (.iface 184 (.agg #[.pointer (some ⟨1,68,none⟩)]))
theorem ErrTy.below {w w':World} (h:ErrTy w) (hb:Below w.heap.size w w'):ErrTy w':=by
 have hlt:0 < w.heap.size:=by
  rcases Nat.eq_zero_or_pos w.heap.size with h0|h0
  ·unfold ErrTy at h
   simp [World.cell?,h0] at h
  ·exact h0
 exact (hb.cell hlt).trans h
set_option maxHeartbeats 4000000 in
set_option maxRecDepth 100000 in
theorem number_any (s:ByteArray) (x:Int) (w:World) (hg:ErrTy w) :
  Calls Tryz.prog 19 #[fromV s x] w fun ev w'=>ev=.returned (.int .i64 x)∧Below w.heap.size w w':=by
 have hlt:0 < w.heap.size:=by
  rcases Nat.eq_zero_or_pos w.heap.size with h0|h0
  ·unfold ErrTy at hg
   simp [World.cell?,h0] at hg
  ·exact h0
 have KA:Hid (∀ W:World,ErrTy W→∀ t old,W.cell? t=some old→W.frozen? t=false→Calls Tryz.prog 44 #[.iface 167 (.agg #[.string s,.iface 83 (.agg #[.int .i64 x])]),.iface 120 (.pointer (some t))] W fun ev w'=>ev=.returned (.bool true)∧w'=(((((W.alloc (.cells #[.pointer (some t)] 120)).alloc (.cells #[.pointer (some ⟨1,120,none⟩),.pointer (some ⟨W.heap.size,0,none⟩),.int .u64 150] 171)).alloc (.cells #[.pointer (some ⟨1,120,none⟩),.pointer (some ⟨W.heap.size,0,none⟩),.int .u64 150] 171)).alloc (.cells #[.string s,.iface 83 (.agg #[.int .i64 x])] 167)).alloc (.cells #[.int .i64 x] 83)).setCell t (.int .i64 x)):=fun W h1 t old h2 h3=>as_from s x t old W h1 h2 h3
 have HG:=LH hg
 unfold fromV wrongV
 clear hg
 go_enter Tryz.func19,Tryz.ntmps19
 go_wp2_with fail
 refine (KA.out _ (HG.out.below ((Below.refl _ _).alloc (Nat.le_refl _) _)) _ (.int .i64 0) (by simp) (by simp)).mono ?_
 rintro e w2 ⟨rfl,rfl⟩
 go_wp2_with fail
 go_ret
 refine ⟨rfl,?_⟩
 repeat (first|with_reducible (first|exact Below.refl _ _|apply below_alloc)|((first|with_reducible refine Below.alloc ?_ ?_ _|with_reducible refine Below.setCell ?_ ?_ _);rotate_left;focus (first|(simp <;> omega)|omega)))
def groupT:ByteArray:={ data:=#[103,114,111,117,112] }
theorem askedG_any (n:Int) (w:World):Calls Tryz.prog 18 #[.int .i64 n] w fun ev w'=>ev=.returned (errV groupT (if n < 0∨4≤n then 2 else 0))∧w'=w:=by
 have hw:=wrap_any groupT 2 w
 unfold groupT at hw
 have HW:=LH hw
 clear hw
 by_cases h1:n < 0
 ·rw [if_pos (Or.inl h1)]
  go_enter Tryz.func18,Tryz.ntmps18
  go_wp2_with fail
  refine HW.out.mono ?_
  rintro e w2 ⟨rfl,rfl⟩
  go_wp2_with fail
  go_ret
  exact ⟨rfl,rfl⟩
 ·by_cases h2:4≤n
  ·rw [if_pos (Or.inr h2)]
   go_enter Tryz.func18,Tryz.ntmps18
   go_wp2_with fail
   refine HW.out.mono ?_
   rintro e w2 ⟨rfl,rfl⟩
   go_wp2_with fail
   go_ret
   exact ⟨rfl,rfl⟩
  ·rw [if_neg (by omega)]
   have e0:errV groupT 0=.nilIface:=if_pos rfl
   rw [e0]
   clear e0
   go_enter Tryz.func18,Tryz.ntmps18
   go_wp2_with fail
   go_ret
   exact ⟨rfl,rfl⟩
end Go.Proofs.YtdfmcgekfogpbabGreatDoor
