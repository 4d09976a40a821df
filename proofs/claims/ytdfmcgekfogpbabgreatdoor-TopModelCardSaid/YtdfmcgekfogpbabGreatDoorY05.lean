/-
  Proved here: Rows known whole, elements of several cells: cells set one by one, cop A row in which one element more is put between: plain, no program. errors.Is at what a group's steps return, against the error of a full  A list of texts as an argument. No program in sight.
-/
import Derived.Test.YtdfmcgekfogpbabGreatDoorProg
import Derived.Test.YtdfmcgekfogpbabGreatDoorY01
import Derived.Laws.CopyRow
import Derived.Laws.IdiomCopy
import Derived.Laws.AppendOwn
import Derived.Lib.SliceRun
import Derived.LaidEql
import Derived.Stop.Asserts
set_option maxRecDepth 100000
namespace Go.Proofs.YtdfmcgekfogpbabGreatDoor
open Go.RowKit
def over (cur:List Value) (o:Nat) (vs:List Value):List Value:=cur.take o++(vs++cur.drop (o+vs.length))
theorem over_len {cur:List Value} {o:Nat} {vs:List Value} (h:o+vs.length≤cur.length):(over cur o vs).length=cur.length:=by
 simp [over];omega
theorem over_take {cur:List Value} {o k:Nat} {vs:List Value} (hk:k≤o) (ho:o≤cur.length):(over cur o vs).take k=cur.take k:=by
 rw [over,List.take_append_of_le_length (by simp;omega),List.take_take,Nat.min_eq_left hk]
theorem over_take_through {cur:List Value} {o:Nat} {vs:List Value} (ho:o≤cur.length):(over cur o vs).take (o+vs.length)=cur.take o++vs:=by
 rw [over,← List.append_assoc]
 exact List.take_left' (by simp;omega)
theorem over_nil {cur:List Value} {o:Nat}:over cur o []=cur:=by simp [over]
theorem over_cons {cur:List Value} {o:Nat} {v:Value} {r:List Value} (h:o < cur.length):over (cur.set o v) (o+1) r=over cur o (v :: r):=by
 apply List.ext_getElem?
 intro j
 simp only [over,List.getElem?_append,List.getElem?_take,List.getElem?_drop,List.length_take,List.length_set,List.getElem?_set,List.length_cons,List.getElem?_cons]
 have hm:min (o+1) cur.length=o+1:=by omega
 have hm2:min o cur.length=o:=by omega
 rw [hm,hm2]
 by_cases h1:j < o
 ·simp [h1,show j < o+1 by omega,show ¬ o=j by omega]
 ·by_cases h2:j=o
  ·subst h2
   simp [h]
  ·have h3:¬ j < o+1:=by omega
   have h4:¬ (j - o=0):=by omega
   simp only [h1,h3,if_false,h4]
   by_cases h5:j - (o+1) < r.length
   ·have h6:j - o < r.length+1:=by omega
    simp only [h5,h6,if_true]
    congr 1
   ·have h6:¬ (j - o < r.length+1):=by omega
    simp only [h5,h6,if_false]
    rw [if_neg (by omega)]
    congr 1
    omega
theorem setCells_row (g:Nat) (t:TypeId):∀ (vs:List Value) (o:Nat) (cur:List Value) (w:World),w.heap[g]?=some (.cells cur.toArray t (0,0))→o+vs.length≤cur.length→w.setCells g o vs=w.setRow g (over cur o vs).toArray
 |[],o,cur,w,hg,_=>by
  rw [over_nil,World.setCells,setRow_self w g _ t (0,0) hg]
 |v :: r,o,cur,w,hg,hl=>by
  simp only [List.length_cons] at hl
  have hs:=setCell_eq_setRow w g o cur.toArray t (0,0) v hg
  have e:cur.toArray.setIfInBounds o v=(cur.set o v).toArray:=by simp
  rw [e] at hs
  rw [World.setCells,hs,setCells_row g t r (o+1) (cur.set o v) _ (setRow_heap w g _ _ t _ hg) (by simp;omega),setRow_setRow,over_cons (by omega)]
variable {P:Program}
theorem run_copy_rowS (w:World) (dT sT ty elem:TypeId) (s g o dLen dCap:Nat) (a:Addr) (sLen sCap:Nat) (cur:List Value) (t:TypeId) (cs:List Value)
  (hu:P.underlying dT=some (.slice elem)) (hs:(P.info? elem).map (·.size)=some s)
  (hg:w.heap[g]?=some (.cells cur.toArray t (0,0))) (hn:cs.length=Nat.min sLen dLen * s)
  (hsrc:∀ j v,cs[j]?=some v→w.cell? (a.add j)=some v) (hfit:o+cs.length≤cur.length) (h1:∀ v∈cs,v.oneCell'=true) :
  (Builtin.copy_ #[dT,sT] ty #[.slice (some ⟨g,o,none⟩) dLen dCap,.slice (some a) sLen sCap]).run P w =
   .ok (goInt (Nat.min sLen dLen)) (w.setRow g (over cur o cs).toArray):=by
 have hl:=run_loadCells_list (P:=P) w a cs hsrc
 have hst:=run_storeCells_at P g o t cs 0 cur.toArray w hg (by simpa using hfit) h1
 cases hq:P.info? elem with
 |none=>simp [hq] at hs
 |some i =>
  have hi:i.size=s:=by simpa [hq] using hs
  have e:(cur.toArray.toList.take (o+0)++cs++cur.toArray.toList.drop (o+0+cs.length))=over cur o cs:=by simp [over]
  rw [e] at hst
  simp [Builtin.copy_,run_underlying hu,Builtin.lenOf,Builtin.firstCells,sizeOf,typeInfo,hq,hi,← hn,hl,hst]
theorem step_copy_runS {ops:Array Oper} {o:Oper} {a:Act} {w:World} {K:Act→World→Prop} {Q:Exit→Act→World→Prop} {E:Prop}
  (hg:o.guard=none) (d x:Operand) (dT sT:TypeId) (hop:o.op=Op.call { callee:=Callee.builtin Builtin.copy,args:=#[d,x],argTypes:=#[dT,sT] })
  (v u:Value) (hd:a.eval d=v) (hx:a.eval x=u) {v':Value} {w':World} (hr:(Builtin.copy_ #[dT,sT] o.type #[v,u]).run P w=.ok v' w') (hK:K (a.put o.dst v') w') :
  if Region.wanted o (yielded ops a.tmps)=true then Oper.wp P o a w K Q else E:=by
 have hw:Region.wanted o (yielded ops a.tmps)=true:=by simp [Region.wanted,hg]
 rw [if_pos hw]
 unfold Oper.wp
 simp [execOp,hop,resolve,invoke,builtin,hd,hx,hr,Result.andThen]
 exact hK
theorem run_clear_rowS (w:World) (t e ty:TypeId) (z:Value) (s g o n c:Nat) (cur:List Value) (te:TypeId) (ht:P.underlying t=some (.slice e)) (hv:∀ w,(zeroValue e).run P w=.ok z w) (hz:z.cells.size=s) (h1:∀ v∈z.cells.toList,v.oneCell'=true) (hn:0 < n)
  (hg:w.heap[g]?=some (.cells cur.toArray te (0,0))) (hfit:o+n * s≤cur.length) :
  ∃ zs:List Value,zs.length=n * s∧(Builtin.clear_ #[t] ty #[.slice (some ⟨g,o,none⟩) n c]).run P w=.ok (.tuple #[]) (w.setRow g (over cur o zs).toArray):=by
 obtain ⟨zs,hzs⟩:∃ zs,zs=(Builtin.zeroCells z.cells n).toList:=⟨_,rfl⟩
 have hl:zs.length=n * s:=by rw [hzs];simp [Builtin.zeroCells,hz]
 have h1z:∀ v∈zs,v.oneCell'=true:=by
  intro v hv'
  rw [hzs] at hv'
  simp only [Builtin.zeroCells,Array.toList_map,List.mem_map] at hv'
  obtain ⟨i,hi,rfl⟩:=hv'
  have hi2:i < n * z.cells.size:=by simpa using hi
  have hs0:0 < z.cells.size:=by
   rcases Nat.eq_zero_or_pos z.cells.size with h0|h0
   ·rw [h0] at hi2;omega
   ·exact h0
  have hm:=Nat.mod_lt i hs0
  rw [getElem!_pos z.cells (i % z.cells.size) hm]
  exact h1 _ (by simp)
 refine ⟨zs,hl,?_⟩
 have hst:=run_storeCells_at P g o te zs 0 cur.toArray w hg (by simpa [hl] using hfit) h1z
 have e:(cur.toArray.toList.take (o+0)++zs++cur.toArray.toList.drop (o+0+zs.length))=over cur o zs:=by simp [over]
 rw [e] at hst
 obtain ⟨m,rfl⟩:∃ m,n=m+1:=⟨n - 1,by omega⟩
 simp [Builtin.clear_,run_underlying ht,hv,← hzs,hst]
theorem grownBy_setRow (w:World) (g:Nat) (cs:Array Value):w.grownBy (w.setRow g cs) (some g) :=
 ⟨rfl,rfl,rfl,by simp [World.setRow],fun k _ hk=>setRow_other w g k cs (fun e=>hk (by rw [e]))⟩
theorem size_setRow (w:World) (g:Nat) (cs:Array Value):(w.setRow g cs).heap.size=w.heap.size:=by simp [World.setRow]
theorem grownBy_trans' {w w' w'':World} {r:Option Nat} (h:w.grownBy w' r) (h':w'.grownBy w'' r):w.grownBy w'' r :=
 ⟨h'.os.trans h.os,h'.tape.trans h.tape,h'.output.trans h.output,Nat.le_trans h.size h'.size,fun k hk hne=>(h'.block k (Nat.lt_of_lt_of_le hk h.size) hne).trans (h.block k hk hne)⟩
end Go.Proofs.YtdfmcgekfogpbabGreatDoor
namespace Go.Proofs.YtdfmcgekfogpbabGreatDoor
open Go.RowKit
theorem over_get {cur:List Value} {o j:Nat} {vs:List Value} (h:o+vs.length≤cur.length):(over cur o vs)[j]?=if j < o then cur[j]? else if j < o+vs.length then vs[j - o]? else cur[j]?:=by
 have hm:min o cur.length=o:=by omega
 rw [over,List.getElem?_append,List.length_take,hm]
 by_cases h1:j < o
 ·rw [if_pos h1,if_pos h1,List.getElem?_take,if_pos h1]
 ·rw [if_neg h1,if_neg h1,List.getElem?_append]
  by_cases h2:j < o+vs.length
  ·rw [if_pos (by omega),if_pos h2]
  ·rw [if_neg (by omega),if_neg h2,List.getElem?_drop]
   congr 1
   omega
def putIn (xs:List Value) (k:Nat) (vs:List Value):List Value:=xs.take k++vs++xs.drop k
theorem putIn_len {xs:List Value} {k:Nat} {vs:List Value} (h:k≤xs.length):(putIn xs k vs).length=xs.length+vs.length:=by
 simp [putIn];omega
theorem putIn_get {xs:List Value} {k j:Nat} {vs:List Value} (h:k≤xs.length):(putIn xs k vs)[j]?=if j < k then xs[j]? else if j < k+vs.length then vs[j - k]? else xs[j - vs.length]?:=by
 have hm:min k xs.length=k:=by omega
 rw [putIn,List.append_assoc,List.getElem?_append,List.length_take,hm]
 by_cases h1:j < k
 ·rw [if_pos h1,if_pos h1,List.getElem?_take,if_pos h1]
 ·rw [if_neg h1,if_neg h1,List.getElem?_append]
  by_cases h2:j < k+vs.length
  ·rw [if_pos (by omega),if_pos h2]
  ·rw [if_neg (by omega),if_neg h2,List.getElem?_drop]
   congr 1
   omega
theorem putIn_end {xs:List Value} {vs:List Value}:putIn xs xs.length vs=xs++vs:=by simp [putIn]
theorem putIn_end' {xs:List Value} {k:Nat} {vs:List Value} (h:k=xs.length):putIn xs k vs=xs++vs:=by subst h;exact putIn_end
theorem shift_take {L xs vs:List Value} {k m:Nat} (hk:k≤xs.length) (hm:vs.length=m) (hL:xs.length+m≤L.length) (hx:∀ j,j < xs.length→L[j]?=xs[j]?) :
  (over (over L (k+m) (xs.drop k)) k vs).take (xs.length+m)=putIn xs k vs:=by
 have h1:k+m+(xs.drop k).length≤L.length:=by simp;omega
 apply List.ext_getElem?
 intro j
 rw [putIn_get hk,List.getElem?_take,over_get (by rw [over_len h1];omega),over_get h1,hm]
 simp only [List.length_drop]
 by_cases a:j < k
 ·rw [if_pos (by omega),if_pos a,if_pos (by omega),if_pos a,hx j (by omega)]
 ·by_cases b:j < k+m
  ·rw [if_pos (by omega),if_neg a,if_pos b,if_neg a,if_pos b]
  ·rw [if_neg a,if_neg b,if_neg b,if_neg a,if_neg b]
   by_cases c:j < xs.length+m
   ·rw [if_pos c,if_pos (by omega),List.getElem?_drop]
    congr 1
    omega
   ·rw [if_neg c,List.getElem?_eq_none (by omega)]
theorem grow_take {L xs vs:List Value} {k m:Nat} (hk:k≤xs.length) (hm:vs.length=m) (hL:xs.length+m≤L.length) (hx:∀ j,j < k→L[j]?=xs[j]?) :
  (over (over L k vs) (k+m) (xs.drop k)).take (xs.length+m)=putIn xs k vs:=by
 have h0:k+vs.length≤L.length:=by omega
 apply List.ext_getElem?
 intro j
 rw [putIn_get hk,List.getElem?_take,over_get (by rw [over_len h0];simp;omega),over_get h0,hm]
 simp only [List.length_drop]
 by_cases a:j < k
 ·rw [if_pos (by omega),if_pos (by omega),if_pos a,if_pos a,hx j a]
 ·by_cases b:j < k+m
  ·rw [if_pos (by omega),if_pos b,if_neg a,if_pos b,if_neg a,if_pos b]
  ·rw [if_neg b,if_neg a,if_neg b,if_neg a,if_neg b]
   by_cases c:j < xs.length+m
   ·rw [if_pos c,if_pos (by omega),List.getElem?_drop]
    congr 1
    omega
   ·rw [if_neg c,List.getElem?_eq_none (by omega)]
end Go.Proofs.YtdfmcgekfogpbabGreatDoor
namespace Go.Proofs.YtdfmcgekfogpbabGreatDoor
open Go.RowKit Go.Extern.Stop Go.Stop Go.Extern
def wrongV (e:Int):Value:=.iface 83 (.agg #[.int .i64 e])
def fromV (s:ByteArray) (e:Int):Value:=.iface 167 (.agg #[.string s,wrongV e])
def errV (s:ByteArray) (e:Int):Value:=if e=0 then .nilIface else fromV s e
theorem wrap_any (s:ByteArray) (e:Int) (w:World):Calls Tryz.prog 43 #[.string s,.int .i64 e] w fun ev w'=>ev=.returned (errV s e)∧w'=w:=by
 by_cases h:e=0
 ·subst h
  go_enter Tryz.func43,Tryz.ntmps43
  go_wp2
  go_ret
  exact ⟨rfl,rfl⟩
 ·have hb:(e == 0)=false:=by simpa using h
  have hE:errV s e=fromV s e:=if_neg h
  rw [hE]
  clear hE
  go_enter Tryz.func43,Tryz.ntmps43
  go_wp2
  go_ret
  exact ⟨rfl,rfl⟩
theorem isTypeOfW (v:Value) (w:World):(Extern.ReflectliteType.typeOf #[.iface 83 v]).run Tryz.prog w=.ok (.iface 184 (.agg #[.pointer (some ⟨1,83,none⟩)])) w:=by kernel_rfl
def cmpE:Array Value→Sem Value:=Extern.ReflectliteType.method fun t=>do Extern.Rtype.noPackHeld "Comparable" t;pure (.bool (← typeInfo t).comparable)
theorem isComparableW (w:World):(cmpE #[.agg #[.pointer (some ⟨1,83,none⟩)]]).run Tryz.prog w=.ok (.bool true) w:=by kernel_rfl
theorem methodComparable (v:Value) (w:World):(Go.method 403 184 v "Comparable").run Tryz.prog w=.ok (185,v) w:=by kernel_rfl
theorem methodUnwrap (v:Value) (w:World):(Go.method 403 167 v "Unwrap").run Tryz.prog w=.ok (179,v) w:=by kernel_rfl
theorem noIsW (v:Value) (xT:TypeId) (w:World):(Instr.typeAssert (.iface 83 v) xT 186 true).run Tryz.prog w=.ok (.tuple #[.nilIface,.bool false]) w:=run_typeAssert_lacksB Tryz.underlying186 (by kernel_rfl) (by kernel_rfl) v xT w
theorem noUnwrapW (v:Value) (xT:TypeId) (w:World):(Instr.typeAssert (.iface 83 v) xT 189 true).run Tryz.prog w=.ok (.tuple #[.nilIface,.bool false]) w:=run_typeAssert_lacksB Tryz.underlying189 (by kernel_rfl) (by kernel_rfl) v xT w
theorem noUnwrapsW (v:Value) (xT:TypeId) (w:World):(Instr.typeAssert (.iface 83 v) xT 191 true).run Tryz.prog w=.ok (.tuple #[.nilIface,.bool false]) w:=run_typeAssert_lacksB Tryz.underlying191 (by kernel_rfl) (by kernel_rfl) v xT w
theorem noIsF (v:Value) (xT:TypeId) (w:World):(Instr.typeAssert (.iface 167 v) xT 186 true).run Tryz.prog w=.ok (.tuple #[.nilIface,.bool false]) w:=run_typeAssert_lacksB Tryz.underlying186 (by kernel_rfl) (by kernel_rfl) v xT w
theorem hasUnwrapF (v:Value) (xT:TypeId) (w:World):(Instr.typeAssert (.iface 167 v) xT 189 true).run Tryz.prog w=.ok (.tuple #[.iface 167 v,.bool true]) w:=run_typeAssert_hasB Tryz.underlying189 (by kernel_rfl) v xT w
theorem wrong_fields:Tryz.prog.underlying 83=some (.struct (Tryz.prog.fieldsOf 83)):=by kernel_rfl
theorem wrong_held:Tryz.prog.stoodInHeld 83=false:=by kernel_rfl
theorem wrong_comp:(Tryz.prog.info? 83).map (·.comparable)=some true:=by kernel_rfl
theorem equalW (a b:Int) (w:World) (d:Nat):(Op.equalIn (d+3) 68 (.iface 83 (.agg #[.int .i64 a])) (.iface 83 (.agg #[.int .i64 b]))).run Tryz.prog w=.ok (a == b) w:=by
 obtain ⟨i,hi,hcmp⟩:=Option.map_eq_some_iff.1 wrong_comp
 have h1:(Op.equalIn (d+2) 83 (.agg #[.int .i64 a]) (.agg #[.int .i64 b])).run Tryz.prog w=.ok (a == b) w:=by
  rw [run_equalIn_agg w (d+1) _ _ _ wrong_fields wrong_held]
  simp only [Program.fieldsOf,Tryz.underlying83]
  go_simp
  by_cases h:a=b <;> simp [h]
 rw [show d+3=(d+2)+1 from rfl,Op.equalIn]
 simp [run_underlying Tryz.underlying68,typeInfo,hi,hcmp,h1]
theorem eqlW (a b:Int) (w:World):(binOp .eql 68 (.iface 83 (.agg #[.int .i64 a])) (.iface 83 (.agg #[.int .i64 b]))).run Tryz.prog w=.ok (.bool (a == b)) w:=by
 simp only [binOp]
 simp [Op.equal,Op.maxDepth,equalW a b w 9997]
theorem is_nilW (e:Int) (w:World):Calls Tryz.prog 22 #[.nilIface,.iface 83 (.agg #[.int .i64 e])] w fun ev w'=>ev=.returned (.bool false)∧w'=w:=by
 have hn:=run_eql_iface_nil_left (P:=Tryz.prog) w 83 (.agg #[.int .i64 e]) Tryz.underlying68
 go_enter Tryz.func22,Tryz.ntmps22
 go_wp2
 go_ret
 exact ⟨rfl,rfl⟩
set_option maxHeartbeats 4000000 in
set_option maxRecDepth 100000 in
theorem is_fromW (s:ByteArray) (x e:Int) (w:World):Calls Tryz.prog 22 #[.iface 167 (.agg #[.string s,.iface 83 (.agg #[.int .i64 x])]),.iface 83 (.agg #[.int .i64 e])] w fun ev w'=>(∃ b,ev=.returned (.bool b))∧Below w.heap.size w w':=by
 have h8:=@run_callFunc_extern Tryz.prog 48 _ Extern.ReflectliteType.typeOf Tryz.func48 (by kernel_rfl) (by kernel_rfl) (by kernel_rfl) (by kernel_rfl)
 have h32:=@run_callFunc_extern Tryz.prog 185 _ cmpE Tryz.func185 (by kernel_rfl) (by kernel_rfl) (by kernel_rfl) (by kernel_rfl)
 have tT:=isTypeOfW
 have cT:=isComparableW
 have mR:=methodComparable
 have mU:=methodUnwrap
 have nI:=noIsW
 have nU:=noUnwrapW
 have nV:=noUnwrapsW
 have nF:=noIsF
 have hU:=hasUnwrapF
 have heq:=eqlW x e
 obtain ⟨bq,hbq⟩:∃ bq,bq=(x == e):=⟨_,rfl⟩
 rw [← hbq] at heq
 clear hbq
 have hty:=fun w=>run_eql_iface_types (P:=Tryz.prog) 167 83 (.agg #[.string s,.iface 83 (.agg #[.int .i64 x])]) (.agg #[.int .i64 e]) Tryz.underlying68 (by decide) w
 go_enter Tryz.func22,Tryz.ntmps22
 go_wp2
 refine wp_loop_rounds 2 ?_
 rw [rounds_succ]
 go_wp2
 cases bq
 all_goals
  rw [rounds_succ]
  go_wp2
  go_ret
  exact ⟨⟨_,rfl⟩,(Below.refl _ _).alloc (Nat.le_refl _) _⟩
theorem is_any (s:ByteArray) (x e:Int) (w:World):Calls Tryz.prog 22 #[errV s x,wrongV e] w fun ev w'=>(∃ b,ev=.returned (.bool b)∧(x=0→b=false))∧Below w.heap.size w w':=by
 by_cases h:x=0
 ·rw [errV,if_pos h]
  refine (is_nilW e w).mono ?_
  rintro ev w' ⟨rfl,rfl⟩
  exact ⟨⟨false,rfl,fun _=>rfl⟩,Below.refl _ _⟩
 ·rw [errV,if_neg h]
  refine (is_fromW s x e w).mono ?_
  rintro ev w' ⟨⟨b,rfl⟩,hb⟩
  exact ⟨⟨b,rfl,fun h'=>absurd h' h⟩,hb⟩
end Go.Proofs.YtdfmcgekfogpbabGreatDoor
namespace Go.Proofs.YtdfmcgekfogpbabGreatDoor
open Go.RowKit Go.Deep Go.WideShapes Go.ChangeShapes
def strCell' (s:ByteArray):List Value:=[.string s]
theorem open_strings {P:Program} {w:World} {r:Reach} {base:Nat} {t e:TypeId} {v:Value} {H:Type} {enc:TypeId × Value→H} {sp:Nat→Bool} {d:DataW H} {ps:List MemPlace}
  (hv:Value.okWide P w r base t v) (h:DataW.Trod enc P w 0 sp true t v d ps) (hw:∀ n∈d.weights P t,n≤reachBytes) (hs:P.underlying t=some (.slice e)) (he:P.underlying e=some .string) (hc:P.cellsOf e=1) :
  ∃ l,SliceR w v 1 strCell' l∧∀ s∈l,s.size≤reachBytes:=by
 obtain ⟨a,n,c,rfl⟩:=okWide_slice hs hv
 obtain ⟨v',l,h1,h2,_,h3⟩:=(reads_of_trod h hw).list 1 strCell' (fun s=>s.size≤reachBytes) hs hc (by omega) (fun ds hd=>hd.string he)
 have h4:(Value.slice a n c).cells.toList=[Value.slice a n c]:=rfl
 rw [h4] at h1
 simp at h1
 exact ⟨l,h1 ▸ h2,h3⟩
end Go.Proofs.YtdfmcgekfogpbabGreatDoor
