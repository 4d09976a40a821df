/-
  Proved here: Rows known whole, elements of several cells: cells set one by one, cop A row in which one element more is put between: plain, no program. commits.Check and what it calls: slices.IndexFunc, slices.ContainsFunc commits.Check, commits.asked, commits.Get. No condition but that the s errors.Is at what a group's steps return, against the error of a full 
-/
import Derived.Test.YtkkohllhebdlcaaGreatDoorProg
import Derived.Test.YtkkohllhebdlcaaGreatDoorY01
import Derived.Laws.CopyRow
import Derived.Laws.IdiomCopy
import Derived.Laws.AppendOwn
import Derived.Lib.SliceRun
import Derived.Laws.EntriesVeiled
import Derived.LaidEql
import Derived.Stop.Asserts
set_option maxRecDepth 100000
namespace Go.Proofs.YtkkohllhebdlcaaGreatDoor
open Go.RowKit
def over (cur:List Value) (o:Nat) (vs:List Value):List Value:=cur.take o++(vs++cur.drop (o+vs.length))
theorem over_len {cur:List Value} {o:Nat} {vs:List Value} (h:o+vs.length≤cur.length):(over cur o vs).length=cur.length:=by
 simp [over];omega
theorem over_take {cur:List Value} {o k:Nat} {vs:List Value} (hk:k≤o) (ho:o≤cur.length):(over cur o vs).take k=cur.take k:=by
 rw [over,List.take_append_of_le_length (by simp;omega),List.take_take,Nat.min_eq_left hk]
theorem over_take_through {cur:List Value} {o:Nat} {vs:List Value} (ho:o≤cur.length):(over cur o vs).take (o+vs.length)=cur.take o++vs:=by
 rw [over,← List.append_assoc]
 exact List.take_left' (by simp;omega)
theorem over_nil {cur:List Value} {o:Nat}:over cur o []=cur:=by simp [over]
theorem over_cons {cur:List Value} {o:Nat} {v:Value} {r:List Value} (h:o < cur.length):over (cur.set o v) (o+1) r=over cur o (v :: r):=by
 apply List.ext_getElem?
 intro j
 simp only [over,List.getElem?_append,List.getElem?_take,List.getElem?_drop,List.length_take,List.length_set,List.getElem?_set,List.length_cons,List.getElem?_cons]
 have hm:min (o+1) cur.length=o+1:=by omega
 have hm2:min o cur.length=o:=by omega
 rw [hm,hm2]
 by_cases h1:j < o
 ·simp [h1,show j < o+1 by omega,show ¬ o=j by omega]
 ·by_cases h2:j=o
  ·subst h2
   simp [h]
  ·have h3:¬ j < o+1:=by omega
   have h4:¬ (j - o=0):=by omega
   simp only [h1,h3,if_false,h4]
   by_cases h5:j - (o+1) < r.length
   ·have h6:j - o < r.length+1:=by omega
    simp only [h5,h6,if_true]
    congr 1
   ·have h6:¬ (j - o < r.length+1):=by omega
    simp only [h5,h6,if_false]
    rw [if_neg (by omega)]
    congr 1
    omega
theorem setCells_row (g:Nat) (t:TypeId):∀ (vs:List Value) (o:Nat) (cur:List Value) (w:World),w.heap[g]?=some (.cells cur.toArray t (0,0))→o+vs.length≤cur.length→w.setCells g o vs=w.setRow g (over cur o vs).toArray
 |[],o,cur,w,hg,_=>by
  rw [over_nil,World.setCells,setRow_self w g _ t (0,0) hg]
 |v :: r,o,cur,w,hg,hl=>by
  simp only [List.length_cons] at hl
  have hs:=setCell_eq_setRow w g o cur.toArray t (0,0) v hg
  have e:cur.toArray.setIfInBounds o v=(cur.set o v).toArray:=by simp
  rw [e] at hs
  rw [World.setCells,hs,setCells_row g t r (o+1) (cur.set o v) _ (setRow_heap w g _ _ t _ hg) (by simp;omega),setRow_setRow,over_cons (by omega)]
variable {P:Program}
theorem run_copy_rowS (w:World) (dT sT ty elem:TypeId) (s g o dLen dCap:Nat) (a:Addr) (sLen sCap:Nat) (cur:List Value) (t:TypeId) (cs:List Value)
  (hu:P.underlying dT=some (.slice elem)) (hs:(P.info? elem).map (·.size)=some s)
  (hg:w.heap[g]?=some (.cells cur.toArray t (0,0))) (hn:cs.length=Nat.min sLen dLen * s)
  (hsrc:∀ j v,cs[j]?=some v→w.cell? (a.add j)=some v) (hfit:o+cs.length≤cur.length) (h1:∀ v∈cs,v.oneCell'=true) :
  (Builtin.copy_ #[dT,sT] ty #[.slice (some ⟨g,o,none⟩) dLen dCap,.slice (some a) sLen sCap]).run P w =
   .ok (goInt (Nat.min sLen dLen)) (w.setRow g (over cur o cs).toArray):=by
 have hl:=run_loadCells_list (P:=P) w a cs hsrc
 have hst:=run_storeCells_at P g o t cs 0 cur.toArray w hg (by simpa using hfit) h1
 cases hq:P.info? elem with
 |none=>simp [hq] at hs
 |some i =>
  have hi:i.size=s:=by simpa [hq] using hs
  have e:(cur.toArray.toList.take (o+0)++cs++cur.toArray.toList.drop (o+0+cs.length))=over cur o cs:=by simp [over]
  rw [e] at hst
  simp [Builtin.copy_,run_underlying hu,Builtin.lenOf,Builtin.firstCells,sizeOf,typeInfo,hq,hi,← hn,hl,hst]
theorem step_copy_runS {ops:Array Oper} {o:Oper} {a:Act} {w:World} {K:Act→World→Prop} {Q:Exit→Act→World→Prop} {E:Prop}
  (hg:o.guard=none) (d x:Operand) (dT sT:TypeId) (hop:o.op=Op.call { callee:=Callee.builtin Builtin.copy,args:=#[d,x],argTypes:=#[dT,sT] })
  (v u:Value) (hd:a.eval d=v) (hx:a.eval x=u) {v':Value} {w':World} (hr:(Builtin.copy_ #[dT,sT] o.type #[v,u]).run P w=.ok v' w') (hK:K (a.put o.dst v') w') :
  if Region.wanted o (yielded ops a.tmps)=true then Oper.wp P o a w K Q else E:=by
 have hw:Region.wanted o (yielded ops a.tmps)=true:=by simp [Region.wanted,hg]
 rw [if_pos hw]
 unfold Oper.wp
 simp [execOp,hop,resolve,invoke,builtin,hd,hx,hr,Result.andThen]
 exact hK
theorem run_clear_rowS (w:World) (t e ty:TypeId) (z:Value) (s g o n c:Nat) (cur:List Value) (te:TypeId) (ht:P.underlying t=some (.slice e)) (hv:∀ w,(zeroValue e).run P w=.ok z w) (hz:z.cells.size=s) (h1:∀ v∈z.cells.toList,v.oneCell'=true) (hn:0 < n)
  (hg:w.heap[g]?=some (.cells cur.toArray te (0,0))) (hfit:o+n * s≤cur.length) :
  ∃ zs:List Value,zs.length=n * s∧(Builtin.clear_ #[t] ty #[.slice (some ⟨g,o,none⟩) n c]).run P w=.ok (.tuple #[]) (w.setRow g (over cur o zs).toArray):=by
 obtain ⟨zs,hzs⟩:∃ zs,zs=(Builtin.zeroCells z.cells n).toList:=⟨_,rfl⟩
 have hl:zs.length=n * s:=by rw [hzs];simp [Builtin.zeroCells,hz]
 have h1z:∀ v∈zs,v.oneCell'=true:=by
  intro v hv'
  rw [hzs] at hv'
  simp only [Builtin.zeroCells,Array.toList_map,List.mem_map] at hv'
  obtain ⟨i,hi,rfl⟩:=hv'
  have hi2:i < n * z.cells.size:=by simpa using hi
  have hs0:0 < z.cells.size:=by
   rcases Nat.eq_zero_or_pos z.cells.size with h0|h0
   ·rw [h0] at hi2;omega
   ·exact h0
  have hm:=Nat.mod_lt i hs0
  rw [getElem!_pos z.cells (i % z.cells.size) hm]
  exact h1 _ (by simp)
 refine ⟨zs,hl,?_⟩
 have hst:=run_storeCells_at P g o te zs 0 cur.toArray w hg (by simpa [hl] using hfit) h1z
 have e:(cur.toArray.toList.take (o+0)++zs++cur.toArray.toList.drop (o+0+zs.length))=over cur o zs:=by simp [over]
 rw [e] at hst
 obtain ⟨m,rfl⟩:∃ m,n=m+1:=⟨n - 1,by omega⟩
 simp [Builtin.clear_,run_underlying ht,hv,← hzs,hst]
theorem grownBy_setRow (w:World) (g:Nat) (cs:Array Value):w.grownBy (w.setRow g cs) (some g) :=
 ⟨rfl,rfl,rfl,by simp [World.setRow],fun k _ hk=>setRow_other w g k cs (fun e=>hk (by rw [e]))⟩
theorem size_setRow (w:World) (g:Nat) (cs:Array Value):(w.setRow g cs).heap.size=w.heap.size:=by simp [World.setRow]
theorem grownBy_trans' {w w' w'':World} {r:Option Nat} (h:w.grownBy w' r) (h':w'.grownBy w'' r):w.grownBy w'' r :=
 ⟨h'.os.trans h.os,h'.tape.trans h.tape,h'.output.trans h.output,Nat.le_trans h.size h'.size,fun k hk hne=>(h'.block k (Nat.lt_of_lt_of_le hk h.size) hne).trans (h.block k hk hne)⟩
end Go.Proofs.YtkkohllhebdlcaaGreatDoor
namespace Go.Proofs.YtkkohllhebdlcaaGreatDoor
open Go.RowKit
theorem over_get {cur:List Value} {o j:Nat} {vs:List Value} (h:o+vs.length≤cur.length):(over cur o vs)[j]?=if j < o then cur[j]? else if j < o+vs.length then vs[j - o]? else cur[j]?:=by
 have hm:min o cur.length=o:=by omega
 rw [over,List.getElem?_append,List.length_take,hm]
 by_cases h1:j < o
 ·rw [if_pos h1,if_pos h1,List.getElem?_take,if_pos h1]
 ·rw [if_neg h1,if_neg h1,List.getElem?_append]
  by_cases h2:j < o+vs.length
  ·rw [if_pos (by omega),if_pos h2]
  ·rw [if_neg (by omega),if_neg h2,List.getElem?_drop]
   congr 1
   omega
def putIn (xs:List Value) (k:Nat) (vs:List Value):List Value:=xs.take k++vs++xs.drop k
theorem putIn_len {xs:List Value} {k:Nat} {vs:List Value} (h:k≤xs.length):(putIn xs k vs).length=xs.length+vs.length:=by
 simp [putIn];omega
theorem putIn_get {xs:List Value} {k j:Nat} {vs:List Value} (h:k≤xs.length):(putIn xs k vs)[j]?=if j < k then xs[j]? else if j < k+vs.length then vs[j - k]? else xs[j - vs.length]?:=by
 have hm:min k xs.length=k:=by omega
 rw [putIn,List.append_assoc,List.getElem?_append,List.length_take,hm]
 by_cases h1:j < k
 ·rw [if_pos h1,if_pos h1,List.getElem?_take,if_pos h1]
 ·rw [if_neg h1,if_neg h1,List.getElem?_append]
  by_cases h2:j < k+vs.length
  ·rw [if_pos (by omega),if_pos h2]
  ·rw [if_neg (by omega),if_neg h2,List.getElem?_drop]
   congr 1
   omega
theorem putIn_end {xs:List Value} {vs:List Value}:putIn xs xs.length vs=xs++vs:=by simp [putIn]
theorem putIn_end' {xs:List Value} {k:Nat} {vs:List Value} (h:k=xs.length):putIn xs k vs=xs++vs:=by subst h;exact putIn_end
theorem shift_take {L xs vs:List Value} {k m:Nat} (hk:k≤xs.length) (hm:vs.length=m) (hL:xs.length+m≤L.length) (hx:∀ j,j < xs.length→L[j]?=xs[j]?) :
  (over (over L (k+m) (xs.drop k)) k vs).take (xs.length+m)=putIn xs k vs:=by
 have h1:k+m+(xs.drop k).length≤L.length:=by simp;omega
 apply List.ext_getElem?
 intro j
 rw [putIn_get hk,List.getElem?_take,over_get (by rw [over_len h1];omega),over_get h1,hm]
 simp only [List.length_drop]
 by_cases a:j < k
 ·rw [if_pos (by omega),if_pos a,if_pos (by omega),if_pos a,hx j (by omega)]
 ·by_cases b:j < k+m
  ·rw [if_pos (by omega),if_neg a,if_pos b,if_neg a,if_pos b]
  ·rw [if_neg a,if_neg b,if_neg b,if_neg a,if_neg b]
   by_cases c:j < xs.length+m
   ·rw [if_pos c,if_pos (by omega),List.getElem?_drop]
    congr 1
    omega
   ·rw [if_neg c,List.getElem?_eq_none (by omega)]
theorem grow_take {L xs vs:List Value} {k m:Nat} (hk:k≤xs.length) (hm:vs.length=m) (hL:xs.length+m≤L.length) (hx:∀ j,j < k→L[j]?=xs[j]?) :
  (over (over L k vs) (k+m) (xs.drop k)).take (xs.length+m)=putIn xs k vs:=by
 have h0:k+vs.length≤L.length:=by omega
 apply List.ext_getElem?
 intro j
 rw [putIn_get hk,List.getElem?_take,over_get (by rw [over_len h0];simp;omega),over_get h0,hm]
 simp only [List.length_drop]
 by_cases a:j < k
 ·rw [if_pos (by omega),if_pos (by omega),if_pos a,if_pos a,hx j a]
 ·by_cases b:j < k+m
  ·rw [if_pos (by omega),if_pos b,if_neg a,if_pos b,if_neg a,if_pos b]
  ·rw [if_neg b,if_neg a,if_neg b,if_neg a,if_neg b]
   by_cases c:j < xs.length+m
   ·rw [if_pos c,if_pos (by omega),List.getElem?_drop]
    congr 1
    omega
   ·rw [if_neg c,List.getElem?_eq_none (by omega)]
end Go.Proofs.YtkkohllhebdlcaaGreatDoor
namespace Go.Proofs.YtkkohllhebdlcaaGreatDoor
open Go.RowKit
def badI (n:Int):Bool:=decide (n < 0) || decide (1073741824 < n)
theorem bad_any (n:Int) (w:World):Calls Tryz.prog 138 #[.int .i64 n] w fun e w'=>e=.returned (.bool (badI n))∧w=w':=by
 by_cases h1:n < 0
 ·rw [show badI n=true from by simp [badI,h1]]
  go_enter Tryz.func138,Tryz.ntmps138
  go_wp2
  go_ret
  exact ⟨rfl,rfl⟩
 ·by_cases h2:1073741824 < n
  ·rw [show badI n=true from by simp [badI,h2]]
   go_enter Tryz.func138,Tryz.ntmps138
   go_wp2
   go_ret
   exact ⟨rfl,rfl⟩
  ·rw [show badI n=false from by simp [badI];omega]
   have h3:decide (1073741824 < n)=false:=by simpa using h2
   go_enter Tryz.func138,Tryz.ntmps138
   go_wp2
   go_ret
   exact ⟨rfl,rfl⟩
theorem idxInt_none (a:Option Addr) (cap:Nat) (f:Value) (w:World):Calls Tryz.prog 143 #[.slice a 0 cap,f] w fun e w'=>e=.returned (.int .i64 (-1))∧Below w.heap.size w w':=by
 go_enter Tryz.func143,Tryz.ntmps143
 go_wp2_with fail
 refine wp_loop_rounds 1 ?_
 rw [rounds_succ]
 go_wp2
 go_ret
 exact ⟨rfl,Below.refl _ _⟩
def SomeIdx (l:List Int) (w:World) (e:Ending) (w':World):Prop:=(∃ i:Int,e=.returned (.int .i64 i)∧(if l.any badI then 0≤i else i=-1))∧Below w.heap.size w w'
theorem idxInt_some (b off n cap:Nat) (l:List Int) (w:World) (hn:n=l.length) (hl:0 < n) (hcap:n≤cap) (hm:cap≤9223372036854775807) (hc:∀ i,i < n→w.cell? ⟨b,off+i,none⟩=some (.int .i64 (l.getD i 0))) :
  Calls Tryz.prog 143 #[.slice (some ⟨b,off,none⟩) n cap,.func (.func 138) #[] #[]] w (SomeIdx l w):=by
 have HC:=LH hc
 have HN:=LH hn
 clear hn hc
 have hl':(0:Int) < (n:Int):=by omega
 go_enter Tryz.func143,Tryz.ntmps143
 go_wp2_with fail
 go_loopw [5,8] (fun _ i wr=>∃ k:Nat,k≤n∧i=.int .i64 (k:Int)∧Hid (∀ j,j < k→badI (l.getD j 0)=false)∧Below w.heap.size w wr) (fun _ i _=>n - (intOf i).toNat)
 case atStart=>exact ⟨0,Nat.zero_le _,rfl,(fun j hj=>absurd hj (Nat.not_lt_zero _)),Below.refl _ _⟩
 case round =>
  obtain ⟨k,hk,rfl,hno,hb⟩:=hrel
  by_cases hlt:k < n
  ·have hk0:(0:Int)≤(k:Int):=by omega
   have hk1:(k:Int) < (n:Int):=by omega
   have c0:=keep hb (HC.out k hlt)
   obtain ⟨x,hx⟩:∃ x,x=l.getD k 0:=⟨_,rfl⟩
   rw [← hx] at c0
   have HX:=LH hx
   clear hx
   obtain ⟨c,hc⟩:∃ c,c=badI x:=⟨_,rfl⟩
   have L:∀ w,Calls Tryz.prog 138 #[.int .i64 x] w fun e w'=>e=.returned (.bool c)∧w=w':=fun w=>by rw [hc];exact bad_any x w
   have HL:=LH L
   have HLC:=LH hc
   clear L hc
   cases c
   all_goals
    go_wp2_with fail
    refine (HL.out _).mono ?_
    rintro e w1 ⟨rfl,rfl⟩
    go_wp2_with fail
   ·go_roundw
    case rel =>
     refine ⟨k+1,by omega,by go_num,fun j hj=>?_,hb⟩
     by_cases hjk:j < k
     ·exact hno.out j hjk
     ·obtain rfl:j=k:=by omega
      rw [← HX.out,← HLC.out]
    case measure=>simp [intOf];omega
   ·go_ret
    refine ⟨⟨k,rfl,?_⟩,hb⟩
    have:l.any badI=true:=by
     rw [List.any_eq_true]
     have h1:=HN.out
     refine ⟨x,?_,HLC.out.symm⟩
     rw [HX.out]
     simp [List.getD,show k < l.length by omega]
    rw [if_pos this]
    omega
  ·obtain rfl:k=n:=by omega
   have hlt':¬ (k:Int) < (k:Int):=by omega
   go_wp2_with fail
   go_ret
   refine ⟨⟨-1,rfl,?_⟩,hb⟩
   have:l.any badI=false:=by
    rw [List.any_eq_false]
    intro y hy
    obtain ⟨j,hj,rfl⟩:=List.getElem_of_mem hy
    have h1:=HN.out
    have h2:=hno.out j (by omega)
    simpa [List.getD,hj] using h2
   rw [this]
   rfl
theorem contInt_any {v:Value} {l:List Int} {w:World} (h:SliceR w v 1 intCell l) :
  Calls Tryz.prog 141 #[v,.func (.func 138) #[] #[]] w fun e w'=>e=.returned (.bool (l.any badI))∧Below w.heap.size w w':=by
 obtain ⟨a,cap,rfl,hcap,hm,_,hc⟩:=h.one (c:=fun n=>.int .i64 n) 0
 have K:Calls Tryz.prog 143 #[.slice a l.length cap,.func (.func 138) #[] #[]] w (SomeIdx l w):=by
  by_cases hl:l.length=0
  ·have:l=[]:=List.length_eq_zero_iff.1 hl
   subst this
   exact (idxInt_none a cap _ w).mono fun e w' ⟨h1,h2⟩=>⟨⟨-1,h1,by simp⟩,h2⟩
  ·obtain ⟨b,off,rfl,hd⟩:=hc (by omega)
   unfold maxLen at hm
   exact idxInt_some b off _ cap l w rfl (by omega) hcap hm hd
 have HK:=LH K
 clear K hc
 obtain ⟨c,hc⟩:∃ c,c=l.any badI:=⟨_,rfl⟩
 rw [← hc]
 have HCC:=LH hc
 clear hc
 go_enter Tryz.func141,Tryz.ntmps141
 go_wp2_with fail
 refine HK.out.mono ?_
 rintro e w1 ⟨⟨i,rfl,hi⟩,hb⟩
 rw [← HCC.out] at hi
 cases c
 ·simp only [Bool.false_eq_true,if_false] at hi
  subst hi
  go_wp2_with fail
  go_ret
  exact ⟨rfl,hb⟩
 ·rw [if_pos rfl] at hi
  go_wp2_with fail
  go_ret
  exact ⟨rfl,hb⟩
end Go.Proofs.YtkkohllhebdlcaaGreatDoor
namespace Go.Proofs.YtkkohllhebdlcaaGreatDoor
open Go.RowKit
def rowBad (l:List Int):Bool:=decide (l.length≠8) || l.any badI
theorem rowBad_any {v:Value} {l:List Int} {w:World} {pb:Nat} (h:SliceR w v 1 intCell l) (hp:w.cell? ⟨pb,0,none⟩=some (.func (.func 138) #[] #[])) :
  Calls Tryz.prog 140 #[v,.pointer (some ⟨pb,0,none⟩)] w fun e w'=>e=.returned (.bool (rowBad l))∧Below w.heap.size w w':=by
 have K:=LH (contInt_any h)
 obtain ⟨a,cap,rfl,_⟩:=h
 by_cases h8:l.length=8
 ·have e8:rowBad l=l.any badI:=by simp [rowBad,h8]
  rw [e8]
  obtain ⟨c,hc⟩:∃ c,c=l.any badI:=⟨_,rfl⟩
  rw [← hc] at K ⊢
  clear hc
  have hd:((l.length:Int) != 8)=false:=by simp;omega
  clear e8 h8
  cases c
  all_goals
   go_enter Tryz.func140,Tryz.ntmps140
   go_wp2_with fail
   refine K.out.mono ?_
   rintro e w1 ⟨rfl,hb⟩
   go_wp2_with fail
   go_ret
   exact ⟨rfl,hb⟩
 ·have e8:rowBad l=true:=by simp [rowBad,h8]
  rw [e8]
  have hd:((l.length:Int) != 8)=true:=by simp;omega
  clear e8 h8 K
  go_enter Tryz.func140,Tryz.ntmps140
  go_wp2_with fail
  go_ret
  exact ⟨rfl,Below.refl _ _⟩
theorem idxRow_none (a:Option Addr) (cap:Nat) (f:Value) (w:World):Calls Tryz.prog 142 #[.slice a 0 cap,f] w fun e w'=>e=.returned (.int .i64 (-1))∧Below w.heap.size w w':=by
 go_enter Tryz.func142,Tryz.ntmps142
 go_wp2_with fail
 refine wp_loop_rounds 1 ?_
 rw [rounds_succ]
 go_wp2
 go_ret
 exact ⟨rfl,Below.refl _ _⟩
def SomeRow (m:List (List Int)) (w:World) (e:Ending) (w':World):Prop:=(∃ i:Int,e=.returned (.int .i64 i)∧(if m.any rowBad then 0≤i else i=-1))∧Below w.heap.size w w'
theorem idxRow_some (b off n cap pb:Nat) (us:List Value) (m:List (List Int)) (w:World) (hn:n=m.length) (hl:0 < n) (hcap:n≤cap) (hm:cap≤9223372036854775807)
  (hc:∀ i,i < n→w.cell? ⟨b,off+i,none⟩=some (us.getD i .nilIface)) (hr:∀ i,i < n→SliceR w (us.getD i .nilIface) 1 intCell (m.getD i []))
  (hp:w.cell? ⟨pb,0,none⟩=some (.func (.func 138) #[] #[])) :
  Calls Tryz.prog 142 #[.slice (some ⟨b,off,none⟩) n cap,.func (.func 140) #[] #[.pointer (some ⟨pb,0,none⟩)]] w (SomeRow m w):=by
 have HC:=LH hc
 have HR:=LH hr
 have HN:=LH hn
 have HP:=LH hp
 clear hn hc hr hp
 have hl':(0:Int) < (n:Int):=by omega
 go_enter Tryz.func142,Tryz.ntmps142
 go_wp2_with fail
 go_loopw [5,8] (fun _ i wr=>∃ k:Nat,k≤n∧i=.int .i64 (k:Int)∧Hid (∀ j,j < k→rowBad (m.getD j [])=false)∧Below w.heap.size w wr) (fun _ i _=>n - (intOf i).toNat)
 case atStart=>exact ⟨0,Nat.zero_le _,rfl,(fun j hj=>absurd hj (Nat.not_lt_zero _)),Below.refl _ _⟩
 case round =>
  obtain ⟨k,hk,rfl,hno,hb⟩:=hrel
  by_cases hlt:k < n
  ·have hk0:(0:Int)≤(k:Int):=by omega
   have hk1:(k:Int) < (n:Int):=by omega
   have c0:=keep hb (HC.out k hlt)
   have r0:=(HR.out k hlt).below (fun _=>rfl) hb
   have p0:=keep hb HP.out
   obtain ⟨u,hu⟩:∃ u,u=us.getD k .nilIface:=⟨_,rfl⟩
   rw [← hu] at c0 r0
   clear hu
   obtain ⟨x,hx⟩:∃ x,x=m.getD k []:=⟨_,rfl⟩
   rw [← hx] at r0
   have HX:=LH hx
   clear hx
   obtain ⟨c,hc⟩:∃ c,c=rowBad x:=⟨_,rfl⟩
   have L:=rowBad_any r0 p0
   rw [← hc] at L
   obtain ⟨ua,ucap,hua,_⟩:=r0
   subst hua
   have HL:=LH L
   have HLC:=LH hc
   clear L hc p0
   cases c
   all_goals
    go_wp2_with fail
    refine HL.out.mono ?_
    rintro e w1 ⟨rfl,hb1⟩
    have hb2:=hb.trans (hb1.mono hb.size)
    clear hb hb1 c0
    go_wp2_with fail
   ·go_roundw
    case rel =>
     refine ⟨k+1,by omega,by go_num,fun j hj=>?_,hb2⟩
     by_cases hjk:j < k
     ·exact hno.out j hjk
     ·obtain rfl:j=k:=by omega
      rw [← HX.out,← HLC.out]
    case measure=>simp [intOf];omega
   ·go_ret
    refine ⟨⟨k,rfl,?_⟩,hb2⟩
    have:m.any rowBad=true:=by
     rw [List.any_eq_true]
     have h1:=HN.out
     refine ⟨x,?_,HLC.out.symm⟩
     rw [HX.out]
     simp [List.getD,show k < m.length by omega]
    rw [if_pos this]
    omega
  ·obtain rfl:k=n:=by omega
   have hlt':¬ (k:Int) < (k:Int):=by omega
   go_wp2_with fail
   go_ret
   refine ⟨⟨-1,rfl,?_⟩,hb⟩
   have:m.any rowBad=false:=by
    rw [List.any_eq_false]
    intro y hy
    obtain ⟨j,hj,rfl⟩:=List.getElem_of_mem hy
    have h1:=HN.out
    have h2:=hno.out j (by omega)
    simpa [List.getD,hj] using h2
   rw [this]
   rfl
theorem contRow_any {v:Value} {m:List (List Int)} {w:World} {pb:Nat} (h:RowsR w v m) (hp:w.cell? ⟨pb,0,none⟩=some (.func (.func 138) #[] #[])) :
  Calls Tryz.prog 139 #[v,.func (.func 140) #[] #[.pointer (some ⟨pb,0,none⟩)]] w fun e w'=>e=.returned (.bool (m.any rowBad))∧Below w.heap.size w w':=by
 obtain ⟨us,h1,h2,h3⟩:=h
 obtain ⟨a,cap,rfl,hcap,hm,_,hc⟩:=h1.one (c:=fun u=>u) .nilIface
 have K:Calls Tryz.prog 142 #[.slice a us.length cap,.func (.func 140) #[] #[.pointer (some ⟨pb,0,none⟩)]] w (SomeRow m w):=by
  by_cases hl:us.length=0
  ·have:m=[]:=List.length_eq_zero_iff.1 (by omega)
   subst this
   rw [hl]
   exact (idxRow_none a cap _ w).mono fun e w' ⟨h1,h2⟩=>⟨⟨-1,h1,by simp⟩,h2⟩
  ·obtain ⟨b,off,rfl,hd⟩:=hc (by omega)
   unfold maxLen at hm
   exact idxRow_some b off _ cap pb us m w h2 (by omega) hcap hm hd (fun i hi=>h3 i (by omega)) hp
 have HK:=LH K
 clear K hc h3 hp h2
 obtain ⟨c,hc⟩:∃ c,c=m.any rowBad:=⟨_,rfl⟩
 rw [← hc]
 have HCC:=LH hc
 clear hc
 go_enter Tryz.func139,Tryz.ntmps139
 go_wp2_with fail
 refine HK.out.mono ?_
 rintro e w1 ⟨⟨i,rfl,hi⟩,hb⟩
 rw [← HCC.out] at hi
 cases c
 ·simp only [Bool.false_eq_true,if_false] at hi
  subst hi
  go_wp2_with fail
  go_ret
  exact ⟨rfl,hb⟩
 ·rw [if_pos rfl] at hi
  go_wp2_with fail
  go_ret
  exact ⟨rfl,hb⟩
def okC (m:List (List Int)):Bool:=decide (m.length=4) && !m.any rowBad
theorem comCheck_any {v:Value} {m:List (List Int)} {w:World} (h:RowsR w v m) :
  Calls Tryz.prog 132 #[v] w fun e w'=>e=.returned (.int .i64 (if okC m then 0 else 8))∧Below w.heap.size w w':=by
 have h0:=LH h
 obtain ⟨us,h1,h2,h3⟩:=h
 obtain ⟨a,cap,rfl,hcap,hm,_,hc⟩:=h1.one (c:=fun u=>u) .nilIface
 clear hc h3 h1
 obtain ⟨n,hn⟩:∃ n,n=us.length:=⟨_,rfl⟩
 rw [← hn] at h0 hcap ⊢
 rw [← hn] at h2
 by_cases h4:n=4
 ·have e4:okC m=!m.any rowBad:=by simp [okC,← h2,h4]
  rw [e4]
  obtain ⟨c,hc⟩:∃ c,c=m.any rowBad:=⟨_,rfl⟩
  rw [← hc]
  have HLC:=LH hc
  clear hc e4 h2 hn
  have hd:((n:Int) != 4)=false:=by simp;omega
  clear h4
  go_enter Tryz.func132,Tryz.ntmps132
  go_wp2_with fail
  refine (contRow_any (h0.out.below ?_) ?_).mono ?_
  ·exact ((Below.refl _ _).alloc (Nat.le_refl _) _)
  ·go_simp
  rintro e w1 ⟨rfl,hb⟩
  rw [← HLC.out]
  have hb':Below w.heap.size w w1:=((Below.refl _ _).alloc (Nat.le_refl _) _).trans (hb.mono (by simp))
  clear hb
  cases c
  all_goals
   go_wp2_with fail
   go_ret
   exact ⟨rfl,hb'⟩
 ·have e4:okC m=false:=by simp [okC,← h2,h4]
  rw [e4]
  have hd:((n:Int) != 4)=true:=by simp;omega
  clear h4 e4 h0 hn h2
  go_enter Tryz.func132,Tryz.ntmps132
  go_wp2_with fail
  go_ret
  exact ⟨rfl,by repeat (first|exact Below.refl _ _|(refine Below.setCell ?_ (by simp) _)|(refine Below.alloc ?_ (by simp) _))⟩
end Go.Proofs.YtkkohllhebdlcaaGreatDoor
namespace Go.Proofs.YtkkohllhebdlcaaGreatDoor
open Go.RowKit Go.Extern.Stop Go.Stop Go.Extern
def wrongV (e:Int):Value:=.iface 85 (.agg #[.int .i64 e])
def fromV (s:ByteArray) (e:Int):Value:=.iface 137 (.agg #[.string s,wrongV e])
def errV (s:ByteArray) (e:Int):Value:=if e=0 then .nilIface else fromV s e
theorem wrap_any (s:ByteArray) (e:Int) (w:World):Calls Tryz.prog 37 #[.string s,.int .i64 e] w fun ev w'=>ev=.returned (errV s e)∧w'=w:=by
 by_cases h:e=0
 ·subst h
  go_enter Tryz.func37,Tryz.ntmps37
  go_wp2
  go_ret
  exact ⟨rfl,rfl⟩
 ·have hb:(e == 0)=false:=by simpa using h
  have hE:errV s e=fromV s e:=if_neg h
  rw [hE]
  clear hE
  go_enter Tryz.func37,Tryz.ntmps37
  go_wp2
  go_ret
  exact ⟨rfl,rfl⟩
theorem isTypeOfW (v:Value) (w:World):(Extern.ReflectliteType.typeOf #[.iface 85 v]).run Tryz.prog w=.ok (.iface 165 (.agg #[.pointer (some ⟨1,85,none⟩)])) w:=by kernel_rfl
def cmpE:Array Value→Sem Value:=Extern.ReflectliteType.method fun t=>do Extern.Rtype.noPackHeld "Comparable" t;pure (.bool (← typeInfo t).comparable)
theorem isComparableW (w:World):(cmpE #[.agg #[.pointer (some ⟨1,85,none⟩)]]).run Tryz.prog w=.ok (.bool true) w:=by kernel_rfl
theorem methodComparable (v:Value) (w:World):(Go.method 388 165 v "Comparable").run Tryz.prog w=.ok (169,v) w:=by kernel_rfl
theorem methodUnwrap (v:Value) (w:World):(Go.method 388 137 v "Unwrap").run Tryz.prog w=.ok (163,v) w:=by kernel_rfl
theorem noIsW (v:Value) (xT:TypeId) (w:World):(Instr.typeAssert (.iface 85 v) xT 167 true).run Tryz.prog w=.ok (.tuple #[.nilIface,.bool false]) w:=run_typeAssert_lacksB Tryz.underlying167 (by kernel_rfl) (by kernel_rfl) v xT w
theorem noUnwrapW (v:Value) (xT:TypeId) (w:World):(Instr.typeAssert (.iface 85 v) xT 170 true).run Tryz.prog w=.ok (.tuple #[.nilIface,.bool false]) w:=run_typeAssert_lacksB Tryz.underlying170 (by kernel_rfl) (by kernel_rfl) v xT w
theorem noUnwrapsW (v:Value) (xT:TypeId) (w:World):(Instr.typeAssert (.iface 85 v) xT 172 true).run Tryz.prog w=.ok (.tuple #[.nilIface,.bool false]) w:=run_typeAssert_lacksB Tryz.underlying172 (by kernel_rfl) (by kernel_rfl) v xT w
theorem noIsF (v:Value) (xT:TypeId) (w:World):(Instr.typeAssert (.iface 137 v) xT 167 true).run Tryz.prog w=.ok (.tuple #[.nilIface,.bool false]) w:=run_typeAssert_lacksB Tryz.underlying167 (by kernel_rfl) (by kernel_rfl) v xT w
theorem hasUnwrapF (v:Value) (xT:TypeId) (w:World):(Instr.typeAssert (.iface 137 v) xT 170 true).run Tryz.prog w=.ok (.tuple #[.iface 137 v,.bool true]) w:=run_typeAssert_hasB Tryz.underlying170 (by kernel_rfl) v xT w
theorem wrong_fields:Tryz.prog.underlying 85=some (.struct (Tryz.prog.fieldsOf 85)):=by kernel_rfl
theorem wrong_held:Tryz.prog.stoodInHeld 85=false:=by kernel_rfl
theorem wrong_comp:(Tryz.prog.info? 85).map (·.comparable)=some true:=by kernel_rfl
theorem equalW (a b:Int) (w:World) (d:Nat):(Op.equalIn (d+3) 71 (.iface 85 (.agg #[.int .i64 a])) (.iface 85 (.agg #[.int .i64 b]))).run Tryz.prog w=.ok (a == b) w:=by
 obtain ⟨i,hi,hcmp⟩:=Option.map_eq_some_iff.1 wrong_comp
 have h1:(Op.equalIn (d+2) 85 (.agg #[.int .i64 a]) (.agg #[.int .i64 b])).run Tryz.prog w=.ok (a == b) w:=by
  rw [run_equalIn_agg w (d+1) _ _ _ wrong_fields wrong_held]
  simp only [Program.fieldsOf,Tryz.underlying85]
  go_simp
  by_cases h:a=b <;> simp [h]
 rw [show d+3=(d+2)+1 from rfl,Op.equalIn]
 simp [run_underlying Tryz.underlying71,typeInfo,hi,hcmp,h1]
theorem eqlW (a b:Int) (w:World):(binOp .eql 71 (.iface 85 (.agg #[.int .i64 a])) (.iface 85 (.agg #[.int .i64 b]))).run Tryz.prog w=.ok (.bool (a == b)) w:=by
 simp only [binOp]
 simp [Op.equal,Op.maxDepth,equalW a b w 9997]
theorem is_nilW (e:Int) (w:World):Calls Tryz.prog 23 #[.nilIface,.iface 85 (.agg #[.int .i64 e])] w fun ev w'=>ev=.returned (.bool false)∧w'=w:=by
 have hn:=run_eql_iface_nil_left (P:=Tryz.prog) w 85 (.agg #[.int .i64 e]) Tryz.underlying71
 go_enter Tryz.func23,Tryz.ntmps23
 go_wp2
 go_ret
 exact ⟨rfl,rfl⟩
set_option maxHeartbeats 4000000 in
set_option maxRecDepth 100000 in
theorem is_fromW (s:ByteArray) (x e:Int) (w:World):Calls Tryz.prog 23 #[.iface 137 (.agg #[.string s,.iface 85 (.agg #[.int .i64 x])]),.iface 85 (.agg #[.int .i64 e])] w fun ev w'=>(∃ b,ev=.returned (.bool b))∧Below w.heap.size w w':=by
 have h8:=@run_callFunc_extern Tryz.prog 43 _ Extern.ReflectliteType.typeOf Tryz.func43 (by kernel_rfl) (by kernel_rfl) (by kernel_rfl) (by kernel_rfl)
 have h32:=@run_callFunc_extern Tryz.prog 169 _ cmpE Tryz.func169 (by kernel_rfl) (by kernel_rfl) (by kernel_rfl) (by kernel_rfl)
 have tT:=isTypeOfW
 have cT:=isComparableW
 have mR:=methodComparable
 have mU:=methodUnwrap
 have nI:=noIsW
 have nU:=noUnwrapW
 have nV:=noUnwrapsW
 have nF:=noIsF
 have hU:=hasUnwrapF
 have heq:=eqlW x e
 obtain ⟨bq,hbq⟩:∃ bq,bq=(x == e):=⟨_,rfl⟩
 rw [← hbq] at heq
 clear hbq
 have hty:=fun w=>run_eql_iface_types (P:=Tryz.prog) 137 85 (.agg #[.string s,.iface 85 (.agg #[.int .i64 x])]) (.agg #[.int .i64 e]) Tryz.underlying71 (by decide) w
 go_enter Tryz.func23,Tryz.ntmps23
 go_wp2
 refine wp_loop_rounds 2 ?_
 rw [rounds_succ]
 go_wp2
 cases bq
 all_goals
  rw [rounds_succ]
  go_wp2
  go_ret
  exact ⟨⟨_,rfl⟩,(Below.refl _ _).alloc (Nat.le_refl _) _⟩
theorem is_any (s:ByteArray) (x e:Int) (w:World):Calls Tryz.prog 23 #[errV s x,wrongV e] w fun ev w'=>(∃ b,ev=.returned (.bool b)∧(x=0→b=false))∧Below w.heap.size w w':=by
 by_cases h:x=0
 ·rw [errV,if_pos h]
  refine (is_nilW e w).mono ?_
  rintro ev w' ⟨rfl,rfl⟩
  exact ⟨⟨false,rfl,fun _=>rfl⟩,Below.refl _ _⟩
 ·rw [errV,if_neg h]
  refine (is_fromW s x e w).mono ?_
  rintro ev w' ⟨⟨b,rfl⟩,hb⟩
  exact ⟨⟨b,rfl,fun h'=>absurd h' h⟩,hb⟩
end Go.Proofs.YtkkohllhebdlcaaGreatDoor
