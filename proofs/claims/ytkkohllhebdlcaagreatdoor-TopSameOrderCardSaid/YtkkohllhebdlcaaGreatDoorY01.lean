/-
  Proved here: Texts that belong together; the remark at the head of each says what i Plain: messages and commands with their lists, and how their values re cmp.Compare and cmp.isNaN at int; cmp.Or at int over two numbers. No c cmp.Or at int over a slice of two numbers: the first that is not zero. stamp.Check and the document's: whether a stamp may be. No condition. stamp.Of and the document's: what each returns
-/
import Derived.Test.YtkkohllhebdlcaaGreatDoorProg
import Derived.Test.YtkkohllhebdlcaaGreatDoorY00
import Derived.WalkKit
import Derived.Deep.QuietTactic
import Derived.BigQuiet
import Derived.ProofKit
import Derived.Deep.Slices
import Derived.Laws.AppendOwnNone
import Derived.SizedLaws
import Derived.Laws.CopyOwn
import Derived.Maps.OwnOps
import Derived.Maps.Views
import Derived.Maps.Keyed
import Derived.StringKeys
import Derived.WideMake
import Derived.Maps.OwnSet
import Derived.Laws.Rows
set_option maxRecDepth 100000
set_option maxRecDepth 100000
/-
  Small helpers: no program in sight.
-/
namespace Go.Proofs.YtkkohllhebdlcaaGreatDoor
open Go.RowKit
theorem callsFlip {P:Program} {f:FuncId} {args:Array Value} {w:World} {r:Ending} (h:Calls P f args w fun e w'=>e=r∧w=w'):Calls P f args w fun e w'=>e=r∧w'=w :=
 h.mono fun _ _ ⟨a,b⟩=>⟨a,b.symm⟩
theorem bcell {W w1:World} {B:Nat} (hb:Below B W w1):(∀ b o,b < B→w1.cell? ⟨b,o,none⟩=W.cell? ⟨b,o,none⟩)∧(∀ b o,b < B→w1.frozen? ⟨b,o,none⟩=W.frozen? ⟨b,o,none⟩) :=
 ⟨fun b o h=>hb.cell (p:=⟨b,o,none⟩) h,fun b o h=>hb.frozen (p:=⟨b,o,none⟩) h⟩
theorem keep {W w1:World} {a:Addr} {v:Value} (hb:Below W.heap.size W w1) (h:W.cell? a=some v):w1.cell? a=some v:=by
 have:=World.block_lt_of_cell? W _ h
 rw [hb.cell this];exact h
theorem quiet_any {P:Program} {ops:Array Oper} {o:Oper} {a:Act} {C:World→Prop} {K:Act→Prop} (hw:Region.wanted o (yielded ops a.tmps)=true)
  (h:∃ v,(∀ w',C w'→Oper.quietUpon P C w' v ((execOp a.eval o).run P w'))∧K (a.put o.dst v)):if Region.wanted o (yielded ops a.tmps) then o.quiet P a C K else K (a.put o.dst undef):=by
 rw [if_pos hw]
 exact h
theorem quiet_not {P:Program} {ops:Array Oper} {o:Oper} {a:Act} {C:World→Prop} {K:Act→Prop} (hw:Region.wanted o (yielded ops a.tmps)=false)
  (hk:K (a.put o.dst undef)):if Region.wanted o (yielded ops a.tmps) then o.quiet P a C K else K (a.put o.dst undef):=by
 rw [if_neg (by rw [hw];exact Bool.false_ne_true)]
 exact hk
theorem wp_region_class {P:Program} {id:Nat} {Q:Exit→Act→World→Prop} {a:Act} {w:World} {l:List Oper} (C:World→Prop) (hm:P.follows .mixedOrders=true) (hB:Region.lexB .any l.toArray=true) (hC:C w.drew)
  (h:wpQuiet P l.toArray C (fun a'=>∀ w',C w'→Q .normal a' w') l a):(Code.region id l.toArray true).wp P Q a w :=
 wp_region_quiet (C:=C) hm hB hC (by simpa using h)
def LawEnd (w:World) (e:Ending) (w':World):Prop:=e=.returned (.bool true)∧Below w.heap.size w w'
end Go.Proofs.YtkkohllhebdlcaaGreatDoor
/-
  Plain mathematics of a topic: entries that rise, what a topic may be, told twice (the program's way and the document's), what is fetched. No program in sight. No condition.
-/
namespace Go.Proofs.YtkkohllhebdlcaaGreatDoor
structure Ent where
 off:Int
 id:Int
 key:ByteArray
 body:ByteArray
instance:Inhabited Ent:=⟨⟨0,0,ByteArray.empty,ByteArray.empty⟩⟩
structure Top where
 base:Int
 next:Int
 mark:Int
 ents:List Ent
namespace Top
def okEnt (x:Ent):Prop:=0≤x.id∧x.id < 6291456∧x.key.size≤16∧x.body.size≤64
instance (x:Ent):Decidable (okEnt x):=by unfold okEnt;infer_instance
def head (t:Top):Prop:=0≤t.next∧t.next≤1073741824∧0≤t.base∧t.base≤t.next∧0≤t.mark∧t.mark≤t.next∧t.ents.length≤200
instance (t:Top):Decidable (head t):=by unfold head;infer_instance
def good (t:Top) (i:Nat):Prop :=
 okEnt (t.ents.getD i default)∧t.base≤(t.ents.getD i default).off∧(t.ents.getD i default).off < t.next ∧
  (0 < i→(t.ents.getD (i - 1) default).off < (t.ents.getD i default).off) ∧
  ((t.ents.getD i default).off < t.mark→∀ k,k < i→(t.ents.getD k default).key≠(t.ents.getD i default).key)
def whole (t:Top) (l:List Ent):Nat:=l.countP fun x=>decide (t.mark≤x.off)
def may (t:Top):Prop:=head t∧(∀ i,i < t.ents.length→good t i)∧(whole t t.ents:Int)=t.next - max t.mark t.base
def chk (t:Top):Int→List ByteArray→List Ent→Prop
 |last,_,[]=>max (last+1) t.mark=t.next
 |last,seen,x :: l =>
  (okEnt x∧last < x.off∧x.off < t.next∧x.off≤max (last+1) t.mark∧(x.off < t.mark→x.key ∉ seen)) ∧
   chk t x.off (if x.off < t.mark then x.key :: seen else seen) l
def rest (t:Top):Int→List ByteArray→List Ent→Prop
 |_,_,[]=>True
 |last,seen,x :: l =>
  (okEnt x∧last < x.off∧x.off < t.next∧(x.off < t.mark→x.key ∉ seen))∧rest t x.off (if x.off < t.mark then x.key :: seen else seen) l
theorem rest_count (t:Top):∀ (l:List Ent) (last:Int) (seen:List ByteArray),rest t last seen l→last < t.next→(whole t l:Int)≤t.next - 1 - last
 |[],last,_,_,h=>by simp [whole];omega
 |x :: l,last,seen,⟨⟨_,h1,h2,_⟩,hr⟩,h=>by
  have:=rest_count t l x.off _ hr h2
  unfold whole at *
  rw [List.countP_cons]
  split <;> omega
theorem chk_iff (t:Top):∀ (l:List Ent) (last:Int) (seen:List ByteArray),max (last+1) t.mark≤t.next →
  (chk t last seen l↔rest t last seen l∧(whole t l:Int)=t.next - max (last+1) t.mark)
 |[],last,seen,h=>by simp [chk,rest,whole];omega
 |x :: l,last,seen,h=>by
  unfold chk rest
  have hw:(whole t (x :: l):Int)=(whole t l:Int)+if t.mark≤x.off then 1 else 0:=by
   unfold whole
   rw [List.countP_cons]
   by_cases c:t.mark≤x.off <;> simp [c]
  constructor
  ·rintro ⟨⟨h1,h2,h3,h4,h5⟩,hc⟩
   have ih:=(chk_iff t l x.off _ (by omega)).1 hc
   refine ⟨⟨⟨h1,h2,h3,h5⟩,ih.1⟩,?_⟩
   rw [hw,ih.2]
   split <;> omega
  ·rintro ⟨⟨⟨h1,h2,h3,h5⟩,hr⟩,hcount⟩
   rw [hw] at hcount
   have hb:=rest_count t l x.off _ hr h3
   have h4:x.off≤max (last+1) t.mark:=by
    split at hcount <;> omega
   refine ⟨⟨h1,h2,h3,h4,h5⟩,(chk_iff t l x.off _ (by omega)).2 ⟨hr,?_⟩⟩
   split at hcount <;> omega
theorem getD_mid {pre l:List Ent} {x:Ent}:(pre++x :: l).getD pre.length default=x:=by simp [List.getD]
theorem getD_pre {pre l:List Ent} {k:Nat} (h:k < pre.length):(pre++l).getD k default=pre.getD k default:=by simp [List.getD,List.getElem?_append_left h]
theorem getD_mem {pre:List Ent} {k:Nat} (h:k < pre.length):pre.getD k default∈pre:=by
 have:pre.getD k default=pre[k]:=by simp [List.getD,h]
 rw [this];exact List.getElem_mem h
theorem rest_iff (t:Top):∀ (l pre:List Ent) (last:Int) (seen:List ByteArray),t.ents=pre++l→(pre=[]→last=t.base - 1) →
  (0 < pre.length→(pre.getD (pre.length - 1) default).off=last)→(∀ y∈pre,y.off≤last)→t.base - 1≤last →
  (∀ k,k∈seen↔∃ y∈pre,y.off < t.mark∧y.key=k)→(rest t last seen l↔∀ i,pre.length≤i→i < t.ents.length→good t i)
 |[],pre,last,seen,he,_,_,_,_,_=>by
  simp only [rest,true_iff]
  intro i h1 h2
  rw [he] at h2
  simp at h2
  omega
 |x :: l,pre,last,seen,he,h0,hl,hle,hb,hs=>by
  have hx:t.ents.getD pre.length default=x:=by rw [he];exact getD_mid
  have hlen:pre.length < t.ents.length:=by rw [he];simp
  have ih:=rest_iff t l (pre++[x]) x.off (if x.off < t.mark then x.key :: seen else seen) (by rw [he];simp) (by simp)
   (by intro _;simp)
  have hgood:(okEnt x∧last < x.off∧x.off < t.next∧(x.off < t.mark→x.key ∉ seen))↔good t pre.length:=by
   unfold good
   rw [hx]
   constructor
   ·rintro ⟨h1,h2,h3,h4⟩
    refine ⟨h1,by omega,h3,?_,?_⟩
    ·intro hp
     rw [he,getD_pre (by omega),hl hp]
     exact h2
    ·intro hm k hk
     rw [he,getD_pre hk]
     intro hkey
     exact h4 hm ((hs _).2 ⟨_,getD_mem hk,by have:=hle _ (getD_mem hk);omega,hkey⟩)
   ·rintro ⟨h1,h2,h3,h4,h5⟩
    refine ⟨h1,?_,h3,?_⟩
    ·by_cases hp:0 < pre.length
     ·have:=h4 hp
      rw [he,getD_pre (by omega),hl hp] at this
      exact this
     ·have:pre=[]:=by cases pre with
       |nil=>rfl
       |cons _ _=>simp at hp
      have:=h0 this
      omega
    ·intro hm hmem
     obtain ⟨y,hy,_,hkey⟩:=(hs _).1 hmem
     obtain ⟨k,hk,hyk⟩:=List.getElem_of_mem hy
     have:=h5 hm k hk
     rw [he,getD_pre hk] at this
     apply this
     rw [← hkey,← hyk]
     simp [List.getD,hk]
  unfold rest
  rw [hgood]
  constructor
  ·rintro ⟨hg,hr⟩
   have hgx:=hgood.2 hg
   have ih':=ih (by
    intro y hy
    rw [List.mem_append] at hy
    rcases hy with hy|hy
    ·have:=hle y hy;omega
    ·simp at hy;subst hy;omega) (by omega) (by
    intro k
    by_cases hm:x.off < t.mark
    ·simp only [hm,if_true,List.mem_cons,hs,List.mem_append,List.not_mem_nil,or_false]
     constructor
     ·rintro (rfl|⟨y,hy,h⟩)
      ·exact ⟨x,Or.inr rfl,hm,rfl⟩
      ·exact ⟨y,Or.inl hy,h⟩
     ·rintro ⟨y,hy|rfl,h⟩
      ·exact Or.inr ⟨y,hy,h⟩
      ·exact Or.inl h.2.symm
    ·simp only [hm,if_false,hs,List.mem_append,List.mem_cons,List.not_mem_nil,or_false]
     constructor
     ·rintro ⟨y,hy,h⟩;exact ⟨y,Or.inl hy,h⟩
     ·rintro ⟨y,hy|rfl,h⟩
      ·exact ⟨y,hy,h⟩
      ·exact absurd h.1 hm)
   intro i h1 h2
   by_cases hi:i=pre.length
   ·subst hi;exact hg
   ·exact ih'.1 hr i (by simp;omega) h2
  ·intro hall
   have hg:=hall pre.length (Nat.le_refl _) hlen
   have hgx:=hgood.2 hg
   have ih':=ih (by
    intro y hy
    rw [List.mem_append] at hy
    rcases hy with hy|hy
    ·have:=hle y hy;omega
    ·simp at hy;subst hy;omega) (by omega) (by
    intro k
    by_cases hm:x.off < t.mark
    ·simp only [hm,if_true,List.mem_cons,hs,List.mem_append,List.not_mem_nil,or_false]
     constructor
     ·rintro (rfl|⟨y,hy,h⟩)
      ·exact ⟨x,Or.inr rfl,hm,rfl⟩
      ·exact ⟨y,Or.inl hy,h⟩
     ·rintro ⟨y,hy|rfl,h⟩
      ·exact Or.inr ⟨y,hy,h⟩
      ·exact Or.inl h.2.symm
    ·simp only [hm,if_false,hs,List.mem_append,List.mem_cons,List.not_mem_nil,or_false]
     constructor
     ·rintro ⟨y,hy,h⟩;exact ⟨y,Or.inl hy,h⟩
     ·rintro ⟨y,hy|rfl,h⟩
      ·exact ⟨y,hy,h⟩
      ·exact absurd h.1 hm)
   exact ⟨hg,ih'.2 (fun i h1 h2=>hall i (by simp at h1;omega) h2)⟩
theorem may_iff (t:Top):may t↔head t∧chk t (t.base - 1) [] t.ents:=by
 unfold may
 constructor
 ·rintro ⟨h,hg,hw⟩
  refine ⟨h,?_⟩
  have hh:=h
  obtain ⟨h1,h2,h3,h4,h5,h6,_⟩:=hh
  have hr:=(rest_iff t t.ents [] (t.base - 1) [] rfl (fun _=>rfl) (by simp) (by simp) (by omega) (by simp)).2 (fun i _ hi=>hg i hi)
  exact (chk_iff t t.ents (t.base - 1) [] (by omega)).2 ⟨hr,by omega⟩
 ·rintro ⟨h,hc⟩
  have hh:=h
  obtain ⟨h1,h2,h3,h4,h5,h6,_⟩:=hh
  have:=(chk_iff t t.ents (t.base - 1) [] (by omega)).1 hc
  refine ⟨h,fun i hi=>?_,by omega⟩
  exact (rest_iff t t.ents [] (t.base - 1) [] rfl (fun _=>rfl) (by simp) (by simp) (by omega) (by simp)).1 this.1 i (Nat.zero_le _) hi
end Top
end Go.Proofs.YtkkohllhebdlcaaGreatDoor
/-
  How arguments read: from the form's reading to lists and numbers. No program in sight.
-/
namespace Go.Proofs.YtkkohllhebdlcaaGreatDoor
open Go.RowKit Go.Deep Go.WideShapes Go.ChangeShapes
def Reads (P:Program) (w:World) (t:TypeId) (cs:List Value):Prop :=
 ∃ (H:Type) (enc:TypeId × Value→H) (sp:Nat→Bool) (fuel:Nat) (x:DataW H × List MemPlace),DataW.trod enc P w 0 sp true fuel t cs=some x∧∀ n∈x.1.weights P t,n≤reachBytes
theorem reads_of_trod {H:Type} {enc:TypeId × Value→H} {P:Program} {w:World} {sp:Nat→Bool} {t:TypeId} {v:Value} {d:DataW H} {ps:List MemPlace}
  (h:DataW.Trod enc P w 0 sp true t v d ps) (hw:∀ n∈d.weights P t,n≤reachBytes):Reads P w t v.cells.toList:=by
 obtain ⟨fuel,hf⟩:=h
 exact ⟨H,enc,sp,fuel,_,hf,hw⟩
section
variable {P:Program} {w:World} {t e:TypeId} {cs:List Value}
theorem Reads.string (h:Reads P w t cs) (ht:P.underlying t=some .string):∃ s:ByteArray,cs=[.string s]∧s.size≤reachBytes:=by
 obtain ⟨H,enc,sp,fuel,x,hx,hw⟩:=h
 obtain ⟨n,h1,h2,h3⟩:=DataW.trod_string ht hx
 refine ⟨n,h1,?_⟩
 have:=hw n.data.toList.length (by rw [h2];simp [DataW.weights])
 simpa using this
theorem weightsAll_mem {H:Type} {e:TypeId}:∀ {l:List (DataW H)} {d:DataW H},d∈l→∀ n∈d.weights P e,n∈DataW.weightsAll P e l
 |x :: l,d,hd,n,hn=>by
  simp only [DataW.weightsAll,List.mem_append]
  rcases List.mem_cons.1 hd with rfl|h
  ·exact Or.inl hn
  ·exact Or.inr (weightsAll_mem h n hn)
 |[],_,hd,_,_=>by simp at hd
theorem addr_add (a:Addr) (i j:Nat) (hs:(a.add i).spot=none):(a.add i).add j=⟨a.block,a.off+(i+j),none⟩:=by
 unfold Addr.add at *
 by_cases hi:i=0 <;> by_cases hj:j=0 <;> simp_all [Nat.add_assoc]
 ·cases a;simp_all
theorem spot_of_cell {w:World} {a:Addr} {v:Value} (h:w.cell? a=some v):a.spot=none:=by
 unfold World.cell? at h
 split at h
 ·split at h
  ·cases h
  ·rename_i hs;simpa using hs
 ·cases h
theorem Reads.slice (h:Reads P w t cs) (ht:P.underlying t=some (.slice e)) (hk:0 < P.cellsOf e) :
  ∃ a n cap,cs=[.slice a n cap]∧n≤cap∧cap≤maxLen∧(a=none→cap=0)∧n * P.bytesOf e≤reachBytes ∧
   (0 < n→∃ b off,a=some ⟨b,off,none⟩∧∀ i,i < n→∃ ds:List Value,ds.length=P.cellsOf e∧(∀ j,j < P.cellsOf e→w.cell? ⟨b,off+(i * P.cellsOf e+j),none⟩=ds[j]?)∧Reads P w e ds):=by
 obtain ⟨H,enc,sp,fuel,x,hx,hw⟩:=h
 rcases open_slice ht hx with ⟨h1,_⟩|⟨a,len,cap,m,n,D,Pl,h1,hb,hl,hm,hmm,hxx,hx'⟩
 ·exact ⟨none,0,0,h1,Nat.le_refl _,Nat.zero_le _,fun _=>rfl,by simp,fun h=>absurd h (Nat.lt_irrefl _)⟩
 ·have hwl:len * P.bytesOf e≤reachBytes:=by
   have h3:=hw ((((List.range len).map D).length+((List.range (m - len)).map fun j=>D (len+j)).length) * P.bytesOf e) (by rw [hxx];simp [DataW.weights,ht])
   refine Nat.le_trans ?_ h3
   simp only [List.length_map,List.length_range]
   exact Nat.mul_le_mul_right _ (by omega)
  refine ⟨some a,len,cap,h1,hl,hm,(fun h=>by cases h),hwl,fun hn=>?_⟩
  have hle:len≤m:=by rw [hmm];split <;> omega
  have key:∀ i,i < len→∃ ds:List Value,ds.length=P.cellsOf e∧(∀ j,j < P.cellsOf e→w.cell? ((a.add (i * P.cellsOf e)).add j)=ds[j]?)∧Reads P w e ds:=fun i hi=>by
   obtain ⟨ds,h2,h3⟩:=hx' i (by omega)
   obtain ⟨_,h4,h5⟩:=World.cells?_some h2
   refine ⟨ds,h4,h5,⟨H,enc,sp,n,_,h3,fun k hk=>hw k ?_⟩⟩
   rw [hxx]
   simp only [DataW.weights,ht,List.mem_cons,List.mem_append]
   exact Or.inr (Or.inl (weightsAll_mem (List.mem_map.2 ⟨i,List.mem_range.2 hi,rfl⟩) k hk))
  have spot:∀ i,i < len→(a.add (i * P.cellsOf e)).spot=none:=fun i hi=>by
   obtain ⟨ds,h4,h5,_⟩:=key i hi
   have h6:=h5 0 hk
   rw [List.getElem?_eq_getElem (by omega)] at h6
   have:(a.add (i * P.cellsOf e)).add 0=a.add (i * P.cellsOf e):=by simp [Addr.add]
   rw [this] at h6
   exact spot_of_cell h6
  have s0:a.spot=none:=by simpa [Addr.add] using spot 0 hn
  refine ⟨a.block,a.off,by cases a;simp_all,fun i hi=>?_⟩
  obtain ⟨ds,h4,h5,h6⟩:=key i hi
  refine ⟨ds,h4,fun j hj=>?_,h6⟩
  rw [← addr_add a (i * P.cellsOf e) j (spot i hi)]
  exact h5 j hj
end
def SliceR {α:Type} (w:World) (v:Value) (k:Nat) (cells:α→List Value) (l:List α):Prop :=
 ∃ a cap,v=.slice a l.length cap∧l.length≤cap∧cap≤maxLen∧(a=none→cap=0) ∧
  (0 < l.length→∃ b off,a=some ⟨b,off,none⟩∧∀ i (h:i < l.length) j,j < k→w.cell? ⟨b,off+(i * k+j),none⟩=(cells l[i])[j]?)
theorem Reads.list {α:Type} [Inhabited α] {P:Program} {w:World} {t e:TypeId} {cs:List Value} (k:Nat) (cells:α→List Value) (ok:α→Prop)
  (h:Reads P w t cs) (ht:P.underlying t=some (.slice e)) (hk:P.cellsOf e=k) (hk0:0 < k) (parse:∀ ds,Reads P w e ds→∃ y,ds=cells y∧ok y) :
  ∃ v l,cs=[v]∧SliceR w v k cells l∧l.length * P.bytesOf e≤reachBytes∧∀ y∈l,ok y:=by
 obtain ⟨a,n,cap,h1,h2,h3,h4,h6,h5⟩:=h.slice ht (by omega)
 by_cases hn:0 < n
 ·obtain ⟨b,off,ha,hd⟩:=h5 hn
  rw [hk] at hd
  obtain ⟨f,hf⟩:=choose_lt (α:=α) (p:=fun i y=>(∀ j,j < k→w.cell? ⟨b,off+(i * k+j),none⟩=(cells y)[j]?)∧ok y) (n:=n) (fun i hi=>by
   obtain ⟨ds,_,h7,h8⟩:=hd i hi
   obtain ⟨y,rfl,hy⟩:=parse ds h8
   exact ⟨y,h7,hy⟩)
  refine ⟨_,(List.range n).map f,h1,⟨a,cap,by simp,by simpa using h2,h3,h4,fun _=>⟨b,off,ha,fun i hi j hj=>?_⟩⟩,by simpa using h6,?_⟩
  ·have hi':i < n:=by simpa using hi
   simpa using (hf i hi').1 j hj
  ·intro y hy
   obtain ⟨i,hi,rfl⟩:=List.mem_map.1 hy
   exact (hf i (by simpa using hi)).2
 ·obtain rfl:n=0:=by omega
  exact ⟨_,[],h1,⟨a,cap,by simp,by simp,h3,h4,fun h=>absurd h (by simp)⟩,by simp,by simp⟩
theorem SliceR.below {α:Type} {w w':World} {v:Value} {k:Nat} {cells:α→List Value} {l:List α} (h:SliceR w v k cells l) (hc:∀ y,(cells y).length=k) (hb:Below w.heap.size w w'):SliceR w' v k cells l:=by
 obtain ⟨a,cap,h1,h2,h3,h4,h5⟩:=h
 refine ⟨a,cap,h1,h2,h3,h4,fun hl=>?_⟩
 obtain ⟨b,off,ha,hd⟩:=h5 hl
 refine ⟨b,off,ha,fun i hi j hj=>?_⟩
 have:=hd i hi j hj
 have hsome:∃ u,(cells l[i])[j]?=some u:=⟨_,List.getElem?_eq_getElem (by rw [hc];exact hj)⟩
 obtain ⟨u,hu⟩:=hsome
 rw [hu] at this ⊢
 have hlt:=World.block_lt_of_cell? w _ this
 rw [hb.cell hlt];exact this
theorem flat_length {α:Type} {cells:α→List Value} {k:Nat} (hc:∀ y,(cells y).length=k):∀ l:List α,(l.flatMap cells).length=l.length * k
 |[]=>by simp
 |y :: l=>by rw [List.flatMap_cons,List.length_append,hc,flat_length hc l,List.length_cons,Nat.succ_mul,Nat.add_comm]
theorem flat_get {α:Type} {cells:α→List Value} {k:Nat} (hc:∀ y,(cells y).length=k):∀ (l:List α) (i:Nat) (h:i < l.length) (j:Nat),j < k→(l.flatMap cells)[i * k+j]?=(cells l[i])[j]?
 |[],_,h,_,_=>absurd h (Nat.not_lt_zero _)
 |y :: l,0,_,j,hj=>by
  rw [List.flatMap_cons,Nat.zero_mul,Nat.zero_add,List.getElem?_append_left (by rw [hc];exact hj)]
  rfl
 |y :: l,i+1,h,j,hj=>by
  rw [List.flatMap_cons,Nat.succ_mul,List.getElem?_append_right (by rw [hc];omega),hc,show i * k+k+j - k=i * k+j by omega]
  rw [flat_get hc l i (by simpa using h) j hj]
  rfl
theorem SliceR.flat {α:Type} {w:World} {b off n cap k:Nat} {cells:α→List Value} {l:List α} (h:SliceR w (.slice (some ⟨b,off,none⟩) n cap) k cells l) (hc:∀ y,(cells y).length=k) (hk:0 < k) :
  ∀ j u,(l.flatMap cells)[j]?=some u→w.cell? ((⟨b,off,none⟩:Addr).add j)=some u:=by
 intro j u hu
 obtain ⟨a,cap',h1,_,_,_,h5⟩:=h
 cases h1
 have hj:j < l.length * k:=by
  rw [← flat_length hc l]
  exact (List.getElem?_eq_some_iff.1 hu).1
 have hl:0 < l.length:=by
  rcases Nat.eq_zero_or_pos l.length with h|h
  ·rw [h] at hj;omega
  ·exact h
 obtain ⟨b',off',ha,hd⟩:=h5 hl
 cases ha
 have hi:j / k < l.length:=Nat.div_lt_of_lt_mul (by rw [Nat.mul_comm];exact hj)
 have hm:j % k < k:=Nat.mod_lt _ hk
 have hjj:j / k * k+j % k=j:=by rw [Nat.mul_comm];exact Nat.div_add_mod j k
 have h6:=hd (j / k) hi (j % k) hm
 rw [← flat_get hc l (j / k) hi (j % k) hm,hjj,hu] at h6
 have e:(⟨b,off,none⟩:Addr).add j=⟨b,off+j,none⟩:=by
  unfold Addr.add
  by_cases h0:j=0
  ·simp [h0]
  ·simp [h0]
 rw [e];exact h6
theorem sliceR_of_owns {α:Type} {w:World} {base k:Nat} {e:TypeId} {v:Value} {cells:α→List Value} {l:List α} (hc:∀ y,(cells y).length=k) (h:w.ownsRow base e k v l.length (l.flatMap cells)) :
  SliceR w v k cells l:=by
 obtain ⟨_,h2⟩:=h
 rcases h2 with ⟨hv,hn⟩|⟨g,cap,cur,hv,hg,hh,h3,h4,h5,h6⟩
 ·exact ⟨none,0,by rw [hv,hn],by omega,Nat.zero_le _,fun _=>rfl,fun h=>by omega⟩
 ·refine ⟨_,cap,hv,h3,h4,(fun h=>by cases h),fun hl=>⟨g,0,rfl,fun i hi j hj=>?_⟩⟩
  have h7:w.cell? ⟨g,0+(i * k+j),none⟩=cur[i * k+j]?:=by simp [World.cell?,hh]
  rw [h7,← flat_get hc l i hi j hj,← h6,List.getElem?_take]
  have:i * k+j < l.length * k:=by
   have h8:(i+1) * k≤l.length * k:=Nat.mul_le_mul_right k hi
   rw [Nat.succ_mul] at h8
   omega
  rw [if_pos this,Array.getElem?_toList]
theorem belowGrown {w w':World} (hg:w.grownBy w' none):Below w.heap.size w w':=(Below.refl _ _).grown hg (Nat.le_refl _) (fun k hk=>by cases hk)
def stCells (x:Int × Int):List Value:=[.int .i64 x.1,.int .i64 x.2]
def intCell (n:Int):List Value:=[.int .i64 n]
def oneCell (u:Value):List Value:=[u]
def RowsR (w:World) (v:Value) (m:List (List Int)):Prop :=
 ∃ us:List Value,SliceR w v 1 oneCell us∧us.length=m.length∧∀ i,i < m.length→SliceR w (us.getD i .nilIface) 1 intCell (m.getD i [])
theorem RowsR.below {w w':World} {v:Value} {m:List (List Int)} (h:RowsR w v m) (hb:Below w.heap.size w w'):RowsR w' v m:=by
 obtain ⟨us,h1,h2,h3⟩:=h
 exact ⟨us,h1.below (fun _=>rfl) hb,h2,fun i hi=>(h3 i hi).below (fun _=>rfl) hb⟩
theorem SliceR.one {α:Type} {w:World} {v:Value} {c:α→Value} {l:List α} (d:α) (h:SliceR w v 1 (fun y=>[c y]) l) :
  ∃ a cap,v=.slice a l.length cap∧l.length≤cap∧cap≤maxLen∧(a=none→cap=0)∧(0 < l.length→∃ b off,a=some ⟨b,off,none⟩∧∀ i,i < l.length→w.cell? ⟨b,off+i,none⟩=some (c (l.getD i d))):=by
 obtain ⟨a,cap,h1,h2,h3,h4,h5⟩:=h
 refine ⟨a,cap,h1,h2,h3,h4,fun hl=>?_⟩
 obtain ⟨b,off,ha,hd⟩:=h5 hl
 refine ⟨b,off,ha,fun i hi=>?_⟩
 have e:l.getD i d=l[i]:=by simp [List.getD,hi]
 rw [e]
 simpa using hd i hi 0 (by omega)
theorem toList_eq {u v:ByteArray} (h:u.toList=v.toList):u=v:=by
 rw [ByteArray.toList_eq,ByteArray.toList_eq] at h
 have:=Array.toList_inj.1 h
 cases u;cases v;simp_all
end Go.Proofs.YtkkohllhebdlcaaGreatDoor
/-
  How a topic reads: from the form's reading to numbers and entries. No program in sight.
-/
namespace Go.Proofs.YtkkohllhebdlcaaGreatDoor
open Go.RowKit Go.Deep Go.WideShapes Go.ChangeShapes
def entCells (x:Ent):List Value:=[.int .i64 x.off,.int .i64 x.id,.string x.key,.string x.body]
theorem entCells_len (x:Ent):(entCells x).length=4:=rfl
def TopR (w:World) (v:Value) (t:Top):Prop:=∃ a cap,v=.agg #[.int .i64 t.base,.int .i64 t.next,.int .i64 t.mark,.slice a t.ents.length cap]∧SliceR w (.slice a t.ents.length cap) 4 entCells t.ents
theorem TopR.below {w w':World} {v:Value} {t:Top} (h:TopR w v t) (hb:Below w.heap.size w w'):TopR w' v t:=by
 obtain ⟨a,cap,h1,h2⟩:=h
 exact ⟨a,cap,h1,h2.below entCells_len hb⟩
def EntsAt (w:World) (b off:Nat) (l:List Ent):Prop :=
 ∀ i,i < l.length→((w.cell? ⟨b,off+i * 4,none⟩=some (.int .i64 (l.getD i default).off)∧w.cell? ⟨b,off+i * 4+1,none⟩=some (.int .i64 (l.getD i default).id)) ∧
  w.cell? ⟨b,off+i * 4+2,none⟩=some (.string (l.getD i default).key))∧w.cell? ⟨b,off+i * 4+3,none⟩=some (.string (l.getD i default).body)
theorem SliceR.ents {w:World} {a:Option Addr} {n cap:Nat} {l:List Ent} (h:SliceR w (.slice a n cap) 4 entCells l) :
  (n=l.length∧n≤cap)∧(cap≤maxLen∧(a=none→cap=0))∧(0 < n→∃ b off,a=some ⟨b,off,none⟩∧EntsAt w b off l):=by
 obtain ⟨a',cap',h1,h2,h3,h4,h5⟩:=h
 cases h1
 refine ⟨⟨rfl,h2⟩,⟨h3,h4⟩,fun hl=>?_⟩
 obtain ⟨b,off,ha,hd⟩:=h5 hl
 refine ⟨b,off,ha,fun i hi=>?_⟩
 have e:l.getD i default=l[i]:=by simp [List.getD,hi]
 rw [e]
 exact ⟨⟨⟨by simpa [entCells] using hd i hi 0 (by omega),by simpa [entCells,Nat.add_assoc] using hd i hi 1 (by omega)⟩,by simpa [entCells,Nat.add_assoc] using hd i hi 2 (by omega)⟩,by simpa [entCells,Nat.add_assoc] using hd i hi 3 (by omega)⟩
end Go.Proofs.YtkkohllhebdlcaaGreatDoor
/-
  Plain: whether a topic may be is decided; the empty topic. No program in sight.
-/
namespace Go.Proofs.YtkkohllhebdlcaaGreatDoor
instance (t:Top) (i:Nat):Decidable (Top.good t i):=by unfold Top.good;infer_instance
instance (t:Top):Decidable t.may:=by unfold Top.may;infer_instance
def Top.zero:Top:=⟨0,0,0,[]⟩
end Go.Proofs.YtkkohllhebdlcaaGreatDoor
/-
  The keys that were seen: a map of strings that a call makes and keeps to itself, as a list. No program in sight.
-/
namespace Go.Proofs.YtkkohllhebdlcaaGreatDoor
open Go.RowKit Go.Maps Go.WideMaps
def Seen (P:Program) (ts ti:TypeId) (w:World) (b n:Nat) (seen:List ByteArray):Prop :=
 ∃ D:DataW Unit,w.ownsMap P ts (plainElem P ti) b n D∧IsMap D∧∀ s:ByteArray,(s∈seen→D.atKey (.string s.data.toList) (.lit (.int .i64 0))=.lit (.int .i64 1))∧(s ∉ seen→D.atKey (.string s.data.toList) (.lit (.int .i64 0))=.lit (.int .i64 0))
variable {P:Program} {ts ti tm:TypeId} {w w':World} {b n:Nat} {seen:List ByteArray}
theorem Seen.made (P:Program) (ts ti:TypeId) (w:World):Seen P ts ti (w.alloc (.map #[] 0)) w.heap.size 0 [] :=
 ⟨.map [],World.ownsMap_made _ _ _ _,⟨_,rfl⟩,fun _=>⟨fun h=>absurd h (by simp),fun _=>by simp [DataW.atKey]⟩⟩
theorem Seen.mono (h:Seen P ts ti w b n seen) {m:Nat} (hm:n≤m):Seen P ts ti w b m seen:=by
 obtain ⟨D,h1,h2,h3⟩:=h
 exact ⟨D,h1.mono hm,h2,h3⟩
theorem Seen.lt (h:Seen P ts ti w b n seen):b < w.heap.size:=h.choose_spec.1.lt
theorem Seen.same (h:Seen P ts ti w b n seen) (hb:w'.heap[b]?=w.heap[b]?):Seen P ts ti w' b n seen:=by
 obtain ⟨D,⟨es,clock,e1,e2⟩,h2,h3⟩:=h
 exact ⟨D,⟨es,clock,by rw [hb];exact e1,e2⟩,h2,h3⟩
theorem Seen.below (h:Seen P ts ti w b n seen) (hb:Below w.heap.size w w'):Seen P ts ti w' b n seen:=h.same (hb.block b h.lt)
theorem Seen.look (h:Seen P ts ti w b n seen) (hts:P.underlying ts=some .string) (hm:P.underlying tm=some (.map ts ti)) (hti:P.underlying ti=some (.int .i64)) (hz:(zeroValue ti).run P w=.ok (.int .i64 0) w) {s:ByteArray} (hs:s.size≤maxLen) (c:Int)
  (hc:(s∈seen∧c=1)∨(s ∉ seen∧c=0)):(Instr.lookup tm (.map (some b)) (.string s) false).run P w=.ok (.int .i64 c) w:=by
 obtain ⟨D,h1,h2,h3⟩:=h
 obtain ⟨c',hrun,hat,_⟩:=h1.lookup_int (string_keyed hts) hm hti hz (keyOf_string_mk hts hs)
 rcases hc with ⟨hi,rfl⟩|⟨hi,rfl⟩
 ·rw [(h3 s).1 hi] at hat
  cases hat
  exact hrun
 ·rw [(h3 s).2 hi] at hat
  cases hat
  exact hrun
theorem Seen.store (h:Seen P ts ti w b n seen) (hts:P.underlying ts=some .string) (hm:P.underlying tm=some (.map ts ti)) (hti:P.underlying ti=some (.int .i64)) (hn:n < maxLen) {s:ByteArray} (hs:s.size≤maxLen) :
  ∃ w',(Instr.mapUpdate tm (.map (some b)) (.string s) (.int .i64 1)).run P w=.ok () w'∧Seen P ts ti w' b (n+1) (s :: seen)∧w.grownBy w' (some b):=by
 obtain ⟨D,h1,h2,h3⟩:=h
 obtain ⟨w',hrun,hown,hg⟩:=h1.update (string_keyed hts) hm hn (keyOf_string_mk hts hs) (plainElem_int hti (a:=1) (by decide))
 refine ⟨w',hrun,⟨_,hown,?_,fun u=>?_⟩,hg⟩
 ·obtain ⟨l,rfl⟩:=h2
  exact ⟨_,rfl⟩
 ·by_cases hu:u=s
  ·rw [hu]
   have e:=atKey_put_same (H:=Unit) h2 (k:=.string s.data.toList) trivial (.lit (.int .i64 1)) (.lit (.int .i64 0))
   exact ⟨fun _=>e,fun h=>absurd (List.mem_cons_self) h⟩
  ·have hne:Lit.string u.data.toList≠Lit.string s.data.toList:=fun e=>hu (by
    have e1:u.data.toList=s.data.toList:=by injection e
    have e2:u.data=s.data:=Array.toList_inj.1 e1
    cases u;cases s;simp_all)
   have e:=atKey_put_other (H:=Unit) (D:=D) hne (.lit (.int .i64 1)) (.lit (.int .i64 0))
   refine ⟨fun h=>?_,fun h=>?_⟩
   ·rw [e]
    exact (h3 u).1 ((List.mem_cons.1 h).resolve_left hu)
   ·rw [e]
    exact (h3 u).2 (fun h'=>h (List.mem_cons_of_mem _ h'))
end Go.Proofs.YtkkohllhebdlcaaGreatDoor
/-
  Keys that were seen: one is struck. No program in sight.
-/
namespace Go.Proofs.YtkkohllhebdlcaaGreatDoor
open Go.RowKit Go.Maps Go.WideMaps
variable {P:Program} {ts ti tm:TypeId} {w w':World} {b n:Nat} {seen:List ByteArray}
theorem Seen.delete (h:Seen P ts ti w b n seen) (hts:P.underlying ts=some .string) (hm:P.underlying tm=some (.map ts ti)) {s:ByteArray} (hs:s.size≤maxLen) (ty:TypeId) :
  ∃ w',(Builtin.delete_ #[tm,ts] ty #[.map (some b),.string s]).run P w=.ok (.tuple #[]) w'∧Seen P ts ti w' b n (seen.filter fun k=>decide (k≠s))∧w.grownBy w' (some b):=by
 obtain ⟨D,h1,h2,h3⟩:=h
 obtain ⟨w',hrun,hown,hg⟩:=h1.drop (string_keyed hts) hm (keyOf_string_mk hts hs) ty
 refine ⟨w',hrun,⟨_,hown,?_,fun u=>?_⟩,hg.grown⟩
 ·obtain ⟨l,rfl⟩:=h2
  exact ⟨_,rfl⟩
 ·by_cases hu:u=s
  ·rw [hu]
   have e:=atKey_del_same (H:=Unit) (D:=D) (k:=.string s.data.toList) (.lit (.int .i64 0))
   exact ⟨fun h=>by simp at h,fun _=>e⟩
  ·have hne:Lit.string u.data.toList≠Lit.string s.data.toList:=fun e=>hu (by
    have e1:u.data.toList=s.data.toList:=by injection e
    have e2:u.data=s.data:=Array.toList_inj.1 e1
    cases u;cases s;simp_all)
   have e:=atKey_del_other (H:=Unit) (D:=D) hne (.lit (.int .i64 0))
   refine ⟨fun h=>?_,fun h=>?_⟩
   ·rw [e]
    exact (h3 u).1 (List.mem_filter.1 h).1
   ·rw [e]
    exact (h3 u).2 (fun h'=>h (List.mem_filter.2 ⟨h',by simpa using hu⟩))
end Go.Proofs.YtkkohllhebdlcaaGreatDoor
/-
  Blocks of the call's own, known whole. No program in sight.
-/
namespace Go.Proofs.YtkkohllhebdlcaaGreatDoor
open Go.RowKit
def Blk (w:World) (g:Nat) (t:TypeId) (cs:List Value):Prop:=w.heap[g]?=some (.cells cs.toArray t (0,0))
section
variable {w w':World} {g:Nat} {t:TypeId} {cs:List Value}
theorem Blk.lt (h:Blk w g t cs):g < w.heap.size:=by
 rcases Nat.lt_or_ge g w.heap.size with hlt|hge
 ·exact hlt
 ·unfold Blk at h;rw [Array.getElem?_eq_none hge] at h;cases h
theorem Blk.cell (h:Blk w g t cs) (i:Nat):w.cell? ⟨g,i,none⟩=cs[i]?:=by
 unfold Blk at h
 simp [World.cell?,h]
theorem Blk.free (h:Blk w g t cs) (i:Nat):w.frozen? ⟨g,i,none⟩=false:=by
 unfold Blk at h
 simp [World.frozen?,h]
theorem Blk.new (hg:g=w.heap.size):Blk (w.alloc (.cells cs.toArray t)) g t cs:=by
 subst hg
 show (w.heap.push _)[w.heap.size]?=_
 simp
theorem Blk.drew (h:Blk w g t cs):Blk w.drew g t cs:=h
theorem Blk.alloc (h:Blk w g t cs) (o:Obj):Blk (w.alloc o) g t cs:=(Below.heap_alloc w o g h.lt).trans h
theorem Blk.set_ (h:Blk w g t cs) (i:Nat) (u:Value):Blk (w.setCell ⟨g,i,none⟩ u) g t (cs.set i u):=by
 unfold Blk at h ⊢
 simp [World.setCell,Array.getElem?_modify,h]
theorem Blk.far (h:Blk w g t cs) {b o:Nat} (hp:g≠b) (u:Value):Blk (w.setCell ⟨b,o,none⟩ u) g t cs:=(Below.heap_setCell w ⟨b,o,none⟩ u g hp).trans h
theorem Blk.below {B:Nat} (h:Blk w g t cs) (hb:Below B w w') (hg:g < B):Blk w' g t cs:=(hb.block g hg).trans h
theorem Blk.step (h:Blk w g t cs) (hb:Below w.heap.size w w'):Blk w' g t cs:=h.below hb h.lt
theorem Blk.grown {row:Option Nat} (h:Blk w g t cs) (hb:w.grownBy w' row) (hg:row≠some g):Blk w' g t cs:=(hb.block g h.lt (fun e=>hg e.symm)).trans h
end
theorem cells1 {w:World} {g:Nat} {t:TypeId} {a:Value} (h:Blk w g t [a]):w.cell? ⟨g,0,none⟩=some a∧∀ o,w.frozen? ⟨g,o,none⟩=false:=⟨h.cell 0,h.free⟩
theorem cells2 {w:World} {g:Nat} {t:TypeId} {a b:Value} (h:Blk w g t [a,b]):w.cell? ⟨g,0,none⟩=some a∧w.cell? ⟨g,1,none⟩=some b∧∀ o,w.frozen? ⟨g,o,none⟩=false:=⟨h.cell 0,h.cell 1,h.free⟩
theorem cells4 {w:World} {g:Nat} {t:TypeId} {a b c d:Value} (h:Blk w g t [a,b,c,d]) :
  w.cell? ⟨g,0,none⟩=some a∧w.cell? ⟨g,1,none⟩=some b∧w.cell? ⟨g,2,none⟩=some c∧w.cell? ⟨g,3,none⟩=some d∧∀ o,w.frozen? ⟨g,o,none⟩=false:=⟨h.cell 0,h.cell 1,h.cell 2,h.cell 3,h.free⟩
theorem at_world {P:Program} {f:FuncId} {args:Array Value} {w:World} {Q:Ending→World→Prop} {C:World→Prop} (h:C w) (k:C w→Calls P f args w Q):Calls P f args w Q:=k h
theorem Below.step {B:Nat} {a w w':World} (h:Below B a w) (hb:Below w.heap.size w w') (hB:B≤w.heap.size):Below B a w':=h.trans (hb.mono hB)
end Go.Proofs.YtkkohllhebdlcaaGreatDoor
/-
  The cells of a box known whole. No program in sight.
-/
namespace Go.Proofs.YtkkohllhebdlcaaGreatDoor
open Go.RowKit
theorem cells3 {w:World} {g:Nat} {t:TypeId} {a b c:Value} (h:Blk w g t [a,b,c]):w.cell? ⟨g,0,none⟩=some a∧w.cell? ⟨g,1,none⟩=some b∧w.cell? ⟨g,2,none⟩=some c∧∀ o,w.frozen? ⟨g,o,none⟩=false:=⟨h.cell 0,h.cell 1,h.cell 2,h.free⟩
theorem cells5 {w:World} {g:Nat} {t:TypeId} {a b c d e:Value} (h:Blk w g t [a,b,c,d,e]) :
  w.cell? ⟨g,0,none⟩=some a∧w.cell? ⟨g,1,none⟩=some b∧w.cell? ⟨g,2,none⟩=some c∧w.cell? ⟨g,3,none⟩=some d∧w.cell? ⟨g,4,none⟩=some e∧∀ o,w.frozen? ⟨g,o,none⟩=false:=⟨h.cell 0,h.cell 1,h.cell 2,h.cell 3,h.cell 4,h.free⟩
theorem cells12 {w:World} {g:Nat} {t:TypeId} {a b c d e f a' b' c' d' e' f':Value} (h:Blk w g t [a,b,c,d,e,f,a',b',c',d',e',f']) :
  ((w.cell? ⟨g,0,none⟩=some a∧w.cell? ⟨g,1,none⟩=some b∧w.cell? ⟨g,2,none⟩=some c∧w.cell? ⟨g,3,none⟩=some d)∧(w.cell? ⟨g,4,none⟩=some e∧w.cell? ⟨g,5,none⟩=some f∧w.cell? ⟨g,6,none⟩=some a'∧w.cell? ⟨g,7,none⟩=some b') ∧
   w.cell? ⟨g,8,none⟩=some c'∧w.cell? ⟨g,9,none⟩=some d'∧w.cell? ⟨g,10,none⟩=some e'∧w.cell? ⟨g,11,none⟩=some f')∧∀ o,w.frozen? ⟨g,o,none⟩=false :=
 ⟨⟨⟨h.cell 0,h.cell 1,h.cell 2,h.cell 3⟩,⟨h.cell 4,h.cell 5,h.cell 6,h.cell 7⟩,h.cell 8,h.cell 9,h.cell 10,h.cell 11⟩,h.free⟩
end Go.Proofs.YtkkohllhebdlcaaGreatDoor
namespace Go.Proofs.YtkkohllhebdlcaaGreatDoor
open Go.RowKit
structure PM where
 id:Int
 groups:List Int
 topic:Int
 key:ByteArray
 body:ByteArray
structure PC where
 kind:Int
 msg:PM
 id:Int
 time:Int
 members:List Int
 topic:Int
 who:Int
 n:Int
instance:Inhabited PM:=⟨⟨0,[],0,⟨#[]⟩,⟨#[]⟩⟩⟩
instance:Inhabited PC:=⟨⟨0,default,0,0,[],0,0,0⟩⟩
def IntsR (w:World) (v:Value) (l:List Int):Prop:=SliceR w v 1 intCell l
def msgCs (gv:Value) (m:PM):List Value:=[.int .i64 m.id,gv,.int .i64 m.topic,.string m.key,.string m.body]
def MsgR (w:World) (v:Value) (m:PM):Prop:=∃ a cap,v=.agg #[.int .i64 m.id,.slice a m.groups.length cap,.int .i64 m.topic,.string m.key,.string m.body]∧IntsR w (.slice a m.groups.length cap) m.groups
def ComR (w:World) (v:Value) (c:PC):Prop:=∃ a cap b bc,v=.agg #[.int .u8 c.kind,.int .i64 c.msg.id,.slice a c.msg.groups.length cap,.int .i64 c.msg.topic,.string c.msg.key,.string c.msg.body,.int .i64 c.id,.int .i64 c.time,.slice b c.members.length bc,.int .i64 c.topic,.int .i64 c.who,.int .i64 c.n] ∧
 IntsR w (.slice a c.msg.groups.length cap) c.msg.groups∧IntsR w (.slice b c.members.length bc) c.members
theorem IntsR.below {w w':World} {v:Value} {l:List Int} (h:IntsR w v l) (hb:Below w.heap.size w w'):IntsR w' v l:=SliceR.below h (fun _=>rfl) hb
theorem MsgR.below {w w':World} {v:Value} {m:PM} (h:MsgR w v m) (hb:Below w.heap.size w w'):MsgR w' v m:=by
 obtain ⟨a,cap,h1,h2⟩:=h
 exact ⟨a,cap,h1,h2.below hb⟩
theorem ComR.below {w w':World} {v:Value} {c:PC} (h:ComR w v c) (hb:Below w.heap.size w w'):ComR w' v c:=by
 obtain ⟨a,cap,b,bc,h1,h2,h3⟩:=h
 exact ⟨a,cap,b,bc,h1,h2.below hb,h3.below hb⟩
theorem ints_nil (w:World):IntsR w (.slice none 0 0) []:=⟨none,0,rfl,Nat.le_refl _,Nat.zero_le _,fun _=>rfl,fun h=>absurd h (Nat.lt_irrefl _)⟩
theorem IntsR.shape {w:World} {v:Value} {l:List Int} (h:IntsR w v l):∃ a cap,v=.slice a l.length cap∧l.length≤cap∧cap≤maxLen∧(a=none→cap=0)∧(0 < l.length→∃ b off,a=some ⟨b,off,none⟩∧∀ i,i < l.length→w.cell? ⟨b,off+i,none⟩=some (.int .i64 (l.getD i 0))) :=
 SliceR.one (c:=fun n=>.int .i64 n) 0 h
def inB (n lo hi:Int):Bool:=decide (lo≤n) && decide (n≤hi)
def idB (n:Int):Bool:=inB n 0 6291455
def okG (l:List Int):Nat→Bool
 |0=>true
 |k+1=>okG l k && (inB (l.getD k 0) 0 3 && (decide (k=0) || decide (l.getD (k - 1) 0 < l.getD k 0)))
def grpB (l:List Int):Bool:=(decide (1≤l.length) && decide (l.length≤4)) && okG l l.length
def msgB (m:PM):Bool:=grpB m.groups && (idB m.id && (inB m.topic 0 3 && (decide (m.key.size≤16) && decide (m.body.size≤64))))
end Go.Proofs.YtkkohllhebdlcaaGreatDoor
namespace Go.Proofs.YtkkohllhebdlcaaGreatDoor
open Go.RowKit
theorem isNaN_any (a:Int) (w:World):Calls Tryz.prog 127 #[.int .i64 a] w fun e w'=>e=.returned (.bool false)∧w=w':=by
 have h:(a != a)=false:=by simp
 go_enter Tryz.func127,Tryz.ntmps127
 go_wp2
 go_ret
 simp
theorem compare_lt (a b:Int) (h:a < b) (w:World):Calls Tryz.prog 107 #[.int .i64 a,.int .i64 b] w fun e w'=>e=.returned (.int .i64 (-1))∧w=w':=by
 go_enter Tryz.func107,Tryz.ntmps107
 go_wp2_with (go_at_call 127;refine (isNaN_any _ _).mono ?_;rintro e w' ⟨rfl,rfl⟩)
 go_ret
 exact ⟨rfl,rfl⟩
theorem compare_gt (a b:Int) (h:b < a) (w:World):Calls Tryz.prog 107 #[.int .i64 a,.int .i64 b] w fun e w'=>e=.returned (.int .i64 1)∧w=w':=by
 have h':¬ a < b:=by omega
 go_enter Tryz.func107,Tryz.ntmps107
 go_wp2_with (go_at_call 127;refine (isNaN_any _ _).mono ?_;rintro e w' ⟨rfl,rfl⟩)
 go_ret
 exact ⟨rfl,rfl⟩
theorem compare_eq (a:Int) (w:World):Calls Tryz.prog 107 #[.int .i64 a,.int .i64 a] w fun e w'=>e=.returned (.int .i64 0)∧w=w':=by
 have h':¬ a < a:=by omega
 go_enter Tryz.func107,Tryz.ntmps107
 go_wp2_with (go_at_call 127;refine (isNaN_any _ _).mono ?_;rintro e w' ⟨rfl,rfl⟩)
 go_ret
 exact ⟨rfl,rfl⟩
def cmpI (a b:Int):Int:=if a < b then -1 else if b < a then 1 else 0
theorem compare_any (a b:Int) (w:World):Calls Tryz.prog 107 #[.int .i64 a,.int .i64 b] w fun e w'=>e=.returned (.int .i64 (cmpI a b))∧w=w':=by
 unfold cmpI
 by_cases h:a < b
 ·rw [if_pos h];exact compare_lt a b h w
 ·rw [if_neg h]
  by_cases h2:b < a
  ·rw [if_pos h2];exact compare_gt a b h2 w
  ·rw [if_neg h2]
   obtain rfl:a=b:=by omega
   exact compare_eq a w
end Go.Proofs.YtkkohllhebdlcaaGreatDoor
namespace Go.Proofs.YtkkohllhebdlcaaGreatDoor
open Go.RowKit
theorem or_first (b:Nat) (x:Int) (w:World) (h:x≠0) (h0:w.cell? ⟨b,0,none⟩=some (.int .i64 x)) :
  Calls Tryz.prog 106 #[.slice (some ⟨b,0,none⟩) 2 2] w fun e w'=>e=.returned (.int .i64 x)∧w=w':=by
 have hx:(x != 0)=true:=by simp [h]
 go_enter Tryz.func106,Tryz.ntmps106
 go_wp2
 refine wp_loop_rounds 1 ?_
 rw [rounds_succ]
 go_wp2
 go_ret
 exact ⟨rfl,rfl⟩
theorem or_second (b:Nat) (y:Int) (w:World) (h0:w.cell? ⟨b,0,none⟩=some (.int .i64 0)) (h1:w.cell? ⟨b,1,none⟩=some (.int .i64 y)) :
  Calls Tryz.prog 106 #[.slice (some ⟨b,0,none⟩) 2 2] w fun e w'=>e=.returned (.int .i64 y)∧w=w':=by
 by_cases hy:y=0
 ·subst hy
  go_enter Tryz.func106,Tryz.ntmps106
  go_wp2
  refine wp_loop_rounds 3 ?_
  rw [rounds_succ]
  go_wp2
  rw [rounds_succ]
  go_wp2
  rw [rounds_succ]
  go_wp2
  go_ret
  exact ⟨rfl,rfl⟩
 ·have hx:(y != 0)=true:=by simp [hy]
  go_enter Tryz.func106,Tryz.ntmps106
  go_wp2
  refine wp_loop_rounds 2 ?_
  rw [rounds_succ]
  go_wp2
  rw [rounds_succ]
  go_wp2
  go_ret
  exact ⟨rfl,rfl⟩
end Go.Proofs.YtkkohllhebdlcaaGreatDoor
namespace Go.Proofs.YtkkohllhebdlcaaGreatDoor
open Go.RowKit
def okSt (x:Int × Int):Bool:=decide (0≤x.1∧x.1≤1073741824∧0≤x.2∧x.2 < 6291456)
theorem stcheck_yes (t i:Int) (w:World) (h1:0≤t) (h2:t≤1073741824) (h3:0≤i) (h4:i < 6291456) :
  Calls Tryz.prog 78 #[.agg #[.int .i64 t,.int .i64 i]] w fun e w'=>e=.returned (.int .i64 0)∧Below w.heap.size w w':=by
 go_enter Tryz.func78,Tryz.ntmps78
 go_wp2
 go_ret
 exact ⟨rfl,(Below.refl _ _).alloc (Nat.le_refl _) _⟩
theorem stcheck_no (t i:Int) (w:World) (h:¬ (0≤t∧t≤1073741824∧0≤i∧i < 6291456)) :
  Calls Tryz.prog 78 #[.agg #[.int .i64 t,.int .i64 i]] w fun e w'=>e=.returned (.int .i64 8)∧Below w.heap.size w w':=by
 by_cases h1:t < 0
 ·go_enter Tryz.func78,Tryz.ntmps78
  go_wp2
  go_ret
  exact ⟨rfl,(Below.refl _ _).alloc (Nat.le_refl _) _⟩
 ·by_cases h2:1073741824 < t
  ·go_enter Tryz.func78,Tryz.ntmps78
   go_wp2
   go_ret
   exact ⟨rfl,(Below.refl _ _).alloc (Nat.le_refl _) _⟩
  ·by_cases h3:i < 0
   ·go_enter Tryz.func78,Tryz.ntmps78
    go_wp2
    go_ret
    exact ⟨rfl,(Below.refl _ _).alloc (Nat.le_refl _) _⟩
   ·have h4:6291456≤i:=by omega
    clear h
    go_enter Tryz.func78,Tryz.ntmps78
    go_wp2
    go_ret
    exact ⟨rfl,(Below.refl _ _).alloc (Nat.le_refl _) _⟩
theorem stcheck_any (x:Int × Int) (w:World):Calls Tryz.prog 78 #[.agg #[.int .i64 x.1,.int .i64 x.2]] w fun e w'=>e=.returned (.int .i64 (if okSt x then 0 else 8))∧Below w.heap.size w w':=by
 by_cases h:0≤x.1∧x.1≤1073741824∧0≤x.2∧x.2 < 6291456
 ·rw [if_pos (by simp [okSt,h])];exact stcheck_yes _ _ w h.1 h.2.1 h.2.2.1 h.2.2.2
 ·rw [if_neg (by simp only [okSt,decide_eq_true_eq];exact h)];exact stcheck_no _ _ w h
end Go.Proofs.YtkkohllhebdlcaaGreatDoor
namespace Go.Proofs.YtkkohllhebdlcaaGreatDoor
open Go.RowKit
theorem stamp_of_yes (i:Int) (w:World) (h1:0≤i) (h2:i < 6291456) :
  Calls Tryz.prog 65 #[.int .i64 i] w fun e w'=>e=.returned (.tuple #[.int .i64 (i / 1048576),.int .i64 (i % 1048576),.int .i64 0])∧w=w':=by
 go_enter Tryz.func65,Tryz.ntmps65
 go_wp2
 go_ret3
 exact ⟨rfl,rfl⟩
end Go.Proofs.YtkkohllhebdlcaaGreatDoor
namespace Go.Proofs.YtkkohllhebdlcaaGreatDoor
open Go.RowKit Go.Deep Go.WideShapes Go.ChangeShapes
def strCell' (s:ByteArray):List Value:=[.string s]
end Go.Proofs.YtkkohllhebdlcaaGreatDoor
