/-
  Proved here: num.in, num.Get: a number off bytes. No condition. Texts that belong together; the remark at the head of each says what i stamp.Less and the document's: the order of stamps. No condition. Plain: what waits and what was delivered; how they read. No program in A slice of rows of numbers that a call itself made. No program in sigh Bytes that read: windows of a slice; num.GetText, num.GetInts. No cond
-/
import Derived.Test.YtkkohllhebdlcaaGreatDoorProg
import Derived.Test.YtkkohllhebdlcaaGreatDoorY01
import Derived.Deep.LoopGhost
import Derived.OwnWalk
import Derived.Deep.DeepMust
import Derived.WalkLawsBesides
import Derived.OneCell
import Derived.KernelRfl
import Derived.StillTailTactics
import Derived.Laws.BytesArg
set_option maxRecDepth 100000
namespace Go.Proofs.YtkkohllhebdlcaaGreatDoor
open Go.RowKit
def byteCell (x:Int):List Value:=[.int .u8 x]
def inN (n:Int):Bool:=decide (0≤n) && decide (n≤1099511627776)
theorem inN_any (n:Int) (w:World):Calls Tryz.prog 104 #[.int .i64 n] w fun e w'=>e=.returned (.bool (inN n))∧w=w':=by
 by_cases h1:0≤n
 ·by_cases h2:n≤1099511627776
  ·rw [show inN n=true by simp [inN,h1,h2]]
   go_enter Tryz.func104,Tryz.ntmps104
   go_wp2
   go_ret
   exact ⟨rfl,rfl⟩
  ·rw [show inN n=false by simp [inN,h2]]
   go_enter Tryz.func104,Tryz.ntmps104
   go_wp2
   go_ret
   exact ⟨rfl,rfl⟩
 ·rw [show inN n=false by simp [inN,h1]]
  go_enter Tryz.func104,Tryz.ntmps104
  go_wp2
  go_ret
  exact ⟨rfl,rfl⟩
def stepG (x y:Int) (k:Nat):Int:=bits BinOp.or IntKind.i64 x (wrap64 (wrap64 (bits BinOp.and IntKind.u8 y 127) * 2 ^ (7 * k)))
def getL:Int→Nat→List Int→Int × Int × Int
 |_,_,[]=>(0,0,8)
 |x,k,y :: l=>if 5 < k then (0,0,8) else if 127 < y then getL (stepG x y k) (k+1) l else if (y=0∧0 < k)∨inN (stepG x y k)=false then (0,0,8) else (stepG x y k,(k:Int)+1,0)
def getN (l:List Int):Int × Int × Int:=getL 0 0 l
theorem getL_cases:∀ (l:List Int) (x:Int) (k:Nat),getL x k l=(0,0,8)∨∃ n s,getL x k l=(n,s,0)∧(0≤n∧n≤1099511627776)∧(k:Int)+1≤s∧s≤(k:Int)+l.length
 |[],_,_=>Or.inl rfl
 |y :: l,x,k=>by
  rw [getL]
  split
  ·exact Or.inl rfl
  ·split
   ·rcases getL_cases l (stepG x y k) (k+1) with h|⟨n,s,h,h1,h2,h3⟩
    ·exact Or.inl h
    ·refine Or.inr ⟨n,s,h,h1,by omega,?_⟩
     simp only [List.length_cons];omega
   ·split
    ·exact Or.inl rfl
    ·rename_i h
     refine Or.inr ⟨_,_,rfl,?_,Int.le_refl _,?_⟩
     ·have:inN (stepG x y k)=true:=by
       cases hh:inN (stepG x y k)
       ·exact absurd (Or.inr hh) h
       ·rfl
      simpa [inN] using this
     ·simp only [List.length_cons];omega
theorem getN_cases (l:List Int):getN l=(0,0,8)∨∃ n s,getN l=(n,s,0)∧(0≤n∧n≤1099511627776)∧1≤s∧s≤(l.length:Int):=by
 rcases getL_cases l 0 0 with h|⟨n,s,h,h1,h2,h3⟩
 ·exact Or.inl h
 ·exact Or.inr ⟨n,s,h,h1,by omega,by omega⟩
def GetEnd (n s x:Int) (w:World) (e:Ending) (w':World):Prop:=e=.returned (.tuple #[.int .i64 n,.int .i64 s,.int .i64 x])∧w'=w
theorem drop_cons0 {l:List Int} {k:Nat} (h:k < l.length):l.drop k=l.getD k 0 :: l.drop (k+1):=by
 rw [List.drop_eq_getElem_cons h];simp [List.getD,h]
set_option maxHeartbeats 4000000 in
theorem getN_any {v:Value} {l:List Int} {w:World} {rn rs rx:Int} (h:SliceR w v 1 byteCell l) (hr:getN l=(rn,rs,rx)) :
  Calls Tryz.prog 115 #[v] w (GetEnd rn rs rx w):=by
 obtain ⟨a,cap,rfl,hcap,hmx,_,hd⟩:=h.one (c:=fun n=>.int .u8 n) 0
 obtain ⟨n,hn⟩:∃ n,n=l.length:=⟨_,rfl⟩
 rw [← hn] at hcap hd ⊢
 have HN:=LH hn
 have HD:=LH hd
 have HR:=LH (show getL 0 0 (l.drop 0)=(rn,rs,rx) from hr)
 unfold maxLen at hmx
 clear hd hn h hr
 go_enter Tryz.func115,Tryz.ntmps115
 go_wp2_with fail
 go_loopg [2,5,6,9] n (fun g n0 _ _ i wr=>∃ (k:Nat) (x:Int),k≤n∧g=n - k∧i=.int .i64 (k:Int)∧n0=.int .i64 x∧Hid (getL x k (l.drop k)=(rn,rs,rx))∧wr=w)
 case atStart=>exact ⟨0,0,Nat.zero_le _,rfl,rfl,rfl,HR,rfl⟩
 case round =>
  clear HR
  obtain ⟨k,x,hk,rfl,rfl,rfl,HR,rfl⟩:=hrel
  by_cases hlt:k < n
  ·have hk0:(0:Int)≤(k:Int):=by omega
   have hk1:(k:Int) < (n:Int):=by omega
   obtain ⟨b,off,rfl,hat⟩:=HD.out (by omega)
   have c0:=hat k hlt
   have hdr:=drop_cons0 (l:=l) (k:=k) (by rw [← HN.out];exact hlt)
   obtain ⟨y,hy⟩:∃ y,y=l.getD k 0:=⟨_,rfl⟩
   rw [← hy] at c0 hdr
   have HE:=HR.out
   rw [hdr,getL] at HE
   clear hat hy hdr
   by_cases h5:5 < k
   ·have h5':(5:Int) < (k:Int):=by omega
    rw [if_pos h5] at HE
    cases HE
    go_wp2_with fail
    exact bodyPost_ret (v:=.tuple #[.int .i64 (0),.int .i64 (0),.int .i64 (8)]) (by simp [results,Tryz.results115,go_sem]) rfl ⟨rfl,rfl⟩
   ·have h5':¬ (5:Int) < (k:Int):=by omega
    rw [if_neg h5] at HE
    by_cases hy:127 < y
    ·rw [if_pos hy] at HE
     have HE':=LH HE
     clear HE
     go_wp2_with fail
     go_roundg (n - (k+1))
     case measure=>omega
     case rel=>exact ⟨k+1,stepG x y k,by omega,rfl,by go_num,rfl,HE',rfl⟩
    ·rw [if_neg hy] at HE
     obtain ⟨z,hz⟩:∃ z,z=stepG x y k:=⟨_,rfl⟩
     have hz':bits BinOp.or IntKind.i64 x (wrap64 (wrap64 (bits BinOp.and IntKind.u8 y 127) * 2 ^ (7 * k)))=z:=hz.symm
     rw [← hz] at HE
     clear hz
     by_cases hb:y=0∧0 < k
     ·rw [if_pos (Or.inl hb)] at HE
      cases HE
      have hy0:(y == 0)=true:=by simp [hb.1]
      have hk00:(0:Int) < (k:Int):=by omega
      clear hb
      go_wp2_with fail
      exact bodyPost_ret (v:=.tuple #[.int .i64 (0),.int .i64 (0),.int .i64 (8)]) (by simp [results,Tryz.results115,go_sem]) rfl ⟨rfl,rfl⟩
     ·cases hi:inN z
      ·rw [if_pos (Or.inr hi)] at HE
       cases HE
       by_cases hy0:y=0
       ·have hy1:(y == 0)=true:=by simp [hy0]
        have hk00:¬ (0:Int) < (k:Int):=fun hh=>hb ⟨hy0,by omega⟩
        clear hb hy0
        go_wp2_with fail
        refine Calls.mono (inN_any _ _) ?_
        rintro e w1 ⟨rfl,rfl⟩
        rw [hi]
        go_wp2_with fail
        exact bodyPost_ret (v:=.tuple #[.int .i64 (0),.int .i64 (0),.int .i64 (8)]) (by simp [results,Tryz.results115,go_sem]) rfl ⟨rfl,rfl⟩
       ·have hy1:(y == 0)=false:=by simp [hy0]
        clear hb hy0
        go_wp2_with fail
        refine Calls.mono (inN_any _ _) ?_
        rintro e w1 ⟨rfl,rfl⟩
        rw [hi]
        go_wp2_with fail
        exact bodyPost_ret (v:=.tuple #[.int .i64 (0),.int .i64 (0),.int .i64 (8)]) (by simp [results,Tryz.results115,go_sem]) rfl ⟨rfl,rfl⟩
      ·have hno:¬ ((y=0∧0 < k)∨inN z=false):=by
        rintro (hh|hh)
        ·exact hb hh
        ·rw [hi] at hh;cases hh
       rw [if_neg hno] at HE
       cases HE
       clear hno
       by_cases hy0:y=0
       ·have hy1:(y == 0)=true:=by simp [hy0]
        have hkz:k=0:=Nat.eq_zero_of_not_pos (fun hh=>hb ⟨hy0,hh⟩)
        have hk00:¬ (0:Int) < (k:Int):=by omega
        have HKZ:=LH hkz
        clear hb hy0 hkz
        go_wp2_with fail
        refine Calls.mono (inN_any _ _) ?_
        rintro e w1 ⟨rfl,rfl⟩
        rw [hi]
        go_wp2_with fail
        exact bodyPost_ret (v:=.tuple #[.int .i64 rn,.int .i64 ((k:Int)+1),.int .i64 (0)]) (by simp [results,Tryz.results115,go_sem];have:=HKZ.out;omega) rfl ⟨rfl,rfl⟩
       ·have hy1:(y == 0)=false:=by simp [hy0]
        clear hb hy0
        go_wp2_with fail
        refine Calls.mono (inN_any _ _) ?_
        rintro e w1 ⟨rfl,rfl⟩
        rw [hi]
        go_wp2_with fail
        exact bodyPost_ret (v:=.tuple #[.int .i64 rn,.int .i64 ((k:Int)+1),.int .i64 (0)]) (by simp [results,Tryz.results115,go_sem]) rfl ⟨rfl,rfl⟩
  ·obtain rfl:k=n:=by omega
   have hlt':¬ (k:Int) < (k:Int):=by omega
   have HE:=HR.out
   rw [List.drop_eq_nil_of_le (by rw [← HN.out];exact Nat.le_refl _)] at HE
   cases HE
   go_wp2_with fail
   exact bodyPost_ret (v:=.tuple #[.int .i64 (0),.int .i64 (0),.int .i64 (8)]) (by simp [results,Tryz.results115,go_sem]) rfl ⟨rfl,rfl⟩
end Go.Proofs.YtkkohllhebdlcaaGreatDoor
set_option maxRecDepth 100000
/-
  slices.Clone at entries, topic.Twin. No condition but that the entries read and are not very many.
-/
namespace Go.Proofs.YtkkohllhebdlcaaGreatDoor
open Go.RowKit
theorem info_ent:(Tryz.prog.info? 215).map (fun i=>(i.zero,i.size,i.bytes))=some (some (.agg #[.int .i64 0,.int .i64 0,.string ByteArray.empty,.string ByteArray.empty]),4,48):=by kernel_rfl
abbrev OwnE (w:World) (base:Nat) (v:Value) (l:List Ent):Prop:=w.ownsRow base 215 4 v l.length (l.flatMap entCells)
theorem OwnE.reads {w:World} {base:Nat} {v:Value} {l:List Ent} (h:OwnE w base v l):SliceR w v 4 entCells l:=sliceR_of_owns entCells_len h
theorem flat_len (l:List Ent):(l.flatMap entCells).length=l.length * 4:=flat_length entCells_len l
theorem flat_one4 (l:List Ent):∀ v∈l.flatMap entCells,v.oneCell'=true:=by
 intro v hv
 obtain ⟨x,_,hx⟩:=List.mem_flatMap.1 hv
 simp only [entCells,List.mem_cons,List.not_mem_nil,or_false] at hx
 rcases hx with rfl|rfl|rfl|rfl <;> rfl
def CloneEnd (l:List Ent) (w:World) (e:Ending) (w':World):Prop:=∃ a cap,e=.returned (.slice a l.length cap)∧OwnE w' w.heap.size (.slice a l.length cap) l∧Below w.heap.size w w'
theorem own_shape {w:World} {base:Nat} {v:Value} {l:List Ent} (h:OwnE w base v l):∃ a cap,v=.slice a l.length cap:=by
 rcases h.2 with ⟨e,h0⟩|⟨g,cp,_,e,_⟩
 ·exact ⟨none,0,by rw [e,h0]⟩
 ·exact ⟨_,_,e⟩
theorem clone_nil (w:World):Calls Tryz.prog 100 #[.slice none 0 0] w (CloneEnd [] w):=by
 have hE:=fun w'=>Lib.run_eql_slice_nil w' 154 215 none 0 0 0 0 Tryz.underlying154
 simp only [Option.isNone_none] at hE
 go_enter Tryz.func100,Tryz.ntmps100
 go_wp2_with fail
 go_ret
 exact ⟨none,0,rfl,World.ownsRow_nil _ _ _ _,Below.refl _ _⟩
set_option maxHeartbeats 1000000 in
theorem clone_some (ad:Addr) (n cap:Nat) (l:List Ent) (w:World) (h:SliceR w (.slice (some ad) n cap) 4 entCells l) (hl:l.length * 48≤140737488355328) :
  Calls Tryz.prog 100 #[.slice (some ad) n cap] w (CloneEnd l w):=by
 obtain ⟨i0,hi,hz0,hz1,hz2⟩:=info_parts info_ent
 have H:=LH h
 have HL:=LH hl
 have HN:=LH h.ents.1.1
 have HNP:=LH h.ents.2.2
 clear h hl
 have hE:=fun w'=>Lib.run_eql_slice_nil w' 154 215 (some ad) n cap 0 0 Tryz.underlying154
 simp only [Option.isNone_some] at hE
 go_enter Tryz.func100,Tryz.ntmps100
 go_wp2_with (at_builtin;go_must (refine wpList_append_own _ rfl _ _ 154 rfl w.heap.size 215 i0 _ 4 48 Tryz.underlying154 hi hz0 hz1 hz2 rfl (by decide) _ 0 [] rfl (World.ownsRow_made w #[] 0 (Nat.le_refl _) (Nat.zero_le _) rfl) ad n cap (l.flatMap entCells) rfl (by rw [flat_len,HN.out]) ?_ (flat_one4 l) (by have:=HL.out;rw [HN.out];unfold maxLen;omega) (by have:=HL.out;rw [HN.out];omega) (by simp) ?_))
 ·intro j v hv
  have hn0:0 < n:=by
   have:=(List.getElem?_eq_some_iff.1 hv).1
   rw [flat_len,← HN.out] at this
   omega
  obtain ⟨b,off,e,_⟩:=HNP.out hn0
  cases e
  have h2:=(H.out.below entCells_len ((Below.refl _ _).alloc (Nat.le_refl _) (.cells #[] 215))).flat entCells_len (by omega) j v hv
  exact h2
 ·intro v' w' hown hgrow _
  have hb:=((Below.refl w.heap.size w).alloc (Nat.le_refl _) (.cells #[] 215)).grown hgrow (by simp) (fun j hj=>by cases hj;exact Nat.le_refl _)
  have ho:OwnE w' w.heap.size v' l:=by simpa [HN.out] using hown
  obtain ⟨a',cap',hv'⟩:=own_shape ho
  subst hv'
  have HO:=LH ho
  have HB:=LH hb
  clear hown hgrow hb ho
  go_wp2_with fail
  go_ret
  exact ⟨a',cap',rfl,HO.out,HB.out⟩
theorem clone_wide {v:Value} {l:List Ent} {w:World} (h:SliceR w v 4 entCells l) (hl:l.length * 48≤140737488355328) :
  Calls Tryz.prog 100 #[v] w (CloneEnd l w):=by
 have h':=h
 obtain ⟨a,cap,hv,hcap,_,hnone,hc⟩:=h'
 subst hv
 cases a with
 |none =>
  have h0:l.length=0:=by have:=hnone rfl;omega
  have hl0:l=[]:=List.length_eq_zero_iff.1 h0
  subst hl0
  have hc0:cap=0:=hnone rfl
  subst hc0
  exact clone_nil w
 |some ad=>exact clone_some ad _ cap l w h hl
theorem clone_any {v:Value} {l:List Ent} {w:World} (h:SliceR w v 4 entCells l) (hl:l.length≤1000000) :
  Calls Tryz.prog 100 #[v] w (CloneEnd l w):=clone_wide h (by omega)
def TwinEnd17 (t:Top) (w:World) (e:Ending) (w':World):Prop :=
 ∃ a cap,e=.returned (.agg #[.int .i64 t.base,.int .i64 t.next,.int .i64 t.mark,.slice a t.ents.length cap])∧OwnE w' w.heap.size (.slice a t.ents.length cap) t.ents∧Below w.heap.size w w'
end Go.Proofs.YtkkohllhebdlcaaGreatDoor
/-
  A slice from a place on reads as the list from there on. No program in sight.
-/
namespace Go.Proofs.YtkkohllhebdlcaaGreatDoor
open Go.RowKit
theorem sliceR_drop {w:World} {a:Option Addr} {n cap:Nat} {l:List Ent} (h:SliceR w (.slice a n cap) 4 entCells l) {k:Nat} (hk:k≤n) :
  SliceR w (.slice (if cap=k then a else a.map (·.add (k * 4))) (n - k) (cap - k)) 4 entCells (l.drop k):=by
 obtain ⟨a',cap',e,h2,h3,h4,h5⟩:=h
 cases e
 refine ⟨_,cap - k,by rw [List.length_drop],by rw [List.length_drop];omega,by omega,fun hn=>?_,fun hl=>?_⟩
 ·by_cases hc:cap=k
  ·omega
  ·rw [if_neg hc] at hn
   cases a with
   |none=>have:=h4 rfl;omega
   |some ad=>simp at hn
 ·rw [List.length_drop] at hl
  obtain ⟨b,off,ha,hd⟩:=h5 (by omega)
  subst ha
  rw [if_neg (by omega)]
  refine ⟨b,off+k * 4,by simp [Addr.add],fun i hi j hj=>?_⟩
  have:=hd (k+i) (by rw [List.length_drop] at hi;omega) j hj
  rw [List.getElem_drop]
  rw [← this]
  congr 2
  omega
end Go.Proofs.YtkkohllhebdlcaaGreatDoor
/-
  Own rows of entries over stores, and a slice of them from a place on. No condition.
-/
namespace Go.Proofs.YtkkohllhebdlcaaGreatDoor
open Go.RowKit
theorem own_set {W:World} {B b o:Nat} {v u:Value} {l:List Ent} (h:OwnE W B v l) (hb:b < B):OwnE (W.setCell ⟨b,o,none⟩ u) B v l :=
 ownsRow_setCell_other h (fun e=>by have:=(h.lt _ e).1;simp at this;omega) u
theorem own_alloc {W:World} {B:Nat} {v:Value} {l:List Ent} (h:OwnE W B v l) {o:Obj}:OwnE (W.alloc o) B v l:=h.alloc _
theorem own_drew {W:World} {B:Nat} {v:Value} {l:List Ent} (h:OwnE W B v l):OwnE W.drew B v l:=h
theorem own_base {W:World} {B B':Nat} {v:Value} {l:List Ent} (h:OwnE W B v l) (hB:B'≤B):OwnE W B' v l :=
 ⟨h.1,h.2.elim Or.inl (fun ⟨g,cp,cur,hv,hg,r⟩=>Or.inr ⟨g,cp,cur,hv,by omega,r⟩)⟩
theorem own_below {W W':World} {B:Nat} {v:Value} {l:List Ent} (h:OwnE W B v l) (hb:Below W.heap.size W W'):OwnE W' B v l :=
 ⟨h.1,h.2.elim Or.inl (fun ⟨g,cp,cur,hv,hg,hh,r⟩=>Or.inr ⟨g,cp,cur,hv,hg,(hb.block g (h.lt g (by rw [hv];rfl)).2).trans hh,r⟩)⟩
theorem slice_from {a:Option Addr} {n cap:Nat} {l:List Ent} {w:World} (h:SliceR w (.slice a n cap) 4 entCells l) (k:Nat) (hk:k≤n) :
  ∃ A',(∀ W,(Instr.slice 154 (.slice a n cap) (some (.int .i64 (k:Int))) none none).run Tryz.prog W=.ok (.slice A' (n - k) (cap - k)) W)∧SliceR w (.slice A' (n - k) (cap - k)) 4 entCells (l.drop k):=by
 refine ⟨_,fun W=>?_,sliceR_drop h hk⟩
 have k0:(0:Int)≤(k:Int):=by omega
 have k1:(k:Int)≤(n:Int):=by omega
 go_simp
end Go.Proofs.YtkkohllhebdlcaaGreatDoor
/-
  Standing facts behind one more call. No program in sight.
-/
namespace Go.Proofs.YtkkohllhebdlcaaGreatDoor
open Go.RowKit
theorem below_alloc {a w:World} (h:Below a.heap.size a w) {o:Obj}:Below a.heap.size a (w.alloc o):=h.alloc h.size o
theorem below_step {a w w':World} (h:Below a.heap.size a w) (hb:Below w.heap.size w w'):Below a.heap.size a w':=h.trans (hb.mono h.size)
theorem topR_step {w W w':World} {v:Value} {t:Top} (h:TopR w v t) (h1:Below w.heap.size w W) (hb:Below W.heap.size W w'):TopR w' v t:=h.below (below_step h1 hb)
def Since (w0 w:World):Prop:=Below w0.heap.size w0 w
theorem Since.out {w0 w:World} (h:Since w0 w):Below w0.heap.size w0 w:=h
theorem wp_region_below {P:Program} {id:Nat} {Q:Exit→Act→World→Prop} {a:Act} {w:World} {l:List Oper} (hm:P.follows .mixedOrders=true) (hB:Region.lexB .any l.toArray=true)
  (h:wpQuiet P l.toArray (fun W=>Since w W) (fun a'=>∀ w',Below w.heap.size w w'→Q .normal a' w') l a):(Code.region id l.toArray true).wp P Q a w :=
 wp_region_class (fun W=>Since w W) hm hB (Below.refl _ _).drew h
theorem call_in {P:Program} {f:FuncId} {args:Array Value} {w0 w:World} {v:Value} (hq:Below w0.heap.size w0 w) (h:Calls P f args w fun e w'=>e=.returned v∧Below w.heap.size w w') :
  Calls P f args w fun e w'=>e=.returned v∧Since w0 w':=h.mono fun _ _ ⟨h1,h2⟩=>⟨h1,below_step hq h2⟩
theorem at_code {P:Program} {c:Code} {Q:Exit→Act→World→Prop} {a:Act} {w:World} (C:World→Prop) (h:C w) (k:∀ W,C W→Code.wp P c Q a W):Code.wp P c Q a w:=k w h
end Go.Proofs.YtkkohllhebdlcaaGreatDoor
/-
  topic.Twin. No condition but that the topic reads and is not very great.
-/
namespace Go.Proofs.YtkkohllhebdlcaaGreatDoor
open Go.RowKit
set_option maxHeartbeats 1000000 in
set_option maxRecDepth 100000 in
theorem topTwin_any {v:Value} {t:Top} {w:World} (h:TopR w v t) (hl:t.ents.length≤1000000):Calls Tryz.prog 69 #[v] w (TwinEnd17 t w):=by
 obtain ⟨a,cap,rfl,hs⟩:=h
 have HS:=LH hs
 have HL:=LH hl
 obtain ⟨base,hbase⟩:∃ base,base=t.base:=⟨_,rfl⟩
 obtain ⟨next,hnext⟩:∃ next,next=t.next:=⟨_,rfl⟩
 obtain ⟨mark,hmark⟩:∃ mark,mark=t.mark:=⟨_,rfl⟩
 obtain ⟨n,hn⟩:∃ n,n=t.ents.length:=⟨_,rfl⟩
 rw [← hbase,← hnext,← hmark,← hn]
 rw [← hn] at HS
 have HBS:=LH hbase
 have HNX:=LH hnext
 have HMK:=LH hmark
 have HN:=LH hn
 clear hbase hnext hmark hn hs hl
 go_enter Tryz.func69,Tryz.ntmps69
 go_wp2_with fail
 refine (clone_any (HS.out.below entCells_len (((Below.refl _ _).alloc (Nat.le_refl _) _).alloc (by simp) _)) HL.out).mono ?_
 rintro e w2 ⟨a',cap',rfl,ho,hb⟩
 rw [← HN.out] at ho
 have ek:t.ents.length=n:=HN.out.symm
 rw [ek]
 clear ek
 have HO:=LH ho
 have HB:=LH hb
 have b0:=keep hb (a:=⟨w.heap.size,0,none⟩) (v:=.int .i64 base) (by go_simp)
 have b1:=keep hb (a:=⟨w.heap.size,1,none⟩) (v:=.int .i64 next) (by go_simp)
 have b2:=keep hb (a:=⟨w.heap.size,2,none⟩) (v:=.int .i64 mark) (by go_simp)
 have b3:=keep hb (a:=⟨w.heap.size,3,none⟩) (v:=.slice a n cap) (by go_simp)
 have z3:w2.frozen? ⟨w.heap.size,3,none⟩=false:=by rw [hb.frozen (p:=⟨w.heap.size,3,none⟩) (by simp;omega)];go_simp
 have r0:=keep hb (a:=⟨w.heap.size+1,0,none⟩) (v:=.int .i64 0) (by go_simp)
 have r1:=keep hb (a:=⟨w.heap.size+1,1,none⟩) (v:=.int .i64 0) (by go_simp)
 have r2:=keep hb (a:=⟨w.heap.size+1,2,none⟩) (v:=.int .i64 0) (by go_simp)
 have r3:=keep hb (a:=⟨w.heap.size+1,3,none⟩) (v:=.slice none 0 0) (by go_simp)
 have q0:w2.frozen? ⟨w.heap.size+1,0,none⟩=false:=by rw [hb.frozen (p:=⟨w.heap.size+1,0,none⟩) (by simp)];go_simp
 have q1:w2.frozen? ⟨w.heap.size+1,1,none⟩=false:=by rw [hb.frozen (p:=⟨w.heap.size+1,1,none⟩) (by simp)];go_simp
 have q2:w2.frozen? ⟨w.heap.size+1,2,none⟩=false:=by rw [hb.frozen (p:=⟨w.heap.size+1,2,none⟩) (by simp)];go_simp
 have q3:w2.frozen? ⟨w.heap.size+1,3,none⟩=false:=by rw [hb.frozen (p:=⟨w.heap.size+1,3,none⟩) (by simp)];go_simp
 clear ho hb
 go_wp2_with fail
 refine bodyPost_ret (v:=.agg #[.int .i64 base,.int .i64 next,.int .i64 mark,.slice a' n cap']) (by simp [results,Tryz.results69,go_sem,r0,r1,r2,r3]) rfl ?_
 refine ⟨a',cap',by rw [HBS.out,HNX.out,HMK.out,HN.out],?_,?_⟩
 ·have h0:=HO.out
  rw [HN.out] at h0 ⊢
  have hlt:∀ k,(Value.slice a' t.ents.length cap').ownBlock=some k→w.heap.size+2≤k:=fun k hk=>by
   have:=(h0.lt k hk).1
   simp at this
   omega
  have h1:OwnE w2 w.heap.size (.slice a' t.ents.length cap') t.ents:=⟨h0.1,h0.2.elim Or.inl (fun ⟨g,cp,cur,hv,hg,r⟩=>Or.inr ⟨g,cp,cur,hv,by simp at hg;omega,r⟩)⟩
  have s1:∀ (W:World) (b o:Nat) (u:Value),b < w.heap.size+2→OwnE W w.heap.size (.slice a' t.ents.length cap') t.ents→OwnE (W.setCell ⟨b,o,none⟩ u) w.heap.size (.slice a' t.ents.length cap') t.ents:=fun W b o u hb h =>
   ownsRow_setCell_other h (fun e=>by have:=hlt _ e;simp at this;omega) u
  exact s1 _ _ _ _ (by omega) (s1 _ _ _ _ (by omega) (s1 _ _ _ _ (by omega) (s1 _ _ _ _ (by omega) (s1 _ _ _ _ (by omega) h1))))
 ·have h0:Below w.heap.size w w2:=(((Below.refl _ _).alloc (Nat.le_refl _) _).alloc (by simp) _).trans (HB.out.mono (by simp;omega))
  exact ((((h0.setCell (p:=⟨w.heap.size,3,none⟩) (Nat.le_refl _) _).setCell (p:=⟨w.heap.size+1,0,none⟩) (Nat.le_succ _) _).setCell (p:=⟨w.heap.size+1,1,none⟩) (Nat.le_succ _) _).setCell (p:=⟨w.heap.size+1,2,none⟩) (Nat.le_succ _) _).setCell (p:=⟨w.heap.size+1,3,none⟩) (Nat.le_succ _) _
end Go.Proofs.YtkkohllhebdlcaaGreatDoor
/-
  append onto an own row, whether or not anything is appended. No program in sight.
-/
namespace Go.Proofs.YtkkohllhebdlcaaGreatDoor
open Go.RowKit
theorem wpList_append_own_any {P:Program} (w:World) {ops:Array Oper} {rest:List Oper} {o:Oper} {a:Act} {Q:Exit→Act→World→Prop} (hgd:o.guard=none) (s x:Operand) (t:TypeId)
  (ho:o.op=.call { callee:=.builtin .append,args:=#[s,x],argTypes:=#[t,t] })
  (base:Nat) (e:TypeId) (i:TypeInfo) (z:Value) (size bytes:Nat) (ht:P.underlying t=some (.slice e)) (hi:P.info? e=some i) (hz:i.zero=some z)
  (hsize:i.size=size) (hby:i.bytes=bytes) (hzs:z.cells.size=size) (hsz:0 < size)
  (v:Value) (n:Nat) (xs:List Value) (hs:a.eval s=v) (hown:w.ownsRow base e size v n xs)
  (ao:Option Addr) (m c:Nat) (news:List Value) (hx:a.eval x=.slice ao m c) (hl:news.length=m * size) (hnone:ao=none→m=0∧c=0)
  (hnews:∀ ad,ao=some ad→∀ j u,news[j]?=some u→w.cell? (ad.add j)=some u) (h1:∀ u∈news,u.oneCell'=true)
  (h63:n+m≤maxLen) (hbytes:(n+m) * bytes≤140737488355328) (hbase:base≤w.heap.size)
  (h:∀ v' w',w'.ownsRow base e size v' (n+m) (xs++news)→w.grownBy w' v.ownBlock→wpList P ops Q rest (a.put o.dst v') w'):wpList P ops Q (o :: rest) a w:=by
 cases ao with
 |some ad=>exact wpList_append_own w hgd s x t ho base e i z size bytes ht hi hz hsize hby hzs hsz v n xs hs hown ad m c news hx hl (hnews ad rfl) h1 h63 hbytes hbase fun v' w' h2 h3 _=>h v' w' h2 h3
 |none =>
  obtain ⟨rfl,rfl⟩:=hnone rfl
  have hn:news=[]:=List.eq_nil_of_length_eq_zero (by simpa using hl)
  subst hn
  exact wpList_append_own_none hgd s x t ho base e i size ht hi v n xs hs hown hx (h v w (by simpa using hown) (World.grownBy.refl _ _))
end Go.Proofs.YtkkohllhebdlcaaGreatDoor
/-
  '==' and '!=' of two entries. No condition.
-/
namespace Go.Proofs.YtkkohllhebdlcaaGreatDoor
open Go.RowKit
def lessB (t i t' i':Int):Bool:=decide (t < t'∨(t=t'∧i < i'))
set_option maxHeartbeats 800000 in
set_option maxRecDepth 100000 in
theorem less_lt (t i t' i':Int) (h:t < t') (w:World) :
  Calls Tryz.prog 79 #[.agg #[.int .i64 t,.int .i64 i],.agg #[.int .i64 t',.int .i64 i']] w fun e w'=>e=.returned (.bool true)∧Below w.heap.size w w':=by
 go_enter Tryz.func79,Tryz.ntmps79
 go_wp2_with fail
 refine wp_region_still_tail 10 (by kernel_rfl) (by kernel_rfl) ?_
 simp only [List.take_succ_cons,List.take_zero,List.drop_succ_cons,List.drop_zero]
 change wpStill _ _ (World.drew _) _ _ _
 repeat still_step
 still_call (callsFlip (compare_lt _ _ h _))
 repeat still_step
 still_call (callsFlip (compare_any _ _ _))
 refine wpStill_nil ?_
 change wpList _ _ _ _ _ (World.drew _)
 go_wp2_with fail
 refine (or_first _ (-1) _ ?x1 ?x2).mono ?_
 case x1=>decide
 case x2=>simp [go_sem]
 rintro e w' ⟨rfl,rfl⟩
 go_wp2_with fail
 go_ret
 exact ⟨rfl,by repeat (first|exact Below.refl _ _|apply Below.drew|refine Below.alloc ?_ (by simp;try omega) _)⟩
set_option maxHeartbeats 800000 in
set_option maxRecDepth 100000 in
theorem less_gt (t i t' i':Int) (h:t' < t) (w:World) :
  Calls Tryz.prog 79 #[.agg #[.int .i64 t,.int .i64 i],.agg #[.int .i64 t',.int .i64 i']] w fun e w'=>e=.returned (.bool false)∧Below w.heap.size w w':=by
 go_enter Tryz.func79,Tryz.ntmps79
 go_wp2_with fail
 refine wp_region_still_tail 10 (by kernel_rfl) (by kernel_rfl) ?_
 simp only [List.take_succ_cons,List.take_zero,List.drop_succ_cons,List.drop_zero]
 change wpStill _ _ (World.drew _) _ _ _
 repeat still_step
 still_call (callsFlip (compare_gt _ _ h _))
 repeat still_step
 still_call (callsFlip (compare_any _ _ _))
 refine wpStill_nil ?_
 change wpList _ _ _ _ _ (World.drew _)
 go_wp2_with fail
 refine (or_first _ 1 _ ?x1 ?x2).mono ?_
 case x1=>decide
 case x2=>simp [go_sem]
 rintro e w' ⟨rfl,rfl⟩
 go_wp2_with fail
 go_ret
 exact ⟨rfl,by repeat (first|exact Below.refl _ _|apply Below.drew|refine Below.alloc ?_ (by simp;try omega) _)⟩
set_option maxHeartbeats 800000 in
set_option maxRecDepth 100000 in
theorem less_eqlt (t i i':Int) (h:i < i') (w:World) :
  Calls Tryz.prog 79 #[.agg #[.int .i64 t,.int .i64 i],.agg #[.int .i64 t,.int .i64 i']] w fun e w'=>e=.returned (.bool true)∧Below w.heap.size w w':=by
 go_enter Tryz.func79,Tryz.ntmps79
 go_wp2_with fail
 refine wp_region_still_tail 10 (by kernel_rfl) (by kernel_rfl) ?_
 simp only [List.take_succ_cons,List.take_zero,List.drop_succ_cons,List.drop_zero]
 change wpStill _ _ (World.drew _) _ _ _
 repeat still_step
 still_call (callsFlip (compare_eq _ _))
 repeat still_step
 still_call (callsFlip (compare_lt _ _ h _))
 refine wpStill_nil ?_
 change wpList _ _ _ _ _ (World.drew _)
 go_wp2_with fail
 refine (or_second _ (-1) _ ?x1 ?x2).mono ?_
 case x1=>simp [go_sem]
 case x2=>simp [go_sem]
 rintro e w' ⟨rfl,rfl⟩
 go_wp2_with fail
 go_ret
 exact ⟨rfl,by repeat (first|exact Below.refl _ _|apply Below.drew|refine Below.alloc ?_ (by simp;try omega) _)⟩
set_option maxHeartbeats 800000 in
set_option maxRecDepth 100000 in
theorem less_eqgt (t i i':Int) (h:i' < i) (w:World) :
  Calls Tryz.prog 79 #[.agg #[.int .i64 t,.int .i64 i],.agg #[.int .i64 t,.int .i64 i']] w fun e w'=>e=.returned (.bool false)∧Below w.heap.size w w':=by
 go_enter Tryz.func79,Tryz.ntmps79
 go_wp2_with fail
 refine wp_region_still_tail 10 (by kernel_rfl) (by kernel_rfl) ?_
 simp only [List.take_succ_cons,List.take_zero,List.drop_succ_cons,List.drop_zero]
 change wpStill _ _ (World.drew _) _ _ _
 repeat still_step
 still_call (callsFlip (compare_eq _ _))
 repeat still_step
 still_call (callsFlip (compare_gt _ _ h _))
 refine wpStill_nil ?_
 change wpList _ _ _ _ _ (World.drew _)
 go_wp2_with fail
 refine (or_second _ 1 _ ?x1 ?x2).mono ?_
 case x1=>simp [go_sem]
 case x2=>simp [go_sem]
 rintro e w' ⟨rfl,rfl⟩
 go_wp2_with fail
 go_ret
 exact ⟨rfl,by repeat (first|exact Below.refl _ _|apply Below.drew|refine Below.alloc ?_ (by simp;try omega) _)⟩
set_option maxHeartbeats 800000 in
set_option maxRecDepth 100000 in
theorem less_eqeq (t i:Int) (w:World) :
  Calls Tryz.prog 79 #[.agg #[.int .i64 t,.int .i64 i],.agg #[.int .i64 t,.int .i64 i]] w fun e w'=>e=.returned (.bool false)∧Below w.heap.size w w':=by
 go_enter Tryz.func79,Tryz.ntmps79
 go_wp2_with fail
 refine wp_region_still_tail 10 (by kernel_rfl) (by kernel_rfl) ?_
 simp only [List.take_succ_cons,List.take_zero,List.drop_succ_cons,List.drop_zero]
 change wpStill _ _ (World.drew _) _ _ _
 repeat still_step
 still_call (callsFlip (compare_eq _ _))
 repeat still_step
 still_call (callsFlip (compare_eq _ _))
 refine wpStill_nil ?_
 change wpList _ _ _ _ _ (World.drew _)
 go_wp2_with fail
 refine (or_second _ 0 _ ?x1 ?x2).mono ?_
 case x1=>simp [go_sem]
 case x2=>simp [go_sem]
 rintro e w' ⟨rfl,rfl⟩
 go_wp2_with fail
 go_ret
 exact ⟨rfl,by repeat (first|exact Below.refl _ _|apply Below.drew|refine Below.alloc ?_ (by simp;try omega) _)⟩
theorem less_any (t i t' i':Int) (w:World) :
  Calls Tryz.prog 79 #[.agg #[.int .i64 t,.int .i64 i],.agg #[.int .i64 t',.int .i64 i']] w fun e w'=>e=.returned (.bool (lessB t i t' i'))∧Below w.heap.size w w':=by
 rcases Int.lt_trichotomy t t' with h|h|h
 ·rw [show lessB t i t' i'=true from by simp [lessB,h]];exact less_lt t i t' i' h w
 ·subst h
  rcases Int.lt_trichotomy i i' with h|h|h
  ·rw [show lessB t i t i'=true from by simp [lessB,h]];exact less_eqlt t i i' h w
  ·subst h
   rw [show lessB t i t i=false from by simp [lessB]];exact less_eqeq t i w
  ·rw [show lessB t i t i'=false from by simp [lessB];omega];exact less_eqgt t i i' h w
 ·rw [show lessB t i t' i'=false from by simp [lessB];omega];exact less_gt t i t' i' h w
structure Wt where
 msg:PM
 time:Int
 fin:Bool
structure Sk where
 clock:Int
 waits:List Wt
 done:List (Int × Int)
instance:Inhabited Wt:=⟨⟨default,0,false⟩⟩
def wtCs (p:Value × Wt):List Value:=[.int .i64 p.2.msg.id,p.1,.int .i64 p.2.msg.topic,.string p.2.msg.key,.string p.2.msg.body,.int .i64 p.2.time,.bool p.2.fin]
def wtVal (u:Value) (x:Wt):Value:=.agg #[.int .i64 x.msg.id,u,.int .i64 x.msg.topic,.string x.msg.key,.string x.msg.body,.int .i64 x.time,.bool x.fin]
theorem wtCs_len (p:Value × Wt):(wtCs p).length=7:=rfl
def ofW (x:Wt):Int × Int:=(x.time,x.msg.id)
def lessW (x y:Wt):Bool:=lessB x.time x.msg.id y.time y.msg.id
def cmpW (x y:Wt):Int:=if lessW x y=true then -1 else if lessW y x=true then 1 else 0
theorem RowsR.shape {w:World} {v:Value} {m:List (List Int)} (h:RowsR w v m):∃ (a:Option Addr) (n cap:Nat),v=.slice a n cap:=by
 obtain ⟨us,⟨a,cap,hv,_⟩,_⟩:=h
 exact ⟨a,_,cap,hv⟩
theorem rows_apart {w:World} {b1 b2:Nat} {e1 e2:TypeId} {s1 s2 n1 n2:Nat} {v1 v2:Value} {xs1 xs2:List Value} (h1:w.ownsRow b1 e1 s1 v1 n1 xs1) (h2:w.ownsRow b2 e2 s2 v2 n2 xs2) (he:e1≠e2) :
  v1.ownBlock=none∨v1.ownBlock≠v2.ownBlock:=by
 rcases h1.2 with ⟨rfl,_⟩|⟨g1,c1,cur1,rfl,_,hh1,_⟩
 ·exact Or.inl rfl
 ·rcases h2.2 with ⟨rfl,_⟩|⟨g2,c2,cur2,rfl,_,hh2,_⟩
  ·exact Or.inr (by simp [Value.ownBlock])
  ·refine Or.inr ?_
   simp only [Value.ownBlock,ne_eq,Option.some.injEq]
   intro hg
   rw [hg,hh2] at hh1
   simp at hh1
   exact he hh1.2.symm
theorem ownsRow_below {w w':World} {B b:Nat} {e:TypeId} {s n:Nat} {v:Value} {xs:List Value} (h:w.ownsRow b e s v n xs) (hb:Below B w w') (hlt:∀ k,v.ownBlock=some k→k < B):w'.ownsRow b e s v n xs:=by
 refine ⟨h.1,?_⟩
 rcases h.2 with h0|⟨g,cap,cur,rfl,hg,hh,r⟩
 ·exact Or.inl h0
 ·exact Or.inr ⟨g,cap,cur,rfl,hg,by rw [hb.block g (hlt g rfl)];exact hh,r⟩
theorem ownsRow_keep {w w':World} {b:Nat} {e:TypeId} {s n:Nat} {v:Value} {xs:List Value} (h:w.ownsRow b e s v n xs) (hb:Below w.heap.size w w'):w'.ownsRow b e s v n xs :=
 ownsRow_below h hb (fun k hk=>(h.lt k hk).2)
def rowVals (r:List Int):List Value:=r.map fun n=>.int .i64 n
theorem rowVals_get {r:List Int} {i:Nat} (h:i < r.length):(rowVals r)[i]?=some (.int .i64 (r.getD i 0)):=by
 simp [rowVals,List.getD,h]
theorem rowVals_flat (r:List Int):rowVals r=r.flatMap intCell:=by
 induction r with
 |nil=>rfl
 |cons x r ih=>rw [List.flatMap_cons,← ih];rfl
def OwnRows (te ti:TypeId) (w:World) (base:Nat) (v:Value) (m:List (List Int)):Prop :=
 ∃ us:List Value,w.ownsRow base te 1 v us.length us∧us.length=m.length∧(∀ i,i < m.length→w.ownsRow base ti 1 (us.getD i .nilIface) (m.getD i []).length (rowVals (m.getD i []))) ∧
  ∀ i j,i < m.length→j < m.length→i≠j→(us.getD i .nilIface).ownBlock=none∨(us.getD i .nilIface).ownBlock≠(us.getD j .nilIface).ownBlock
theorem flat_one (us:List Value):us.flatMap oneCell=us:=by
 induction us with
 |nil=>rfl
 |cons x r ih=>rw [List.flatMap_cons,ih];rfl
theorem OwnRows.reads {te ti:TypeId} {w:World} {base:Nat} {v:Value} {m:List (List Int)} (h:OwnRows te ti w base v m):RowsR w v m:=by
 obtain ⟨us,h1,h2,h3,_⟩:=h
 refine ⟨us,sliceR_of_owns (cells:=oneCell) (fun _=>rfl) (by rw [flat_one];exact h1),h2,fun i hi=>?_⟩
 exact sliceR_of_owns (cells:=intCell) (fun _=>rfl) (by rw [← rowVals_flat];exact h3 i hi)
theorem OwnRows.keep {te ti:TypeId} {w w':World} {base:Nat} {v:Value} {m:List (List Int)} (h:OwnRows te ti w base v m) (hb:Below w.heap.size w w'):OwnRows te ti w' base v m:=by
 obtain ⟨us,h1,h2,h3,h4⟩:=h
 exact ⟨us,ownsRow_keep h1 hb,h2,fun i hi=>ownsRow_keep (h3 i hi) hb,h4⟩
theorem ownsRow_le {w:World} {base base' size n:Nat} {e:TypeId} {v:Value} {xs:List Value} (h:w.ownsRow base e size v n xs) (hb:base'≤base):w.ownsRow base' e size v n xs :=
 ⟨h.1,h.2.elim Or.inl (fun ⟨g,cap,cur,hv,hg,r⟩=>Or.inr ⟨g,cap,cur,hv,Nat.le_trans hb hg,r⟩)⟩
theorem OwnRows.le {te ti:TypeId} {w:World} {base base':Nat} {v:Value} {m:List (List Int)} (h:OwnRows te ti w base v m) (hb:base'≤base):OwnRows te ti w base' v m:=by
 obtain ⟨us,h1,h2,h3,h4⟩:=h
 exact ⟨us,ownsRow_le h1 hb,h2,fun i hi=>ownsRow_le (h3 i hi) hb,h4⟩
theorem OwnRows.drew {te ti:TypeId} {w:World} {base:Nat} {v:Value} {m:List (List Int)} (h:OwnRows te ti w base v m):OwnRows te ti w.drew base v m:=h
theorem OwnRows.nil (te ti:TypeId) (w:World) (base:Nat):OwnRows te ti w base (.slice none 0 0) [] :=
 ⟨[],World.ownsRow_nil _ _ _ _,rfl,fun _ hi=>absurd hi (Nat.not_lt_zero _),fun _ _ hi=>absurd hi (Nat.not_lt_zero _)⟩
theorem getD_append_left {α:Type} {l m:List α} {d:α} {i:Nat} (h:i < l.length):(l++m).getD i d=l.getD i d:=by simp [List.getD,List.getElem?_append_left h]
theorem getD_append_new {α:Type} {l:List α} {x d:α}:(l++[x]).getD l.length d=x:=by simp [List.getD]
theorem OwnRows.snoc {te ti:TypeId} {w w':World} {base:Nat} {v v' x:Value} {m:List (List Int)} {r:List Int} {us:List Value} (hne:ti≠te) (hu:w.ownsRow base te 1 v us.length us) (hl:us.length=m.length)
  (hin:∀ i,i < m.length→w.ownsRow base ti 1 (us.getD i .nilIface) (m.getD i []).length (rowVals (m.getD i [])))
  (hap:∀ i j,i < m.length→j < m.length→i≠j→(us.getD i .nilIface).ownBlock=none∨(us.getD i .nilIface).ownBlock≠(us.getD j .nilIface).ownBlock)
  (hx:w.ownsRow base ti 1 x r.length (rowVals r)) (hnew:∀ i,i < m.length→∀ k,(us.getD i .nilIface).ownBlock=some k→x.ownBlock≠some k)
  (hv:w'.ownsRow base te 1 v' (us.length+1) (us++[x])) (hg:w.grownBy w' v.ownBlock):OwnRows te ti w' base v' (m++[r]):=by
 have new:∀ i,i < m.length→(us.getD i .nilIface).ownBlock=none∨(us.getD i .nilIface).ownBlock≠x.ownBlock:=fun i hi=>by
  cases h:(us.getD i .nilIface).ownBlock with
  |none=>exact Or.inl rfl
  |some k=>exact Or.inr (fun e=>hnew i hi k h e.symm)
 have new':∀ i,i < m.length→x.ownBlock=none∨x.ownBlock≠(us.getD i .nilIface).ownBlock:=fun i hi=>by
  cases h:x.ownBlock with
  |none=>exact Or.inl rfl
  |some k=>exact Or.inr (fun e=>hnew i hi k e.symm h)
 refine ⟨us++[x],by simpa using hv,by simp [hl],fun i hi=>?_,fun i j hi hj hij=>?_⟩
 ·by_cases h:i < m.length
  ·rw [getD_append_left (by omega),getD_append_left h]
   exact (hin i h).kept hg (rows_apart (hin i h) hu hne)
  ·have:i=m.length:=by simp at hi;omega
   subst this
   rw [getD_append_new,← hl,getD_append_new]
   exact hx.kept hg (rows_apart hx hu hne)
 ·simp at hi hj
  by_cases h:i < m.length
  ·rw [getD_append_left (by omega)]
   by_cases h2:j < m.length
   ·rw [getD_append_left (by omega)]
    exact hap i j h h2 hij
   ·have:j=us.length:=by omega
    rw [this,getD_append_new]
    exact new i h
  ·have:i=us.length:=by omega
   have hj':j < m.length:=by omega
   rw [this,getD_append_new,getD_append_left (by omega)]
   exact new' j hj'
theorem splice_all {α:Type} (L cs:List α) (h:cs.length=L.length):splice L 0 cs=cs:=by
 simp [splice,h]
theorem byteCell_len (x:Int):(byteCell x).length=1:=rfl
theorem sliceB_drop {w:World} {a:Option Addr} {n cap:Nat} {l:List Int} (h:SliceR w (.slice a n cap) 1 byteCell l) {k:Nat} (hk:k≤n) :
  SliceR w (.slice (if cap=k then a else a.map (·.add k)) (n - k) (cap - k)) 1 byteCell (l.drop k):=by
 obtain ⟨a',cap',e,h2,h3,h4,h5⟩:=h
 cases e
 refine ⟨_,cap - k,by rw [List.length_drop],by rw [List.length_drop];omega,by omega,fun hn=>?_,fun hl=>?_⟩
 ·by_cases hc:cap=k
  ·omega
  ·rw [if_neg hc] at hn
   cases a with
   |none=>have:=h4 rfl;omega
   |some ad=>simp at hn
 ·rw [List.length_drop] at hl
  obtain ⟨b,off,ha,hd⟩:=h5 (by omega)
  subst ha
  rw [if_neg (by omega)]
  refine ⟨b,off+k,by simp [Addr.add],fun i hi j hj=>?_⟩
  have:=hd (k+i) (by rw [List.length_drop] at hi;omega) j hj
  rw [List.getElem_drop]
  rw [← this]
  congr 2
  omega
def getT (l:List Int):ByteArray × Int × Int :=
 if (getN l).2.2≠0∨4096 < (getN l).1∨(l.length:Int) - (getN l).2.1 < (getN l).1 then (⟨#[]⟩,0,8)
 else (strOfNums ((l.drop (getN l).2.1.toNat).take (getN l).1.toNat),(getN l).2.1+(getN l).1,0)
def TextEnd (s:ByteArray) (n x:Int) (w:World) (e:Ending) (w':World):Prop:=e=.returned (.tuple #[.string s,.int .i64 n,.int .i64 x])∧w'=w
theorem conv_window {w:World} {b off n k m:Nat} {l:List Int} (hat:∀ i,i < n→w.cell? ⟨b,off+i,none⟩=some (.int .u8 (l.getD i 0))) (hn:n=l.length) (hkm:k+m≤n) (a:Option Addr) (ha:0 < m→a=some ⟨b,off+k,none⟩) (c:Nat) :
  (convert 149 9 (.slice a m c)).run Tryz.prog w=.ok (.string (strOfNums ((l.drop k).take m))) w:=by
 by_cases hm:0 < m
 ·rw [ha hm]
  exact run_convert_bytes_arg w 149 5 Tryz.underlying149 Tryz.underlying5 b (off+k) m c _ (by simp;omega) (fun i hi=>by
   rw [Nat.add_assoc,hat (k+i) (by omega)]
   congr 2
   simp [List.getD,List.getElem?_take_of_lt hi,List.getElem?_drop]) _ Tryz.underlying9
 ·obtain rfl:m=0:=by omega
  rw [List.take_zero]
  cases a with
  |none=>exact run_convert_bytes_nil w 149 5 Tryz.underlying149 Tryz.underlying5 0 c _ Tryz.underlying9
  |some ad =>
   rw [run_convert_bytes_string w 149 9 5 _ 0 c Tryz.underlying149 Tryz.underlying5 Tryz.underlying9,run_bytesToString w _ 0 c [] (by rfl)]
   rfl
set_option maxHeartbeats 4000000 in
set_option maxRecDepth 100000 in
theorem getT_any {v:Value} {l:List Int} {w:World} {rs:ByteArray} {rn rx:Int} (h:SliceR w v 1 byteCell l) (hr:getT l=(rs,rn,rx)) :
  Calls Tryz.prog 118 #[v] w (TextEnd rs rn rx w):=by
 have S:=LH h
 obtain ⟨a,cap,rfl,hcap,hmx,_,hd⟩:=h.one (c:=fun n=>.int .u8 n) 0
 obtain ⟨n,hn⟩:∃ n,n=l.length:=⟨_,rfl⟩
 rw [← hn] at hcap hd S ⊢
 have HN:=LH hn
 have HD:=LH hd
 unfold maxLen at hmx
 rw [getT,← hn] at hr
 clear hd h hn
 rcases getN_cases l with hg|⟨m,s,hg,⟨hm0,hm1⟩,hs1,hs2⟩
 ·rw [hg,if_pos (Or.inl (by decide))] at hr
  cases hr
  have HG:=LH hg
  clear hg
  go_enter Tryz.func118,Tryz.ntmps118
  go_wp2_with fail
  refine Calls.mono (getN_any S.out HG.out) ?_
  rintro e w1 ⟨rfl,rfl⟩
  go_wp2_with fail
  exact bodyPost_ret (v:=.tuple #[.string ⟨#[]⟩,.int .i64 0,.int .i64 8]) (by simp [results,Tryz.results118,go_sem]) rfl ⟨rfl,rfl⟩
 ·rw [hg] at hr
  have HG:=LH hg
  rw [← HN.out] at hs2
  simp only at hr
  clear hg
  by_cases h4:4096 < m
  ·rw [if_pos (Or.inr (Or.inl h4))] at hr
   cases hr
   go_enter Tryz.func118,Tryz.ntmps118
   go_wp2_with fail
   refine Calls.mono (getN_any S.out HG.out) ?_
   rintro e w1 ⟨rfl,rfl⟩
   go_wp2_with fail
   exact bodyPost_ret (v:=.tuple #[.string ⟨#[]⟩,.int .i64 0,.int .i64 8]) (by simp [results,Tryz.results118,go_sem]) rfl ⟨rfl,rfl⟩
  ·by_cases h5:(n:Int) - s < m
   ·rw [if_pos (Or.inr (Or.inr h5))] at hr
    cases hr
    go_enter Tryz.func118,Tryz.ntmps118
    go_wp2_with fail
    refine Calls.mono (getN_any S.out HG.out) ?_
    rintro e w1 ⟨rfl,rfl⟩
    go_wp2_with fail
    exact bodyPost_ret (v:=.tuple #[.string ⟨#[]⟩,.int .i64 0,.int .i64 8]) (by simp [results,Tryz.results118,go_sem]) rfl ⟨rfl,rfl⟩
   ·rw [if_neg (by rintro (hh|hh|hh) <;> omega)] at hr
    cases hr
    obtain ⟨k,rfl⟩:∃ k:Nat,s=(k:Int):=⟨s.toNat,by omega⟩
    obtain ⟨q,rfl⟩:∃ q:Nat,m=(q:Int):=⟨m.toNat,by omega⟩
    rw [Int.toNat_natCast,Int.toNat_natCast]
    obtain ⟨b,off,rfl,hat⟩:=HD.out (by omega)
    have hkn:k+q≤n:=by omega
    have hkc:k+q≤cap:=by omega
    have HC:=LH (fun (W:World) (h:W=w) (a:Option Addr) (ha:0 < q→a=some ⟨b,off+k,none⟩) (c:Nat)=>h ▸ conv_window hat HN.out hkn a ha c)
    clear hat
    go_enter Tryz.func118,Tryz.ntmps118
    go_wp2_with fail
    refine Calls.mono (getN_any S.out HG.out) ?_
    rintro e w1 ⟨rfl,rfl⟩
    have hc1:=HC.out w1 rfl (some ⟨b,off+k,none⟩) (fun _=>rfl) (cap - k)
    by_cases hck:cap=k
    ·obtain rfl:q=0:=by omega
     subst hck
     have hc2:=HC.out w1 rfl (some ⟨b,off,none⟩) (fun h=>by omega) 0
     go_wp2_with fail
     exact bodyPost_ret (v:=.tuple #[.string (strOfNums ((l.drop cap).take 0)),.int .i64 ((cap:Int)+(0:Nat)),.int .i64 0]) (by simp [results,Tryz.results118,go_sem]) rfl ⟨rfl,rfl⟩
    ·go_wp2_with fail
     exact bodyPost_ret (v:=.tuple #[.string (strOfNums ((l.drop k).take q)),.int .i64 ((k:Int)+q),.int .i64 0]) (by simp [results,Tryz.results118,go_sem]) rfl ⟨rfl,rfl⟩
def fromE (b:Int) (l:List Ent):List Ent:=l.filter fun x=>decide (b≤x.off)
theorem fromE_len (b:Int) (l:List Ent):(fromE b l).length≤l.length:=List.length_filter_le _ _
theorem take_succ_ent {l:List Ent} {k:Nat} (h:k < l.length):l.take (k+1)=l.take k++[l.getD k default]:=by
 rw [List.take_succ_eq_append_getElem h]
 simp [List.getD,h]
end Go.Proofs.YtkkohllhebdlcaaGreatDoor
