/-
  Proved here: Texts that belong together; the remark at the head of each says what i commits.Check and what it calls: slices.IndexFunc, slices.ContainsFunc commits.Check, commits.asked, commits.Get. No condition but that the s slices.IndexFunc at entries with keep.Trim's closure: the first entry  Plain: the entries from an offset on. No program in sight. commits.Twin, commits.New and the document's: new rows. N
-/
import Derived.Test.YtdfmcgekfogpbabGreatDoorProg
import Derived.Test.YtdfmcgekfogpbabGreatDoorY01
import Derived.OwnWalk
import Derived.Deep.DeepMust
import Derived.WalkLawsBesides
import Derived.OneCell
import Derived.KernelRfl
import Derived.Laws.EntriesVeiled
import Derived.Deep.LoopGhost
set_option maxRecDepth 100000
set_option maxRecDepth 100000
/-
  slices.Clone at entries, topic.Twin. No condition but that the entries read and are not very many.
-/
namespace Go.Proofs.YtdfmcgekfogpbabGreatDoor
open Go.RowKit
theorem info_ent:(Tryz.prog.info? 50).map (fun i=>(i.zero,i.size,i.bytes))=some (some (.agg #[.int .i64 0,.int .i64 0,.string ByteArray.empty,.string ByteArray.empty]),4,48):=by kernel_rfl
abbrev OwnE (w:World) (base:Nat) (v:Value) (l:List Ent):Prop:=w.ownsRow base 50 4 v l.length (l.flatMap entCells)
theorem OwnE.reads {w:World} {base:Nat} {v:Value} {l:List Ent} (h:OwnE w base v l):SliceR w v 4 entCells l:=sliceR_of_owns entCells_len h
theorem flat_len (l:List Ent):(l.flatMap entCells).length=l.length * 4:=flat_length entCells_len l
theorem flat_one4 (l:List Ent):∀ v∈l.flatMap entCells,v.oneCell'=true:=by
 intro v hv
 obtain ⟨x,_,hx⟩:=List.mem_flatMap.1 hv
 simp only [entCells,List.mem_cons,List.not_mem_nil,or_false] at hx
 rcases hx with rfl|rfl|rfl|rfl <;> rfl
def CloneEnd (l:List Ent) (w:World) (e:Ending) (w':World):Prop:=∃ a cap,e=.returned (.slice a l.length cap)∧OwnE w' w.heap.size (.slice a l.length cap) l∧Below w.heap.size w w'
theorem own_shape {w:World} {base:Nat} {v:Value} {l:List Ent} (h:OwnE w base v l):∃ a cap,v=.slice a l.length cap:=by
 rcases h.2 with ⟨e,h0⟩|⟨g,cp,_,e,_⟩
 ·exact ⟨none,0,by rw [e,h0]⟩
 ·exact ⟨_,_,e⟩
theorem clone_nil (w:World):Calls Tryz.prog 98 #[.slice none 0 0] w (CloneEnd [] w):=by
 have hE:=fun w'=>Lib.run_eql_slice_nil w' 101 50 none 0 0 0 0 Tryz.underlying101
 simp only [Option.isNone_none] at hE
 go_enter Tryz.func98,Tryz.ntmps98
 go_wp2_with fail
 go_ret
 exact ⟨none,0,rfl,World.ownsRow_nil _ _ _ _,Below.refl _ _⟩
set_option maxHeartbeats 1000000 in
theorem clone_some (ad:Addr) (n cap:Nat) (l:List Ent) (w:World) (h:SliceR w (.slice (some ad) n cap) 4 entCells l) (hl:l.length * 48≤140737488355328) :
  Calls Tryz.prog 98 #[.slice (some ad) n cap] w (CloneEnd l w):=by
 obtain ⟨i0,hi,hz0,hz1,hz2⟩:=info_parts info_ent
 have H:=LH h
 have HL:=LH hl
 have HN:=LH h.ents.1.1
 have HNP:=LH h.ents.2.2
 clear h hl
 have hE:=fun w'=>Lib.run_eql_slice_nil w' 101 50 (some ad) n cap 0 0 Tryz.underlying101
 simp only [Option.isNone_some] at hE
 go_enter Tryz.func98,Tryz.ntmps98
 go_wp2_with (at_builtin;go_must (refine wpList_append_own _ rfl _ _ 101 rfl w.heap.size 50 i0 _ 4 48 Tryz.underlying101 hi hz0 hz1 hz2 rfl (by decide) _ 0 [] rfl (World.ownsRow_made w #[] 0 (Nat.le_refl _) (Nat.zero_le _) rfl) ad n cap (l.flatMap entCells) rfl (by rw [flat_len,HN.out]) ?_ (flat_one4 l) (by have:=HL.out;rw [HN.out];unfold maxLen;omega) (by have:=HL.out;rw [HN.out];omega) (by simp) ?_))
 ·intro j v hv
  have hn0:0 < n:=by
   have:=(List.getElem?_eq_some_iff.1 hv).1
   rw [flat_len,← HN.out] at this
   omega
  obtain ⟨b,off,e,_⟩:=HNP.out hn0
  cases e
  have h2:=(H.out.below entCells_len ((Below.refl _ _).alloc (Nat.le_refl _) (.cells #[] 50))).flat entCells_len (by omega) j v hv
  exact h2
 ·intro v' w' hown hgrow _
  have hb:=((Below.refl w.heap.size w).alloc (Nat.le_refl _) (.cells #[] 50)).grown hgrow (by simp) (fun j hj=>by cases hj;exact Nat.le_refl _)
  have ho:OwnE w' w.heap.size v' l:=by simpa [HN.out] using hown
  obtain ⟨a',cap',hv'⟩:=own_shape ho
  subst hv'
  have HO:=LH ho
  have HB:=LH hb
  clear hown hgrow hb ho
  go_wp2_with fail
  go_ret
  exact ⟨a',cap',rfl,HO.out,HB.out⟩
theorem clone_wide {v:Value} {l:List Ent} {w:World} (h:SliceR w v 4 entCells l) (hl:l.length * 48≤140737488355328) :
  Calls Tryz.prog 98 #[v] w (CloneEnd l w):=by
 have h':=h
 obtain ⟨a,cap,hv,hcap,_,hnone,hc⟩:=h'
 subst hv
 cases a with
 |none =>
  have h0:l.length=0:=by have:=hnone rfl;omega
  have hl0:l=[]:=List.length_eq_zero_iff.1 h0
  subst hl0
  have hc0:cap=0:=hnone rfl
  subst hc0
  exact clone_nil w
 |some ad=>exact clone_some ad _ cap l w h hl
theorem clone_any {v:Value} {l:List Ent} {w:World} (h:SliceR w v 4 entCells l) (hl:l.length≤1000000) :
  Calls Tryz.prog 98 #[v] w (CloneEnd l w):=clone_wide h (by omega)
def TwinEnd17 (t:Top) (w:World) (e:Ending) (w':World):Prop :=
 ∃ a cap,e=.returned (.agg #[.int .i64 t.base,.int .i64 t.next,.int .i64 t.mark,.slice a t.ents.length cap])∧OwnE w' w.heap.size (.slice a t.ents.length cap) t.ents∧Below w.heap.size w w'
end Go.Proofs.YtdfmcgekfogpbabGreatDoor
/-
  A slice from a place on reads as the list from there on. No program in sight.
-/
namespace Go.Proofs.YtdfmcgekfogpbabGreatDoor
open Go.RowKit
theorem sliceR_drop {w:World} {a:Option Addr} {n cap:Nat} {l:List Ent} (h:SliceR w (.slice a n cap) 4 entCells l) {k:Nat} (hk:k≤n) :
  SliceR w (.slice (if cap=k then a else a.map (·.add (k * 4))) (n - k) (cap - k)) 4 entCells (l.drop k):=by
 obtain ⟨a',cap',e,h2,h3,h4,h5⟩:=h
 cases e
 refine ⟨_,cap - k,by rw [List.length_drop],by rw [List.length_drop];omega,by omega,fun hn=>?_,fun hl=>?_⟩
 ·by_cases hc:cap=k
  ·omega
  ·rw [if_neg hc] at hn
   cases a with
   |none=>have:=h4 rfl;omega
   |some ad=>simp at hn
 ·rw [List.length_drop] at hl
  obtain ⟨b,off,ha,hd⟩:=h5 (by omega)
  subst ha
  rw [if_neg (by omega)]
  refine ⟨b,off+k * 4,by simp [Addr.add],fun i hi j hj=>?_⟩
  have:=hd (k+i) (by rw [List.length_drop] at hi;omega) j hj
  rw [List.getElem_drop]
  rw [← this]
  congr 2
  omega
end Go.Proofs.YtdfmcgekfogpbabGreatDoor
/-
  Own rows of entries over stores, and a slice of them from a place on. No condition.
-/
namespace Go.Proofs.YtdfmcgekfogpbabGreatDoor
open Go.RowKit
theorem own_set {W:World} {B b o:Nat} {v u:Value} {l:List Ent} (h:OwnE W B v l) (hb:b < B):OwnE (W.setCell ⟨b,o,none⟩ u) B v l :=
 ownsRow_setCell_other h (fun e=>by have:=(h.lt _ e).1;simp at this;omega) u
theorem own_alloc {W:World} {B:Nat} {v:Value} {l:List Ent} (h:OwnE W B v l) {o:Obj}:OwnE (W.alloc o) B v l:=h.alloc _
theorem own_drew {W:World} {B:Nat} {v:Value} {l:List Ent} (h:OwnE W B v l):OwnE W.drew B v l:=h
theorem own_base {W:World} {B B':Nat} {v:Value} {l:List Ent} (h:OwnE W B v l) (hB:B'≤B):OwnE W B' v l :=
 ⟨h.1,h.2.elim Or.inl (fun ⟨g,cp,cur,hv,hg,r⟩=>Or.inr ⟨g,cp,cur,hv,by omega,r⟩)⟩
theorem own_below {W W':World} {B:Nat} {v:Value} {l:List Ent} (h:OwnE W B v l) (hb:Below W.heap.size W W'):OwnE W' B v l :=
 ⟨h.1,h.2.elim Or.inl (fun ⟨g,cp,cur,hv,hg,hh,r⟩=>Or.inr ⟨g,cp,cur,hv,hg,(hb.block g (h.lt g (by rw [hv];rfl)).2).trans hh,r⟩)⟩
theorem slice_from {a:Option Addr} {n cap:Nat} {l:List Ent} {w:World} (h:SliceR w (.slice a n cap) 4 entCells l) (k:Nat) (hk:k≤n) :
  ∃ A',(∀ W,(Instr.slice 101 (.slice a n cap) (some (.int .i64 (k:Int))) none none).run Tryz.prog W=.ok (.slice A' (n - k) (cap - k)) W)∧SliceR w (.slice A' (n - k) (cap - k)) 4 entCells (l.drop k):=by
 refine ⟨_,fun W=>?_,sliceR_drop h hk⟩
 have k0:(0:Int)≤(k:Int):=by omega
 have k1:(k:Int)≤(n:Int):=by omega
 go_simp
end Go.Proofs.YtdfmcgekfogpbabGreatDoor
/-
  Standing facts behind one more call. No program in sight.
-/
namespace Go.Proofs.YtdfmcgekfogpbabGreatDoor
open Go.RowKit
theorem below_alloc {a w:World} (h:Below a.heap.size a w) {o:Obj}:Below a.heap.size a (w.alloc o):=h.alloc h.size o
theorem below_step {a w w':World} (h:Below a.heap.size a w) (hb:Below w.heap.size w w'):Below a.heap.size a w':=h.trans (hb.mono h.size)
theorem topR_step {w W w':World} {v:Value} {t:Top} (h:TopR w v t) (h1:Below w.heap.size w W) (hb:Below W.heap.size W w'):TopR w' v t:=h.below (below_step h1 hb)
theorem own_step {W w':World} {B:Nat} {v:Value} {l:List Ent} (h:OwnE W B v l) (hb:Below W.heap.size W w'):OwnE w' B v l:=own_below h hb
def Since (w0 w:World):Prop:=Below w0.heap.size w0 w
theorem Since.out {w0 w:World} (h:Since w0 w):Below w0.heap.size w0 w:=h
theorem wp_region_below {P:Program} {id:Nat} {Q:Exit→Act→World→Prop} {a:Act} {w:World} {l:List Oper} (hm:P.follows .mixedOrders=true) (hB:Region.lexB .any l.toArray=true)
  (h:wpQuiet P l.toArray (fun W=>Since w W) (fun a'=>∀ w',Below w.heap.size w w'→Q .normal a' w') l a):(Code.region id l.toArray true).wp P Q a w :=
 wp_region_class (fun W=>Since w W) hm hB (Below.refl _ _).drew h
theorem call_in {P:Program} {f:FuncId} {args:Array Value} {w0 w:World} {v:Value} (hq:Below w0.heap.size w0 w) (h:Calls P f args w fun e w'=>e=.returned v∧Below w.heap.size w w') :
  Calls P f args w fun e w'=>e=.returned v∧Since w0 w':=h.mono fun _ _ ⟨h1,h2⟩=>⟨h1,below_step hq h2⟩
theorem at_code {P:Program} {c:Code} {Q:Exit→Act→World→Prop} {a:Act} {w:World} (C:World→Prop) (h:C w) (k:∀ W,C W→Code.wp P c Q a W):Code.wp P c Q a w:=k w h
end Go.Proofs.YtdfmcgekfogpbabGreatDoor
/-
  topic.Twin. No condition but that the topic reads and is not very great.
-/
namespace Go.Proofs.YtdfmcgekfogpbabGreatDoor
open Go.RowKit
set_option maxHeartbeats 1000000 in
set_option maxRecDepth 100000 in
theorem topTwin_any {v:Value} {t:Top} {w:World} (h:TopR w v t) (hl:t.ents.length≤1000000):Calls Tryz.prog 92 #[v] w (TwinEnd17 t w):=by
 obtain ⟨a,cap,rfl,hs⟩:=h
 have HS:=LH hs
 have HL:=LH hl
 obtain ⟨base,hbase⟩:∃ base,base=t.base:=⟨_,rfl⟩
 obtain ⟨next,hnext⟩:∃ next,next=t.next:=⟨_,rfl⟩
 obtain ⟨mark,hmark⟩:∃ mark,mark=t.mark:=⟨_,rfl⟩
 obtain ⟨n,hn⟩:∃ n,n=t.ents.length:=⟨_,rfl⟩
 rw [← hbase,← hnext,← hmark,← hn]
 rw [← hn] at HS
 have HBS:=LH hbase
 have HNX:=LH hnext
 have HMK:=LH hmark
 have HN:=LH hn
 clear hbase hnext hmark hn hs hl
 go_enter Tryz.func92,Tryz.ntmps92
 go_wp2_with fail
 refine (clone_any (HS.out.below entCells_len (((Below.refl _ _).alloc (Nat.le_refl _) _).alloc (by simp) _)) HL.out).mono ?_
 rintro e w2 ⟨a',cap',rfl,ho,hb⟩
 rw [← HN.out] at ho
 have ek:t.ents.length=n:=HN.out.symm
 rw [ek]
 clear ek
 have HO:=LH ho
 have HB:=LH hb
 have b0:=keep hb (a:=⟨w.heap.size,0,none⟩) (v:=.int .i64 base) (by go_simp)
 have b1:=keep hb (a:=⟨w.heap.size,1,none⟩) (v:=.int .i64 next) (by go_simp)
 have b2:=keep hb (a:=⟨w.heap.size,2,none⟩) (v:=.int .i64 mark) (by go_simp)
 have b3:=keep hb (a:=⟨w.heap.size,3,none⟩) (v:=.slice a n cap) (by go_simp)
 have z3:w2.frozen? ⟨w.heap.size,3,none⟩=false:=by rw [hb.frozen (p:=⟨w.heap.size,3,none⟩) (by simp;omega)];go_simp
 have r0:=keep hb (a:=⟨w.heap.size+1,0,none⟩) (v:=.int .i64 0) (by go_simp)
 have r1:=keep hb (a:=⟨w.heap.size+1,1,none⟩) (v:=.int .i64 0) (by go_simp)
 have r2:=keep hb (a:=⟨w.heap.size+1,2,none⟩) (v:=.int .i64 0) (by go_simp)
 have r3:=keep hb (a:=⟨w.heap.size+1,3,none⟩) (v:=.slice none 0 0) (by go_simp)
 have q0:w2.frozen? ⟨w.heap.size+1,0,none⟩=false:=by rw [hb.frozen (p:=⟨w.heap.size+1,0,none⟩) (by simp)];go_simp
 have q1:w2.frozen? ⟨w.heap.size+1,1,none⟩=false:=by rw [hb.frozen (p:=⟨w.heap.size+1,1,none⟩) (by simp)];go_simp
 have q2:w2.frozen? ⟨w.heap.size+1,2,none⟩=false:=by rw [hb.frozen (p:=⟨w.heap.size+1,2,none⟩) (by simp)];go_simp
 have q3:w2.frozen? ⟨w.heap.size+1,3,none⟩=false:=by rw [hb.frozen (p:=⟨w.heap.size+1,3,none⟩) (by simp)];go_simp
 clear ho hb
 go_wp2_with fail
 refine bodyPost_ret (v:=.agg #[.int .i64 base,.int .i64 next,.int .i64 mark,.slice a' n cap']) (by simp [results,Tryz.results92,go_sem,r0,r1,r2,r3]) rfl ?_
 refine ⟨a',cap',by rw [HBS.out,HNX.out,HMK.out,HN.out],?_,?_⟩
 ·have h0:=HO.out
  rw [HN.out] at h0 ⊢
  have hlt:∀ k,(Value.slice a' t.ents.length cap').ownBlock=some k→w.heap.size+2≤k:=fun k hk=>by
   have:=(h0.lt k hk).1
   simp at this
   omega
  have h1:OwnE w2 w.heap.size (.slice a' t.ents.length cap') t.ents:=⟨h0.1,h0.2.elim Or.inl (fun ⟨g,cp,cur,hv,hg,r⟩=>Or.inr ⟨g,cp,cur,hv,by simp at hg;omega,r⟩)⟩
  have s1:∀ (W:World) (b o:Nat) (u:Value),b < w.heap.size+2→OwnE W w.heap.size (.slice a' t.ents.length cap') t.ents→OwnE (W.setCell ⟨b,o,none⟩ u) w.heap.size (.slice a' t.ents.length cap') t.ents:=fun W b o u hb h =>
   ownsRow_setCell_other h (fun e=>by have:=hlt _ e;simp at this;omega) u
  exact s1 _ _ _ _ (by omega) (s1 _ _ _ _ (by omega) (s1 _ _ _ _ (by omega) (s1 _ _ _ _ (by omega) (s1 _ _ _ _ (by omega) h1))))
 ·have h0:Below w.heap.size w w2:=(((Below.refl _ _).alloc (Nat.le_refl _) _).alloc (by simp) _).trans (HB.out.mono (by simp;omega))
  exact ((((h0.setCell (p:=⟨w.heap.size,3,none⟩) (Nat.le_refl _) _).setCell (p:=⟨w.heap.size+1,0,none⟩) (Nat.le_succ _) _).setCell (p:=⟨w.heap.size+1,1,none⟩) (Nat.le_succ _) _).setCell (p:=⟨w.heap.size+1,2,none⟩) (Nat.le_succ _) _).setCell (p:=⟨w.heap.size+1,3,none⟩) (Nat.le_succ _) _
end Go.Proofs.YtdfmcgekfogpbabGreatDoor
/-
  append onto an own row, whether or not anything is appended. No program in sight.
-/
namespace Go.Proofs.YtdfmcgekfogpbabGreatDoor
open Go.RowKit
theorem wpList_append_own_any {P:Program} (w:World) {ops:Array Oper} {rest:List Oper} {o:Oper} {a:Act} {Q:Exit→Act→World→Prop} (hgd:o.guard=none) (s x:Operand) (t:TypeId)
  (ho:o.op=.call { callee:=.builtin .append,args:=#[s,x],argTypes:=#[t,t] })
  (base:Nat) (e:TypeId) (i:TypeInfo) (z:Value) (size bytes:Nat) (ht:P.underlying t=some (.slice e)) (hi:P.info? e=some i) (hz:i.zero=some z)
  (hsize:i.size=size) (hby:i.bytes=bytes) (hzs:z.cells.size=size) (hsz:0 < size)
  (v:Value) (n:Nat) (xs:List Value) (hs:a.eval s=v) (hown:w.ownsRow base e size v n xs)
  (ao:Option Addr) (m c:Nat) (news:List Value) (hx:a.eval x=.slice ao m c) (hl:news.length=m * size) (hnone:ao=none→m=0∧c=0)
  (hnews:∀ ad,ao=some ad→∀ j u,news[j]?=some u→w.cell? (ad.add j)=some u) (h1:∀ u∈news,u.oneCell'=true)
  (h63:n+m≤maxLen) (hbytes:(n+m) * bytes≤140737488355328) (hbase:base≤w.heap.size)
  (h:∀ v' w',w'.ownsRow base e size v' (n+m) (xs++news)→w.grownBy w' v.ownBlock→wpList P ops Q rest (a.put o.dst v') w'):wpList P ops Q (o :: rest) a w:=by
 cases ao with
 |some ad=>exact wpList_append_own w hgd s x t ho base e i z size bytes ht hi hz hsize hby hzs hsz v n xs hs hown ad m c news hx hl (hnews ad rfl) h1 h63 hbytes hbase fun v' w' h2 h3 _=>h v' w' h2 h3
 |none =>
  obtain ⟨rfl,rfl⟩:=hnone rfl
  have hn:news=[]:=List.eq_nil_of_length_eq_zero (by simpa using hl)
  subst hn
  exact wpList_append_own_none hgd s x t ho base e i size ht hi v n xs hs hown hx (h v w (by simpa using hown) (World.grownBy.refl _ _))
end Go.Proofs.YtdfmcgekfogpbabGreatDoor
/-
  '==' and '!=' of two entries. No condition.
-/
namespace Go.Proofs.YtdfmcgekfogpbabGreatDoor
open Go.RowKit
def eqEnt (x y:Ent):Bool:=x.off == y.off && (x.id == y.id && (x.key.toList == y.key.toList && x.body.toList == y.body.toList))
theorem ent_fields:Tryz.prog.underlying 50=some (.struct (Tryz.prog.fieldsOf 50)):=by kernel_rfl
theorem ent_held:Tryz.prog.stoodInHeld 50=false:=by kernel_rfl
theorem ent_guard:Tryz.prog.eqGuardType Tryz.prog.depth 50=false:=by kernel_rfl
theorem ent_equal (x y:Ent) (w:World):(Op.equalIn 10000 50 (.agg #[.int .i64 x.off,.int .i64 x.id,.string x.key,.string x.body]) (.agg #[.int .i64 y.off,.int .i64 y.id,.string y.key,.string y.body])).run Tryz.prog w=.ok (eqEnt x y) w:=by
 have u3:=Tryz.underlying3
 have a3:=Tryz.isAgg3
 have z3:=Tryz.sizeOf3
 have u9:=Tryz.underlying9
 have a9:=Tryz.isAgg9
 have z9:=Tryz.sizeOf9
 rw [show (10000:Nat)=9999+1 from rfl,run_equalIn_agg w 9999 _ _ _ ent_fields ent_held]
 simp only [Program.fieldsOf,Tryz.underlying50]
 go_simp
 by_cases h1:x.off=y.off <;> by_cases h2:x.id=y.id <;> by_cases h3:x.key.toList=y.key.toList <;> by_cases h4:x.body.toList=y.body.toList <;> simp [h1,h2,h3,h4,eqEnt]
theorem ent_eql (x y:Ent) (w:World):(binOp .eql 50 (.agg #[.int .i64 x.off,.int .i64 x.id,.string x.key,.string x.body]) (.agg #[.int .i64 y.off,.int .i64 y.id,.string y.key,.string y.body])).run Tryz.prog w=.ok (.bool (eqEnt x y)) w:=by
 rw [run_eql_struct,ent_equal];rfl
theorem ent_neq (x y:Ent) (w:World):(binOp .neq 50 (.agg #[.int .i64 x.off,.int .i64 x.id,.string x.key,.string x.body]) (.agg #[.int .i64 y.off,.int .i64 y.id,.string y.key,.string y.body])).run Tryz.prog w=.ok (.bool (!eqEnt x y)) w:=by
 rw [run_neq_struct,ent_equal];rfl
theorem ent_eqGuard (op:BinOp) (a b:Operand) (x y:Ent) (w:World):(eqGuard op 50 a b (.agg #[.int .i64 x.off,.int .i64 x.id,.string x.key,.string x.body]) (.agg #[.int .i64 y.off,.int .i64 y.id,.string y.key,.string y.body])).run Tryz.prog w=.ok () w :=
 run_eqGuard_agg w op _ a b _ _ ent_guard
def badI (n:Int):Bool:=decide (n < 0) || decide (1073741824 < n)
theorem bad_any (n:Int) (w:World):Calls Tryz.prog 114 #[.int .i64 n] w fun e w'=>e=.returned (.bool (badI n))∧w=w':=by
 by_cases h1:n < 0
 ·rw [show badI n=true from by simp [badI,h1]]
  go_enter Tryz.func114,Tryz.ntmps114
  go_wp2
  go_ret
  exact ⟨rfl,rfl⟩
 ·by_cases h2:1073741824 < n
  ·rw [show badI n=true from by simp [badI,h2]]
   go_enter Tryz.func114,Tryz.ntmps114
   go_wp2
   go_ret
   exact ⟨rfl,rfl⟩
  ·rw [show badI n=false from by simp [badI];omega]
   have h3:decide (1073741824 < n)=false:=by simpa using h2
   go_enter Tryz.func114,Tryz.ntmps114
   go_wp2
   go_ret
   exact ⟨rfl,rfl⟩
theorem idxInt_none (a:Option Addr) (cap:Nat) (f:Value) (w:World):Calls Tryz.prog 149 #[.slice a 0 cap,f] w fun e w'=>e=.returned (.int .i64 (-1))∧Below w.heap.size w w':=by
 go_enter Tryz.func149,Tryz.ntmps149
 go_wp2_with fail
 refine wp_loop_rounds 1 ?_
 rw [rounds_succ]
 go_wp2
 go_ret
 exact ⟨rfl,Below.refl _ _⟩
def SomeIdx (l:List Int) (w:World) (e:Ending) (w':World):Prop:=(∃ i:Int,e=.returned (.int .i64 i)∧(if l.any badI then 0≤i else i=-1))∧Below w.heap.size w w'
theorem idxInt_some (b off n cap:Nat) (l:List Int) (w:World) (hn:n=l.length) (hl:0 < n) (hcap:n≤cap) (hm:cap≤9223372036854775807) (hc:∀ i,i < n→w.cell? ⟨b,off+i,none⟩=some (.int .i64 (l.getD i 0))) :
  Calls Tryz.prog 149 #[.slice (some ⟨b,off,none⟩) n cap,.func (.func 114) #[] #[]] w (SomeIdx l w):=by
 have HC:=LH hc
 have HN:=LH hn
 clear hn hc
 have hl':(0:Int) < (n:Int):=by omega
 go_enter Tryz.func149,Tryz.ntmps149
 go_wp2_with fail
 go_loopw [5,8] (fun _ i wr=>∃ k:Nat,k≤n∧i=.int .i64 (k:Int)∧Hid (∀ j,j < k→badI (l.getD j 0)=false)∧Below w.heap.size w wr) (fun _ i _=>n - (intOf i).toNat)
 case atStart=>exact ⟨0,Nat.zero_le _,rfl,(fun j hj=>absurd hj (Nat.not_lt_zero _)),Below.refl _ _⟩
 case round =>
  obtain ⟨k,hk,rfl,hno,hb⟩:=hrel
  by_cases hlt:k < n
  ·have hk0:(0:Int)≤(k:Int):=by omega
   have hk1:(k:Int) < (n:Int):=by omega
   have c0:=keep hb (HC.out k hlt)
   obtain ⟨x,hx⟩:∃ x,x=l.getD k 0:=⟨_,rfl⟩
   rw [← hx] at c0
   have HX:=LH hx
   clear hx
   obtain ⟨c,hc⟩:∃ c,c=badI x:=⟨_,rfl⟩
   have L:∀ w,Calls Tryz.prog 114 #[.int .i64 x] w fun e w'=>e=.returned (.bool c)∧w=w':=fun w=>by rw [hc];exact bad_any x w
   have HL:=LH L
   have HLC:=LH hc
   clear L hc
   cases c
   all_goals
    go_wp2_with fail
    refine (HL.out _).mono ?_
    rintro e w1 ⟨rfl,rfl⟩
    go_wp2_with fail
   ·go_roundw
    case rel =>
     refine ⟨k+1,by omega,by go_num,fun j hj=>?_,hb⟩
     by_cases hjk:j < k
     ·exact hno.out j hjk
     ·obtain rfl:j=k:=by omega
      rw [← HX.out,← HLC.out]
    case measure=>simp [intOf];omega
   ·go_ret
    refine ⟨⟨k,rfl,?_⟩,hb⟩
    have:l.any badI=true:=by
     rw [List.any_eq_true]
     have h1:=HN.out
     refine ⟨x,?_,HLC.out.symm⟩
     rw [HX.out]
     simp [List.getD,show k < l.length by omega]
    rw [if_pos this]
    omega
  ·obtain rfl:k=n:=by omega
   have hlt':¬ (k:Int) < (k:Int):=by omega
   go_wp2_with fail
   go_ret
   refine ⟨⟨-1,rfl,?_⟩,hb⟩
   have:l.any badI=false:=by
    rw [List.any_eq_false]
    intro y hy
    obtain ⟨j,hj,rfl⟩:=List.getElem_of_mem hy
    have h1:=HN.out
    have h2:=hno.out j (by omega)
    simpa [List.getD,hj] using h2
   rw [this]
   rfl
theorem contInt_any {v:Value} {l:List Int} {w:World} (h:SliceR w v 1 intCell l) :
  Calls Tryz.prog 117 #[v,.func (.func 114) #[] #[]] w fun e w'=>e=.returned (.bool (l.any badI))∧Below w.heap.size w w':=by
 obtain ⟨a,cap,rfl,hcap,hm,_,hc⟩:=h.one (c:=fun n=>.int .i64 n) 0
 have K:Calls Tryz.prog 149 #[.slice a l.length cap,.func (.func 114) #[] #[]] w (SomeIdx l w):=by
  by_cases hl:l.length=0
  ·have:l=[]:=List.length_eq_zero_iff.1 hl
   subst this
   exact (idxInt_none a cap _ w).mono fun e w' ⟨h1,h2⟩=>⟨⟨-1,h1,by simp⟩,h2⟩
  ·obtain ⟨b,off,rfl,hd⟩:=hc (by omega)
   unfold maxLen at hm
   exact idxInt_some b off _ cap l w rfl (by omega) hcap hm hd
 have HK:=LH K
 clear K hc
 obtain ⟨c,hc⟩:∃ c,c=l.any badI:=⟨_,rfl⟩
 rw [← hc]
 have HCC:=LH hc
 clear hc
 go_enter Tryz.func117,Tryz.ntmps117
 go_wp2_with fail
 refine HK.out.mono ?_
 rintro e w1 ⟨⟨i,rfl,hi⟩,hb⟩
 rw [← HCC.out] at hi
 cases c
 ·simp only [Bool.false_eq_true,if_false] at hi
  subst hi
  go_wp2_with fail
  go_ret
  exact ⟨rfl,hb⟩
 ·rw [if_pos rfl] at hi
  go_wp2_with fail
  go_ret
  exact ⟨rfl,hb⟩
def rowBad (l:List Int):Bool:=decide (l.length≠8) || l.any badI
theorem rowBad_any {v:Value} {l:List Int} {w:World} {pb:Nat} (h:SliceR w v 1 intCell l) (hp:w.cell? ⟨pb,0,none⟩=some (.func (.func 114) #[] #[])) :
  Calls Tryz.prog 116 #[v,.pointer (some ⟨pb,0,none⟩)] w fun e w'=>e=.returned (.bool (rowBad l))∧Below w.heap.size w w':=by
 have K:=LH (contInt_any h)
 obtain ⟨a,cap,rfl,_⟩:=h
 by_cases h8:l.length=8
 ·have e8:rowBad l=l.any badI:=by simp [rowBad,h8]
  rw [e8]
  obtain ⟨c,hc⟩:∃ c,c=l.any badI:=⟨_,rfl⟩
  rw [← hc] at K ⊢
  clear hc
  have hd:((l.length:Int) != 8)=false:=by simp;omega
  clear e8 h8
  cases c
  all_goals
   go_enter Tryz.func116,Tryz.ntmps116
   go_wp2_with fail
   refine K.out.mono ?_
   rintro e w1 ⟨rfl,hb⟩
   go_wp2_with fail
   go_ret
   exact ⟨rfl,hb⟩
 ·have e8:rowBad l=true:=by simp [rowBad,h8]
  rw [e8]
  have hd:((l.length:Int) != 8)=true:=by simp;omega
  clear e8 h8 K
  go_enter Tryz.func116,Tryz.ntmps116
  go_wp2_with fail
  go_ret
  exact ⟨rfl,Below.refl _ _⟩
theorem idxRow_none (a:Option Addr) (cap:Nat) (f:Value) (w:World):Calls Tryz.prog 148 #[.slice a 0 cap,f] w fun e w'=>e=.returned (.int .i64 (-1))∧Below w.heap.size w w':=by
 go_enter Tryz.func148,Tryz.ntmps148
 go_wp2_with fail
 refine wp_loop_rounds 1 ?_
 rw [rounds_succ]
 go_wp2
 go_ret
 exact ⟨rfl,Below.refl _ _⟩
def SomeRow (m:List (List Int)) (w:World) (e:Ending) (w':World):Prop:=(∃ i:Int,e=.returned (.int .i64 i)∧(if m.any rowBad then 0≤i else i=-1))∧Below w.heap.size w w'
theorem idxRow_some (b off n cap pb:Nat) (us:List Value) (m:List (List Int)) (w:World) (hn:n=m.length) (hl:0 < n) (hcap:n≤cap) (hm:cap≤9223372036854775807)
  (hc:∀ i,i < n→w.cell? ⟨b,off+i,none⟩=some (us.getD i .nilIface)) (hr:∀ i,i < n→SliceR w (us.getD i .nilIface) 1 intCell (m.getD i []))
  (hp:w.cell? ⟨pb,0,none⟩=some (.func (.func 114) #[] #[])) :
  Calls Tryz.prog 148 #[.slice (some ⟨b,off,none⟩) n cap,.func (.func 116) #[] #[.pointer (some ⟨pb,0,none⟩)]] w (SomeRow m w):=by
 have HC:=LH hc
 have HR:=LH hr
 have HN:=LH hn
 have HP:=LH hp
 clear hn hc hr hp
 have hl':(0:Int) < (n:Int):=by omega
 go_enter Tryz.func148,Tryz.ntmps148
 go_wp2_with fail
 go_loopw [5,8] (fun _ i wr=>∃ k:Nat,k≤n∧i=.int .i64 (k:Int)∧Hid (∀ j,j < k→rowBad (m.getD j [])=false)∧Below w.heap.size w wr) (fun _ i _=>n - (intOf i).toNat)
 case atStart=>exact ⟨0,Nat.zero_le _,rfl,(fun j hj=>absurd hj (Nat.not_lt_zero _)),Below.refl _ _⟩
 case round =>
  obtain ⟨k,hk,rfl,hno,hb⟩:=hrel
  by_cases hlt:k < n
  ·have hk0:(0:Int)≤(k:Int):=by omega
   have hk1:(k:Int) < (n:Int):=by omega
   have c0:=keep hb (HC.out k hlt)
   have r0:=(HR.out k hlt).below (fun _=>rfl) hb
   have p0:=keep hb HP.out
   obtain ⟨u,hu⟩:∃ u,u=us.getD k .nilIface:=⟨_,rfl⟩
   rw [← hu] at c0 r0
   clear hu
   obtain ⟨x,hx⟩:∃ x,x=m.getD k []:=⟨_,rfl⟩
   rw [← hx] at r0
   have HX:=LH hx
   clear hx
   obtain ⟨c,hc⟩:∃ c,c=rowBad x:=⟨_,rfl⟩
   have L:=rowBad_any r0 p0
   rw [← hc] at L
   obtain ⟨ua,ucap,hua,_⟩:=r0
   subst hua
   have HL:=LH L
   have HLC:=LH hc
   clear L hc p0
   cases c
   all_goals
    go_wp2_with fail
    refine HL.out.mono ?_
    rintro e w1 ⟨rfl,hb1⟩
    have hb2:=hb.trans (hb1.mono hb.size)
    clear hb hb1 c0
    go_wp2_with fail
   ·go_roundw
    case rel =>
     refine ⟨k+1,by omega,by go_num,fun j hj=>?_,hb2⟩
     by_cases hjk:j < k
     ·exact hno.out j hjk
     ·obtain rfl:j=k:=by omega
      rw [← HX.out,← HLC.out]
    case measure=>simp [intOf];omega
   ·go_ret
    refine ⟨⟨k,rfl,?_⟩,hb2⟩
    have:m.any rowBad=true:=by
     rw [List.any_eq_true]
     have h1:=HN.out
     refine ⟨x,?_,HLC.out.symm⟩
     rw [HX.out]
     simp [List.getD,show k < m.length by omega]
    rw [if_pos this]
    omega
  ·obtain rfl:k=n:=by omega
   have hlt':¬ (k:Int) < (k:Int):=by omega
   go_wp2_with fail
   go_ret
   refine ⟨⟨-1,rfl,?_⟩,hb⟩
   have:m.any rowBad=false:=by
    rw [List.any_eq_false]
    intro y hy
    obtain ⟨j,hj,rfl⟩:=List.getElem_of_mem hy
    have h1:=HN.out
    have h2:=hno.out j (by omega)
    simpa [List.getD,hj] using h2
   rw [this]
   rfl
theorem contRow_any {v:Value} {m:List (List Int)} {w:World} {pb:Nat} (h:RowsR w v m) (hp:w.cell? ⟨pb,0,none⟩=some (.func (.func 114) #[] #[])) :
  Calls Tryz.prog 115 #[v,.func (.func 116) #[] #[.pointer (some ⟨pb,0,none⟩)]] w fun e w'=>e=.returned (.bool (m.any rowBad))∧Below w.heap.size w w':=by
 obtain ⟨us,h1,h2,h3⟩:=h
 obtain ⟨a,cap,rfl,hcap,hm,_,hc⟩:=h1.one (c:=fun u=>u) .nilIface
 have K:Calls Tryz.prog 148 #[.slice a us.length cap,.func (.func 116) #[] #[.pointer (some ⟨pb,0,none⟩)]] w (SomeRow m w):=by
  by_cases hl:us.length=0
  ·have:m=[]:=List.length_eq_zero_iff.1 (by omega)
   subst this
   rw [hl]
   exact (idxRow_none a cap _ w).mono fun e w' ⟨h1,h2⟩=>⟨⟨-1,h1,by simp⟩,h2⟩
  ·obtain ⟨b,off,rfl,hd⟩:=hc (by omega)
   unfold maxLen at hm
   exact idxRow_some b off _ cap pb us m w h2 (by omega) hcap hm hd (fun i hi=>h3 i (by omega)) hp
 have HK:=LH K
 clear K hc h3 hp h2
 obtain ⟨c,hc⟩:∃ c,c=m.any rowBad:=⟨_,rfl⟩
 rw [← hc]
 have HCC:=LH hc
 clear hc
 go_enter Tryz.func115,Tryz.ntmps115
 go_wp2_with fail
 refine HK.out.mono ?_
 rintro e w1 ⟨⟨i,rfl,hi⟩,hb⟩
 rw [← HCC.out] at hi
 cases c
 ·simp only [Bool.false_eq_true,if_false] at hi
  subst hi
  go_wp2_with fail
  go_ret
  exact ⟨rfl,hb⟩
 ·rw [if_pos rfl] at hi
  go_wp2_with fail
  go_ret
  exact ⟨rfl,hb⟩
def okC (m:List (List Int)):Bool:=decide (m.length=4) && !m.any rowBad
theorem comCheck_any {v:Value} {m:List (List Int)} {w:World} (h:RowsR w v m) :
  Calls Tryz.prog 69 #[v] w fun e w'=>e=.returned (.int .i64 (if okC m then 0 else 8))∧Below w.heap.size w w':=by
 have h0:=LH h
 obtain ⟨us,h1,h2,h3⟩:=h
 obtain ⟨a,cap,rfl,hcap,hm,_,hc⟩:=h1.one (c:=fun u=>u) .nilIface
 clear hc h3 h1
 obtain ⟨n,hn⟩:∃ n,n=us.length:=⟨_,rfl⟩
 rw [← hn] at h0 hcap ⊢
 rw [← hn] at h2
 by_cases h4:n=4
 ·have e4:okC m=!m.any rowBad:=by simp [okC,← h2,h4]
  rw [e4]
  obtain ⟨c,hc⟩:∃ c,c=m.any rowBad:=⟨_,rfl⟩
  rw [← hc]
  have HLC:=LH hc
  clear hc e4 h2 hn
  have hd:((n:Int) != 4)=false:=by simp;omega
  clear h4
  go_enter Tryz.func69,Tryz.ntmps69
  go_wp2_with fail
  refine (contRow_any (h0.out.below ?_) ?_).mono ?_
  ·exact ((Below.refl _ _).alloc (Nat.le_refl _) _)
  ·go_simp
  rintro e w1 ⟨rfl,hb⟩
  rw [← HLC.out]
  have hb':Below w.heap.size w w1:=((Below.refl _ _).alloc (Nat.le_refl _) _).trans (hb.mono (by simp))
  clear hb
  cases c
  all_goals
   go_wp2_with fail
   go_ret
   exact ⟨rfl,hb'⟩
 ·have e4:okC m=false:=by simp [okC,← h2,h4]
  rw [e4]
  have hd:((n:Int) != 4)=true:=by simp;omega
  clear h4 e4 h0 hn h2
  go_enter Tryz.func69,Tryz.ntmps69
  go_wp2_with fail
  go_ret
  exact ⟨rfl,by repeat (first|exact Below.refl _ _|(refine Below.setCell ?_ (by simp) _)|(refine Below.alloc ?_ (by simp) _))⟩
theorem trim1 (x:Ent) (tb:Nat) (b:Int) (w:World) (hc:w.cell? ⟨tb,0,none⟩=some (.int .i64 b)) :
  Calls Tryz.prog 153 #[.agg #[.int .i64 x.off,.int .i64 x.id,.string x.key,.string x.body],.pointer (some ⟨tb,0,none⟩)] w fun e w'=>e=.returned (.bool (decide (b≤x.off)))∧Below w.heap.size w w':=by
 have hlt:=World.block_lt_of_cell? w _ hc
 have hlt':tb < w.heap.size:=hlt
 go_enter Tryz.func153,Tryz.ntmps153
 go_wp2_with fail
 go_ret
 exact ⟨rfl,(Below.refl _ _).alloc (Nat.le_refl _) _⟩
def FirstAt (l:List Ent) (b i:Int):Prop :=
 (i=-1∧∀ j,j < l.length→(l.getD j default).off < b)∨∃ k:Nat,k < l.length∧i=(k:Int)∧(∀ j,j < k→(l.getD j default).off < b)∧b≤(l.getD k default).off
def IdxEnd (l:List Ent) (b:Int) (w:World) (e:Ending) (w':World):Prop:=(∃ i:Int,e=.returned (.int .i64 i)∧FirstAt l b i)∧Below w.heap.size w w'
set_option maxHeartbeats 1000000 in
theorem idx18_any {v:Value} {l:List Ent} {w:World} (h:SliceR w v 4 entCells l) (tb:Nat) (b:Int) (hc:w.cell? ⟨tb,0,none⟩=some (.int .i64 b)) :
  Calls Tryz.prog 112 #[v,.func (.func 153) #[] #[.pointer (some ⟨tb,0,none⟩)]] w (IdxEnd l b w):=by
 obtain ⟨a,cap,hv,_⟩:=id h
 subst hv
 obtain ⟨⟨_,hcap⟩,⟨hmax,_⟩,hd⟩:=h.ents
 unfold maxLen at hmax
 have HT:=LH hc
 have HD:=LH hd
 obtain ⟨n,hn⟩:∃ n,n=l.length:=⟨_,rfl⟩
 rw [← hn] at HD hcap ⊢
 have HN:=LH hn
 clear hn hd h hc
 have hn':(n:Int)≤9223372036854775807:=by omega
 go_enter Tryz.func112,Tryz.ntmps112
 go_wp2_with fail
 go_loopg [5,8] n (fun g _ i wr=>∃ k:Nat,k≤n∧g=n - k∧i=.int .i64 (k:Int)∧Hid (∀ j,j < k→(l.getD j default).off < b)∧Hid (Below w.heap.size w wr))
 case atStart=>exact ⟨0,Nat.zero_le _,rfl,rfl,(fun j hj=>absurd hj (Nat.not_lt_zero _)),Below.refl _ _⟩
 case round =>
  obtain ⟨k,hk,rfl,rfl,hall,hb⟩:=hrel
  by_cases hlt:k < n
  ·have hk0:(0:Int)≤(k:Int):=by omega
   have hk1:(k:Int) < (n:Int):=by omega
   obtain ⟨bb,off,ha,h1⟩:=HD.out (by omega)
   subst ha
   have cc:=h1 k (by rw [← HN.out];exact hlt)
   clear h1
   obtain ⟨x,hx⟩:∃ x,x=l.getD k default:=⟨_,rfl⟩
   rw [← hx] at cc
   have HX:=LH hx
   have c0:=keep hb.out cc.1.1.1
   have c1:=keep hb.out cc.1.1.2
   have c2:=keep hb.out cc.1.2
   have c3:=keep hb.out cc.2
   clear hx cc
   obtain ⟨q,hq⟩:∃ q,q=decide (b≤x.off):=⟨_,rfl⟩
   have L:=trim1 x tb b wr (keep hb.out HT.out)
   rw [← hq] at L
   have HL:=LH L
   have HQ:=LH hq
   clear L hq
   cases q
   all_goals
    go_wp2_with fail
    refine HL.out.mono ?_
    rintro e w1 ⟨rfl,hb1⟩
    have HB2:=LH (hb.out.trans (hb1.mono hb.out.size))
    clear hb hb1 c0 c1 c2 c3
    go_wp2_with fail
   ·go_roundg (n - (k+1))
    case measure=>omega
    case rel =>
     refine ⟨k+1,by omega,rfl,by go_num,fun j hj=>?_,HB2⟩
     by_cases hjk:j < k
     ·exact hall.out j hjk
     ·obtain rfl:j=k:=by omega
      have:=of_decide_eq_false HQ.out.symm
      rw [HX.out] at this
      omega
   ·go_ret
    refine ⟨⟨k,rfl,Or.inr ⟨k,by rw [← HN.out];exact hlt,rfl,hall.out,?_⟩⟩,HB2.out⟩
    have:=of_decide_eq_true HQ.out.symm
    rw [HX.out] at this
    exact this
  ·obtain rfl:k=n:=by omega
   have hlt':¬ (k:Int) < (k:Int):=by omega
   go_wp2_with fail
   go_ret
   exact ⟨⟨-1,rfl,Or.inl ⟨rfl,by rw [← HN.out];exact hall.out⟩⟩,hb.out⟩
def fromE (b:Int) (l:List Ent):List Ent:=l.filter fun x=>decide (b≤x.off)
theorem fromE_len (b:Int) (l:List Ent):(fromE b l).length≤l.length:=List.length_filter_le _ _
theorem take_succ_ent {l:List Ent} {k:Nat} (h:k < l.length):l.take (k+1)=l.take k++[l.getD k default]:=by
 rw [List.take_succ_eq_append_getElem h]
 simp [List.getD,h]
abbrev OwnC (w:World) (base:Nat) (v:Value) (m:List (List Int)):Prop:=OwnRows 34 3 w base v m
theorem info_intC:(Tryz.prog.info? 3).map (fun i=>(i.zero,i.size,i.bytes))=some (some (.int .i64 0),1,8):=by kernel_rfl
theorem info_row:(Tryz.prog.info? 34).map (fun i=>(i.zero,i.size,i.bytes))=some (some (.slice none 0 0),1,24):=by kernel_rfl
theorem size_int:(Tryz.prog.info? 3).map (·.size)=some 1:=by kernel_rfl
def few (m:List (List Int)):Prop:=m.length≤1000∧∀ r∈m,r.length≤1000
theorem rowVals_one (r:List Int):∀ v∈rowVals r,v.oneCell'=true:=by
 intro v hv
 simp only [rowVals,List.mem_map] at hv
 obtain ⟨y,_,rfl⟩:=hv
 rfl
def TwinEnd (m:List (List Int)) (w:World) (e:Ending) (w':World):Prop:=∃ v',e=.returned v'∧OwnC w' w.heap.size v' m∧Below w.heap.size w w'
set_option maxHeartbeats 4000000 in
theorem twin_some (b off n cap:Nat) (us:List Value) (m:List (List Int)) (w:World) (hn:n=m.length) (hcap:n≤cap) (hm:n≤1000) (hfew:∀ r∈m,r.length≤1000)
  (hc:∀ i,i < n→w.cell? ⟨b,off+i,none⟩=some (us.getD i .nilIface)) (hr:∀ i,i < n→SliceR w (us.getD i .nilIface) 1 intCell (m.getD i [])) :
  Calls Tryz.prog 91 #[.slice (some ⟨b,off,none⟩) n cap] w (TwinEnd m w):=by
 obtain ⟨i0,hi,hz0,hz1,hz2⟩:=info_parts info_row
 obtain ⟨i1,gi,gz0,gz1,gz2⟩:=info_parts info_intC
 have HC:=LH hc
 have HR:=LH hr
 have HN:=LH hn
 have HF:=LH hfew
 have n0:(n:Int)≤1000:=by omega
 obtain ⟨B,hB⟩:∃ B,B=w.heap.size:=⟨_,rfl⟩
 have HB:=LH hB
 clear hn hc hr hfew hB
 go_enter Tryz.func91,Tryz.ntmps91
 go_wp2_with fail
 go_loopw [3,9] (fun o i wr=>∃ k:Nat,k≤n∧i=.int .i64 (k:Int)∧Hid (OwnC wr B o (m.take k))∧Hid (Below B w wr)) (fun _ i _=>n - (intOf i).toNat)
 case atStart=>exact ⟨0,Nat.zero_le _,rfl,OwnRows.nil _ _ _ _,Below.refl _ _⟩
 case round =>
  obtain ⟨k,hk,rfl,hown,hb⟩:=hrel
  by_cases hlt:k < n
  ·have hk0:(0:Int)≤(k:Int):=by omega
   have hk1:(k:Int) < (n:Int):=by omega
   have hbw:Below w.heap.size w wr:=by rw [← HB.out];exact hb.out
   have hBr:B≤wr.heap.size:=by rw [HB.out];exact hbw.size
   have c0:=keep hbw (HC.out k hlt)
   have r0:=(HR.out k hlt).below (fun _=>rfl) hbw
   obtain ⟨u,hu⟩:∃ u,u=us.getD k .nilIface:=⟨_,rfl⟩
   rw [← hu] at c0 r0
   clear hu
   obtain ⟨r,hr⟩:∃ r,r=m.getD k []:=⟨_,rfl⟩
   rw [← hr] at r0
   have hrl:r.length≤1000:=by
    have h1:=HN.out
    have:m.getD k []∈m:=by
     have e:m.getD k []=m[k]'(by omega):=by simp [List.getD,show k < m.length by omega]
     rw [e];exact List.getElem_mem _
    rw [hr]
    exact HF.out _ this
   have HRR:=LH hr
   clear hr
   have r1:=r0
   obtain ⟨ua,ucap,hua,huc,_,hun,hud⟩:=r1
   subst hua
   have R0:=LH r0
   obtain ⟨us',h1,h2,h3,h4⟩:=hown.out
   have HO4:=LH h4
   have HO1:=LH h1
   have HO2:=LH h2
   have HO3:=LH h3
   have HUD:=LH hud
   have hul:us'.length≤1000:=by
    rw [h2,List.length_take]
    have:=HN.out
    omega
   clear r0 hun hud hown h1 h2 h3 h4 hbw
   go_wp2_with (at_make;go_must (refine wpList_make_full _ rfl _ _ 34 rfl B 3 i1 (.int .i64 0) 1 Tryz.underlying34 gi gz0 gz1 .i64 .i64 _ _ r.length rfl rfl rfl rfl (by rw [gz2];omega) (by unfold maxLen;omega) hBr ?_))
   intro w1 hx hg1
   obtain ⟨cur,hcur,hcl⟩:∃ cur:List Value,w1.heap[wr.heap.size]?=some (.cells cur.toArray 3 (0,0))∧cur.length=r.length:=by
    rcases hx.2 with ⟨h0,_⟩|⟨g,cp,cr,e1,_,e2,_,_,e5,_⟩
    ·cases h0
    ·cases e1
     exact ⟨cr.toList,by simpa using e2,by simpa using e5⟩
   have HCU:=LH hcur
   have HFIT:=LH (show 0+(rowVals r).length≤cur.length by simp [rowVals,hcl])
   have HNN:=LH (show (rowVals r).length=Nat.min r.length r.length by simp [rowVals])
   clear hx hcur
   have hps:0 < (rowVals r).length→(some ⟨wr.heap.size,0,none⟩:Option Addr)=some ⟨wr.heap.size,0,none⟩∧∃ ad,ua=some ad∧∀ j v,(rowVals r)[j]?=some v→w1.cell? (ad.add j)=some v:=by
    intro hpos
    refine ⟨rfl,?_⟩
    have hpos':0 < r.length:=by simpa [rowVals] using hpos
    obtain ⟨ub,uoff,e1,_⟩:=HUD.out hpos'
    subst e1
    refine ⟨_,rfl,fun j v hv=>?_⟩
    exact (R0.out.below (fun _=>rfl) (belowGrown hg1)).flat (fun _=>rfl) (by omega) j v (by rw [← rowVals_flat];exact hv)
   have HPS:=LH hps
   clear hps
   go_wp2_with (with_reducible refine wpList_copy_splice (o:=⟨some 18,_,_,_,_,_⟩) rfl _ _ 34 34 rfl 3 Tryz.underlying34 size_int (some ⟨wr.heap.size,0,none⟩) ua r.length r.length r.length ucap rfl rfl wr.heap.size 0 cur 3 HCU.out (rowVals r) HNN.out HPS.out HFIT.out (rowVals_one r) wr.heap.size w1 (Below.refl _ _) (Nat.le_refl _) ?_)
   intro w2 hw2 hb2
   have hbr:Below wr.heap.size wr w2:=(belowGrown hg1).trans hb2
   have hx2:w2.ownsRow B 3 1 (.slice (some ⟨wr.heap.size,0,none⟩) r.length r.length) r.length (rowVals r):=by
    have h5:=hw2.out
    rw [splice_all cur (rowVals r) (by simp [rowVals,hcl])] at h5
    refine ⟨by simp [rowVals],Or.inr ⟨_,r.length,_,rfl,hBr,h5,Nat.le_refl _,by unfold maxLen;omega,by simp [rowVals],List.take_of_length_le (by simp [rowVals])⟩⟩
   have hO1:=ownsRow_keep HO1.out hbr
   have hO3:∀ i,i < (m.take k).length→w2.ownsRow B 3 1 (us'.getD i .nilIface) ((m.take k).getD i []).length (rowVals ((m.take k).getD i [])):=fun i hi=>ownsRow_keep (HO3.out i hi) hbr
   have HX2:=LH hx2
   have HQ1:=LH hO1
   have HQ3:=LH hO3
   have HBR:=LH hbr
   clear hx2 hO1 hO3 hbr hw2 hb2 hg1 c0
   go_wp2_with (at_builtin;go_must (refine wpList_append_own _ rfl _ _ 31 rfl B 34 i0 (.slice none 0 0) 1 24 Tryz.underlying31 hi hz0 hz1 hz2 rfl (by decide) _ us'.length us' rfl (HQ1.out.alloc _) ⟨w2.heap.size,0,none⟩ 1 1 [.slice (some ⟨wr.heap.size,0,none⟩) r.length r.length] rfl rfl ?_ (by intro v hv;simp at hv;subst hv;rfl) (by unfold maxLen;omega) (by omega) (by have:=HBR.out.size;simp;omega) ?_))
   ·intro j v hv
    match j,hv with
    |0,hv=>simp at hv;subst hv;simp [Addr.add]
   ·intro v' w3 hown3 hgrow3 _
    have R:=OwnRows.snoc (te:=34) (ti:=3) (by decide) (HQ1.out.alloc (.cells #[.slice (some ⟨wr.heap.size,0,none⟩) r.length r.length] 34)) HO2.out (fun i hi=>(HQ3.out i hi).alloc _) HO4.out (HX2.out.alloc _) (fun i hi j hj=>by have:=((HO3.out i hi).lt j hj).2;simp only [Value.ownBlock,ne_eq,Option.some.injEq];omega) hown3 hgrow3
    have hb3:Below B w w3:=by
     refine Below.grown (hb.out.trans ((HBR.out.mono hBr).trans ((Below.refl _ _).alloc (by have:=HBR.out.size;omega) _))) hgrow3 (by have:=HBR.out.size;simp;omega) (fun j hj=>?_)
     exact (HQ1.out.lt j hj).1
    have HR3:=LH R
    have HB3:=LH hb3
    clear hown3 hgrow3 R hb3
    go_wp2_with fail
    go_roundw
    case rel =>
     refine ⟨k+1,by omega,by go_num,?_,HB3⟩
     have e:m.take (k+1)=m.take k++[r]:=by
      have h1:=HN.out
      rw [List.take_succ_eq_append_getElem (by omega),HRR.out]
      simp [List.getD,show k < m.length by omega]
     show OwnC w3 B v' (m.take (k+1))
     rw [e]
     exact HR3.out
    case measure=>simp [intOf];omega
  ·obtain rfl:k=n:=by omega
   have hlt':¬ (k:Int) < (k:Int):=by omega
   go_wp2_with fail
   go_ret
   refine ⟨_,rfl,?_,?_⟩
   ·have e:m.take k=m:=by rw [HN.out];exact List.take_length
    have h1:=hown.out
    rw [e,HB.out] at h1
    exact h1
   ·rw [← HB.out];exact hb.out
theorem twin_none (a:Option Addr) (cap:Nat) (w:World):Calls Tryz.prog 91 #[.slice a 0 cap] w (TwinEnd [] w):=by
 go_enter Tryz.func91,Tryz.ntmps91
 go_wp2_with fail
 refine wp_loop_rounds 1 ?_
 rw [rounds_succ]
 go_wp2
 go_ret
 exact ⟨_,rfl,OwnRows.nil _ _ _ _,Below.refl _ _⟩
theorem twin_any {v:Value} {m:List (List Int)} {w:World} (h:RowsR w v m) (hf:few m):Calls Tryz.prog 91 #[v] w (TwinEnd m w):=by
 obtain ⟨us,h1,h2,h3⟩:=h
 obtain ⟨a,cap,rfl,hcap,hm,_,hc⟩:=h1.one (c:=fun u=>u) .nilIface
 by_cases hl:us.length=0
 ·have:m=[]:=List.length_eq_zero_iff.1 (by omega)
  subst this
  rw [hl]
  exact twin_none a cap w
 ·obtain ⟨b,off,rfl,hd⟩:=hc (by omega)
  exact twin_some b off _ cap us m w h2 hcap (by rw [h2];exact hf.1) hf.2 hd (fun i hi=>h3 i (by omega))
end Go.Proofs.YtdfmcgekfogpbabGreatDoor
