/-
  Proved here: Topics and commits that a call itself made. No program in sight but it
-/
import Derived.Test.YtkkohllhebdlcaaGreatDoorY10
set_option maxRecDepth 100000
set_option maxRecDepth 100000
namespace Go.Proofs.YtkkohllhebdlcaaGreatDoor
open Go.RowKit Go.Deep
def OwnT (w:World) (B:Nat) (v:Value) (l:List Top):Prop :=
 ∃ pl:List (Value × Top),pl.map (·.2)=l∧w.ownsRow B 156 4 v l.length (pl.flatMap topCells)∧∀ p∈pl,OwnE w B p.1 p.2.ents
def OwnS (w:World) (B:Nat) (v:Value) (s:Str):Prop:=∃ ta tc,v=.agg #[ta,tc]∧OwnT w B ta s.tops∧OwnC w B tc s.coms
theorem own_ent {w:World} {B:Nat} {u:Value} {t:Top} (h:OwnE w B u t.ents):EntR w u t:=by
 obtain ⟨a,cap,rfl⟩:=own_shape h
 exact ⟨a,cap,rfl,h.reads⟩
theorem OwnT.reads {w:World} {B:Nat} {v:Value} {l:List Top} (h:OwnT w B v l):TopsR w v l:=by
 obtain ⟨pl,rfl,h2,h3⟩:=h
 rw [List.length_map] at h2
 exact ⟨pl,rfl,sliceR_of_owns topCells_len h2,fun p hp=>own_ent (h3 p hp)⟩
theorem OwnS.reads {w:World} {B:Nat} {v:Value} {s:Str} (h:OwnS w B v s):StrR w v s:=by
 obtain ⟨ta,tc,rfl,h2,h3⟩:=h
 exact ⟨ta,tc,rfl,h2.reads,h3.reads⟩
theorem OwnT.keep {w w':World} {B:Nat} {v:Value} {l:List Top} (h:OwnT w B v l) (hb:Below w.heap.size w w'):OwnT w' B v l:=by
 obtain ⟨pl,h1,h2,h3⟩:=h
 exact ⟨pl,h1,ownsRow_keep h2 hb,fun p hp=>own_below (h3 p hp) hb⟩
theorem OwnT.le {w:World} {B B':Nat} {v:Value} {l:List Top} (h:OwnT w B v l) (hB:B'≤B):OwnT w B' v l:=by
 obtain ⟨pl,h1,h2,h3⟩:=h
 exact ⟨pl,h1,ownsRow_le h2 hB,fun p hp=>own_base (h3 p hp) hB⟩
theorem OwnS.keep {w w':World} {B:Nat} {v:Value} {s:Str} (h:OwnS w B v s) (hb:Below w.heap.size w w'):OwnS w' B v s:=by
 obtain ⟨ta,tc,h1,h2,h3⟩:=h
 exact ⟨ta,tc,h1,h2.keep hb,h3.keep hb⟩
theorem OwnS.le {w:World} {B B':Nat} {v:Value} {s:Str} (h:OwnS w B v s) (hB:B'≤B):OwnS w B' v s:=by
 obtain ⟨ta,tc,h1,h2,h3⟩:=h
 exact ⟨ta,tc,h1,h2.le hB,h3.le hB⟩
theorem OwnT.nil (w:World) (B:Nat):OwnT w B (.slice none 0 0) []:=⟨[],rfl,World.ownsRow_nil _ _ _ _,fun _ h=>by cases h⟩
theorem flat4_set (pl:List (Value × Top)) (i:Nat) (p:Value × Top) (hi:i < pl.length) :
  ((((pl.flatMap topCells).set (i * 4) (.int .i64 p.2.base)).set (i * 4+1) (.int .i64 p.2.next)).set (i * 4+2) (.int .i64 p.2.mark)).set (i * 4+3) p.1=(pl.set i p).flatMap topCells:=by
 induction pl generalizing i with
 |nil=>simp at hi
 |cons y l ih =>
  cases i with
  |zero=>simp [topCells]
  |succ i =>
   have:=ih i (by simpa using hi)
   simp only [List.flatMap_cons,List.set_cons_succ,← this]
   have e:∀ (m:Nat) (v:Value) (r:List Value),(topCells y++r).set (4+m) v=topCells y++r.set m v:=fun m v r=>by
    rw [List.set_append_right (h:=by simp [topCells])]
    simp [topCells]
   have a0:(i+1) * 4=4+i * 4:=by omega
   rw [a0,e,Nat.add_assoc,e,Nat.add_assoc,e,Nat.add_assoc,e]
def putT (W:World) (g i:Nat) (u:Value) (t:Top):World:=(((W.setCell ⟨g,i * 4,none⟩ (.int .i64 t.base)).setCell ⟨g,i * 4+1,none⟩ (.int .i64 t.next)).setCell ⟨g,i * 4+2,none⟩ (.int .i64 t.mark)).setCell ⟨g,i * 4+3,none⟩ u
theorem heap_putT {W:World} {g i b:Nat} {u:Value} {t:Top} (h:b≠g):(putT W g i u t).heap[b]?=W.heap[b]?:=by
 unfold putT
 rw [heap_setCell_other _ _ _ _ h,heap_setCell_other _ _ _ _ h,heap_setCell_other _ _ _ _ h,heap_setCell_other _ _ _ _ h]
theorem below_putT {W W0:World} {B g i:Nat} {u:Value} {t:Top} (h:Below B W0 W) (hB:B≤g):Below B W0 (putT W g i u t) :=
 (((h.setCell (p:=⟨g,_,none⟩) hB _).setCell (p:=⟨g,_,none⟩) hB _).setCell (p:=⟨g,_,none⟩) hB _).setCell (p:=⟨g,_,none⟩) hB _
theorem OwnT.put {W:World} {B g n cap i:Nat} {u:Value} {l:List Top} {t:Top} (h:OwnT W B (.slice (some ⟨g,0,none⟩) n cap) l) (hi:i < l.length) (hu:OwnE W B u t.ents) :
  OwnT (putT W g i u t) B (.slice (some ⟨g,0,none⟩) n cap) (l.set i t):=by
 obtain ⟨pl,rfl,h2,h3⟩:=h
 rw [List.length_map] at h2 hi
 obtain rfl:n=pl.length:=by
  rcases h2.2 with ⟨e,_⟩|⟨_,_,_,e,_⟩
  ·cases e
  ·cases e;rfl
 have s1:=(h2.stored (i * 4) (.int .i64 t.base)).1
 have s2:=(s1.stored (i * 4+1) (.int .i64 t.next)).1
 have s3:=(s2.stored (i * 4+2) (.int .i64 t.mark)).1
 have s4:=(s3.stored (i * 4+3) u).1
 rw [flat4_set pl i (u,t) hi] at s4
 have hne:∀ q:Value × Top,OwnE W B q.1 q.2.ents→OwnE (putT W g i u t) B q.1 q.2.ents:=fun q hq=>row_far hq (fun b hb=>heap_putT hb) (rows_ne hq h2 (by decide) rfl)
 refine ⟨pl.set i (u,t),by simp,?_,fun p hp=>?_⟩
 ·rw [List.length_set,List.length_map]
  exact s4
 ·rcases List.mem_or_eq_of_mem_set hp with hp|hp
  ·exact hne p (h3 p hp)
  ·subst hp
   exact hne (u,t) hu
theorem OwnT.at_ {W:World} {B i n cap:Nat} {a:Option Addr} {l:List Top} (h:OwnT W B (.slice a n cap) l) (hi:i < l.length):∃ g,a=some ⟨g,0,none⟩∧(B≤g∧g < W.heap.size)∧(n=l.length∧n≤cap∧cap≤maxLen)∧TopAt W g (i * 4) (l.getD i default)∧∀ o,W.frozen? ⟨g,o,none⟩=false:=by
 obtain ⟨a',cap',hv,hc,hm,_,hd⟩:=h.reads.shape
 cases hv
 obtain ⟨b,off,rfl,hd2⟩:=hd (by omega)
 have hat:=hd2 i hi
 clear hd hd2
 obtain ⟨pl,rfl,h2,h3⟩:=h
 rcases id h2.2 with ⟨e,h0⟩|⟨g,cp,cur,e,hB,hh,_⟩
 ·rw [List.length_map] at hi h0;omega
 ·cases e
  rw [Nat.zero_add] at hat
  rw [List.length_map] at h2
  exact ⟨b,rfl,⟨hB,(Array.getElem?_eq_some_iff.1 hh).1⟩,⟨rfl,hc,hm⟩,hat,fun o=>by rw [List.length_map] at *;exact h2.frozenAt o⟩
theorem OwnT.far {W:World} {B b o:Nat} {v u:Value} {l:List Top} (h:OwnT W B v l) (hb:b < B):OwnT (W.setCell ⟨b,o,none⟩ u) B v l:=by
 obtain ⟨pl,h1,h2,h3⟩:=h
 exact ⟨pl,h1,ownsRow_setCell_other h2 (fun e=>by have:=(h2.lt _ e).1;simp at this;omega) u,fun p hp=>own_set (h3 p hp) hb⟩
theorem OwnC.far {W:World} {B b o:Nat} {v u:Value} {m:List (List Int)} (h:OwnC W B v m) (hb:b < B):OwnC (W.setCell ⟨b,o,none⟩ u) B v m:=by
 obtain ⟨us,h1,h2,h3,h4⟩:=h
 exact ⟨us,ownsRow_setCell_other h1 (fun e=>by have:=(h1.lt _ e).1;simp at this;omega) u,h2,fun i hi=>ownsRow_setCell_other (h3 i hi) (fun e=>by have:=((h3 i hi).lt _ e).1;simp at this;omega) u,h4⟩
theorem OwnC.blk {W:World} {B b o:Nat} {t:TypeId} {cs:List Value} {v u:Value} {m:List (List Int)} (h:OwnC W B v m) (hb:Blk W b t cs) (h1t:37≠t) (h2t:3≠t):OwnC (W.setCell ⟨b,o,none⟩ u) B v m:=by
 obtain ⟨us,h1,h2,h3,h4⟩:=h
 exact ⟨us,ownsRow_setCell_other h1 (row_blk h1 hb h1t) u,h2,fun i hi=>ownsRow_setCell_other (h3 i hi) (row_blk (h3 i hi) hb h2t) u,h4⟩
theorem OwnT.blk {W:World} {B b o:Nat} {t:TypeId} {cs:List Value} {v u:Value} {l:List Top} (h:OwnT W B v l) (hb:Blk W b t cs) (h1t:156≠t) (h2t:215≠t):OwnT (W.setCell ⟨b,o,none⟩ u) B v l:=by
 obtain ⟨pl,h1,h2,h3⟩:=h
 exact ⟨pl,h1,ownsRow_setCell_other h2 (row_blk h2 hb h1t) u,fun p hp=>ownsRow_setCell_other (h3 p hp) (row_blk (h3 p hp) hb h2t) u⟩
theorem OwnC.alloc {W:World} {B:Nat} {v:Value} {m:List (List Int)} (h:OwnC W B v m) (o:Obj):OwnC (W.alloc o) B v m:=h.keep ((Below.refl _ _).alloc (Nat.le_refl _) _)
theorem OwnC.over {w w':World} {B g:Nat} {v:Value} {m:List (List Int)} (h:OwnC w B v m) (hh:∀ b,b≠g→w'.heap[b]?=w.heap[b]?) {b2 s2 n2:Nat} {v2:Value} {e2:TypeId} {xs2:List Value} (h2:w.ownsRow b2 e2 s2 v2 n2 xs2) (hg:v2.ownBlock=some g) (h1e:37≠e2) (h2e:3≠e2):OwnC w' B v m:=by
 obtain ⟨us,k1,k2,k3,k4⟩:=h
 exact ⟨us,row_far k1 hh (rows_ne k1 h2 h1e hg),k2,fun i hi=>row_far (k3 i hi) hh (rows_ne (k3 i hi) h2 h2e hg),k4⟩
theorem OwnC.grown {w w':World} {B:Nat} {v:Value} {m:List (List Int)} {row:Option Nat} (h:OwnC w B v m) (hg:w.grownBy w' row) {b2 s2 n2:Nat} {v2:Value} {e2:TypeId} {xs2:List Value} (h2:w.ownsRow b2 e2 s2 v2 n2 xs2) (hr:row=v2.ownBlock) (h1e:37≠e2) (h2e:3≠e2):OwnC w' B v m:=by
 subst hr
 obtain ⟨us,k1,k2,k3,k4⟩:=h
 exact ⟨us,ownsRow_grown' k1 hg (fun k hk=>rows_ne k1 h2 h1e hk),k2,fun i hi=>ownsRow_grown' (k3 i hi) hg (fun k hk=>rows_ne (k3 i hi) h2 h2e hk),k4⟩
theorem news_top (u:Value) (x:Top) {W:World} {g:Nat} {t:TypeId} (hg:g=W.heap.size):∀ j y,(topCells (u,x))[j]?=some y→(W.alloc (.cells #[.int .i64 x.base,.int .i64 x.next,.int .i64 x.mark,u] t)).cell? ((⟨g,0,none⟩:Addr).add j)=some y:=by
 intro j y hy
 have hB:=Blk.new (w:=W) (t:=t) (cs:=topCells (u,x)) hg
 have h:=hB.cell j
 rw [show ((⟨g,0,none⟩:Addr).add j)=⟨g,j,none⟩ by unfold Addr.add;split <;> simp_all]
 rw [← hy]
 exact h
theorem topCells_one (a:Option Addr) (n c:Nat) (x:Top):∀ v∈topCells (.slice a n c,x),v.oneCell'=true:=by
 intro v hv
 simp [topCells] at hv
 rcases hv with rfl|rfl|rfl|rfl <;> rfl
theorem info_top:(Tryz.prog.info? 156).map (fun i=>(i.zero,i.size,i.bytes))=some (some (.agg #[.int .i64 0,.int .i64 0,.int .i64 0,.slice none 0 0]),4,48):=by kernel_rfl
end Go.Proofs.YtkkohllhebdlcaaGreatDoor
