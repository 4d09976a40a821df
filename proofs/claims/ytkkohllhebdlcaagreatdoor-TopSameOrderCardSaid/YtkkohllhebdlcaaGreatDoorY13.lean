/-
  Proved here: slices.Clone at int, api.Stamp, api.Wait. No condition but that the sl A clock's waits and done: own ones, and how they read. No program in s skeen.Twin. No condition but that what it reads is not great. A clock under way: its three cells and what they lead to. No program i
-/
import Derived.Test.YtkkohllhebdlcaaGreatDoorY10
import Derived.Test.YtkkohllhebdlcaaGreatDoorY11
import Derived.Deep.RegionWith
import Derived.Deep.DeepCutAuto
set_option maxRecDepth 100000
namespace Go.Proofs.YtkkohllhebdlcaaGreatDoor
open Go.RowKit
theorem info_stp:(Tryz.prog.info? 104).map (fun i=>(i.zero,i.size,i.bytes))=some (some (.agg #[.int .i64 0,.int .i64 0]),2,16):=by kernel_rfl
def CloEndI {α:Type} (cs:α→List Value) (l:List α) (w:World) (e:Ending) (w':World):Prop:=∃ a cap,e=.returned (.slice a l.length cap)∧w'.ownsRow w.heap.size 3 1 (.slice a l.length cap) l.length (l.flatMap cs)∧Below w.heap.size w w'
theorem cloI_nil {α:Type} (cs:α→List Value) (w:World):Calls Tryz.prog 46 #[.slice none 0 0] w (CloEndI cs [] w):=by
 have hE:=fun w'=>Lib.run_eql_slice_nil w' 37 3 none 0 0 0 0 Tryz.underlying37
 simp only [Option.isNone_none] at hE
 go_enter Tryz.func46,Tryz.ntmps46
 go_wp2_with fail
 go_ret
 exact ⟨none,0,rfl,World.ownsRow_nil _ _ _ _,Below.refl _ _⟩
set_option maxHeartbeats 1000000 in
theorem cloI_some {α:Type} {cs:α→List Value} (hcs:∀ x,(cs x).length=1) (ad:Addr) (n cap:Nat) (l:List α) (w:World) (hn:n=l.length) (h:SliceR w (.slice (some ad) n cap) 1 cs l) (h1:∀ v∈l.flatMap cs,v.oneCell'=true) (hl:l.length * 8≤140737488355328) :
  Calls Tryz.prog 46 #[.slice (some ad) n cap] w (CloEndI cs l w):=by
 obtain ⟨i0,hi,hz0,hz1,hz2⟩:=info_parts info_int
 have H:=LH h
 have HL:=LH hl
 have HN:=LH hn
 have H1:=LH h1
 have HNP:Hid (0 < l.length→∃ b off,(some ad:Option Addr)=some ⟨b,off,none⟩):=by
  obtain ⟨a',cap',e1,_,_,_,h5⟩:=h
  intro hp
  obtain ⟨b,off,ha,_⟩:=h5 hp
  cases e1
  exact ⟨b,off,ha⟩
 clear h hl hn h1
 have hE:=fun w'=>Lib.run_eql_slice_nil w' 37 3 (some ad) n cap 0 0 Tryz.underlying37
 simp only [Option.isNone_some] at hE
 go_enter Tryz.func46,Tryz.ntmps46
 go_wp2_with (at_builtin;go_must (refine wpList_append_own _ rfl _ _ 37 rfl w.heap.size 3 i0 _ 1 8 Tryz.underlying37 hi hz0 hz1 hz2 rfl (by decide) _ 0 [] rfl (World.ownsRow_made w #[] 0 (Nat.le_refl _) (Nat.zero_le _) rfl) ad n cap (l.flatMap cs) rfl (by rw [flat_length hcs,HN.out]) ?_ H1.out (by have:=HL.out;rw [HN.out];unfold maxLen;omega) (by have:=HL.out;rw [HN.out];omega) (by simp) ?_))
 ·intro j v hv
  have hn0:0 < l.length:=by
   have:=(List.getElem?_eq_some_iff.1 hv).1
   rw [flat_length hcs] at this
   omega
  obtain ⟨b,off,e⟩:=HNP.out hn0
  cases e
  exact (H.out.below hcs ((Below.refl _ _).alloc (Nat.le_refl _) (.cells #[] 3))).flat hcs (by omega) j v hv
 ·intro v' w' hown hgrow _
  have hb:=((Below.refl w.heap.size w).alloc (Nat.le_refl _) (.cells #[] 3)).grown hgrow (by simp) (fun j hj=>by cases hj;exact Nat.le_refl _)
  have ho:w'.ownsRow w.heap.size 3 1 v' l.length (l.flatMap cs):=by simpa [HN.out] using hown
  obtain ⟨a',cap',hv'⟩:∃ a cap,v'=.slice a l.length cap:=by
   rcases ho.2 with ⟨e,h0⟩|⟨g,cp,_,e,_⟩
   ·exact ⟨none,0,by rw [e,h0]⟩
   ·exact ⟨_,_,e⟩
  subst hv'
  have HO:=LH ho
  have HB:=LH hb
  clear hown hgrow hb ho
  go_wp2_with fail
  go_ret
  exact ⟨a',cap',rfl,HO.out,HB.out⟩
theorem cloI_any {α:Type} {cs:α→List Value} (hcs:∀ x,(cs x).length=1) {v:Value} {l:List α} {w:World} (h:SliceR w v 1 cs l) (h1:∀ v∈l.flatMap cs,v.oneCell'=true) (hl:l.length≤1000000) :
  Calls Tryz.prog 46 #[v] w (CloEndI cs l w):=by
 have h':=h
 obtain ⟨a,cap,hv,hcap,_,hnone,hc⟩:=h'
 subst hv
 cases a with
 |none =>
  have hc0:cap=0:=hnone rfl
  have h0:l.length=0:=by omega
  have hl0:l=[]:=List.length_eq_zero_iff.1 h0
  subst hl0
  subst hc0
  exact cloI_nil cs w
 |some ad=>exact cloI_some hcs ad _ cap l w rfl h h1 (by omega)
def CloEndS {α:Type} (cs:α→List Value) (l:List α) (w:World) (e:Ending) (w':World):Prop:=∃ a cap,e=.returned (.slice a l.length cap)∧w'.ownsRow w.heap.size 104 2 (.slice a l.length cap) l.length (l.flatMap cs)∧Below w.heap.size w w'
theorem cloS_nil {α:Type} (cs:α→List Value) (w:World):Calls Tryz.prog 57 #[.slice none 0 0] w (CloEndS cs [] w):=by
 have hE:=fun w'=>Lib.run_eql_slice_nil w' 30 104 none 0 0 0 0 Tryz.underlying30
 simp only [Option.isNone_none] at hE
 go_enter Tryz.func57,Tryz.ntmps57
 go_wp2_with fail
 go_ret
 exact ⟨none,0,rfl,World.ownsRow_nil _ _ _ _,Below.refl _ _⟩
set_option maxHeartbeats 1000000 in
theorem cloS_some {α:Type} {cs:α→List Value} (hcs:∀ x,(cs x).length=2) (ad:Addr) (n cap:Nat) (l:List α) (w:World) (hn:n=l.length) (h:SliceR w (.slice (some ad) n cap) 2 cs l) (h1:∀ v∈l.flatMap cs,v.oneCell'=true) (hl:l.length * 16≤140737488355328) :
  Calls Tryz.prog 57 #[.slice (some ad) n cap] w (CloEndS cs l w):=by
 obtain ⟨i0,hi,hz0,hz1,hz2⟩:=info_parts info_stp
 have H:=LH h
 have HL:=LH hl
 have HN:=LH hn
 have H1:=LH h1
 have HNP:Hid (0 < l.length→∃ b off,(some ad:Option Addr)=some ⟨b,off,none⟩):=by
  obtain ⟨a',cap',e1,_,_,_,h5⟩:=h
  intro hp
  obtain ⟨b,off,ha,_⟩:=h5 hp
  cases e1
  exact ⟨b,off,ha⟩
 clear h hl hn h1
 have hE:=fun w'=>Lib.run_eql_slice_nil w' 30 104 (some ad) n cap 0 0 Tryz.underlying30
 simp only [Option.isNone_some] at hE
 go_enter Tryz.func57,Tryz.ntmps57
 go_wp2_with (at_builtin;go_must (refine wpList_append_own _ rfl _ _ 30 rfl w.heap.size 104 i0 _ 2 16 Tryz.underlying30 hi hz0 hz1 hz2 rfl (by decide) _ 0 [] rfl (World.ownsRow_made w #[] 0 (Nat.le_refl _) (Nat.zero_le _) rfl) ad n cap (l.flatMap cs) rfl (by rw [flat_length hcs,HN.out]) ?_ H1.out (by have:=HL.out;rw [HN.out];unfold maxLen;omega) (by have:=HL.out;rw [HN.out];omega) (by simp) ?_))
 ·intro j v hv
  have hn0:0 < l.length:=by
   have:=(List.getElem?_eq_some_iff.1 hv).1
   rw [flat_length hcs] at this
   omega
  obtain ⟨b,off,e⟩:=HNP.out hn0
  cases e
  exact (H.out.below hcs ((Below.refl _ _).alloc (Nat.le_refl _) (.cells #[] 104))).flat hcs (by omega) j v hv
 ·intro v' w' hown hgrow _
  have hb:=((Below.refl w.heap.size w).alloc (Nat.le_refl _) (.cells #[] 104)).grown hgrow (by simp) (fun j hj=>by cases hj;exact Nat.le_refl _)
  have ho:w'.ownsRow w.heap.size 104 2 v' l.length (l.flatMap cs):=by simpa [HN.out] using hown
  obtain ⟨a',cap',hv'⟩:∃ a cap,v'=.slice a l.length cap:=by
   rcases ho.2 with ⟨e,h0⟩|⟨g,cp,_,e,_⟩
   ·exact ⟨none,0,by rw [e,h0]⟩
   ·exact ⟨_,_,e⟩
  subst hv'
  have HO:=LH ho
  have HB:=LH hb
  clear hown hgrow hb ho
  go_wp2_with fail
  go_ret
  exact ⟨a',cap',rfl,HO.out,HB.out⟩
theorem cloS_any {α:Type} {cs:α→List Value} (hcs:∀ x,(cs x).length=2) {v:Value} {l:List α} {w:World} (h:SliceR w v 2 cs l) (h1:∀ v∈l.flatMap cs,v.oneCell'=true) (hl:l.length≤1000000) :
  Calls Tryz.prog 57 #[v] w (CloEndS cs l w):=by
 have h':=h
 obtain ⟨a,cap,hv,hcap,_,hnone,hc⟩:=h'
 subst hv
 cases a with
 |none =>
  have hc0:cap=0:=hnone rfl
  have h0:l.length=0:=by omega
  have hl0:l=[]:=List.length_eq_zero_iff.1 h0
  subst hl0
  subst hc0
  exact cloS_nil cs w
 |some ad=>exact cloS_some hcs ad _ cap l w rfl h h1 (by omega)
def CloEndW {α:Type} (cs:α→List Value) (l:List α) (w:World) (e:Ending) (w':World):Prop:=∃ a cap,e=.returned (.slice a l.length cap)∧w'.ownsRow w.heap.size 65 7 (.slice a l.length cap) l.length (l.flatMap cs)∧Below w.heap.size w w'
theorem cloW_nil {α:Type} (cs:α→List Value) (w:World):Calls Tryz.prog 56 #[.slice none 0 0] w (CloEndW cs [] w):=by
 have hE:=fun w'=>Lib.run_eql_slice_nil w' 29 65 none 0 0 0 0 Tryz.underlying29
 simp only [Option.isNone_none] at hE
 go_enter Tryz.func56,Tryz.ntmps56
 go_wp2_with fail
 go_ret
 exact ⟨none,0,rfl,World.ownsRow_nil _ _ _ _,Below.refl _ _⟩
set_option maxHeartbeats 1000000 in
theorem cloW_some {α:Type} {cs:α→List Value} (hcs:∀ x,(cs x).length=7) (ad:Addr) (n cap:Nat) (l:List α) (w:World) (hn:n=l.length) (h:SliceR w (.slice (some ad) n cap) 7 cs l) (h1:∀ v∈l.flatMap cs,v.oneCell'=true) (hl:l.length * 88≤140737488355328) :
  Calls Tryz.prog 56 #[.slice (some ad) n cap] w (CloEndW cs l w):=by
 obtain ⟨i0,hi,hz0,hz1,hz2⟩:=info_parts info_wait
 have H:=LH h
 have HL:=LH hl
 have HN:=LH hn
 have H1:=LH h1
 have HNP:Hid (0 < l.length→∃ b off,(some ad:Option Addr)=some ⟨b,off,none⟩):=by
  obtain ⟨a',cap',e1,_,_,_,h5⟩:=h
  intro hp
  obtain ⟨b,off,ha,_⟩:=h5 hp
  cases e1
  exact ⟨b,off,ha⟩
 clear h hl hn h1
 have hE:=fun w'=>Lib.run_eql_slice_nil w' 29 65 (some ad) n cap 0 0 Tryz.underlying29
 simp only [Option.isNone_some] at hE
 go_enter Tryz.func56,Tryz.ntmps56
 go_wp2_with (at_builtin;go_must (refine wpList_append_own _ rfl _ _ 29 rfl w.heap.size 65 i0 _ 7 88 Tryz.underlying29 hi hz0 hz1 hz2 rfl (by decide) _ 0 [] rfl (World.ownsRow_made w #[] 0 (Nat.le_refl _) (Nat.zero_le _) rfl) ad n cap (l.flatMap cs) rfl (by rw [flat_length hcs,HN.out]) ?_ H1.out (by have:=HL.out;rw [HN.out];unfold maxLen;omega) (by have:=HL.out;rw [HN.out];omega) (by simp) ?_))
 ·intro j v hv
  have hn0:0 < l.length:=by
   have:=(List.getElem?_eq_some_iff.1 hv).1
   rw [flat_length hcs] at this
   omega
  obtain ⟨b,off,e⟩:=HNP.out hn0
  cases e
  exact (H.out.below hcs ((Below.refl _ _).alloc (Nat.le_refl _) (.cells #[] 65))).flat hcs (by omega) j v hv
 ·intro v' w' hown hgrow _
  have hb:=((Below.refl w.heap.size w).alloc (Nat.le_refl _) (.cells #[] 65)).grown hgrow (by simp) (fun j hj=>by cases hj;exact Nat.le_refl _)
  have ho:w'.ownsRow w.heap.size 65 7 v' l.length (l.flatMap cs):=by simpa [HN.out] using hown
  obtain ⟨a',cap',hv'⟩:∃ a cap,v'=.slice a l.length cap:=by
   rcases ho.2 with ⟨e,h0⟩|⟨g,cp,_,e,_⟩
   ·exact ⟨none,0,by rw [e,h0]⟩
   ·exact ⟨_,_,e⟩
  subst hv'
  have HO:=LH ho
  have HB:=LH hb
  clear hown hgrow hb ho
  go_wp2_with fail
  go_ret
  exact ⟨a',cap',rfl,HO.out,HB.out⟩
theorem cloW_any {α:Type} {cs:α→List Value} (hcs:∀ x,(cs x).length=7) {v:Value} {l:List α} {w:World} (h:SliceR w v 7 cs l) (h1:∀ v∈l.flatMap cs,v.oneCell'=true) (hl:l.length≤1000000) :
  Calls Tryz.prog 56 #[v] w (CloEndW cs l w):=by
 have h':=h
 obtain ⟨a,cap,hv,hcap,_,hnone,hc⟩:=h'
 subst hv
 cases a with
 |none =>
  have hc0:cap=0:=hnone rfl
  have h0:l.length=0:=by omega
  have hl0:l=[]:=List.length_eq_zero_iff.1 h0
  subst hl0
  subst hc0
  exact cloW_nil cs w
 |some ad=>exact cloW_some hcs ad _ cap l w rfl h h1 (by omega)
def OwnW (w:World) (B:Nat) (v:Value) (l:List Wt):Prop:=∃ pl:List (Value × Wt),pl.map (·.2)=l∧w.ownsRow B 65 7 v l.length (pl.flatMap wtCs)∧∀ p∈pl,OwnI w B p.1 p.2.msg.groups
def OwnD (w:World) (B:Nat) (v:Value) (l:List (Int × Int)):Prop:=w.ownsRow B 104 2 v l.length (l.flatMap stCells)
def WaitsR (w:World) (v:Value) (l:List Wt):Prop:=∃ pl:List (Value × Wt),pl.map (·.2)=l∧WtsR w v pl∧∀ p∈pl,IntsR w p.1 p.2.msg.groups
def SkR (w:World) (v:Value) (s:Sk):Prop:=∃ a cap b bc,v=.agg #[.int .i64 s.clock,.slice a s.waits.length cap,.slice b s.done.length bc]∧WaitsR w (.slice a s.waits.length cap) s.waits∧SliceR w (.slice b s.done.length bc) 2 stCells s.done
def OwnSk (w:World) (B:Nat) (v:Value) (s:Sk):Prop:=∃ a cap b bc,v=.agg #[.int .i64 s.clock,.slice a s.waits.length cap,.slice b s.done.length bc]∧OwnW w B (.slice a s.waits.length cap) s.waits∧OwnD w B (.slice b s.done.length bc) s.done
theorem isSl_own {w:World} {B:Nat} {v:Value} {l:List Int} (h:OwnI w B v l):isSl v:=by
 obtain ⟨a,cap,rfl⟩:=ownI_shape h
 exact ⟨a,_,cap,rfl⟩
theorem wtCs_one {pl:List (Value × Wt)} (h:∀ p∈pl,isSl p.1):∀ v∈pl.flatMap wtCs,v.oneCell'=true:=by
 intro v hv
 obtain ⟨x,hx,hv⟩:=List.mem_flatMap.1 hv
 obtain ⟨a,n,cap,e⟩:=h x hx
 simp only [wtCs,List.mem_cons,List.not_mem_nil,or_false] at hv
 rcases hv with rfl|rfl|rfl|rfl|rfl|rfl|rfl
 all_goals first|rfl|(rw [e];rfl)
theorem st_one (l:List (Int × Int)):∀ v∈l.flatMap stCells,v.oneCell'=true:=by
 intro v hv
 obtain ⟨x,hx,hv⟩:=List.mem_flatMap.1 hv
 simp only [stCells,List.mem_cons,List.not_mem_nil,or_false] at hv
 rcases hv with rfl|rfl <;> rfl
theorem OwnI.keep' {w w':World} {B:Nat} {v:Value} {l:List Int} (h:OwnI w B v l) (hb:Below w.heap.size w w'):OwnI w' B v l:=ownsRow_keep h hb
theorem OwnW.keep {w w':World} {B:Nat} {v:Value} {l:List Wt} (h:OwnW w B v l) (hb:Below w.heap.size w w'):OwnW w' B v l:=by
 obtain ⟨pl,h1,h2,h3⟩:=h
 exact ⟨pl,h1,ownsRow_keep h2 hb,fun p hp=>ownsRow_keep (h3 p hp) hb⟩
theorem OwnD.keep {w w':World} {B:Nat} {v:Value} {l:List (Int × Int)} (h:OwnD w B v l) (hb:Below w.heap.size w w'):OwnD w' B v l:=ownsRow_keep h hb
theorem OwnW.nil (w:World) (B:Nat):OwnW w B (.slice none 0 0) []:=⟨[],rfl,World.ownsRow_nil _ _ _ _,fun _ h=>by cases h⟩
theorem OwnD.nil (w:World) (B:Nat):OwnD w B (.slice none 0 0) []:=World.ownsRow_nil _ _ _ _
theorem row_shape {w:World} {B s n:Nat} {e:TypeId} {v:Value} {xs:List Value} (h:w.ownsRow B e s v n xs):∃ a cap,v=.slice a n cap:=by
 rcases h.2 with ⟨rfl,h0⟩|⟨g,cp,cur,rfl,_⟩
 ·exact ⟨none,0,by rw [h0]⟩
 ·exact ⟨_,cp,rfl⟩
theorem row_form {w:World} {B s n:Nat} {e:TypeId} {v:Value} {xs:List Value} (h:w.ownsRow B e s v n xs) (hn:0 < n):∃ g cap,v=.slice (some ⟨g,0,none⟩) n cap:=by
 rcases h.2 with ⟨rfl,h0⟩|⟨g,cp,cur,rfl,_⟩
 ·omega
 ·exact ⟨g,cp,rfl⟩
theorem OwnW.reads {w:World} {B:Nat} {v:Value} {l:List Wt} (h:OwnW w B v l):WaitsR w v l:=by
 obtain ⟨pl,rfl,h2,h3⟩:=h
 rw [List.length_map] at h2
 exact ⟨pl,rfl,⟨sliceR_of_owns wtCs_len h2,fun p hp=>isSl_own (h3 p hp)⟩,fun p hp=>(h3 p hp).reads⟩
theorem OwnD.reads {w:World} {B:Nat} {v:Value} {l:List (Int × Int)} (h:OwnD w B v l):SliceR w v 2 stCells l:=sliceR_of_owns stCells_len h
theorem OwnSk.reads {w:World} {B:Nat} {v:Value} {s:Sk} (h:OwnSk w B v s):SkR w v s:=by
 obtain ⟨a,cap,b,bc,h1,h2,h3⟩:=h
 exact ⟨a,cap,b,bc,h1,h2.reads,h3.reads⟩
theorem OwnSk.keep {w w':World} {B:Nat} {v:Value} {s:Sk} (h:OwnSk w B v s) (hb:Below w.heap.size w w'):OwnSk w' B v s:=by
 obtain ⟨a,cap,b,bc,h1,h2,h3⟩:=h
 exact ⟨a,cap,b,bc,h1,h2.keep hb,h3.keep hb⟩
theorem WtsR.below {w w':World} {v:Value} {pl:List (Value × Wt)} (h:WtsR w v pl) (hb:Below w.heap.size w w'):WtsR w' v pl:=⟨h.1.below wtCs_len hb,h.2⟩
theorem WaitsR.below {w w':World} {v:Value} {l:List Wt} (h:WaitsR w v l) (hb:Below w.heap.size w w'):WaitsR w' v l:=by
 obtain ⟨pl,h1,h2,h3⟩:=h
 exact ⟨pl,h1,h2.below hb,fun p hp=>(h3 p hp).below hb⟩
theorem SkR.below {w w':World} {v:Value} {s:Sk} (h:SkR w v s) (hb:Below w.heap.size w w'):SkR w' v s:=by
 obtain ⟨a,cap,b,bc,h1,h2,h3⟩:=h
 exact ⟨a,cap,b,bc,h1,h2.below hb,h3.below stCells_len hb⟩
theorem OwnD.row {w w':World} {B B2 s n:Nat} {v u:Value} {l:List (Int × Int)} {e:TypeId} {xs:List Value} (h:OwnD w B v l) (h2:w.ownsRow B2 e s u n xs) (hg:w.grownBy w' u.ownBlock) (he:104≠e):OwnD w' B v l :=
 ownsRow_grown' h hg (fun _ hk=>rows_ne h h2 he hk)
theorem heap_set (w:World) (b o:Nat) (u:Value):∀ k,k≠b→(w.setCell ⟨b,o,none⟩ u).heap[k]?=w.heap[k]?:=fun k hk=>heap_setCell_other w ⟨b,o,none⟩ k u hk
theorem flat7_set (pl:List (Value × Wt)) (i j:Nat) (y:Value) (p:Value × Wt) (hi:i < pl.length) (hj:j < 7) (hp:wtCs p=(wtCs (pl[i])).set j y) :
  (pl.flatMap wtCs).set (i * 7+j) y=(pl.set i p).flatMap wtCs:=by
 induction pl generalizing i with
 |nil=>simp at hi
 |cons x l ih =>
  cases i with
  |zero =>
   simp only [List.getElem_cons_zero] at hp
   simp only [Nat.zero_mul,Nat.zero_add,List.flatMap_cons,List.set_cons_zero]
   rw [List.set_append_left (h:=by rw [wtCs_len];exact hj),hp]
  |succ i =>
   have:=ih i (by simpa using hi) (by simpa using hp)
   simp only [List.flatMap_cons,List.set_cons_succ,← this]
   rw [List.set_append_right (h:=by rw [wtCs_len];omega),wtCs_len]
   congr 2
   omega
def fewK (s:Sk):Prop:=s.waits.length≤1000000∧s.done.length≤1000000∧∀ x∈s.waits,x.msg.groups.length≤1000000
def SkEnd (s:Sk) (w:World) (e:Ending) (w':World):Prop:=∃ v',e=.returned v'∧OwnSk w' w.heap.size v' s∧Below w.heap.size w w'
theorem rowVals_one' (r:List Int):∀ v∈rowVals r,v.oneCell'=true:=by
 intro v hv
 simp only [rowVals,List.mem_map] at hv
 obtain ⟨y,_,rfl⟩:=hv
 rfl
theorem row_set2 {w:World} {B s n g o1 o2:Nat} {e t:TypeId} {v u1 u2:Value} {xs cs:List Value} (h:w.ownsRow B e s v n xs) (hb:Blk w g t cs) (he:e≠t):((w.setCell ⟨g,o1,none⟩ u1).setCell ⟨g,o2,none⟩ u2).ownsRow B e s v n xs :=
 row_far h (fun b hb'=>(heap_set _ _ _ _ b hb').trans (heap_set _ _ _ _ b hb')) (row_blk h hb he)
set_option maxHeartbeats 8000000 in
set_option maxRecDepth 100000 in
theorem skTwin_any {v:Value} {s:Sk} {w:World} (h:SkR w v s) (hf:fewK s):Calls Tryz.prog 31 #[v] w (SkEnd s w):=by
 obtain ⟨a,cap,b,bc,rfl,hw,hd⟩:=h
 obtain ⟨pl,hpl,hwt,hgi⟩:=hw
 obtain ⟨hf1,hf2,hf3⟩:=hf
 obtain ⟨n,hn⟩:∃ n,n=s.waits.length:=⟨_,rfl⟩
 have hpn:pl.length=n:=by rw [hn,← hpl,List.length_map]
 obtain ⟨dn,hdn⟩:∃ dn,dn=s.done.length:=⟨_,rfl⟩
 have WT:=LH hwt
 have DD:=LH hd
 have GI:=LH hgi
 have HPL:=LH hpl
 have HPN:=LH hpn
 have HF3:Hid (∀ p∈pl,p.2.msg.groups.length≤1000000):=fun p hp=>hf3 _ (by rw [← hpl];exact List.mem_map_of_mem hp)
 have HDN:=LH hdn
 rw [← hn] at WT hf1 ⊢
 rw [← hdn] at DD hf2 ⊢
 have HN:=LH hn
 have nn0:(n:Int)≤1000000:=by omega
 obtain ⟨ck,hck⟩:∃ ck,ck=s.clock:=⟨_,rfl⟩
 rw [← hck]
 have HCK:=LH hck
 have HF2:=LH hf2
 have HF1:=LH hf1
 have KW:Hid (∀ W,Below w.heap.size w W→Calls Tryz.prog 56 #[.slice a n cap] W fun e W'=>∃ a4 c4,e=.returned (.slice a4 n c4)∧W'.ownsRow W.heap.size 65 7 (.slice a4 n c4) n (pl.flatMap wtCs)∧Below W.heap.size W W'):=fun W hW=>by
  have:=cloW_any wtCs_len (WT.out.1.below wtCs_len hW) (wtCs_one WT.out.2) (by rw [HPN.out];exact HF1.out)
  unfold CloEndW at this
  rw [HPN.out] at this
  exact this
 have KD:Hid (∀ W,Below w.heap.size w W→Calls Tryz.prog 57 #[.slice b dn bc] W fun e W'=>∃ a4 c4,e=.returned (.slice a4 dn c4)∧W'.ownsRow W.heap.size 104 2 (.slice a4 dn c4) dn (s.done.flatMap stCells)∧Below W.heap.size W W'):=fun W hW=>by
  have:=cloS_any stCells_len (DD.out.below stCells_len hW) (st_one _) (by rw [← HDN.out];exact HF2.out)
  unfold CloEndS at this
  rw [← HDN.out] at this
  exact this
 clear hwt hd hgi hf3 hn hpn hdn hck hf1 hf2
 go_enter Tryz.func31,Tryz.ntmps31
 go_upto_region 1 with fail
 go_cut [] from 4 to 11 (fun wx=>∃ (a1:Option Addr) (c1:Nat) (b1:Option Addr) (bc1:Nat),Hid (Blk wx w.heap.size 32 [.int .i64 ck,.slice a1 n c1,.slice b1 dn bc1])∧Hid (Blk wx (w.heap.size+1) 32 [.int .i64 0,.slice none 0 0,.slice none 0 0])∧Hid (wx.ownsRow w.heap.size 65 7 (.slice a1 n c1) n (pl.flatMap wtCs))∧Hid (wx.ownsRow w.heap.size 104 2 (.slice b1 dn bc1) dn (s.done.flatMap stCells))∧Hid (Below w.heap.size w wx))
 case first =>
  go_region_with (first
   |(go_at_call 56;refine (KW.out _ (by repeat (first|with_reducible (first|exact HB5.out|exact Below.refl _ _|apply Below.drew|apply below_alloc)|((first|with_reducible refine Below.alloc ?_ ?_ _|with_reducible refine Below.setCell ?_ ?_ _);rotate_left;focus (first|(simp <;> omega)|omega))))).mono ?_;rintro e w4 ⟨a4,c4,rfl,o4,hb⟩;have O4:=LH o4;have HX4:=LH hb;have HB4:Hid (Below w.heap.size w w4):=below_step (by repeat (first|with_reducible (first|exact HB5.out|exact Below.refl _ _|apply Below.drew|apply below_alloc)|((first|with_reducible refine Below.alloc ?_ ?_ _|with_reducible refine Below.setCell ?_ ?_ _);rotate_left;focus (first|(simp <;> omega)|omega)))) hb;have HQ4:Hid (Blk w4 w.heap.size 32 [.int .i64 ck,.slice a n cap,.slice b dn bc]):=LH (Blk.step (by repeat (first|with_reducible exact HQ5.out|((with_reducible apply Blk.new);focus (first|rfl|(simp <;> omega)))|with_reducible (first|apply Blk.drew|apply Blk.alloc|apply Blk.set_)|((with_reducible apply Blk.far);rotate_left;focus (first|(simp <;> omega)|omega)))) hb);have HR4:Hid (Blk w4 (w.heap.size+1) 32 [.int .i64 0,.slice none 0 0,.slice none 0 0]):=LH (Blk.step (by repeat (first|with_reducible exact HR5.out|((with_reducible apply Blk.new);focus (first|rfl|(simp <;> omega)))|with_reducible (first|apply Blk.drew|apply Blk.alloc|apply Blk.set_)|((with_reducible apply Blk.far);rotate_left;focus (first|(simp <;> omega)|omega)))) hb);obtain ⟨m0,m1,m2,mz⟩:=cells3 HQ4.out;clear hb o4)
   |(go_at_call 57;refine (KD.out _ (by repeat (first|with_reducible (first|exact HB4.out|exact Below.refl _ _|apply Below.drew|apply below_alloc)|((first|with_reducible refine Below.alloc ?_ ?_ _|with_reducible refine Below.setCell ?_ ?_ _);rotate_left;focus (first|(simp <;> omega)|omega))))).mono ?_;rintro e w5 ⟨a5,c5,rfl,o5,hb⟩;have O5:=LH o5;have HX5:=LH hb;have HB5:Hid (Below w.heap.size w w5):=below_step (by repeat (first|with_reducible (first|exact HB4.out|exact Below.refl _ _|apply Below.drew|apply below_alloc)|((first|with_reducible refine Below.alloc ?_ ?_ _|with_reducible refine Below.setCell ?_ ?_ _);rotate_left;focus (first|(simp <;> omega)|omega)))) hb;have HQ5:Hid (Blk w5 w.heap.size 32 [.int .i64 ck,.slice a n cap,.slice b dn bc]):=LH (Blk.step (by repeat (first|with_reducible exact HQ4.out|((with_reducible apply Blk.new);focus (first|rfl|(simp <;> omega)))|with_reducible (first|apply Blk.drew|apply Blk.alloc|apply Blk.set_)|((with_reducible apply Blk.far);rotate_left;focus (first|(simp <;> omega)|omega)))) hb);have HR5:Hid (Blk w5 (w.heap.size+1) 32 [.int .i64 0,.slice none 0 0,.slice none 0 0]):=LH (Blk.step (by repeat (first|with_reducible exact HR4.out|((with_reducible apply Blk.new);focus (first|rfl|(simp <;> omega)))|with_reducible (first|apply Blk.drew|apply Blk.alloc|apply Blk.set_)|((with_reducible apply Blk.far);rotate_left;focus (first|(simp <;> omega)|omega)))) hb);obtain ⟨m0,m1,m2,mz⟩:=cells3 HQ5.out;clear hb o5))
  all_goals
   go_wp2_with fail
   go_meet
   case rel =>
    have hrl:=HR5.out.lt
    refine ⟨a4,c4,a5,c5,LH ((HQ5.out.set_ 1 (.slice a4 n c4)).set_ 2 (.slice a5 dn c5)),LH ((HR5.out.far (by omega) _).far (by omega) _),LH ?_,LH ?_,LH ?_⟩
    ·exact row_set2 (ownsRow_le (ownsRow_keep O4.out HX5.out) (by simp;omega)) HQ5.out (by decide)
    ·exact row_set2 (ownsRow_le O5.out HB4.out.size) HQ5.out (by decide)
    ·exact (HB5.out.setCell (Nat.le_refl _) _).setCell (Nat.le_refl _) _
 case rest =>
  obtain ⟨a1,c1,b1,bc1,HQ,HR,OW,OD,HB⟩:=hcut
  clear KW KD
  obtain ⟨m0,m1,m2,mz⟩:=cells3 HQ.out
  obtain ⟨B,hB⟩:∃ B,B=w.heap.size:=⟨_,rfl⟩
  have HBE:=LH hB
  have sl:=HB.out.size
  have ql:=HQ.out.lt
  have rl:=HR.out.lt
  go_wp2_with fail
  go_loopg [3,15] n (fun g _ i wr=>∃ (k:Nat) (ql:List (Value × Wt)),k≤n∧g=n - k∧i=.int .i64 (k:Int)∧Hid (ql.map (·.2)=pl.map (·.2))∧Hid (ql.drop k=pl.drop k)∧Hid (wr.ownsRow w.heap.size 65 7 (.slice a1 n c1) n (ql.flatMap wtCs))∧Hid (∀ p∈ql.take k,OwnI wr w.heap.size p.1 p.2.msg.groups)∧Hid (wr.ownsRow w.heap.size 104 2 (.slice b1 dn bc1) dn (s.done.flatMap stCells))∧Hid (Below w.heap.size w wr) ∧
   Hid (Blk wr w.heap.size 32 [.int .i64 ck,.slice a1 n c1,.slice b1 dn bc1])∧Hid (Blk wr (w.heap.size+1) 32 [.int .i64 0,.slice none 0 0,.slice none 0 0]))
  case atStart=>exact ⟨0,pl,Nat.zero_le _,rfl,rfl,LH rfl,LH rfl,OW,LH (fun p hp=>by simp at hp),OD,HB,HQ,HR⟩
  case round =>
   clear OW OD HB HQ HR m0 m1 m2 mz ql rl sl
   obtain ⟨k,ql,hk,rfl,rfl,HM,HD,OW,OI,OD,HB,HQ,HR⟩:=hrel
   obtain ⟨m0,m1,m2,mz⟩:=cells3 HQ.out
   obtain ⟨r0,r1,r2,rz⟩:=cells3 HR.out
   have sl:=HB.out.size
   have kl:=HQ.out.lt
   have rl:=HR.out.lt
   by_cases hlt:k < n
   ·have hk0:(0:Int)≤(k:Int):=by omega
    have hk1:(k:Int) < (n:Int):=by omega
    obtain ⟨g1,cp,hv⟩:=row_form OW.out (by omega)
    obtain ⟨rfl,rfl⟩:a1=some ⟨g1,0,none⟩∧c1=cp:=by simpa using hv
    clear hv
    have hql:ql.length=n:=by have:=congrArg List.length HM.out;simpa [HPN.out] using this
    have hkp:k < pl.length:=by rw [HPN.out];exact hlt
    have hkq:k < ql.length:=by rw [hql];exact hlt
    have hqk:ql[k]=pl[k]:=by
     have:=congrArg (fun l=>l[0]?) HD.out
     simpa [List.getElem?_drop,hkp,hkq] using this
    obtain ⟨p,hp⟩:∃ p,p=pl[k]:=⟨_,rfl⟩
    have hpm:p∈pl:=by rw [hp];exact List.getElem_mem hkp
    have HPM:=LH hpm
    have HQK:=LH (show ql[k]=p by rw [hqk,hp])
    have hcell:∀ W:World,W.ownsRow w.heap.size 65 7 (.slice (some ⟨g1,0,none⟩) n c1) n (ql.flatMap wtCs)→W.cell? ⟨g1,k * 7+1,none⟩=some p.1:=fun W h=>by
     rw [h.cellAt _ (by omega),flat_get wtCs_len ql k hkq 1 (by omega),HQK.out]
     rfl
    have HC:=LH hcell
    obtain ⟨u,p2⟩:=p
    obtain ⟨ua,ucap,hu,_⟩:=(GI.out _ hpm).shape
    simp only at hu hcell
    subst hu
    obtain ⟨gn,hgn⟩:∃ gn,gn=p2.msg.groups.length:=⟨_,rfl⟩
    have GR:=LH (GI.out _ hpm)
    simp only at GR
    rw [← hgn] at HC hcell GR HQK
    have HGN:=LH hgn
    have KI:Hid (∀ W,Below w.heap.size w W→Calls Tryz.prog 46 #[.slice ua gn ucap] W fun e W'=>∃ a4 c4,e=.returned (.slice a4 gn c4)∧OwnI W' W.heap.size (.slice a4 gn c4) p2.msg.groups∧Below W.heap.size W W'):=fun W hW=>by
     have:=cloI_any (cs:=intCell) (fun _=>rfl) (GR.out.below hW) (by rw [← rowVals_flat];exact rowVals_one' _) (by have:=HF3.out _ HPM.out;exact this)
     unfold CloEndI at this
     rw [← HGN.out,← rowVals_flat] at this
     unfold OwnI
     rw [← HGN.out]
     exact this
    have n1:=hcell _ OW.out
    have nf:=OW.out.frozenAt (k * 7+1)
    have gl:=(OW.out.lt _ rfl).1
    have gl2:=(OW.out.lt _ rfl).2
    have gne:(some g1:Option Nat)≠some w.heap.size:=row_blk OW.out HQ.out (by decide)
    have gne2:(some g1:Option Nat)≠some (w.heap.size+1):=row_blk OW.out HR.out (by decide)
    have hge:w.heap.size≠g1:=fun e=>gne (by rw [e])
    have hge2:w.heap.size+1≠g1:=fun e=>gne2 (by rw [e])
    clear hcell hgn hpm hqk hp gne gne2
    go_wp2_with fail
    go_region_with (go_at_call 46;refine (KI.out _ (by repeat (first|with_reducible (first|exact HB.out|exact Below.refl _ _|apply Below.drew|apply below_alloc)|((first|with_reducible refine Below.alloc ?_ ?_ _|with_reducible refine Below.setCell ?_ ?_ _);rotate_left;focus (first|(simp <;> omega)|omega))))).mono ?_;rintro e w4 ⟨a4,c4,rfl,o4,hb⟩;have O4:=LH o4;have HX4:Hid (Below wr.heap.size wr w4):=below_step (by repeat (first|with_reducible (first|exact Below.refl _ _|apply Below.drew|apply below_alloc)|((first|with_reducible refine Below.alloc ?_ ?_ _|with_reducible refine Below.setCell ?_ ?_ _);rotate_left;focus (first|(simp <;> omega)|omega)))) hb;have HQ4:=LH (HQ.out.step HX4.out);have OW4:=LH (ownsRow_keep OW.out HX4.out);obtain ⟨v0,v1,v2,vz⟩:=cells3 HQ4.out;have n4:=HC.out _ OW4.out;have nf4:=OW4.out.frozenAt (k * 7+1);have sl4:=HX4.out.size;clear hb o4)
    all_goals
     go_wp2_with fail
     go_roundg (n - (k+1))
     case measure=>omega
     case rel =>
      have st:=OW4.out.stored (k * 7+1) (.slice a4 gn c4)
      refine ⟨k+1,ql.set k (.slice a4 gn c4,p2),by omega,rfl,by go_num,LH ?_,LH ?_,LH ?_,LH ?_,LH ?_,LH ?_,LH ?_,LH ?_⟩
      ·rw [← HM.out]
       apply List.ext_getElem?
       intro j
       simp only [List.getElem?_map,List.getElem?_set]
       by_cases hj:k=j
       ·subst hj
        simp [hkq,HQK.out]
       ·simp [hj]
      ·rw [List.drop_set_of_lt (by omega)]
       have:=congrArg (List.drop 1) HD.out
       simpa [List.drop_drop] using this
      ·rw [← flat7_set ql k 1 (.slice a4 gn c4) (.slice a4 gn c4,p2) hkq (by omega) (by rw [HQK.out];rfl)]
       exact st.1
      ·intro q hq
       have hcs:q∈ql.take k∨q=(.slice a4 gn c4,p2):=by
        rw [List.take_succ_eq_append_getElem (by simpa using hkq)] at hq
        rcases List.mem_append.1 hq with hq|hq
        ·left
         rw [List.take_set_of_le (Nat.le_refl _)] at hq
         exact hq
        ·right
         simpa using hq
       rcases hcs with hq|rfl
       ·have h0:=ownsRow_keep (OI.out q hq) HX4.out
        exact ownsRow_grown' h0 st.2 (fun j hj=>rows_ne h0 OW4.out (by decide) hj)
       ·have h0:OwnI w4 w.heap.size (.slice a4 gn c4) p2.msg.groups:=O4.out.le (by simp;omega)
        exact ownsRow_grown' h0 st.2 (fun j hj=>rows_ne h0 OW4.out (by decide) hj)
      ·have h0:=ownsRow_keep OD.out HX4.out
       exact ownsRow_grown' h0 st.2 (fun j hj=>rows_ne h0 OW4.out (by decide) hj)
      ·exact (Below.step HB.out HX4.out sl).setCell gl _
      ·exact HQ4.out.far hge _
      ·exact (HR.out.step HX4.out).far hge2 _
   ·obtain rfl:k=n:=by omega
    have hlt':¬ (k:Int) < (k:Int):=by omega
    go_wp2_with fail
    obtain ⟨t0,t1,t2,-⟩:=cells3 (((HR.out.set_ 0 (.int .i64 ck)).set_ 1 (.slice a1 k c1)).set_ 2 (.slice b1 dn bc1))
    refine bodyPost_ret (v:=.agg #[.int .i64 ck,.slice a1 k c1,.slice b1 dn bc1]) (by simp [results,Tryz.results31,go_sem,t0,t1,t2]) rfl ⟨_,rfl,?_,?_⟩
    ·have hfar:∀ b,b≠w.heap.size+1→(((wr.setCell ⟨w.heap.size+1,0,none⟩ (.int .i64 ck)).setCell ⟨w.heap.size+1,1,none⟩ (.slice a1 k c1)).setCell ⟨w.heap.size+1,2,none⟩ (.slice b1 dn bc1)).heap[b]?=wr.heap[b]?:=fun b hb=>(heap_set _ _ _ _ b hb).trans ((heap_set _ _ _ _ b hb).trans (heap_set _ _ _ _ b hb))
     have hql:ql.length=k:=by have:=congrArg List.length HM.out;simpa [HPN.out] using this
     refine ⟨a1,c1,b1,bc1,by rw [← HCK.out,← HN.out,← HDN.out],⟨ql,by rw [HM.out,HPL.out],?_,fun p hp=>?_⟩,?_⟩
     ·rw [← HN.out]
      exact row_far OW.out hfar (row_blk OW.out HR.out (by decide))
     ·have h0:=OI.out p (by rw [List.take_of_length_le (by omega)];exact hp)
      exact row_far h0 hfar (row_blk h0 HR.out (by decide))
     ·unfold OwnD
      rw [← HDN.out]
      exact row_far OD.out hfar (row_blk OD.out HR.out (by decide))
    ·exact ((HB.out.setCell (by simp) _).setCell (by simp) _).setCell (by simp) _
def insW {α:Type} (l:List α) (k:Nat) (x:α):List α:=l.take k++x :: l.drop k
theorem insW_len {α:Type} {l:List α} {k:Nat} {x:α} (h:k≤l.length):(insW l k x).length=l.length+1:=by
 simp [insW];omega
theorem insW_map {α β:Type} (f:α→β) (l:List α) (k:Nat) (x:α):(insW l k x).map f=insW (l.map f) k (f x):=by
 simp [insW,List.map_take,List.map_drop]
theorem insW_mem {α:Type} {l:List α} {k:Nat} {x y:α} (h:y∈insW l k x):y=x∨y∈l:=by
 rcases List.mem_append.1 h with h|h
 ·exact Or.inr (List.mem_of_mem_take h)
 ·rcases List.mem_cons.1 h with h|h
  ·exact Or.inl h
  ·exact Or.inr (List.mem_of_mem_drop h)
theorem flat_take {α:Type} {f:α→List Value} {s:Nat} (hf:∀ x,(f x).length=s):∀ (l:List α) (k:Nat),(l.flatMap f).take (k * s)=(l.take k).flatMap f
 |[],k=>by simp
 |x :: l,0=>by simp
 |x :: l,k+1=>by
  have e:(k+1) * s=(f x).length+k * s:=by rw [hf,Nat.add_mul];omega
  rw [List.flatMap_cons,e,List.take_length_add_append,flat_take hf l k,List.take_succ_cons,List.flatMap_cons]
theorem flat_drop {α:Type} {f:α→List Value} {s:Nat} (hf:∀ x,(f x).length=s):∀ (l:List α) (k:Nat),(l.flatMap f).drop (k * s)=(l.drop k).flatMap f
 |[],k=>by simp
 |x :: l,0=>by simp
 |x :: l,k+1=>by
  have e:(k+1) * s=(f x).length+k * s:=by rw [hf,Nat.add_mul];omega
  rw [List.flatMap_cons,e,List.drop_length_add_append,flat_drop hf l k,List.drop_succ_cons]
theorem putIn_flat {α:Type} {f:α→List Value} {s:Nat} (hf:∀ x,(f x).length=s) (l:List α) (k:Nat) (x:α):putIn (l.flatMap f) (k * s) (f x)=(insW l k x).flatMap f:=by
 rw [putIn,flat_take hf,flat_drop hf,insW,List.flatMap_append,List.flatMap_cons,List.append_assoc]
def CkR (W:World) (B g:Nat) (s:Sk) (pl:List (Value × Wt)) (a1:Option Addr) (c1:Nat) (b1:Option Addr) (d1:Nat):Prop :=
 pl.map (·.2)=s.waits∧Blk W g 130 [.int .i64 s.clock,.slice a1 s.waits.length c1,.slice b1 s.done.length d1]∧W.ownsRow B 65 7 (.slice a1 s.waits.length c1) s.waits.length (pl.flatMap wtCs)∧(∀ p∈pl,OwnI W B p.1 p.2.msg.groups)∧OwnD W B (.slice b1 s.done.length d1) s.done
def Ck (W:World) (B g:Nat) (s:Sk):Prop:=∃ pl a1 c1 b1 d1,CkR W B g s pl a1 c1 b1 d1
theorem CkR.keep {W W':World} {B g:Nat} {s:Sk} {pl:List (Value × Wt)} {a1 b1:Option Addr} {c1 d1:Nat} (h:CkR W B g s pl a1 c1 b1 d1) (hb:Below W.heap.size W W'):CkR W' B g s pl a1 c1 b1 d1 :=
 ⟨h.1,h.2.1.step hb,ownsRow_keep h.2.2.1 hb,fun p hp=>ownsRow_keep (h.2.2.2.1 p hp) hb,h.2.2.2.2.keep hb⟩
theorem CkR.wts {W:World} {B g:Nat} {s:Sk} {pl:List (Value × Wt)} {a1 b1:Option Addr} {c1 d1:Nat} (h:CkR W B g s pl a1 c1 b1 d1):WtsR W (.slice a1 s.waits.length c1) pl:=by
 have hl:pl.length=s.waits.length:=by rw [← h.1,List.length_map]
 refine ⟨?_,fun p hp=>isSl_own (h.2.2.2.1 p hp)⟩
 have:=h.2.2.1
 rw [← hl] at this ⊢
 exact sliceR_of_owns wtCs_len this
theorem CkR.far {W:World} {B g k o:Nat} {s:Sk} {pl:List (Value × Wt)} {a1 b1:Option Addr} {c1 d1:Nat} {t:TypeId} {cs:List Value} {u:Value} (h:CkR W B g s pl a1 c1 b1 d1) (hb:Blk W k t cs) (h1:130≠t) (h2:65≠t) (h3:3≠t) (h4:104≠t):CkR (W.setCell ⟨k,o,none⟩ u) B g s pl a1 c1 b1 d1:=by
 have hk:g≠k:=fun e=>by
  subst e
  have:=h.2.1.symm.trans hb
  simp at this
  exact h1 this.2
 exact ⟨h.1,h.2.1.far hk _,row_far h.2.2.1 (heap_set _ _ _ _) (row_blk h.2.2.1 hb h2),fun p hp=>row_far (h.2.2.2.1 p hp) (heap_set _ _ _ _) (row_blk (h.2.2.2.1 p hp) hb h3),row_far h.2.2.2.2 (heap_set _ _ _ _) (row_blk h.2.2.2.2 hb h4)⟩
theorem CkR.tick {W:World} {B g:Nat} {s:Sk} {pl:List (Value × Wt)} {a1 b1:Option Addr} {c1 d1:Nat} (c:Int) (h:CkR W B g s pl a1 c1 b1 d1):CkR (W.setCell ⟨g,0,none⟩ (.int .i64 c)) B g ⟨c,s.waits,s.done⟩ pl a1 c1 b1 d1 :=
 ⟨h.1,h.2.1.set_ 0 _,row_far h.2.2.1 (heap_set _ _ _ _) (row_blk h.2.2.1 h.2.1 (by decide)),fun p hp=>row_far (h.2.2.2.1 p hp) (heap_set _ _ _ _) (row_blk (h.2.2.2.1 p hp) h.2.1 (by decide)),row_far h.2.2.2.2 (heap_set _ _ _ _) (row_blk h.2.2.2.2 h.2.1 (by decide))⟩
theorem CkR.waits {W W1:World} {B g n:Nat} {s:Sk} {pl ql:List (Value × Wt)} {a1 b1 a2:Option Addr} {c1 c2 d1:Nat} {l:List Wt} (h:CkR W B g s pl a1 c1 b1 d1) (hg:W.grownBy W1 (Value.ownBlock (.slice a1 s.waits.length c1)))
  (h1:ql.map (·.2)=l) (hn:n=l.length) (h2:W1.ownsRow B 65 7 (.slice a2 n c2) n (ql.flatMap wtCs)) (h3:∀ p∈ql,OwnI W B p.1 p.2.msg.groups):CkR (W1.setCell ⟨g,1,none⟩ (.slice a2 n c2)) B g ⟨s.clock,l,s.done⟩ ql a2 c2 b1 d1:=by
 subst hn
 obtain ⟨_,e2,e3,e4,e5⟩:=h
 have q1:Blk W1 g 130 [.int .i64 s.clock,.slice a1 s.waits.length c1,.slice b1 s.done.length d1]:=e2.grown hg (row_blk e3 e2 (by decide))
 have i1:∀ p∈ql,OwnI W1 B p.1 p.2.msg.groups:=fun p hp=>ownsRow_grown' (h3 p hp) hg (fun _ hk=>rows_ne (h3 p hp) e3 (by decide) hk)
 have d1':OwnD W1 B (.slice b1 s.done.length d1) s.done:=e5.row e3 hg (by decide)
 exact ⟨h1,q1.set_ 1 _,row_far h2 (heap_set _ _ _ _) (row_blk h2 q1 (by decide)),fun p hp=>row_far (i1 p hp) (heap_set _ _ _ _) (row_blk (i1 p hp) q1 (by decide)),row_far d1' (heap_set _ _ _ _) (row_blk d1' q1 (by decide))⟩
end Go.Proofs.YtkkohllhebdlcaaGreatDoor
