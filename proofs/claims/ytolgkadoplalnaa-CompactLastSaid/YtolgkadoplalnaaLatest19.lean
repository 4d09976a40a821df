/-
  compact.Latest. No condition but that the topic reads.
-/
import Derived.Test.YtolgkadoplalnaaLatP
import Derived.Test.YtolgkadoplalnaaBack19
import Derived.Test.YtolgkadoplalnaaOver
namespace Go.Proofs.Ytolgkadoplalnaa
open Go.RowKit Go.Shelf

attribute [local go_sem] Oper.semAt_some

set_option maxHeartbeats 2000000 in
set_option maxRecDepth 100000 in
theorem latest_bad {v : Value} {t : Top} {w : World} (key : ByteArray) (below : Int) (h : TopR w v t) (hk : ∀ x ∈ t.ents, x.key.size ≤ maxLen) (hm : ¬ t.may) :
    Calls Try.prog 25 #[v, .string key, .int .i64 below] w (LatEnd default false 8 w) := by
  have T := Lib.hid h
  have HK := Lib.hid hk
  have HM := Lib.hid hm
  obtain ⟨a, cap, rfl, _⟩ := h
  clear hk hm
  go_enter Try.func25, Try.ntmps25
  go_wp2_with fail
  refine Calls.mono (check_no ?_ HK.out HM.out) ?_
  · exact T.out.below (by repeat (first | (with_reducible exact Below.refl _ _) | (with_reducible exact Below.refl _ _) | (with_reducible apply Below.drew) | (with_reducible apply below_alloc) | ((with_reducible refine Below.alloc ?_ ?_ _); rotate_left; focus (first | (simp; done) | (simp; omega) | omega)) | ((with_reducible refine Below.setCell ?_ ?_ _); rotate_left; focus (first | (simp; done) | (simp; omega) | omega))))
  rintro e w2 ⟨rfl, hb⟩
  have HB : Hid (Below w.heap.size w _) := below_step (by repeat (first | (with_reducible exact Below.refl _ _) | (with_reducible exact Below.refl _ _) | (with_reducible apply Below.drew) | (with_reducible apply below_alloc) | ((with_reducible refine Below.alloc ?_ ?_ _); rotate_left; focus (first | (simp; done) | (simp; omega) | omega)) | ((with_reducible refine Below.setCell ?_ ?_ _); rotate_left; focus (first | (simp; done) | (simp; omega) | omega)))) hb
  have X : Blk _ (w.heap.size + 3) _ _ := Blk.step (by repeat (first | ((with_reducible apply Blk.new); focus (first | rfl | (simp; done) | (simp; omega))) | (with_reducible apply Blk.drew) | (with_reducible apply Blk.alloc) | (with_reducible apply Blk.set_) | ((with_reducible apply Blk.far); rotate_left; focus (first | (simp; done) | (simp; omega) | omega)))) hb
  obtain ⟨x0, x1, x2, x3, xz⟩ := cells4 X
  have xl := Blk.lt X
  have HX := Lib.hid X
  clear X
  have Y : Blk _ (w.heap.size + 4) _ _ := Blk.step (by repeat (first | ((with_reducible apply Blk.new); focus (first | rfl | (simp; done) | (simp; omega))) | (with_reducible apply Blk.drew) | (with_reducible apply Blk.alloc) | (with_reducible apply Blk.set_) | ((with_reducible apply Blk.far); rotate_left; focus (first | (simp; done) | (simp; omega) | omega)))) hb
  obtain ⟨y0, yz⟩ := cells1 Y
  have yl := Blk.lt Y
  have HY := Lib.hid Y
  clear Y
  have Z : Blk _ (w.heap.size + 5) _ _ := Blk.step (by repeat (first | ((with_reducible apply Blk.new); focus (first | rfl | (simp; done) | (simp; omega))) | (with_reducible apply Blk.drew) | (with_reducible apply Blk.alloc) | (with_reducible apply Blk.set_) | ((with_reducible apply Blk.far); rotate_left; focus (first | (simp; done) | (simp; omega) | omega)))) hb
  obtain ⟨z0, zz⟩ := cells1 Z
  have zl := Blk.lt Z
  have HZ := Lib.hid Z
  clear Z
  clear hb
  go_wp2_with fail
  refine bodyPost_ret (v := .tuple #[.agg #[.int .i64 0, .int .i64 0, .string ⟨#[]⟩, .string ⟨#[]⟩], .bool false, .int .i64 8]) (by simp [results, Try.results25, go_sem, x0, x1, x2, x3, y0, z0]) rfl ⟨rfl, ?_⟩
  repeat (first | (with_reducible exact HB.out) | (with_reducible exact Below.refl _ _) | (with_reducible apply Below.drew) | (with_reducible apply below_alloc) | ((with_reducible refine Below.alloc ?_ ?_ _); rotate_left; focus (first | (simp; done) | (simp; omega) | omega)) | ((with_reducible refine Below.setCell ?_ ?_ _); rotate_left; focus (first | (simp; done) | (simp; omega) | omega)))

set_option maxHeartbeats 2000000 in
set_option maxRecDepth 100000 in
theorem latest_long {v : Value} {t : Top} {w : World} (key : ByteArray) (below : Int) (h : TopR w v t) (hk : ∀ x ∈ t.ents, x.key.size ≤ maxLen) (hm : t.may) (hl : (16 : Int) < (key.size : Int)) :
    Calls Try.prog 25 #[v, .string key, .int .i64 below] w (LatEnd default false 3 w) := by
  have T := Lib.hid h
  have HK := Lib.hid hk
  have HM := Lib.hid hm
  obtain ⟨a, cap, rfl, _⟩ := h
  clear hk hm
  go_enter Try.func25, Try.ntmps25
  go_wp2_with fail
  refine Calls.mono (check_yes ?_ HK.out HM.out) ?_
  · exact T.out.below (by repeat (first | (with_reducible exact Below.refl _ _) | (with_reducible exact Below.refl _ _) | (with_reducible apply Below.drew) | (with_reducible apply below_alloc) | ((with_reducible refine Below.alloc ?_ ?_ _); rotate_left; focus (first | (simp; done) | (simp; omega) | omega)) | ((with_reducible refine Below.setCell ?_ ?_ _); rotate_left; focus (first | (simp; done) | (simp; omega) | omega))))
  rintro e w2 ⟨rfl, hb⟩
  have HB : Hid (Below w.heap.size w _) := below_step (by repeat (first | (with_reducible exact Below.refl _ _) | (with_reducible exact Below.refl _ _) | (with_reducible apply Below.drew) | (with_reducible apply below_alloc) | ((with_reducible refine Below.alloc ?_ ?_ _); rotate_left; focus (first | (simp; done) | (simp; omega) | omega)) | ((with_reducible refine Below.setCell ?_ ?_ _); rotate_left; focus (first | (simp; done) | (simp; omega) | omega)))) hb
  have K : Blk _ (w.heap.size + 1) _ _ := Blk.step (by repeat (first | ((with_reducible apply Blk.new); focus (first | rfl | (simp; done) | (simp; omega))) | (with_reducible apply Blk.drew) | (with_reducible apply Blk.alloc) | (with_reducible apply Blk.set_) | ((with_reducible apply Blk.far); rotate_left; focus (first | (simp; done) | (simp; omega) | omega)))) hb
  obtain ⟨k0, kz⟩ := cells1 K
  have kl := Blk.lt K
  have HK := Lib.hid K
  clear K
  have X : Blk _ (w.heap.size + 3) _ _ := Blk.step (by repeat (first | ((with_reducible apply Blk.new); focus (first | rfl | (simp; done) | (simp; omega))) | (with_reducible apply Blk.drew) | (with_reducible apply Blk.alloc) | (with_reducible apply Blk.set_) | ((with_reducible apply Blk.far); rotate_left; focus (first | (simp; done) | (simp; omega) | omega)))) hb
  obtain ⟨x0, x1, x2, x3, xz⟩ := cells4 X
  have xl := Blk.lt X
  have HX := Lib.hid X
  clear X
  have Y : Blk _ (w.heap.size + 4) _ _ := Blk.step (by repeat (first | ((with_reducible apply Blk.new); focus (first | rfl | (simp; done) | (simp; omega))) | (with_reducible apply Blk.drew) | (with_reducible apply Blk.alloc) | (with_reducible apply Blk.set_) | ((with_reducible apply Blk.far); rotate_left; focus (first | (simp; done) | (simp; omega) | omega)))) hb
  obtain ⟨y0, yz⟩ := cells1 Y
  have yl := Blk.lt Y
  have HY := Lib.hid Y
  clear Y
  have Z : Blk _ (w.heap.size + 5) _ _ := Blk.step (by repeat (first | ((with_reducible apply Blk.new); focus (first | rfl | (simp; done) | (simp; omega))) | (with_reducible apply Blk.drew) | (with_reducible apply Blk.alloc) | (with_reducible apply Blk.set_) | ((with_reducible apply Blk.far); rotate_left; focus (first | (simp; done) | (simp; omega) | omega)))) hb
  obtain ⟨z0, zz⟩ := cells1 Z
  have zl := Blk.lt Z
  have HZ := Lib.hid Z
  clear Z
  clear hb
  go_wp2_with fail
  refine bodyPost_ret (v := .tuple #[.agg #[.int .i64 0, .int .i64 0, .string ⟨#[]⟩, .string ⟨#[]⟩], .bool false, .int .i64 3]) (by simp [results, Try.results25, go_sem, x0, x1, x2, x3, y0, z0]) rfl ⟨rfl, ?_⟩
  repeat (first | (with_reducible exact HB.out) | (with_reducible exact Below.refl _ _) | (with_reducible apply Below.drew) | (with_reducible apply below_alloc) | ((with_reducible refine Below.alloc ?_ ?_ _); rotate_left; focus (first | (simp; done) | (simp; omega) | omega)) | ((with_reducible refine Below.setCell ?_ ?_ _); rotate_left; focus (first | (simp; done) | (simp; omega) | omega)))

theorem down_all (l : List Ent) : (down l l.length).map (·.2) = l.reverse := by
  apply List.ext_getElem
  · simp [down]
  · intro i h1 h2
    have : i < l.length := by simpa using h2
    have h3 : l.length - 1 - i < l.length := by omega
    simp [down, List.getD, h3]
theorem down_pre (l : List Ent) {k : Nat} (hk : k ≤ l.length) : (down l k).map (·.2) = l.reverse.take k := by
  apply List.ext_getElem
  · simp [down]; omega
  · intro i h1 h2
    have : i < k := by simp [down] at h1; exact h1
    have h3 : l.length - 1 - i < l.length := by omega
    simp [down, List.getD, h3]

/-- What the loop's own cells hold between two rounds; when a round has left. -/
def LatI (w : World) (Bs : Nat) (sv : Value) (key : ByteArray) (below : Int) (pre : List (Int × Ent)) (W : World) : Prop :=
  (Blk W (w.heap.size + 1) 9 [.string key] ∧ Blk W (w.heap.size + 2) 3 [.int .i64 below] ∧ Blk W (w.heap.size + 3) 38 [.int .i64 0, .int .i64 0, .string ⟨#[]⟩, .string ⟨#[]⟩] ∧ Blk W (w.heap.size + 4) 4 [.bool false] ∧ Blk W (w.heap.size + 5) 27 [.int .i64 0] ∧ Blk W Bs 22 [sv] ∧ (pre.map (·.2)).find? (wantE key below) = none) ∧ Below w.heap.size w W
def LatX (w : World) (key : ByteArray) (below : Int) (c : Code) (pre : List (Int × Ent)) (W : World) : Prop :=
  (c = .ret ∧ ∃ x, (pre.map (·.2)).find? (wantE key below) = some x ∧ Blk W (w.heap.size + 3) 38 (entCells x) ∧ Blk W (w.heap.size + 4) 4 [.bool true] ∧ Blk W (w.heap.size + 5) 27 [.int .i64 0]) ∧ Below w.heap.size w W
theorem latI_own {w : World} {Bs B : Nat} {sv : Value} {key : ByteArray} {below : Int} (hB : w.heap.size ≤ B) : OwnFrom B (LatI w Bs sv key below) := fun s W W' row hs hg hr => by
  have hr' : ∀ r, row = some r → ∃ o : Obj, W.heap[r]? = some o ∧ o.isCells = false := fun r e => (hr r e).2
  obtain ⟨⟨h1, h2, h3, h4, h5, h6, h7⟩, h8⟩ := hs
  exact ⟨⟨blk_row h1 hg hr', blk_row h2 hg hr', blk_row h3 hg hr', blk_row h4 hg hr', blk_row h5 hg hr', blk_row h6 hg hr', h7⟩, h8.grown hg h8.size (fun k e => Nat.le_trans hB (hr k e).1)⟩
theorem latX_own {w : World} {B : Nat} {key : ByteArray} {below : Int} (hB : w.heap.size ≤ B) (c : Code) : OwnFrom B (LatX w key below c) := fun s W W' row hs hg hr => by
  have hr' : ∀ r, row = some r → ∃ o : Obj, W.heap[r]? = some o ∧ o.isCells = false := fun r e => (hr r e).2
  obtain ⟨⟨h1, x, h2, h3, h4, h5⟩, h8⟩ := hs
  exact ⟨⟨h1, x, h2, blk_row h3 hg hr', blk_row h4 hg hr', blk_row h5 hg hr'⟩, h8.grown hg h8.size (fun k e => Nat.le_trans hB (hr k e).1)⟩

/-- Behind the stores into the three results. -/
theorem lat_stores {W : World} {g tx ty tz : Nat} {a0 a1 a2 a3 b c x0 x1 x2 x3 y z : Value} (hX : Blk W (g + 3) tx [a0, a1, a2, a3]) (hY : Blk W (g + 4) ty [b]) (hZ : Blk W (g + 5) tz [c]) :
    Blk ((((((W.setCell ⟨g + 3, 0, none⟩ x0).setCell ⟨g + 3, 1, none⟩ x1).setCell ⟨g + 3, 2, none⟩ x2).setCell ⟨g + 3, 3, none⟩ x3).setCell ⟨g + 4, 0, none⟩ y).setCell ⟨g + 5, 0, none⟩ z) (g + 3) tx [x0, x1, x2, x3] ∧
    Blk ((((((W.setCell ⟨g + 3, 0, none⟩ x0).setCell ⟨g + 3, 1, none⟩ x1).setCell ⟨g + 3, 2, none⟩ x2).setCell ⟨g + 3, 3, none⟩ x3).setCell ⟨g + 4, 0, none⟩ y).setCell ⟨g + 5, 0, none⟩ z) (g + 4) ty [y] ∧
    Blk ((((((W.setCell ⟨g + 3, 0, none⟩ x0).setCell ⟨g + 3, 1, none⟩ x1).setCell ⟨g + 3, 2, none⟩ x2).setCell ⟨g + 3, 3, none⟩ x3).setCell ⟨g + 4, 0, none⟩ y).setCell ⟨g + 5, 0, none⟩ z) (g + 5) tz [z] ∧
    KeepsOthers W ((((((W.setCell ⟨g + 3, 0, none⟩ x0).setCell ⟨g + 3, 1, none⟩ x1).setCell ⟨g + 3, 2, none⟩ x2).setCell ⟨g + 3, 3, none⟩ x3).setCell ⟨g + 4, 0, none⟩ y).setCell ⟨g + 5, 0, none⟩ z) := by
  have h0 := (((hX.set_ 0 x0).set_ 1 x1).set_ 2 x2).set_ 3 x3
  simp only [List.set_cons_zero, List.set_cons_succ] at h0
  have g0 := (((hY.far (b := g + 3) (o := 0) (by omega) x0).far (b := g + 3) (o := 1) (by omega) x1).far (b := g + 3) (o := 2) (by omega) x2).far (b := g + 3) (o := 3) (by omega) x3
  have g1 := g0.set_ 0 y
  simp only [List.set_cons_zero] at g1
  have k0 := (((hZ.far (b := g + 3) (o := 0) (by omega) x0).far (b := g + 3) (o := 1) (by omega) x1).far (b := g + 3) (o := 2) (by omega) x2).far (b := g + 3) (o := 3) (by omega) x3
  have k1 := (k0.far (b := g + 4) (o := 0) (by omega) y).set_ 0 z
  simp only [List.set_cons_zero] at k1
  refine ⟨(h0.far (b := g + 4) (o := 0) (by omega) y).far (b := g + 5) (o := 0) (by omega) z, g1.far (b := g + 5) (o := 0) (by omega) z, k1, ?_⟩
  exact (((((KeepsOthers.setCell _ _ _).trans (KeepsOthers.setCell _ _ _)).trans (KeepsOthers.setCell _ _ _)).trans (KeepsOthers.setCell _ _ _)).trans (KeepsOthers.setCell _ _ _)).trans (KeepsOthers.setCell _ _ _)

/-- The end of the call. -/
theorem lat_end {n : Nat} {w W : World} {a : Act} {D : Nat} {x : Ent} {b : Bool} {X : Ent} {B : Bool} (hD : w.heap.size ≤ D) (hf : a.defers = [{ target := .collected D, args := #[] }]) (h6 : a.tmps[6]?.getD undef = .pointer (some ⟨w.heap.size + 3, 0, none⟩)) (h7 : a.tmps[7]?.getD undef = .pointer (some ⟨w.heap.size + 4, 0, none⟩)) (h8 : a.tmps[8]?.getD undef = .pointer (some ⟨w.heap.size + 5, 0, none⟩))
    (hX : Blk W (w.heap.size + 3) 38 (entCells x)) (hY : Blk W (w.heap.size + 4) 4 [.bool b]) (hZ : Blk W (w.heap.size + 5) 27 [.int .i64 0]) (hB : Below w.heap.size w W) (hKD : W.heap[D]? = some (.deferred (some []))) (e1 : X = x) (e2 : B = b) :
    bodyPostM Fence.wide n Try.prog Try.f25 (LatEnd X B 0 w) Exit.ret a W := by
  subst e1 e2
  obtain ⟨tm, df⟩ := a
  simp only at hf h6 h7 h8
  subst hf
  have pr : ∀ r, some D = some r → ∃ o : Obj, W.heap[r]? = some o ∧ o.isCells = false := fun r e => by cases e; exact ⟨_, hKD, rfl⟩
  obtain ⟨x0, x1, x2, x3, xz⟩ := cells4 (blk_row hX (grownBy_putObj' W D (.deferred none)) pr)
  obtain ⟨y0, yz⟩ := cells1 (blk_row hY (grownBy_putObj' W D (.deferred none)) pr)
  obtain ⟨z0, zz⟩ := cells1 (blk_row hZ (grownBy_putObj' W D (.deferred none)) pr)
  refine ⟨by simp, .inl ⟨_, _, rfl, run_takeDeferred hKD, ?_⟩⟩
  refine ⟨.tuple #[.agg #[.int .i64 X.off, .int .i64 X.id, .string X.key, .string X.body], .bool B, .int .i64 0], ?_, rfl, hB.trans (belowK_b (w := w) (Nat.le_refl _) W D _ _ hD hKD rfl rfl)⟩
  simp [results, Try.results25, go_sem, x0, x1, x2, x3, y0, z0, h6, h7, h8]

set_option maxHeartbeats 4000000 in
set_option maxRecDepth 100000 in
theorem latest_yes {v : Value} {t : Top} {w : World} (key : ByteArray) (below : Int) (h : TopR w v t) (hk : ∀ x ∈ t.ents, x.key.size ≤ maxLen) (hm : t.may) (hl : (key.size : Int) ≤ 16) :
    Calls Try.prog 25 #[v, .string key, .int .i64 below] w (LatEnd (lastP t.ents key below).1 (lastP t.ents key below).2 0 w) := by
  have T := Lib.hid h
  have HKK := Lib.hid hk
  have HM := Lib.hid hm
  have HLE := Lib.hid (show t.ents.length ≤ 1000000 by have := hm.1.2.2.2.2.2.2; omega)
  obtain ⟨a, cap, rfl, hs⟩ := h
  have HS := Lib.hid hs
  clear hk hm hs
  refine (callsIn_wide (n := 4)).1 ?_
  refine callsIn_of_wp_marks Try.func25 rfl trivial ?_ rfl
  simp only [Try.ntmps25, List.size_toArray, List.length_cons, List.length_nil, Nat.reduceAdd, Nat.reduceSub, Array.replicate_succ, Array.replicate_zero, List.push_toArray, List.append_toArray, List.nil_append, List.cons_append]
  gi_wp2_with fail
  refine ⟨trivial, ?_⟩
  refine CallsIn.mono (callsIn_wide.2 (check_yes (t := t) ?_ HKK.out HM.out)) ?_
  · exact T.out.below (by repeat (first | (with_reducible exact Below.refl _ _) | (with_reducible exact Below.refl _ _) | (with_reducible apply Below.drew) | (with_reducible apply below_alloc) | ((with_reducible refine Below.alloc ?_ ?_ _); rotate_left; focus (first | (simp; done) | (simp; omega) | omega)) | ((with_reducible refine Below.setCell ?_ ?_ _); rotate_left; focus (first | (simp; done) | (simp; omega) | omega))))
  rintro e w2 ⟨rfl, hb⟩
  have HB : Hid (Below w.heap.size w _) := below_step (by repeat (first | (with_reducible exact Below.refl _ _) | (with_reducible exact Below.refl _ _) | (with_reducible apply Below.drew) | (with_reducible apply below_alloc) | ((with_reducible refine Below.alloc ?_ ?_ _); rotate_left; focus (first | (simp; done) | (simp; omega) | omega)) | ((with_reducible refine Below.setCell ?_ ?_ _); rotate_left; focus (first | (simp; done) | (simp; omega) | omega)))) hb
  have A : Blk _ (w.heap.size) _ _ := Blk.step (by repeat (first | ((with_reducible apply Blk.new); focus (first | rfl | (simp; done) | (simp; omega))) | (with_reducible apply Blk.drew) | (with_reducible apply Blk.alloc) | (with_reducible apply Blk.set_) | ((with_reducible apply Blk.far); rotate_left; focus (first | (simp; done) | (simp; omega) | omega)))) hb
  obtain ⟨a0, a1, a2, a3, az⟩ := cells4 A
  have al := Blk.lt A
  have HA := Lib.hid A
  clear A
  have K : Blk _ (w.heap.size + 1) _ _ := Blk.step (by repeat (first | ((with_reducible apply Blk.new); focus (first | rfl | (simp; done) | (simp; omega))) | (with_reducible apply Blk.drew) | (with_reducible apply Blk.alloc) | (with_reducible apply Blk.set_) | ((with_reducible apply Blk.far); rotate_left; focus (first | (simp; done) | (simp; omega) | omega)))) hb
  obtain ⟨k0, kz⟩ := cells1 K
  have kl := Blk.lt K
  have HK := Lib.hid K
  clear K
  have L : Blk _ (w.heap.size + 2) _ _ := Blk.step (by repeat (first | ((with_reducible apply Blk.new); focus (first | rfl | (simp; done) | (simp; omega))) | (with_reducible apply Blk.drew) | (with_reducible apply Blk.alloc) | (with_reducible apply Blk.set_) | ((with_reducible apply Blk.far); rotate_left; focus (first | (simp; done) | (simp; omega) | omega)))) hb
  obtain ⟨l0, lz⟩ := cells1 L
  have ll := Blk.lt L
  have HL := Lib.hid L
  clear L
  have X : Blk _ (w.heap.size + 3) _ _ := Blk.step (by repeat (first | ((with_reducible apply Blk.new); focus (first | rfl | (simp; done) | (simp; omega))) | (with_reducible apply Blk.drew) | (with_reducible apply Blk.alloc) | (with_reducible apply Blk.set_) | ((with_reducible apply Blk.far); rotate_left; focus (first | (simp; done) | (simp; omega) | omega)))) hb
  obtain ⟨x0, x1, x2, x3, xz⟩ := cells4 X
  have xl := Blk.lt X
  have HX := Lib.hid X
  clear X
  have Y : Blk _ (w.heap.size + 4) _ _ := Blk.step (by repeat (first | ((with_reducible apply Blk.new); focus (first | rfl | (simp; done) | (simp; omega))) | (with_reducible apply Blk.drew) | (with_reducible apply Blk.alloc) | (with_reducible apply Blk.set_) | ((with_reducible apply Blk.far); rotate_left; focus (first | (simp; done) | (simp; omega) | omega)))) hb
  obtain ⟨y0, yz⟩ := cells1 Y
  have yl := Blk.lt Y
  have HY := Lib.hid Y
  clear Y
  have Z : Blk _ (w.heap.size + 5) _ _ := Blk.step (by repeat (first | ((with_reducible apply Blk.new); focus (first | rfl | (simp; done) | (simp; omega))) | (with_reducible apply Blk.drew) | (with_reducible apply Blk.alloc) | (with_reducible apply Blk.set_) | ((with_reducible apply Blk.far); rotate_left; focus (first | (simp; done) | (simp; omega) | omega)))) hb
  obtain ⟨z0, zz⟩ := cells1 Z
  have zl := Blk.lt Z
  have HZ := Lib.hid Z
  clear Z
  have S2 := Lib.hid (HS.out.below entCells_len HB.out)
  clear hb
  gi_wp2_with fail
  refine ⟨trivial, ?_⟩
  refine CallsIn.mono (callsIn_wide.2 (back_any _ a _ cap _ rfl)) ?_
  rintro e w3 ⟨rfl, rfl⟩
  gi_wp2_with fail
  obtain ⟨⟨_, hcap⟩, _, hd⟩ := S2.out.ents
  have HBX := Lib.hid (Blk.new (w := w2) (t := 22) (cs := [.slice a t.ents.length cap]) rfl)
  have hdd : 0 < t.ents.length → ∃ b off, a = some ⟨b, off, none⟩ ∧ b < w.heap.size ∧ EntsAt (w2.alloc (.cells #[.slice a t.ents.length cap] 22)) b off t.ents := fun hp => by
    obtain ⟨b, off, ha, he⟩ := HS.out.ents.2.2 hp
    have hb : b < w.heap.size := World.block_lt_of_cell? w _ (he 0 hp).1.1.1
    obtain ⟨b', off', ha', he'⟩ := ((HS.out.below entCells_len HB.out).below entCells_len ((Below.refl _ _).alloc (Nat.le_refl _) (.cells #[.slice a t.ents.length cap] 22))).ents.2.2 hp
    rw [ha] at ha'
    cases ha'
    exact ⟨b, off, ha, hb, he'⟩
  refine wpIn_rangeFunc_ownH rfl (by omega) (gf := 57) (lb := #[.pointer (some ⟨w2.heap.size, 0, none⟩)]) rfl trivial (enters_of Try.func57 (by kernel_rfl) rfl)
    (back_stops Fence.wide 3 trivial rfl (by omega) w2.heap.size w.heap.size a cap t.ents HLE.out _ (by simp) (by simp; omega) (HBX.out.cell 0) hcap hdd) (fun h k => h.trans k) (backK_b (by simp; omega) (by simp)) (Below.refl _ _) (fun _ => rfl)
    (LatI w w2.heap.size (.slice a t.ents.length cap) key below) (LatX w key below) (latI_own (by simp; omega)) (latX_own (by simp; omega))
    ⟨⟨HK.out.alloc _, HL.out.alloc _, HX.out.alloc _, HY.out.alloc _, HZ.out.alloc _, HBX.out, rfl⟩, HB.out.alloc HB.out.size _⟩
    (fun x a' W => ∃ (Bx : Nat) (u0 u1 u2 u9 u10 u12 u13 u14 u15 u16 u17 u18 u19 u20 u21 u22 u23 u24 u25 u26 u27 u28 u29 u30 u31 u32 u33 u34 u35 u36 u37 u38 : Value), (w2.heap.size < Bx ∧ Bx < W.heap.size) ∧ Blk W Bx 38 (entCells x.2) ∧ a' = { tmps := #[u0, u1, u2, .pointer (some ⟨w.heap.size, 0, none⟩), .pointer (some ⟨w.heap.size + 1, 0, none⟩), .pointer (some ⟨w.heap.size + 2, 0, none⟩), .pointer (some ⟨w.heap.size + 3, 0, none⟩), .pointer (some ⟨w.heap.size + 4, 0, none⟩), .pointer (some ⟨w.heap.size + 5, 0, none⟩), u9, u10, .pointer (some ⟨Bx, 0, none⟩), u12, u13, u14, u15, u16, u17, u18, u19, u20, u21, u22, u23, u24, u25, u26, u27, u28, u29, u30, u31, u32, u33, u34, u35, u36, u37, u38], defers := [] })
    (fun x a' _ X' Y' row hs hg hr => by
      obtain ⟨Bx, u0, u1, u2, u9, u10, u12, u13, u14, u15, u16, u17, u18, u19, u20, u21, u22, u23, u24, u25, u26, u27, u28, u29, u30, u31, u32, u33, u34, u35, u36, u37, u38, ⟨h1, h2⟩, h3, h4⟩ := hs
      exact ⟨Bx, u0, u1, u2, u9, u10, u12, u13, u14, u15, u16, u17, u18, u19, u20, u21, u22, u23, u24, u25, u26, u27, u28, u29, u30, u31, u32, u33, u34, u35, u36, u37, u38, ⟨h1, Nat.lt_of_lt_of_le h2 hg.size⟩, blk_row h3 hg (fun r e => (hr r e).2), h4⟩)
    ?assign ?body ?done ?stop
  case assign =>
    rintro l pre x W K ⟨⟨hK, hL, hX, hY, hZ, hS, hf⟩, hB⟩ hKK
    gi_wp2
    exact hKK _ _ ((KeepsOthers.alloc _ _).from _) ⟨(Below.refl _ W).alloc hB.size _, Below.heap_alloc W _ _ hS.lt⟩ ⟨⟨hK.alloc _, hL.alloc _, hX.alloc _, hY.alloc _, hZ.alloc _, hS.alloc _, hf⟩, hB.alloc hB.size _⟩ ⟨W.heap.size, _, _, _, _, _, _, _, _, _, _, _, _, _, _, _, _, _, _, _, _, _, _, _, _, _, _, _, _, _, _, _, _, ⟨hS.lt, by simp⟩, Blk.new rfl, rfl⟩
  case body =>
    rintro l pre x a' W hl ⟨r, hr⟩ ⟨⟨hK, hL, hX, hY, hZ, hS, hf⟩, hB⟩ ⟨Bx, u0, u1, u2, u9, u10, u12, u13, u14, u15, u16, u17, u18, u19, u20, u21, u22, u23, u24, u25, u26, u27, u28, u29, u30, u31, u32, u33, u34, u35, u36, u37, u38, ⟨hx1, hx2⟩, hE, rfl⟩ hlt
    have HKx := Lib.hid hK
    have HLx := Lib.hid hL
    have HXx := Lib.hid hX
    have HYx := Lib.hid hY
    have HZx := Lib.hid hZ
    have HSx := Lib.hid hS
    have HEx := Lib.hid hE
    have HFx := Lib.hid hf
    have HBx := Lib.hid hB
    have hs0 : w.heap.size ≤ W.heap.size := hB.size
    obtain ⟨k0, kz⟩ := cells1 hK
    obtain ⟨l0, lz⟩ := cells1 hL
    obtain ⟨x0, x1, x2, x3, xz⟩ := cells4 hX
    obtain ⟨y0, yz⟩ := cells1 hY
    obtain ⟨z0, zz⟩ := cells1 hZ
    obtain ⟨e0, e1, e2, e3, ez⟩ := cells4 hE
    obtain ⟨q, hq⟩ : ∃ q, q = (x.2.key.toList == key.toList) := ⟨_, rfl⟩
    have HQ := Lib.hid hq
    have hq' := hq.symm
    clear hK hL hX hY hZ hS hE hf hB hr hq
    cases q
    · gi_wp2
      refine ⟨KeepsFrom.refl _ _, ⟨Below.refl _ _, rfl⟩, ⟨HKx.out, HLx.out, HXx.out, HYx.out, HZx.out, HSx.out, ?_⟩, HBx.out⟩
      have hw : wantE key below x.2 = false := by rw [wantE, ← HQ.out]; rfl
      rw [List.map_append, List.find?_append, HFx.out]
      simp [hw]
    · by_cases hb : x.2.off < below
      · have hd : decide (x.2.off < below) = true := by simpa using hb
        gi_wp2
        have hw : wantE key below x.2 = true := by rw [wantE, ← HQ.out]; simpa using hb
        refine ⟨KeepsOthers.from ?_ _, ⟨rfl, x.2, ?_, ?_, ?_, ?_⟩, ?_⟩
        · exact (lat_stores HXx.out HYx.out HZx.out).2.2.2
        · rw [List.map_append, List.find?_append, HFx.out]
          simp [hw]
        · exact (lat_stores HXx.out HYx.out HZx.out).1
        · exact (lat_stores HXx.out HYx.out HZx.out).2.1
        · exact (lat_stores HXx.out HYx.out HZx.out).2.2.1
        · repeat (first | (with_reducible exact HBx.out) | (with_reducible exact Below.refl _ _) | (with_reducible apply Below.drew) | (with_reducible apply below_alloc) | ((with_reducible refine Below.alloc ?_ ?_ _); rotate_left; focus (first | (simp; done) | (simp; omega) | omega)) | ((with_reducible refine Below.setCell ?_ ?_ _); rotate_left; focus (first | (simp; done) | (simp; omega) | omega)))
      · have hd : decide (x.2.off < below) = false := by simpa using hb
        have HNB := Lib.hid hb
        gi_wp2
        refine ⟨KeepsFrom.refl _ _, ⟨Below.refl _ _, rfl⟩, ⟨HKx.out, HLx.out, HXx.out, HYx.out, HZx.out, HSx.out, ?_⟩, HBx.out⟩
        have hw : wantE key below x.2 = false := by rw [wantE, ← HQ.out]; simpa using HNB.out
        rw [List.map_append, List.find?_append, HFx.out]
        simp [hw]
  case done =>
    rintro D ys W hD rfl ⟨⟨hK, hL, hX, hY, hZ, hS, hf⟩, hB⟩ hKD
    have HXx := Lib.hid hX
    have HYx := Lib.hid hY
    have HZx := Lib.hid hZ
    have HBx := Lib.hid hB
    have HDx := Lib.hid hKD
    have hs0 : w.heap.size ≤ W.heap.size := hB.size
    have hlast : lastP t.ents key below = (default, false) := by
      rw [lastP, ← down_all, hf]
    obtain ⟨x0, x1, x2, x3, xz⟩ := cells4 hX
    obtain ⟨y0, yz⟩ := cells1 hY
    obtain ⟨z0, zz⟩ := cells1 hZ
    have HLA := Lib.hid hlast
    clear hK hL hX hY hZ hS hf hB hKD hlast
    gi_wp2
    refine lat_end (x := ⟨0, 0, ⟨#[]⟩, ⟨#[]⟩⟩) (b := false) (by simp at hD; omega) rfl rfl rfl rfl ?_ ?_ ?_ ?_ ?_ (by rw [HLA.out]; rfl) (by rw [HLA.out])
    · exact (lat_stores HXx.out HYx.out HZx.out).1
    · exact (lat_stores HXx.out HYx.out HZx.out).2.1
    · exact (lat_stores HXx.out HYx.out HZx.out).2.2.1
    · repeat (first | (with_reducible exact HBx.out) | (with_reducible exact Below.refl _ _) | (with_reducible apply Below.drew) | (with_reducible apply below_alloc) | ((with_reducible refine Below.alloc ?_ ?_ _); rotate_left; focus (first | (simp; done) | (simp; omega) | omega)) | ((with_reducible refine Below.setCell ?_ ?_ _); rotate_left; focus (first | (simp; done) | (simp; omega) | omega)))
    · exact KeepsOthers.same (lat_stores HXx.out HYx.out HZx.out).2.2.2 D _ HDx.out rfl
  case stop =>
    rintro D c pre W hD ⟨k, hk, rfl⟩ ⟨⟨rfl, x, hf, hX, hY, hZ⟩, hB⟩ hKD
    have hlast : lastP t.ents key below = (x, true) := by
      rw [down_pre _ hk] at hf
      have : t.ents.reverse.find? (wantE key below) = some x := by
        conv => lhs; rw [← List.take_append_drop k t.ents.reverse]
        rw [List.find?_append, hf]
        rfl
      rw [lastP, this]
    have HXx := Lib.hid hX
    have HYx := Lib.hid hY
    have HZx := Lib.hid hZ
    have HBx := Lib.hid hB
    have HDx := Lib.hid hKD
    have HLA := Lib.hid hlast
    clear hf hX hY hZ hB hKD hlast
    gi_wp2
    exact lat_end (x := x) (b := true) (by simp at hD; omega) rfl rfl rfl rfl HXx.out HYx.out HZx.out HBx.out HDx.out (by rw [HLA.out]) (by rw [HLA.out])

theorem latest_any {v : Value} {t : Top} {w : World} {x : Ent} {b : Bool} {n : Int} (key : ByteArray) (below : Int) (h : TopR w v t) (hk : ∀ x ∈ t.ents, x.key.size ≤ maxLen) (hf : latestP t key below = (x, b, n)) :
    Calls Try.prog 25 #[v, .string key, .int .i64 below] w (LatEnd x b n w) := by
  unfold latestP at hf
  by_cases hm : t.may
  · rw [if_pos hm] at hf
    by_cases hl : 16 < key.size
    · rw [if_pos hl] at hf
      cases hf
      exact latest_long key below h hk hm (by omega)
    · rw [if_neg hl] at hf
      cases hf
      exact latest_yes key below h hk hm (by omega)
  · rw [if_neg hm] at hf
    cases hf
    exact latest_bad key below h hk hm
end Go.Proofs.Ytolgkadoplalnaa
