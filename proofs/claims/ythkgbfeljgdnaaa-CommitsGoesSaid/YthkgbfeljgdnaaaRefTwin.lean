/-
  The document's copy of commits, and its Set. No condition but that the slices read and are not great.
-/
import Derived.Test.YthkgbfeljgdnaaaRefMay
import Derived.Test.YthkgbfeljgdnaaaComSet
import Derived.Laws.AppendOwnNone
import Derived.OwnWalk
namespace Go.Proofs.Ythkgbfeljgdnaaa
open Go.RowKit

/-- append onto an own row: whether or not anything lies there. -/
theorem wpList_append_own_any {P : Program} (w : World) {ops : Array Oper} {rest : List Oper} {o : Oper} {a : Act} {Q : Exit → Act → World → Prop} (hgd : o.guard = none) (s x : Operand) (t : TypeId)
    (ho : o.op = .call { callee := .builtin .append, args := #[s, x], argTypes := #[t, t] })
    (base : Nat) (e : TypeId) (i : TypeInfo) (z : Value) (size bytes : Nat) (ht : P.underlying t = some (.slice e)) (hi : P.info? e = some i) (hz : i.zero = some z)
    (hsize : i.size = size) (hby : i.bytes = bytes) (hzs : z.cells.size = size) (hsz : 0 < size)
    (v : Value) (n : Nat) (xs : List Value) (hs : a.eval s = v) (hown : w.ownsRow base e size v n xs)
    (ao : Option Addr) (m c : Nat) (news : List Value) (hx : a.eval x = .slice ao m c) (hl : news.length = m * size) (hnone : ao = none → m = 0 ∧ c = 0)
    (hnews : ∀ ad, ao = some ad → ∀ j u, news[j]? = some u → w.cell? (ad.add j) = some u) (h1 : ∀ u ∈ news, u.oneCell' = true)
    (h63 : n + m ≤ maxLen) (hbytes : (n + m) * bytes ≤ 140737488355328) (hbase : base ≤ w.heap.size)
    (h : ∀ v' w', w'.ownsRow base e size v' (n + m) (xs ++ news) → w.grownBy w' v.ownBlock → wpList P ops Q rest (a.put o.dst v') w') : wpList P ops Q (o :: rest) a w := by
  cases ao with
  | some ad => exact wpList_append_own w hgd s x t ho base e i z size bytes ht hi hz hsize hby hzs hsz v n xs hs hown ad m c news hx hl (hnews ad rfl) h1 h63 hbytes hbase fun v' w' h2 h3 _ => h v' w' h2 h3
  | none =>
    obtain ⟨rfl, rfl⟩ := hnone rfl
    have hn : news = [] := List.eq_nil_of_length_eq_zero (by simpa using hl)
    subst hn
    exact wpList_append_own_none hgd s x t ho base e i size ht hi v n xs hs hown hx (h v w (by simpa using hown) (World.grownBy.refl _ _))

set_option maxHeartbeats 4000000 in
theorem refTwin_some (b off n cap : Nat) (us : List Value) (m : List (List Int)) (w : World) (hn : n = m.length) (hcap : n ≤ cap) (hm : n ≤ 1000) (hfew : ∀ r ∈ m, r.length ≤ 1000)
    (hc : ∀ i, i < n → w.cell? ⟨b, off + i, none⟩ = some (us.getD i .nilIface)) (hr : ∀ i, i < n → SliceR w (us.getD i .nilIface) 1 intCell (m.getD i [])) :
    Calls Try.prog 31 #[.slice (some ⟨b, off, none⟩) n cap] w (TwinEnd m w) := by
  obtain ⟨i0, hi, hz0, hz1, hz2⟩ := info_parts info_row
  obtain ⟨i1, gi, gz0, gz1, gz2⟩ := info_parts info_int
  have HC := Lib.hid hc
  have HR := Lib.hid hr
  have HN := Lib.hid hn
  have HF := Lib.hid hfew
  have n0 : (n : Int) ≤ 1000 := by omega
  obtain ⟨B, hB⟩ : ∃ B, B = w.heap.size := ⟨_, rfl⟩
  have HB := Lib.hid hB
  clear hn hc hr hfew hB
  go_enter Try.func31, Try.ntmps31
  go_wp2_with fail
  go_loopw [3, 4] (fun o i wr => ∃ k : Nat, k ≤ n ∧ i = .int .i64 (k : Int) ∧ Hid (OwnC wr B o (m.take k)) ∧ Hid (Below B w wr)) (fun _ i _ => n - (intOf i).toNat)
  case atStart => exact ⟨0, Nat.zero_le _, rfl, OwnRows.nil _ _ _ _, Below.refl _ _⟩
  case round =>
    obtain ⟨k, hk, rfl, hown, hb⟩ := hrel
    by_cases hlt : k < n
    · have hk0 : (0 : Int) ≤ (k : Int) := by omega
      have hk1 : (k : Int) < (n : Int) := by omega
      have hbw : Below w.heap.size w wr := by rw [← HB.out]; exact hb.out
      have hBr : B ≤ wr.heap.size := by rw [HB.out]; exact hbw.size
      have c0 := keep hbw (HC.out k hlt)
      have r0 := (HR.out k hlt).below (fun _ => rfl) hbw
      obtain ⟨u, hu⟩ : ∃ u, u = us.getD k .nilIface := ⟨_, rfl⟩
      rw [← hu] at c0 r0
      clear hu
      obtain ⟨r, hr⟩ : ∃ r, r = m.getD k [] := ⟨_, rfl⟩
      rw [← hr] at r0
      have hrl : r.length ≤ 1000 := by
        have h1 := HN.out
        have : m.getD k [] ∈ m := by
          have e : m.getD k [] = m[k]'(by omega) := by simp [List.getD, show k < m.length by omega]
          rw [e]; exact List.getElem_mem _
        rw [hr]
        exact HF.out _ this
      have HRR := Lib.hid hr
      clear hr
      have r1 := r0
      obtain ⟨ua, ucap, hua, huc, _, hun, hud⟩ := r1
      subst hua
      have R0 := Lib.hid r0
      obtain ⟨us', h1, h2, h3, h4⟩ := hown.out
      have HO4 := Lib.hid h4
      have HO1 := Lib.hid h1
      have HO2 := Lib.hid h2
      have HO3 := Lib.hid h3
      have HUD := Lib.hid hud
      have hun2 : ua = none → r.length = 0 ∧ ucap = 0 := by
        intro e
        refine ⟨?_, hun e⟩
        by_cases h : 0 < r.length
        · obtain ⟨_, _, e2, _⟩ := hud h
          rw [e] at e2
          cases e2
        · omega
      have HUN := Lib.hid hun2
      clear hun2
      have hul : us'.length ≤ 1000 := by
        rw [h2, List.length_take]
        have := HN.out
        omega
      clear r0 hun hud hown h1 h2 h3 h4 hbw
      go_wp2_with (at_builtin; go_must (refine wpList_append_own_any _ rfl _ _ 65 rfl wr.heap.size 3 i1 (.int .i64 0) 1 8 Try.underlying65 gi gz0 gz1 gz2 rfl (by decide) _ 0 [] rfl (World.ownsRow_nil _ _ _ _) ua r.length ucap (rowVals r) rfl (by simp [rowVals]) HUN.out ?_ (rowVals_one r) (by unfold maxLen; omega) (by omega) (Nat.le_refl _) ?_))
      · intro ad had j v hv
        have hpos : 0 < r.length := by
          have h := (List.getElem?_eq_some_iff.1 hv).1
          simp [rowVals] at h
          omega
        subst had
        obtain ⟨ub, uoff, e1, _⟩ := HUD.out hpos
        cases e1
        exact R0.out.flat (fun _ => rfl) (by omega) j v (by rw [← rowVals_flat]; exact hv)
      intro x w2 hx hg1
      have hbr : Below wr.heap.size wr w2 := belowGrown hg1
      obtain ⟨xa, xcap, hxv⟩ : ∃ xa xcap, x = .slice xa r.length xcap := by
        rcases hx.2 with ⟨e, h0⟩ | ⟨g, cp, _, e, _⟩
        · exact ⟨none, 0, by rw [e, h0]⟩
        · exact ⟨_, _, e⟩
      subst hxv
      have HXB := Lib.hid hx
      have hx2 := ownsRow_le hx hBr
      clear hx hg1
      have hO1 := ownsRow_keep HO1.out hbr
      have hO3 : ∀ i, i < (m.take k).length → w2.ownsRow B 3 1 (us'.getD i .nilIface) ((m.take k).getD i []).length (rowVals ((m.take k).getD i [])) := fun i hi => ownsRow_keep (HO3.out i hi) hbr
      have HX2 := Lib.hid hx2
      have HQ1 := Lib.hid hO1
      have HQ3 := Lib.hid hO3
      have HBR := Lib.hid hbr
      clear hx2 hO1 hO3 hbr c0
      go_wp2_with (at_builtin; go_must (refine wpList_append_own _ rfl _ _ 44 rfl B 65 i0 (.slice none 0 0) 1 24 Try.underlying44 hi hz0 hz1 hz2 rfl (by decide) _ us'.length us' rfl (HQ1.out.alloc _) ⟨w2.heap.size, 0, none⟩ 1 1 [.slice xa r.length xcap] rfl rfl ?_ (by intro v hv; simp at hv; subst hv; rfl) (by unfold maxLen; omega) (by omega) (by have := HBR.out.size; simp; omega) ?_))
      · intro j v hv
        match j, hv with
        | 0, hv => simp at hv; subst hv; simp [Addr.add]
      · intro v' w3 hown3 hgrow3 _
        have R := OwnRows.snoc (te := 65) (ti := 3) (by decide) (HQ1.out.alloc (.cells #[.slice xa r.length xcap] 65)) HO2.out (fun i hi => (HQ3.out i hi).alloc _) HO4.out (HX2.out.alloc _) (fun i hi j hj hx => by have h1 := ((HO3.out i hi).lt j hj).2; have h2 := (HXB.out.lt j hx).1; omega) hown3 hgrow3
        have hb3 : Below B w w3 := by
          refine Below.grown (hb.out.trans ((HBR.out.mono hBr).trans ((Below.refl _ _).alloc (by have := HBR.out.size; omega) _))) hgrow3 (by have := HBR.out.size; simp; omega) (fun j hj => ?_)
          exact (HQ1.out.lt j hj).1
        have HR3 := Lib.hid R
        have HB3 := Lib.hid hb3
        clear hown3 hgrow3 R hb3
        go_wp2_with fail
        go_roundw
        case rel =>
          refine ⟨k + 1, by omega, by go_num, ?_, HB3⟩
          have e : m.take (k + 1) = m.take k ++ [r] := by
            have h1 := HN.out
            rw [List.take_succ_eq_append_getElem (by omega), HRR.out]
            simp [List.getD, show k < m.length by omega]
          show OwnC w3 B v' (m.take (k + 1))
          rw [e]
          exact HR3.out
        case measure => simp [intOf]; omega
    · obtain rfl : k = n := by omega
      have hlt' : ¬ (k : Int) < (k : Int) := by omega
      go_wp2_with fail
      go_ret
      refine ⟨_, rfl, ?_, ?_⟩
      · have e : m.take k = m := by rw [HN.out]; exact List.take_length
        have h1 := hown.out
        rw [e, HB.out] at h1
        exact h1
      · rw [← HB.out]; exact hb.out

theorem refTwin_none (a : Option Addr) (cap : Nat) (w : World) : Calls Try.prog 31 #[.slice a 0 cap] w (TwinEnd [] w) := by
  go_enter Try.func31, Try.ntmps31
  go_wp2_with fail
  refine wp_loop_rounds 1 ?_
  rw [rounds_succ]
  go_wp2
  go_ret
  exact ⟨_, rfl, OwnRows.nil _ _ _ _, Below.refl _ _⟩

theorem refTwin_any {v : Value} {m : List (List Int)} {w : World} (h : RowsR w v m) (hf : few m) : Calls Try.prog 31 #[v] w (TwinEnd m w) := by
  obtain ⟨us, h1, h2, h3⟩ := h
  obtain ⟨a, cap, rfl, hcap, hm, _, hc⟩ := h1.one (c := fun u => u) .nilIface
  by_cases hl : us.length = 0
  · have : m = [] := List.length_eq_zero_iff.1 (by omega)
    subst this
    rw [hl]
    exact refTwin_none a cap w
  · obtain ⟨b, off, rfl, hd⟩ := hc (by omega)
    exact refTwin_some b off _ cap us m w h2 hcap (by rw [h2]; exact hf.1) hf.2 hd (fun i hi => h3 i (by omega))

set_option maxHeartbeats 1000000 in
theorem refSet_yes {v : Value} {m : List (List Int)} (t k n : Int) {w : World} (h : RowsR w v m) (hok : okC m = true) (h1 : 0 ≤ t) (h2 : t < 4) (h3 : 0 ≤ k) (h4 : k < 8) (h5 : 0 ≤ n) (h6 : n ≤ 1073741824) :
    Calls Try.prog 32 #[v, .int .i64 t, .int .i64 k, .int .i64 n] w (SetYes m t k n w) := by
  have K := refAsked_any t k h
  have e : askC m t k = 0 := by simp [askC, hok, inTW, h1, h2, h3, h4]
  rw [e] at K
  have HK := Lib.hid K
  have H0 := Lib.hid h
  have HOK := Lib.hid hok
  obtain ⟨a, na, cap, rfl⟩ := h.shape
  clear K e hok h
  go_enter Try.func32, Try.ntmps32
  go_wp2_with fail
  refine HK.out.mono ?_
  rintro e w1 ⟨rfl, rfl⟩
  go_wp2_with fail
  refine (refTwin_any H0.out (okC_few HOK.out)).mono ?_
  rintro e w2 ⟨v', rfl, hown, hb2⟩
  obtain ⟨g, cap', gt, rcap, rfl, c1, c2, c3, hbg, hst⟩ := own_cells hown HOK.out h1 h2 h3 h4
  have HOWN := Lib.hid hown
  obtain ⟨x, hx⟩ : ∃ x, x = getC m t k := ⟨_, rfl⟩
  rw [← hx] at c2
  have HX := Lib.hid hx
  have HST := Lib.hid hst
  have HB := Lib.hid hb2
  clear hx hst hown
  have t1 : (t : Int) < ((4 : Nat) : Int) := by omega
  have k1 : (k : Int) < ((8 : Nat) : Int) := by omega
  by_cases hxn : x < n
  · go_wp2_with fail
    go_ret2
    refine ⟨_, rfl, ?_, hb2.setCell (p := ⟨gt, k.toNat, none⟩) hbg _⟩
    have e : setC m t k n = m.set t.toNat ((m.getD t.toNat []).set k.toNat (max x n)) := by rw [HX.out]; rfl
    rw [e, show max x n = n by omega]
    exact HST.out n
  · go_wp2_with fail
    go_ret2
    refine ⟨_, rfl, ?_, hb2⟩
    have e : setC m t k n = m.set t.toNat ((m.getD t.toNat []).set k.toNat (max x n)) := by rw [HX.out]; rfl
    obtain ⟨hl, hr⟩ := okC_spec HOK.out
    have e2 : m.set t.toNat ((m.getD t.toNat []).set k.toNat x) = m := by
      have htl : t.toNat < m.length := by omega
      have hkl : k.toNat < (m[t.toNat]).length := by rw [(hr _ (List.getElem_mem htl)).1]; omega
      have e3 : x = m[t.toNat][k.toNat] := by rw [HX.out]; simp [getC, List.getD, htl, hkl]
      rw [e3]
      simp [List.getD, htl]
    rw [e, show max x n = x by omega, e2]
    exact HOWN.out

theorem refSet_no {v : Value} {m : List (List Int)} (t k n : Int) {w : World} (h : RowsR w v m) (c : Int) (hc : (askC m t k ≠ 0 ∧ c = askC m t k) ∨ (askC m t k = 0 ∧ ¬ (0 ≤ n ∧ n ≤ 1073741824) ∧ c = 2)) :
    Calls Try.prog 32 #[v, .int .i64 t, .int .i64 k, .int .i64 n] w fun e w' => e = .returned (.tuple #[.slice none 0 0, .int .i64 c]) ∧ w = w' := by
  have K := refAsked_any t k h
  obtain ⟨a, na, cap, rfl⟩ := h.shape
  clear h
  rcases hc with ⟨h1, rfl⟩ | ⟨h1, h2, rfl⟩
  · obtain ⟨c, hc⟩ : ∃ c, c = askC m t k := ⟨_, rfl⟩
    rw [← hc] at K h1 ⊢
    have hd : (c != 0) = true := by simpa using h1
    have hd2 : (c == 0) = false := by simpa using h1
    have HK := Lib.hid K
    clear K hc h1
    go_enter Try.func32, Try.ntmps32
    go_wp2_with fail
    refine HK.out.mono ?_
    rintro e w1 ⟨rfl, rfl⟩
    go_wp2_with fail
    go_ret2
    exact ⟨rfl, rfl⟩
  · rw [h1] at K
    have HK := Lib.hid K
    clear K h1
    by_cases h3 : n < 0
    · clear h2
      go_enter Try.func32, Try.ntmps32
      go_wp2_with fail
      refine HK.out.mono ?_
      rintro e w1 ⟨rfl, rfl⟩
      go_wp2_with fail
      go_ret2
      exact ⟨rfl, rfl⟩
    · have h4 : 1073741824 < n := by omega
      clear h2
      go_enter Try.func32, Try.ntmps32
      go_wp2_with fail
      refine HK.out.mono ?_
      rintro e w1 ⟨rfl, rfl⟩
      go_wp2_with fail
      go_ret2
      exact ⟨rfl, rfl⟩
end Go.Proofs.Ythkgbfeljgdnaaa
