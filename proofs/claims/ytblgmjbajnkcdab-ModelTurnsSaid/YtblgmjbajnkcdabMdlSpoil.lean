/-
  spoil: it writes over a model that the caller itself made; what lay there ahead, or was made behind, stays. No condition.
-/
import Derived.Test.YtblgmjbajnkcdabStrSpoilP
import Derived.Test.YtblgmjbajnkcdabMdlSh
import Derived.Deep.LoopGhost
namespace Go.Proofs.Ytblgmjbajnkcdab
open Go.RowKit

set_option maxHeartbeats 8000000 in
set_option maxRecDepth 100000 in
theorem mdlSpoil_any {w : World} {B T : Nat} {v : Value} (h : ShM w B T v) (hT : T ≤ w.heap.size) (hB : B ≤ w.heap.size) : Calls Try.prog 30 #[v] w (SpoilS B T w) := by
  obtain ⟨ta, tc, us, rs, rfl, ⟨hT1, hT2⟩, hC1, hC2⟩ := h
  obtain ⟨a, cap, rfl, ⟨hcap, hmx⟩, -⟩ := RowX.shape ⟨_, hT1.choose_spec.1⟩
  obtain ⟨b, cap2, rfl, ⟨hcap2, hmx2⟩, -⟩ := RowX.shape ⟨_, hC1.1⟩
  obtain ⟨n, hn⟩ : ∃ n, n = us.length := ⟨_, rfl⟩
  obtain ⟨n2, hn2⟩ : ∃ n2, n2 = rs.length := ⟨_, rfl⟩
  rw [← hn] at hT1 hT2 hcap ⊢
  rw [← hn2] at hC1 hC2 hcap2 ⊢
  have HN := Lib.hid hn
  have HN2 := Lib.hid hn2
  have LT := Lib.hid hT2
  have LC := Lib.hid hC2
  have HT := Lib.hid hT1
  have HC := Lib.hid hC1
  unfold maxLen at hmx hmx2
  clear hn hn2 hT1 hT2 hC1 hC2
  have nn0 : (n : Int) ≤ 9223372036854775807 := by omega
  have nn1 : (n2 : Int) ≤ 9223372036854775807 := by omega
  have HT' : Hid (ShP (w.alloc (.cells #[.slice a n cap, .slice b n2 cap2] 25)) B (.slice a n cap) us) := Lib.hid (HT.out.band LT.out (fun K _ hK => Below.block (below_alloc (Below.refl _ _)) K (by omega)))
  have HC' : Hid (ShC (w.alloc (.cells #[.slice a n cap, .slice b n2 cap2] 25)) B (.slice b n2 cap2) rs) := Lib.hid (HC.out.band LC.out (fun K _ hK => Below.block (below_alloc (Below.refl _ _)) K (by omega)))
  have HF : Hid (FrS B T w (w.alloc (.cells #[.slice a n cap, .slice b n2 cap2] 25))) := Lib.hid ⟨(below_alloc (Below.refl _ _)).mono hB, fun c _ hc => Below.block (below_alloc (Below.refl _ _)) c hc⟩
  clear HT HC
  go_enter Try.func30, Try.ntmps30
  go_wp2_with fail
  go_loopg [2] n (fun g' i wr => ∃ k : Nat, k ≤ n ∧ g' = n - k ∧ i = .int .i64 (k : Int) ∧ Hid (ShP wr B (.slice a n cap) us) ∧ Hid (ShC wr B (.slice b n2 cap2) rs) ∧ Hid (FrS B T w wr) ∧ Hid (Blk wr w.heap.size 25 [.slice a n cap, .slice b n2 cap2]))
  case atStart => exact ⟨0, Nat.zero_le _, rfl, rfl, HT', HC', HF, Blk.new rfl⟩
  case round =>
    clear HT' HC' HF
    obtain ⟨k, hk, rfl, rfl, HT, HC, HF, HQ⟩ := hrel
    obtain ⟨q0, q1, qz⟩ := cells2 HQ.out
    have ql := HQ.out.lt
    by_cases hlt : k < n
    · have hk0 : (0 : Int) ≤ (k : Int) := by omega
      have hk1 : (k : Int) < (n : Int) := by omega
      have hku : k < us.length := by rw [← HN.out]; exact hlt
      have HKU := Lib.hid hku
      obtain ⟨g, ua, m, uc, ha, -, hu, ⟨hm1, hm2⟩, -⟩ := HT.out.at_ hku
      subst ha
      have HU := Lib.hid hu
      unfold maxLen at hm2
      have mm0 : (m : Int) ≤ 9223372036854775807 := by omega
      clear hu hku
      go_wp2_with fail
      go_loopg [3] m (fun g' j wi => ∃ q : Nat, q ≤ m ∧ g' = m - q ∧ j = .int .i64 (q : Int) ∧ Hid (ShP wi B (.slice (some ⟨g, 0, none⟩) n cap) us) ∧ Hid (ShC wi B (.slice b n2 cap2) rs) ∧ Hid (FrS B T w wi) ∧ Hid (Blk wi w.heap.size 25 [.slice (some ⟨g, 0, none⟩) n cap, .slice b n2 cap2]))
      case atStart => exact ⟨0, Nat.zero_le _, rfl, rfl, HT, HC, HF, HQ⟩
      case round =>
        clear HT HC HF HQ q0 q1 qz ql
        obtain ⟨q, hq, rfl, rfl, HT, HC, HF, HQ⟩ := hrel
        obtain ⟨q0, q1, qz⟩ := cells2 HQ.out
        have ql := HQ.out.lt
        obtain ⟨g1, ua1, m1, uc1, ha1, hc1, hu1, -, hst⟩ := HT.out.at_ HKU.out
        cases ha1
        rw [HU.out] at hu1
        cases hu1
        have HST := Lib.hid hst
        clear hst
        by_cases hql : q < m
        · have hq0 : (0 : Int) ≤ (q : Int) := by omega
          have hq1 : (q : Int) < (m : Int) := by omega
          obtain ⟨gu, hgu, ⟨⟨y, hy⟩, hfz, hBg⟩, hset, hset2⟩ := HST.out q hql
          subst hgu
          have hgt := LT.out.row HKU.out HU.out
          have HS1 := Lib.hid (hset (.string ⟨#[119, 114, 105, 116, 116, 101, 110, 32, 111, 118, 101, 114]⟩))
          have HS2 := Lib.hid (hset2 (.string ⟨#[119, 114, 105, 116, 116, 101, 110, 32, 111, 118, 101, 114]⟩) HC.out)
          clear hset hset2 HST
          go_wp2_with fail
          go_roundg (m - (q + 1))
          case measure => omega
          case rel =>
            exact ⟨q + 1, by omega, rfl, by go_num, HS1, HS2, HF.out.set_ hBg hgt, HQ.out.far (by omega) _⟩
        · obtain rfl : q = m := by omega
          have hlq : ¬ (q : Int) < (q : Int) := by omega
          clear HST
          go_wp2_with fail
          go_roundg (n - (k + 1))
          case measure => omega
          case rel => exact ⟨k + 1, by omega, rfl, by go_num, HT, HC, HF, HQ⟩
    · obtain rfl : k = n := by omega
      have hlt' : ¬ (k : Int) < (k : Int) := by omega
      go_wp2_with fail
      clear HT
      go_loopg [4] n2 (fun g' i wr => ∃ r : Nat, r ≤ n2 ∧ g' = n2 - r ∧ i = .int .i64 (r : Int) ∧ Hid (ShC wr B (.slice b n2 cap2) rs) ∧ Hid (FrS B T w wr) ∧ Hid (Blk wr w.heap.size 25 [.slice a k cap, .slice b n2 cap2]))
      case atStart => exact ⟨0, Nat.zero_le _, rfl, rfl, HC, HF, HQ⟩
      case round =>
        clear HC HF HQ q0 q1 qz ql
        obtain ⟨r, hr, rfl, rfl, HC, HF, HQ⟩ := hrel
        obtain ⟨q0, q1, qz⟩ := cells2 HQ.out
        have ql := HQ.out.lt
        by_cases hltr : r < n2
        · have hr0 : (0 : Int) ≤ (r : Int) := by omega
          have hr1 : (r : Int) < (n2 : Int) := by omega
          have hru : r < rs.length := by rw [← HN2.out]; exact hltr
          have HRU := Lib.hid hru
          obtain ⟨g, ua, m, uc, ha, -, hu, ⟨hm1, hm2⟩, -⟩ := HC.out.at_ hru
          subst ha
          have HU := Lib.hid hu
          unfold maxLen at hm2
          have mm0 : (m : Int) ≤ 9223372036854775807 := by omega
          clear hu hru
          go_wp2_with fail
          go_loopg [5] m (fun g' j wi => ∃ q : Nat, q ≤ m ∧ g' = m - q ∧ j = .int .i64 (q : Int) ∧ Hid (ShC wi B (.slice (some ⟨g, 0, none⟩) n2 cap2) rs) ∧ Hid (FrS B T w wi) ∧ Hid (Blk wi w.heap.size 25 [.slice a k cap, .slice (some ⟨g, 0, none⟩) n2 cap2]))
          case atStart => exact ⟨0, Nat.zero_le _, rfl, rfl, HC, HF, HQ⟩
          case round =>
            clear HC HF HQ q0 q1 qz ql
            obtain ⟨q, hq, rfl, rfl, HC, HF, HQ⟩ := hrel
            obtain ⟨q0, q1, qz⟩ := cells2 HQ.out
            have ql := HQ.out.lt
            obtain ⟨g1, ua1, m1, uc1, ha1, hc1, hu1, -, hst⟩ := HC.out.at_ HRU.out
            cases ha1
            rw [HU.out] at hu1
            cases hu1
            have HST := Lib.hid hst
            clear hst
            by_cases hql : q < m
            · have hq0 : (0 : Int) ≤ (q : Int) := by omega
              have hq1 : (q : Int) < (m : Int) := by omega
              obtain ⟨gu, hgu, ⟨⟨y, hy⟩, hfz, hBg⟩, hset⟩ := HST.out q hql
              subst hgu
              have hgt := LC.out.row HRU.out HU.out
              have HS1 := Lib.hid (hset (.int .i64 (-77)))
              clear hset HST
              go_wp2_with fail
              go_roundg (m - (q + 1))
              case measure => omega
              case rel =>
                exact ⟨q + 1, by omega, rfl, by go_num, HS1, HF.out.set_ hBg hgt, HQ.out.far (by omega) _⟩
            · obtain rfl : q = m := by omega
              have hlq : ¬ (q : Int) < (q : Int) := by omega
              clear HST
              go_wp2_with fail
              go_roundg (n2 - (r + 1))
              case measure => omega
              case rel => exact ⟨r + 1, by omega, rfl, by go_num, HC, HF, HQ⟩
        · obtain rfl : r = n2 := by omega
          have hltr' : ¬ (r : Int) < (r : Int) := by omega
          go_wp2_with fail
          first | go_end0 | ((try simp only [Exit.inBlock, Exit.then]); refine bodyPost_ret (results_none rfl _ _ _) rfl ?_)
          exact ⟨⟨_, rfl⟩, HF.out.1, HF.out.2⟩
end Go.Proofs.Ytblgmjbajnkcdab
