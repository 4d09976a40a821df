/-
  ref30.Great: what a no says.
-/
import Derived.Test.YtblgmjbajnkcdabMdlR
import Derived.Test.YtblgmjbajnkcdabBunK
import Derived.Test.YtblgmjbajnkcdabBunS
import Derived.Lib.MinMax
import Derived.Deep.LoopGhost
namespace Go.Proofs.Ytblgmjbajnkcdab
open Go.RowKit

def GreatEndM (m : Mdl) (w : World) (e : Ending) (w' : World) : Prop := (∃ g, e = .returned (.bool g) ∧ (g = false → m.tops.length ≤ 50 ∧ few m.coms)) ∧ Below w.heap.size w w'

set_option maxHeartbeats 8000000 in
set_option maxRecDepth 100000 in
theorem mdlGreat_any {v : Value} {m : Mdl} {w : World} (h : MdlR w v m) (hk : ∀ p ∈ m.tops, ∀ x ∈ p.all, x.key.size ≤ 140737488355328 ∧ x.body.size ≤ 140737488355328) (hw : ∀ r ∈ m.coms, r.length ≤ 17592186044416) :
    Calls Try.prog 8 #[v] w (GreatEndM m w) := by
  have HK := Lib.hid hk
  have HW := Lib.hid hw
  obtain ⟨a, cap, b, nc, cc, rfl, hT, hR⟩ := h.shape
  obtain ⟨aa, ccap, hv, hcap, hmx, _, hd⟩ := hT.shape
  cases hv
  have HD := Lib.hid hd
  have RR := Lib.hid hR
  obtain ⟨n, hn⟩ : ∃ n, n = m.tops.length := ⟨_, rfl⟩
  rw [← hn] at HD hcap ⊢
  have HN := Lib.hid hn
  unfold maxLen at hmx
  have nn0 : (n : Int) ≤ 9223372036854775807 := by omega
  clear hk hw hT hR hd hn h hmx
  go_enter Try.func8, Try.ntmps8
  go_wp2_with fail
  go_loopg [3, 4] (min n 50) (fun g s i wr => ∃ (k : Nat) (t : Int), (k ≤ n ∧ k ≤ 50) ∧ g = min n 50 - k ∧ i = .int .i64 (k : Int) ∧ s = .int .i64 t ∧ (0 ≤ t ∧ t ≤ (k : Int) * 20060000) ∧ Hid (Below w.heap.size w wr) ∧ Hid (Blk wr w.heap.size 25 [.slice a n cap, .slice b nc cc]))
  case atStart => exact ⟨0, 0, ⟨Nat.zero_le _, Nat.zero_le _⟩, rfl, rfl, rfl, by omega, below_alloc (Below.refl _ _), Blk.new rfl⟩
  case round =>
    obtain ⟨k, t, ⟨hk, hk5⟩, rfl, rfl, rfl, ⟨t0, t1⟩, HB, HP⟩ := hrel
    obtain ⟨wo, rfl⟩ : ∃ wo : World, wo = wr := ⟨_, rfl⟩
    obtain ⟨p0, p1, pz⟩ := cells2 HP.out
    have pl := HP.out.lt
    by_cases hlt : k < n
    · have hk0 : (0 : Int) ≤ (k : Int) := by omega
      have hk1 : (k : Int) < (n : Int) := by omega
      by_cases h50 : k < 50
      · have hk2 : (k : Int) < 50 := by omega
        obtain ⟨g, off, ha, hat⟩ := HD.out (by omega)
        subst ha
        have HAT := Lib.hid (hat k hlt)
        obtain ⟨p, hp⟩ : ∃ p, p = m.tops.getD k default := ⟨_, rfl⟩
        rw [← hp] at HAT
        have hkl : k < m.tops.length := by rw [← HN.out]; exact hlt
        have HKX := Lib.hid (show ∀ y ∈ p.all, y.key.size ≤ 140737488355328 ∧ y.body.size ≤ 140737488355328 by rw [hp, getD_lt hkl]; exact HK.out _ (List.getElem_mem hkl))
        obtain ⟨an, han⟩ : ∃ an, an = p.all.length := ⟨_, rfl⟩
        have HAN := Lib.hid han
        clear hat hp han hkl
        go_wp2_with fail
        go_loopg [3, 5] (min an 2000) (fun g' s i wi => ∃ (q : Nat) (u : Int), (q ≤ an ∧ q ≤ 2000) ∧ g' = min an 2000 - q ∧ i = .int .i64 (q : Int) ∧ s = .int .i64 u ∧ (0 ≤ u ∧ u ≤ (k : Int) * 20060000 + (q : Int) * 10030) ∧ Hid (Below w.heap.size w wi) ∧ Hid (Blk wi w.heap.size 25 [.slice (some ⟨g, off, none⟩) n cap, .slice b nc cc]))
        case atStart => exact ⟨0, t, ⟨Nat.zero_le _, Nat.zero_le _⟩, rfl, rfl, rfl, by omega, HB, HP⟩
        case round =>
          clear HB HP p0 p1 pz pl
          obtain ⟨q, u, ⟨hq, hq5⟩, rfl, rfl, rfl, ⟨u0, u1⟩, HB, HP⟩ := hrel
          obtain ⟨p0, p1, pz⟩ := cells2 HP.out
          have pl := HP.out.lt
          obtain ⟨ea, ecap, ⟨⟨c0, -⟩, -⟩, hPl⟩ := HAT.out.keep HB.out
          rw [← HAN.out] at c0 hPl
          obtain ⟨ea2, ecap2, ev, hsl⟩ := hPl
          injection ev with ev
          simp at ev
          obtain ⟨rfl, -, rfl⟩ := ev
          obtain ⟨⟨_, hcape⟩, ⟨hmxe, _⟩, hd⟩ := hsl.ents
          rw [← HAN.out] at hcape
          unfold maxLen at hmxe
          have an0 : (an : Int) ≤ 9223372036854775807 := by omega
          have hg : g < wr.heap.size := World.block_lt_of_cell? wr _ c0
          by_cases hlq : q < an
          · have hq0 : (0 : Int) ≤ (q : Int) := by omega
            have hq1 : (q : Int) < (an : Int) := by omega
            by_cases h2k : q < 2000
            · have hq2 : (q : Int) < 2000 := by omega
              obtain ⟨bb, of9, ha, hat⟩ := hd (by rw [← HAN.out]; omega)
              subst ha
              have hql : q < p.all.length := by rw [← HAN.out]; exact hlq
              have cc1 := hat q hql
              obtain ⟨y, hy⟩ : ∃ y, y = p.all.getD q default := ⟨_, rfl⟩
              rw [← hy] at cc1
              have e2 := cc1.1.2
              have e3 := cc1.2
              have hbl : bb < wr.heap.size := World.block_lt_of_cell? wr _ e2
              have hks : (y.key.size : Int) < 5000 ∨ 5000 < (y.key.size : Int) ∨ (y.key.size : Int) = 5000 := by omega
              have hbs : (y.body.size : Int) < 5000 ∨ 5000 < (y.body.size : Int) ∨ (y.body.size : Int) = 5000 := by omega
              have kk0 : (0 : Int) ≤ (y.key.size : Int) := by omega
              have bb0 : (0 : Int) ≤ (y.body.size : Int) := by omega
              clear hsl hd hat cc1 hy hql
              rcases hks with hks | hks | hks
              · rcases hbs with hbs | hbs | hbs
                · have w1_ : IntKind.i64.wrap (30 + (y.key.size : Int)) = 30 + (y.key.size : Int) := IntWalk.i64_in _ (by omega)
                  have w2_ : IntKind.i64.wrap (30 + (y.key.size : Int) + (y.body.size : Int)) = 30 + (y.key.size : Int) + (y.body.size : Int) := IntWalk.i64_in _ (by omega)
                  have w3_ : IntKind.i64.wrap (u + (30 + (y.key.size : Int) + (y.body.size : Int))) = u + (30 + (y.key.size : Int) + (y.body.size : Int)) := IntWalk.i64_in _ (by omega)
                  go_wp2_with fail
                  go_region
                  go_wp2_with fail
                  go_roundg (min an 2000 - (q + 1))
                  case measure => omega
                  case rel => exact ⟨q + 1, u + (30 + (y.key.size : Int) + (y.body.size : Int)), ⟨by omega, by omega⟩, rfl, by go_num, by first | rfl | (simp; omega), ⟨by omega, by omega⟩, Lib.hid (Below.drew HB.out), Lib.hid (Blk.drew HP.out)⟩
                · have w1_ : IntKind.i64.wrap (30 + (y.key.size : Int)) = 30 + (y.key.size : Int) := IntWalk.i64_in _ (by omega)
                  have w2_ : IntKind.i64.wrap (30 + (y.key.size : Int) + 5000) = 30 + (y.key.size : Int) + 5000 := IntWalk.i64_in _ (by omega)
                  have w3_ : IntKind.i64.wrap (u + (30 + (y.key.size : Int) + 5000)) = u + (30 + (y.key.size : Int) + 5000) := IntWalk.i64_in _ (by omega)
                  go_wp2_with fail
                  go_region
                  go_wp2_with fail
                  go_roundg (min an 2000 - (q + 1))
                  case measure => omega
                  case rel => exact ⟨q + 1, u + (30 + (y.key.size : Int) + 5000), ⟨by omega, by omega⟩, rfl, by go_num, by first | rfl | (simp; omega), ⟨by omega, by omega⟩, Lib.hid (Below.drew HB.out), Lib.hid (Blk.drew HP.out)⟩
                · have w1_ : IntKind.i64.wrap (30 + (y.key.size : Int)) = 30 + (y.key.size : Int) := IntWalk.i64_in _ (by omega)
                  have w2_ : IntKind.i64.wrap (30 + (y.key.size : Int) + 5000) = 30 + (y.key.size : Int) + 5000 := IntWalk.i64_in _ (by omega)
                  have w3_ : IntKind.i64.wrap (u + (30 + (y.key.size : Int) + 5000)) = u + (30 + (y.key.size : Int) + 5000) := IntWalk.i64_in _ (by omega)
                  go_wp2_with fail
                  go_region
                  go_wp2_with fail
                  go_roundg (min an 2000 - (q + 1))
                  case measure => omega
                  case rel => exact ⟨q + 1, u + (30 + (y.key.size : Int) + 5000), ⟨by omega, by omega⟩, rfl, by go_num, by first | rfl | (simp; omega), ⟨by omega, by omega⟩, Lib.hid (Below.drew HB.out), Lib.hid (Blk.drew HP.out)⟩
              · rcases hbs with hbs | hbs | hbs
                · have w1_ : IntKind.i64.wrap (30 + 5000) = 30 + 5000 := IntWalk.i64_in _ (by omega)
                  have w2_ : IntKind.i64.wrap (30 + 5000 + (y.body.size : Int)) = 30 + 5000 + (y.body.size : Int) := IntWalk.i64_in _ (by omega)
                  have w3_ : IntKind.i64.wrap (u + (30 + 5000 + (y.body.size : Int))) = u + (30 + 5000 + (y.body.size : Int)) := IntWalk.i64_in _ (by omega)
                  go_wp2_with fail
                  go_region
                  go_wp2_with fail
                  go_roundg (min an 2000 - (q + 1))
                  case measure => omega
                  case rel => exact ⟨q + 1, u + (30 + 5000 + (y.body.size : Int)), ⟨by omega, by omega⟩, rfl, by go_num, by first | rfl | (simp; omega), ⟨by omega, by omega⟩, Lib.hid (Below.drew HB.out), Lib.hid (Blk.drew HP.out)⟩
                · have w1_ : IntKind.i64.wrap (30 + 5000) = 30 + 5000 := IntWalk.i64_in _ (by omega)
                  have w2_ : IntKind.i64.wrap (30 + 5000 + 5000) = 30 + 5000 + 5000 := IntWalk.i64_in _ (by omega)
                  have w3_ : IntKind.i64.wrap (u + (30 + 5000 + 5000)) = u + (30 + 5000 + 5000) := IntWalk.i64_in _ (by omega)
                  go_wp2_with fail
                  go_region
                  go_wp2_with fail
                  go_roundg (min an 2000 - (q + 1))
                  case measure => omega
                  case rel => exact ⟨q + 1, u + (30 + 5000 + 5000), ⟨by omega, by omega⟩, rfl, by go_num, by first | rfl | (simp; omega), ⟨by omega, by omega⟩, Lib.hid (Below.drew HB.out), Lib.hid (Blk.drew HP.out)⟩
                · have w1_ : IntKind.i64.wrap (30 + 5000) = 30 + 5000 := IntWalk.i64_in _ (by omega)
                  have w2_ : IntKind.i64.wrap (30 + 5000 + 5000) = 30 + 5000 + 5000 := IntWalk.i64_in _ (by omega)
                  have w3_ : IntKind.i64.wrap (u + (30 + 5000 + 5000)) = u + (30 + 5000 + 5000) := IntWalk.i64_in _ (by omega)
                  go_wp2_with fail
                  go_region
                  go_wp2_with fail
                  go_roundg (min an 2000 - (q + 1))
                  case measure => omega
                  case rel => exact ⟨q + 1, u + (30 + 5000 + 5000), ⟨by omega, by omega⟩, rfl, by go_num, by first | rfl | (simp; omega), ⟨by omega, by omega⟩, Lib.hid (Below.drew HB.out), Lib.hid (Blk.drew HP.out)⟩
              · rcases hbs with hbs | hbs | hbs
                · have w1_ : IntKind.i64.wrap (30 + 5000) = 30 + 5000 := IntWalk.i64_in _ (by omega)
                  have w2_ : IntKind.i64.wrap (30 + 5000 + (y.body.size : Int)) = 30 + 5000 + (y.body.size : Int) := IntWalk.i64_in _ (by omega)
                  have w3_ : IntKind.i64.wrap (u + (30 + 5000 + (y.body.size : Int))) = u + (30 + 5000 + (y.body.size : Int)) := IntWalk.i64_in _ (by omega)
                  go_wp2_with fail
                  go_region
                  go_wp2_with fail
                  go_roundg (min an 2000 - (q + 1))
                  case measure => omega
                  case rel => exact ⟨q + 1, u + (30 + 5000 + (y.body.size : Int)), ⟨by omega, by omega⟩, rfl, by go_num, by first | rfl | (simp; omega), ⟨by omega, by omega⟩, Lib.hid (Below.drew HB.out), Lib.hid (Blk.drew HP.out)⟩
                · have w1_ : IntKind.i64.wrap (30 + 5000) = 30 + 5000 := IntWalk.i64_in _ (by omega)
                  have w2_ : IntKind.i64.wrap (30 + 5000 + 5000) = 30 + 5000 + 5000 := IntWalk.i64_in _ (by omega)
                  have w3_ : IntKind.i64.wrap (u + (30 + 5000 + 5000)) = u + (30 + 5000 + 5000) := IntWalk.i64_in _ (by omega)
                  go_wp2_with fail
                  go_region
                  go_wp2_with fail
                  go_roundg (min an 2000 - (q + 1))
                  case measure => omega
                  case rel => exact ⟨q + 1, u + (30 + 5000 + 5000), ⟨by omega, by omega⟩, rfl, by go_num, by first | rfl | (simp; omega), ⟨by omega, by omega⟩, Lib.hid (Below.drew HB.out), Lib.hid (Blk.drew HP.out)⟩
                · have w1_ : IntKind.i64.wrap (30 + 5000) = 30 + 5000 := IntWalk.i64_in _ (by omega)
                  have w2_ : IntKind.i64.wrap (30 + 5000 + 5000) = 30 + 5000 + 5000 := IntWalk.i64_in _ (by omega)
                  have w3_ : IntKind.i64.wrap (u + (30 + 5000 + 5000)) = u + (30 + 5000 + 5000) := IntWalk.i64_in _ (by omega)
                  go_wp2_with fail
                  go_region
                  go_wp2_with fail
                  go_roundg (min an 2000 - (q + 1))
                  case measure => omega
                  case rel => exact ⟨q + 1, u + (30 + 5000 + 5000), ⟨by omega, by omega⟩, rfl, by go_num, by first | rfl | (simp; omega), ⟨by omega, by omega⟩, Lib.hid (Below.drew HB.out), Lib.hid (Blk.drew HP.out)⟩
            · obtain rfl : q = 2000 := by omega
              clear hsl hd
              go_wp2_with fail
              go_roundg (min n 50 - (k + 1))
              case measure => omega
              case rel => exact ⟨k + 1, u, ⟨by omega, by omega⟩, rfl, by go_num, rfl, ⟨by omega, by omega⟩, HB, HP⟩
          · obtain rfl : q = an := by omega
            have hlq' : ¬ (q : Int) < (q : Int) := by omega
            clear hsl hd
            go_wp2_with fail
            go_roundg (min n 50 - (k + 1))
            case measure => omega
            case rel => exact ⟨k + 1, u, ⟨by omega, by omega⟩, rfl, by go_num, rfl, ⟨by omega, by omega⟩, HB, HP⟩
      · obtain rfl : k = 50 := by omega
        have hn5 : (50 : Int) < (n : Int) := by omega
        go_wp2_with fail
        go_ret
        exact ⟨⟨true, rfl, fun h => by cases h⟩, HB.out⟩
    · obtain rfl : k = n := by omega
      have hlt' : ¬ (k : Int) < (k : Int) := by omega
      have hn5 : ¬ (50 : Int) < (k : Int) := by omega
      by_cases hbig : 100000 < t
      · go_wp2_with fail
        go_ret
        exact ⟨⟨true, rfl, fun h => by cases h⟩, HB.out⟩
      · go_wp2_with fail
        refine (great_any (RR.out.below HB.out) HW.out).mono ?_
        rintro e w4 ⟨⟨gr, rfl, hgr⟩, rfl⟩
        have HG := Lib.hid hgr
        clear hgr
        go_wp2_with fail
        go_ret
        refine ⟨⟨gr, rfl, fun h => ⟨?_, HG.out h⟩⟩, HB.out⟩
        rw [← HN.out]; exact hk5
end Go.Proofs.Ytblgmjbajnkcdab
