/-
  ref21.Do, whole.
-/
import Derived.Test.YtblgmjbajnkcdaaRefDoCom
import Derived.Test.YtblgmjbajnkcdaaRefDoTrim
namespace Go.Proofs.Ytblgmjbajnkcdaa
open Go.RowKit

theorem refStrDo_any {v : Value} {s u : Str} {w : World} {x kind mid mt id time : Int} {ga ma : Option Addr} {gn gc mn mc : Nat} {mk mb : ByteArray} (topic who n : Int) (h : StrR w v s) (hu : doS s kind topic who n = (u, x)) :
    Calls Try.prog 23 #[v, .agg #[.int .u8 kind, .int .i64 mid, .slice ga gn gc, .int .i64 mt, .string mk, .string mb, .int .i64 id, .int .i64 time, .slice ma mn mc, .int .i64 topic, .int .i64 who, .int .i64 n]] w (DoEnd u x w) := by
  by_cases hm : mayS s
  · by_cases hr : rightD kind topic who n
    · obtain ⟨hk, ⟨h0, h1⟩, e2, e3⟩ := hr
      obtain ⟨i, rfl⟩ : ∃ i : Nat, topic = (i : Int) := ⟨topic.toNat, by omega⟩
      have hi : i < 4 := by omega
      have hmt := topN_may hm h0 h1
      have hn : ¬ (n < 0 ∨ 1073741824 < n) := by omega
      rw [doS, if_pos (askS_may hm h0 h1)] at hu
      rcases hk with (rfl | rfl) | ⟨rfl, e0, e1⟩
      · rw [if_neg (by decide), if_pos rfl, trimP_yes hmt hn, turnS, if_pos rfl] at hu
        simp only [Int.toNat_natCast] at hu
        cases hu
        exact refDo_trim who n h hm hi e2 e3 (trimP_yes hmt hn)
      · rw [if_neg (by decide), if_neg (by decide), if_pos rfl, compactP_yes hmt hn, turnS, if_pos rfl] at hu
        simp only [Int.toNat_natCast] at hu
        cases hu
        exact refDo_compact who n h hm hi e2 e3 (trimP_yes hmt hn) (compactP_yes hmt hn)
      · rw [if_pos rfl, commitS, if_neg (by omega)] at hu
        exact refDo_com who n h hm hi e0 e1 e2 e3 hu
    · rw [doS_no hm hr] at hu
      cases hu
      exact refDo_no topic who n h hm hr
  · rw [doS_bad hm] at hu
    cases hu
    exact refDo_bad topic who n h hm
end Go.Proofs.Ytblgmjbajnkcdaa
