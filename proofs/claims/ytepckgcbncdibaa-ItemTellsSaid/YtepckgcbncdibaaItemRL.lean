/- tympanref10.Long: the walk. -/
import Derived.Test.YtepckgcbncdibaaItemLong
namespace Go.Proofs.Ytepckgcbncdibaa
open Go.RowKit
theorem refLong_any (n : Int) (w : World) : Calls Try.prog 69 #[.int .i64 n] w fun e w' => e = .returned (.bool (!badLen n)) ∧ w = w' := by
  by_cases h : n < 0
  · rw [badLen_yes (.inl h)]
    go_enter Try.func69, Try.ntmps69
    go_wp2
    go_ret
    exact ⟨rfl, rfl⟩
  · by_cases h2 : 1073741823 < n
    · rw [badLen_yes (.inr h2)]
      have h3 : decide (n ≤ 1073741823) = false := by rw [decide_eq_false_iff_not]; omega
      go_enter Try.func69, Try.ntmps69
      go_wp2
      go_ret
      exact ⟨rfl, rfl⟩
    · rw [badLen_no (by omega)]
      have h3 : n ≤ 1073741823 := by omega
      go_enter Try.func69, Try.ntmps69
      go_wp2
      go_ret
      exact ⟨rfl, rfl⟩
end Go.Proofs.Ytepckgcbncdibaa
