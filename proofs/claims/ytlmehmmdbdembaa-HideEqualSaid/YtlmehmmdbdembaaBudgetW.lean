/-
  Walks: budget.
-/
import Derived.Test.YtlmehmmdbdembaaHideTimesW
namespace Go.Proofs.Ytlmehmmdbdembaa
open Go.RowKit
set_option linter.unusedVariables false

/-- A budget of a number. -/
def budM (n : Int) : Int := ([40, 60, 90, 25, 12, 6, 2, 160] : List Int).getD (n.tmod 8).toNat 0
theorem budM_in (n : Int) (h0 : 0 ≤ n) : 2 ≤ budM n ∧ budM n ≤ 160 := by
  have hk0 : 0 ≤ n.tmod 8 := Int.tmod_nonneg _ h0
  have hk1 : n.tmod 8 < 8 := Int.tmod_lt_of_pos _ (by decide)
  unfold budM
  generalize n.tmod 8 = k at *
  have hkc : k = 0 ∨ k = 1 ∨ k = 2 ∨ k = 3 ∨ k = 4 ∨ k = 5 ∨ k = 6 ∨ k = 7 := by omega
  rcases hkc with rfl | rfl | rfl | rfl | rfl | rfl | rfl | rfl <;> decide

set_option maxHeartbeats 1600000 in
theorem budget_any (n : Int) (w : World) (h0 : 0 ≤ n) (h1 : n ≤ 255) : Calls Try.prog 14 #[.int .u8 n] w (IntEnd (budM n) w) := by
  obtain ⟨k, hk⟩ : ∃ k, n.tmod 8 = k := ⟨_, rfl⟩
  have hk0 : 0 ≤ k := by rw [← hk]; exact Int.tmod_nonneg _ h0
  have hk1 : k < 8 := by rw [← hk]; exact Int.tmod_lt_of_pos _ (by decide)
  have hkc : k = 0 ∨ k = 1 ∨ k = 2 ∨ k = 3 ∨ k = 4 ∨ k = 5 ∨ k = 6 ∨ k = 7 := by omega
  have hm : budM n = ([40, 60, 90, 25, 12, 6, 2, 160] : List Int).getD k.toNat 0 := by unfold budM; rw [hk]
  have HM := Lib.hid hm
  clear hk0 hk1 h0 h1 hm
  rcases hkc with rfl | rfl | rfl | rfl | rfl | rfl | rfl | rfl
  all_goals
    go_enter Try.func14, Try.ntmps14
    go_wp2
    go_ret
    exact ⟨by rw [HM.out]; rfl, below_box w _⟩
end Go.Proofs.Ytlmehmmdbdembaa
