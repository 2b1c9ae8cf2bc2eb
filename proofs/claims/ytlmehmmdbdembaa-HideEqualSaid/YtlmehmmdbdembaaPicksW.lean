/-
  Walks: op.Picks and the reference's Picks.
-/
import Derived.Test.YtlmehmmdbdembaaReqM
namespace Go.Proofs.Ytlmehmmdbdembaa
open Go.RowKit
set_option linter.unusedVariables false

theorem mul_small {b l : Int} (h1 : 2 ≤ b) (h2 : b ≤ 4096) (h3 : 0 ≤ l) (h4 : l ≤ 4096) : 0 ≤ b * (l + 1) ∧ b * (l + 1) ≤ 16781312 := by
  have h5 : b * (l + 1) ≤ 4096 * (l + 1) := Int.mul_le_mul_of_nonneg_right h2 (by omega)
  have h6 : 0 ≤ b * (l + 1) := Int.mul_nonneg (by omega) (by omega)
  omega

def PicksEnd (r : Req) (b : Int) (w : World) (e : Ending) (w' : World) : Prop := e = .returned (.int .i64 (picksOf r b)) ∧ Below w.heap.size w w'

set_option maxHeartbeats 800000 in
theorem picks_any (r : Req) (b : Int) (w : World) : Calls Try.prog 31 #[r.v, .int .i64 b] w (PicksEnd r b w) := by
  by_cases hs : 2 ≤ b ∧ b ≤ 4096 ∧ 0 ≤ r.lim ∧ r.lim ≤ 4096
  · have hm := mul_small hs.1 hs.2.1 hs.2.2.1 hs.2.2.2
    have s1 : IntKind.i64.wrap (b * (r.lim + 1)) = b * (r.lim + 1) := IntWalk.i64_in _ (by omega)
    obtain ⟨a1, a2, a3, a4⟩ := hs
    clear hm
    go_enter Try.func31, Try.ntmps31
    go_wp2
    all_goals go_ret
    all_goals refine ⟨ret_int ?_, below_box w _⟩
    all_goals (clear s1; unfold picksOf; first | (rw [if_pos (by omega)]) | (rw [if_neg (by omega), if_pos (by omega)]) | (rw [if_neg (by omega), if_neg (by omega)]))
  · go_enter Try.func31, Try.ntmps31
    go_wp2
    all_goals go_ret
    all_goals refine ⟨ret_int ?_, below_box w _⟩
    all_goals (unfold picksOf; first | (rw [if_pos (by omega)]) | (rw [if_neg (by omega), if_pos (by omega)]) | (rw [if_neg (by omega), if_neg (by omega)]))

set_option maxHeartbeats 800000 in
theorem rpicks_any (r : Req) (b : Int) (w : World) : Calls Try.prog 56 #[r.v, .int .i64 b] w (PicksEnd r b w) := by
  by_cases hs : 2 ≤ b ∧ b ≤ 4096 ∧ 0 ≤ r.lim ∧ r.lim ≤ 4096
  · have hm := mul_small hs.1 hs.2.1 hs.2.2.1 hs.2.2.2
    have s1 : IntKind.i64.wrap (b * (r.lim + 1)) = b * (r.lim + 1) := IntWalk.i64_in _ (by omega)
    obtain ⟨a1, a2, a3, a4⟩ := hs
    clear hm
    go_enter Try.func56, Try.ntmps56
    go_wp2
    all_goals go_ret
    all_goals refine ⟨ret_int ?_, below_box w _⟩
    all_goals (clear s1; unfold picksOf; first | (rw [if_pos (by omega)]) | (rw [if_neg (by omega), if_pos (by omega)]) | (rw [if_neg (by omega), if_neg (by omega)]))
  · go_enter Try.func56, Try.ntmps56
    go_wp2
    all_goals go_ret
    all_goals refine ⟨ret_int ?_, below_box w _⟩
    all_goals (unfold picksOf; first | (rw [if_pos (by omega)]) | (rw [if_neg (by omega), if_pos (by omega)]) | (rw [if_neg (by omega), if_neg (by omega)]))

end Go.Proofs.Ytlmehmmdbdembaa
