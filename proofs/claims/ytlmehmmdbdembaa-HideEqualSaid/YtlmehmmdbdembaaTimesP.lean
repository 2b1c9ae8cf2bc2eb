/-
  hide.Times, whatever its arguments: its contract.
-/
import Derived.Test.YtlmehmmdbdembaaTimesW
namespace Go.Proofs.Ytlmehmmdbdembaa
open Go.RowKit
set_option linter.unusedVariables false

theorem times_end0 (n : Int) (w w' : World) (hb : Below w.heap.size w w') : TimesEnd ([], n) w (.returned (.tuple #[.slice none 0 0, .int .i64 n])) w' :=
  ⟨_, rfl, ⟨rfl, Or.inl ⟨rfl, rfl⟩⟩, hb⟩

set_option maxHeartbeats 1600000 in
set_option maxRecDepth 100000 in
theorem times_long (n b : Int) (nE nP : Nat) (Ae Ap : Option Addr) (ce cp : Nat) (w : World) (h : 4096 < nE ∨ 65536 < nP) :
    Calls Try.prog 13 #[.int .i64 n, .int .i64 b, .agg #[.slice Ae nE ce, .slice Ap nP cp]] w (TimesEnd ([], 3) w) := by
  by_cases h1 : 4096 < nE
  · clear h
    have h1' : (4096 : Int) < (nE : Int) := by omega
    go_enter Try.func13, Try.ntmps13
    go_wp2
    go_ret2
    exact times_end0 3 w _ ((Below.refl _ _).alloc (Nat.le_refl _) _ |>.alloc (by simp) _)
  · have h2 : 65536 < nP := by omega
    have h1' : ¬ (4096 : Int) < (nE : Int) := by omega
    have h2' : (65536 : Int) < (nP : Int) := by omega
    clear h
    go_enter Try.func13, Try.ntmps13
    go_wp2
    go_ret2
    exact times_end0 3 w _ ((Below.refl _ _).alloc (Nat.le_refl _) _ |>.alloc (by simp) _)

set_option maxHeartbeats 1600000 in
set_option maxRecDepth 100000 in
theorem times_bad (n b : Int) (nE nP : Nat) (Ae Ap : Option Addr) (ce cp : Nat) (w : World) (h1 : nE ≤ 4096) (h2 : nP ≤ 65536) (h : n < 1 ∨ 64 < n ∨ b < 2 ∨ 4096 < b) :
    Calls Try.prog 13 #[.int .i64 n, .int .i64 b, .agg #[.slice Ae nE ce, .slice Ap nP cp]] w (TimesEnd ([], 2) w) := by
  have h1' : ¬ (4096 : Int) < (nE : Int) := by omega
  have h2' : ¬ (65536 : Int) < (nP : Int) := by omega
  by_cases a1 : n < 1
  · clear h
    go_enter Try.func13, Try.ntmps13
    go_wp2
    go_ret2
    exact times_end0 2 w _ ((Below.refl _ _).alloc (Nat.le_refl _) _ |>.alloc (by simp) _)
  · by_cases a2 : 64 < n
    · clear h
      go_enter Try.func13, Try.ntmps13
      go_wp2
      go_ret2
      exact times_end0 2 w _ ((Below.refl _ _).alloc (Nat.le_refl _) _ |>.alloc (by simp) _)
    · by_cases a3 : b < 2
      · clear h
        go_enter Try.func13, Try.ntmps13
        go_wp2
        go_ret2
        exact times_end0 2 w _ ((Below.refl _ _).alloc (Nat.le_refl _) _ |>.alloc (by simp) _)
      · have a4 : 4096 < b := by omega
        clear h
        go_enter Try.func13, Try.ntmps13
        go_wp2
        go_ret2
        exact times_end0 2 w _ ((Below.refl _ _).alloc (Nat.le_refl _) _ |>.alloc (by simp) _)

/-- hide.Times. -/
theorem times_any (n b : Int) (es : List Ent) (ps : List Int) (Ae Ap : Option Addr) (ce cp : Nat) (w : World)
    (hses : ∀ e ∈ es, I64 e.ses ∧ e.r.ok) (hps : ∀ p ∈ ps, I64 p) (hE : Reads w w.heap.size 13 Ae es.length (es.flatMap Ent.row)) (hP : Reads w w.heap.size 1 Ap ps.length (ps.map (Value.int .i64))) :
    Calls Try.prog 13 #[.int .i64 n, .int .i64 b, .agg #[.slice Ae es.length ce, .slice Ap ps.length cp]] w (TimesEnd (timesM n b es ps) w) := by
  by_cases h1 : 4096 < es.length ∨ 65536 < ps.length
  · have e : timesM n b es ps = ([], 3) := by unfold timesM; rw [if_pos h1]
    rw [e]
    exact times_long n b _ _ Ae Ap ce cp w h1
  · by_cases h2 : n < 1 ∨ 64 < n ∨ b < 2 ∨ 4096 < b
    · have e : timesM n b es ps = ([], 2) := by unfold timesM; rw [if_neg h1, if_pos h2]
      rw [e]
      exact times_bad n b _ _ Ae Ap ce cp w (by omega) (by omega) h2
    · obtain ⟨m, rfl⟩ : ∃ m : Nat, n = m := ⟨n.toNat, by omega⟩
      exact times_good m b es ps Ae Ap ce cp w (by omega) (by omega) (by omega) (by omega) hses hps hE hP
end Go.Proofs.Ytlmehmmdbdembaa
