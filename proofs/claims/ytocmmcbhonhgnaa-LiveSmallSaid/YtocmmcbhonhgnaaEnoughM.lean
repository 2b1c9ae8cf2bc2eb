/-
  Plain laws: the least budget, by binary search and by trying.
-/
import Derived.Test.YtocmmcbhonhgnaaReqM
namespace Go.Proofs.Ytocmmcbhonhgnaa
set_option linter.unusedVariables false

theorem picks_mono {r : Req} (h : isB r = true) {a b : Int} (ha : 2 ≤ a) (hab : a ≤ b) (hb : b ≤ 4096) : picksOf r a ≤ picksOf r b := by
  have hd : 1 ≤ r.deed ∧ r.deed ≤ 5 := by simp [isB] at h; omega
  unfold picksOf
  rw [if_neg (show ¬(r.deed < 1 ∨ 5 < r.deed ∨ a < 2 ∨ 4096 < a) by omega), if_neg (show ¬(r.deed < 1 ∨ 5 < r.deed ∨ b < 2 ∨ 4096 < b) by omega)]
  by_cases h5 : r.deed = 5 ∧ 0 ≤ r.lim ∧ r.lim ≤ 4096
  · rw [if_pos h5, if_pos h5]
    exact Int.mul_le_mul_of_nonneg_right hab (by omega)
  · rw [if_neg h5, if_neg h5]
    exact hab

theorem leastFrom_at {r : Req} {need low : Int} : ∀ (n : Nat) (b : Int), b ≤ low → low ≤ b + n → (∀ c, b ≤ c → c < low → picksOf r c ≤ need) → (low < b + n → need < picksOf r low) → leastFrom r need n b = if low < b + n then low else 0
  | 0, b, h1, h2, _, _ => by
    rw [if_neg (by omega)]
    rfl
  | n + 1, b, h1, h2, h3, h4 => by
    unfold leastFrom
    by_cases hb : b = low
    · subst hb
      have := h4 (by omega)
      rw [if_pos this, if_pos (by omega)]
    · rw [if_neg (by have := h3 b (Int.le_refl _) (by omega); omega)]
      rw [leastFrom_at n (b + 1) (by omega) (by omega) (fun c hc hl => h3 c (by omega) hl) (fun hl => h4 (by omega))]
      by_cases hl : low < b + (n + 1 : Nat)
      · rw [if_pos hl, if_pos (by omega)]
      · rw [if_neg hl, if_neg (by omega)]

/-- What the binary search knows. -/
structure Srch (r : Req) (need low high : Int) : Prop where
  lo : 2 ≤ low
  le : low ≤ high
  hi : high ≤ 4097
  below : ∀ c, 2 ≤ c → c < low → picksOf r c ≤ need
  above : high ≤ 4096 → need < picksOf r high
theorem Srch.start (r : Req) (need : Int) : Srch r need 2 4097 := ⟨by omega, by omega, by omega, fun c h1 h2 => by omega, fun h => by omega⟩
theorem Srch.down {r : Req} {need low high : Int} (h : Srch r need low high) (hl : low < high) (hp : need < picksOf r ((low + high) / 2)) : Srch r need low ((low + high) / 2) :=
  ⟨h.lo, by have := h.le; omega, by have := h.hi; omega, h.below, fun _ => hp⟩
theorem Srch.up {r : Req} {need low high : Int} (his : isB r = true) (h : Srch r need low high) (hl : low < high) (hp : picksOf r ((low + high) / 2) ≤ need) : Srch r need ((low + high) / 2 + 1) high :=
  ⟨by have := h.lo; omega, by omega, h.hi, fun c h1 h2 => by
    have a1 := h.lo
    have a2 := h.hi
    exact Int.le_trans (picks_mono his h1 (by omega) (by omega)) hp, h.above⟩
theorem Srch.done {r : Req} {need low : Int} (h : Srch r need low low) : leastFrom r need 4095 2 = if low ≤ 4096 then low else 0 := by
  have a1 := h.lo
  have a2 := h.hi
  rw [leastFrom_at (low := low) 4095 2 a1 (by omega) (fun c h1 h2 => h.below c h1 h2) (fun hl => h.above (by omega))]
  by_cases hl : low ≤ 4096
  · rw [if_pos hl, if_pos (by omega)]
  · rw [if_neg hl, if_neg (by omega)]

end Go.Proofs.Ytocmmcbhonhgnaa
