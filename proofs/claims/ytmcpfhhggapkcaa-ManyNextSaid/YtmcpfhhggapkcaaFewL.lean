/-
  Layer 7: what a row of at most 16 bytes holds (no program in sight).
-/
import Derived.Test.YtmcpfhhggapkcaaFewS
namespace Go.Proofs.Ytmcpfhhggapkcaa
open Go.RowKit Go.Shelf
set_option linter.unusedVariables false
set_option linter.unusedSimpArgs false

theorem cnt_set_some {f : Kids} {b : Nat} (r : Int × Int) (hb : b < 256) (h : f b = none) : cntK (setK f b (some r)) = cntK f + 1 := by
  unfold cntK
  rw [kids_set f b _ hb, kids_at f b hb, h]
  simp
  omega
theorem cnt_set_none {f : Kids} {b : Nat} {r : Int × Int} (hb : b < 256) (h : f b = some r) : cntK (setK f b none) + 1 = cntK f := by
  unfold cntK
  rw [kids_set f b _ hb, kids_at f b hb, h]
  simp
  omega
theorem noKids_cnt : cntK noKids = 0 := by decide
/-- The row's kids are the bytes of the list. -/
theorem rowK_law_n (n : Nat) : ∀ l : List Nat, l.length = n → l.length ≤ 16 → (∀ b ∈ l, b < 256) → (∀ b, ((rowK l).1 b).isSome = decide (b ∈ l)) ∧ cntK (rowK l).1 ≤ l.length := by
  induction n with
  | zero => intro l h0 _ _; rw [List.eq_nil_of_length_eq_zero h0]; exact ⟨fun b => by simp [rowK, noKids], by rw [show (rowK []).1 = noKids from rfl, noKids_cnt]; exact Nat.zero_le _⟩
  | succ n ih =>
    intro l0 hn hlen hb
    rcases List.eq_nil_or_concat l0 with rfl | ⟨l, x, rfl⟩
    · cases hn
    rw [List.concat_eq_append] at hn hlen hb ⊢
    rw [List.length_append] at hlen hn
    have hlx : l.length + 1 ≤ 16 := hlen
    obtain ⟨h1, h2⟩ := ih l (by simpa using hn) (by omega) (fun b h => hb b (by simp [h]))
    have hx : x < 256 := hb x (by simp)
    rw [rowK_snoc]
    unfold rowStep putK
    generalize hf : (rowK l).1 = f at h1 h2 ⊢
    by_cases hs : (f x).isSome = true
    · rw [if_pos hs]
      refine ⟨fun b => ?_, by simp; omega⟩
      have hm : x ∈ l := by have := h1 x; rw [hs] at this; exact of_decide_eq_true this.symm
      rw [h1 b]
      by_cases hbl : b ∈ l
      · simp [hbl]
      · have : b ≠ x := fun e => hbl (e ▸ hm)
        simp [hbl, this]
    · have hn : f x = none := by simpa using hs
      rw [if_neg hs, if_neg (by omega)]
      refine ⟨fun b => ?_, by dsimp only; rw [cnt_set_some _ hx hn, List.length_append]; simp; omega⟩
      dsimp only [setK]
      by_cases hbx : b = x
      · simp [hbx]
      · rw [if_neg hbx, h1 b]
        simp [hbx]
theorem rowK_law (l : List Nat) (h : l.length ≤ 16) (hb : ∀ b ∈ l, b < 256) : (∀ b, ((rowK l).1 b).isSome = decide (b ∈ l)) ∧ cntK (rowK l).1 ≤ l.length := rowK_law_n _ l rfl h hb
/-- What Take leaves. -/
theorem take_law (f : Kids) {b : Nat} (hb : b < 256) : (((takeK f b).1.2 == 0) = (f b).isSome) ∧ (takeK f b).1.1 = (f b).getD (0, 0) ∧ ((takeK f b).2 b).isSome = false ∧ (decide (cntK (takeK f b).2 = cntK f) = !(f b).isSome) := by
  unfold takeK
  rcases h : f b with _ | r
  · refine ⟨rfl, rfl, by simp [h], by simp⟩
  · have := cnt_set_none hb h
    refine ⟨rfl, rfl, by simp [setK], ?_⟩
    simp; omega
end Go.Proofs.Ytmcpfhhggapkcaa
