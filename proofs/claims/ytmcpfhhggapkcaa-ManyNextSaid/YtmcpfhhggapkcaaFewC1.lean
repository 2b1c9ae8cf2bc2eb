/-
  Layer 7: the kids that a range has seen, and those it has not (no program in sight).
-/
import Derived.Test.YtmcpfhhggapkcaaFewL2
namespace Go.Proofs.Ytmcpfhhggapkcaa
open Go.RowKit Go.Shelf
set_option linter.unusedVariables false
set_option linter.unusedSimpArgs false

theorem mem_high_of {f : Kids} {b j : Nat} {r : Int × Int} (h1 : b ≤ j) (h2 : j < 256) (hf : f j = some r) : (j, r) ∈ highK f b := by
  refine mem_kidsIn.2 ⟨?_, hf⟩
  refine List.mem_iff_getElem?.2 ⟨j - b, ?_⟩
  rw [List.getElem?_drop, show b + (j - b) = j by omega, List.getElem?_range h2]
theorem high_sorted (f : Kids) {b : Nat} (hb : b ≤ 256) : (highK f b).Pairwise (fun a c => a.1 < c.1) := by
  have h := kids_sorted f
  rw [kids_split f b hb] at h
  exact (List.pairwise_append.1 h).2.1
/-- The kid at hand is the first behind those that were seen. -/
theorem at_next {f : Kids} {pre : List Kid} {x : Kid} (hp : (pre ++ [x]) <+: kidsF f) : f x.1.val = some x.2 ∧ fromOf pre ≤ x.1.val ∧ ∀ j, fromOf pre ≤ j → j < x.1.val → f j = none := by
  have h0 : f x.1.val = some x.2 := kidsF_mem (hp.subset (by simp))
  refine ⟨h0, (next_at hp).2, fun j h1 h2 => ?_⟩
  obtain ⟨t, ht⟩ := hp
  have h := high_rest (f := f) (pre := pre) (rest := x :: t) (by rw [← ht]; simp)
  have hs := high_sorted f (fromOf_le pre)
  rw [h, List.map_cons, List.pairwise_cons] at hs
  cases hj : f j with
  | none => rfl
  | some r =>
    have hm := mem_high_of h1 (by have := x.1.isLt; omega) hj
    rw [h, List.map_cons, List.mem_cons] at hm
    rcases hm with hm | hm
    · injection hm with hm _; omega
    · have := hs.1 _ hm; dsimp only at this; omega
/-- Behind the last kid there is none. -/
theorem at_end {f : Kids} {j : Nat} (h1 : fromOf (kidsF f) ≤ j) (h2 : j < 256) : f j = none := by
  have h := high_rest (f := f) (pre := kidsF f) (rest := []) (by simp)
  cases hj : f j with
  | none => rfl
  | some r =>
    have hm := mem_high_of h1 h2 hj
    rw [h] at hm
    cases hm
end Go.Proofs.Ytmcpfhhggapkcaa
