/-
  Layer 8: the first byte that has a kid, and Next (no program in sight).
-/
import Derived.Test.YtmcpfhhggapkcaaManyB
import Derived.Test.YtmcpfhhggapkcaaFewR2
namespace Go.Proofs.Ytmcpfhhggapkcaa
open Go.RowKit Go.Shelf
set_option linter.unusedVariables false
set_option linter.unusedSimpArgs false

theorem bytesLo_lt (f : Kids) (m : Nat) : ∀ k (x : KidB f), x ∈ bytesLo f m k → m ≤ x.1.val ∧ x.1.val < k
  | 0, x, h => by cases h
  | k + 1, x, h => by
    unfold bytesLo at h
    rcases List.mem_append.1 h with h | h
    · have := bytesLo_lt f m k x h; omega
    · split at h
      · rename_i hc
        simp at h
        subst h
        exact ⟨hc.2.1, by simp⟩
      · cases h
theorem bytesLo_nil (f : Kids) (m : Nat) : ∀ k, k ≤ 256 → bytesLo f m k = [] → ∀ j, m ≤ j → j < k → f j = none
  | 0, _, _, j, _, h => by omega
  | k + 1, hk, h, j, h1, h2 => by
    cases hs : (f k).isSome with
    | true =>
      by_cases hm : m ≤ k
      · rw [bytesLo_yes f m hm (by omega) hs] at h
        simp at h
      · omega
    | false =>
      rw [bytesLo_no f m hs] at h
      by_cases hj : j = k
      · subst hj; simpa using hs
      · exact bytesLo_nil f m k (by omega) h j h1 (by omega)
theorem high_skip (f : Kids) (c : Nat) : ∀ d, c + d ≤ 256 → (∀ j, c ≤ j → j < c + d → f j = none) → highK f c = highK f (c + d)
  | 0, _, _ => rfl
  | d + 1, h, hn => by
    rw [high_skip f c d (by omega) (fun j h1 h2 => hn j h1 (by omega)), high_succ f (c + d) (by omega), hn (c + d) (by omega) (by omega)]
    rfl
/-- The first that is seen is Next's. -/
theorem nx_some {f : Kids} {from_ : Int} {x : KidB f} {r : Int × Int} (h : [x] <+: bytesF f (max from_ 0).toNat) (hf : f x.1.val = some r) : nextK f from_ = ((x.1.val : Int), (r, true)) := by
  obtain ⟨m, hm⟩ : ∃ m : Nat, m = (max from_ 0).toNat := ⟨_, rfl⟩
  rw [← hm] at h
  have hx := x.1.isLt
  have hmem : x ∈ bytesLo f m 256 := h.subset (by simp)
  obtain ⟨h1, _⟩ := bytesLo_lt f m 256 x hmem
  have hp : bytesLo f m (x.1.val + 1) <+: bytesF f m := bytesLo_prefix f m (by omega)
  rw [bytesLo_yes f m h1 hx x.2] at hp
  have hnil : bytesLo f m x.1.val = [] := by
    cases hl : bytesLo f m x.1.val with
    | nil => rfl
    | cons y l =>
      have hy := bytesLo_lt f m x.1.val y (by rw [hl]; simp)
      rw [hl] at hp
      obtain ⟨t1, e1⟩ := h
      obtain ⟨t2, e2⟩ := hp
      rw [← e1] at e2
      simp at e2
      have := e2.1
      subst this
      omega
  have hno := bytesLo_nil f m x.1.val (by omega) hnil
  have hc : clampK from_ ≤ x.1.val ∧ ∀ j, clampK from_ ≤ j → j < x.1.val → f j = none := by
    have : clampK from_ = m ∨ 256 ≤ m := by unfold clampK; split <;> (try split) <;> omega
    rcases this with e | e
    · rw [e]; exact ⟨h1, hno⟩
    · omega
  obtain ⟨d, hd⟩ : ∃ d, x.1.val = clampK from_ + d := ⟨x.1.val - clampK from_, by omega⟩
  refine next_high ?_ hx hf
  rw [hd]
  exact high_skip f _ d (by omega) (fun j h1 h2 => hc.2 j h1 (by omega))
theorem nx_none {f : Kids} {from_ : Int} (h : bytesF f (max from_ 0).toNat = []) : nextK f from_ = (0, ((0, 0), false)) := by
  obtain ⟨m, hm⟩ : ∃ m : Nat, m = (max from_ 0).toNat := ⟨_, rfl⟩
  rw [← hm] at h
  have hno := bytesLo_nil f m 256 (Nat.le_refl _) h
  refine next_none ?_
  have hle := clampK_le from_
  obtain ⟨d, hd⟩ : ∃ d, 256 = clampK from_ + d := ⟨256 - clampK from_, by omega⟩
  rw [high_skip f (clampK from_) d (by omega) (fun j h1 h2 => hno j (by
    have : clampK from_ = m ∨ 256 ≤ m := by unfold clampK; split <;> (try split) <;> omega
    unfold clampK at h1 hd
    split at h1 <;> (try split at h1) <;> (try split at hd) <;> (try split at hd) <;> omega) (by omega)), ← hd]
end Go.Proofs.Ytmcpfhhggapkcaa
