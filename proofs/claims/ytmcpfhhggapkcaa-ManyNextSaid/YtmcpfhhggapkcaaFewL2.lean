/-
  Layer 7: FewOrder's plain law (no program in sight).
-/
import Derived.Test.YtmcpfhhggapkcaaFewL
namespace Go.Proofs.Ytmcpfhhggapkcaa
open Go.RowKit Go.Shelf
set_option linter.unusedVariables false
set_option linter.unusedSimpArgs false

theorem rowK_val_n (n : Nat) : ∀ l : List Nat, l.length = n → l.length ≤ 16 → (∀ b ∈ l, b < 256) → (rowK l).1 = (fun b => if b ∈ l then some ((b : Int), 1) else none) ∧ (rowK l).2 + cntK (rowK l).1 = l.length := by
  induction n with
  | zero => intro l h0 _ _; rw [List.eq_nil_of_length_eq_zero h0]; exact ⟨by funext b; simp [rowK, noKids], by rw [show (rowK []).1 = noKids from rfl, noKids_cnt]; rfl⟩
  | succ n ih =>
    intro l0 hn hlen hb
    rcases List.eq_nil_or_concat l0 with rfl | ⟨l, x, rfl⟩
    · cases hn
    rw [List.concat_eq_append] at hn hlen hb ⊢
    rw [List.length_append] at hlen hn
    have hlx : l.length + 1 ≤ 16 := hlen
    obtain ⟨h1, h2⟩ := ih l (by simpa using hn) (by omega) (fun b h => hb b (by simp [h]))
    have hx : x < 256 := hb x (by simp)
    rw [rowK_snoc]
    unfold rowStep putK
    rw [h1] at h2 ⊢
    dsimp only
    by_cases hs : x ∈ l
    · simp only [hs, if_true, Option.isSome_some]
      refine ⟨?_, by simp; omega⟩
      funext b
      by_cases hbx : b = x
      · subst hbx; simp [hs]
      · simp [hbx]
    · simp only [hs, if_false, Option.isSome_none]
      have hc : cntK (fun b => if b ∈ l then some ((b : Int), 1) else none) ≤ l.length := by omega
      rw [if_neg (by simp), if_neg (by omega)]
      refine ⟨?_, ?_⟩
      · funext b
        dsimp only [setK]
        by_cases hbx : b = x
        · simp [hbx]
        · simp [hbx]
      · dsimp only
        rw [cnt_set_some _ hx (by simp [hs])]
        simp; omega
theorem rowK_val (l : List Nat) (h : l.length ≤ 16) (hb : ∀ b ∈ l, b < 256) : (rowK l).1 = (fun b => if b ∈ l then some ((b : Int), 1) else none) ∧ (rowK l).2 + cntK (rowK l).1 = l.length := rowK_val_n _ l rfl h hb

/-- The list from another start on. -/
def rotL (p : Nat) (l : List Nat) : List Nat := (List.range l.length).map fun i => l.getD ((i + p) % l.length) 0
theorem rotL_len (p : Nat) (l : List Nat) : (rotL p l).length = l.length := by simp [rotL]
theorem rotL_succ {p k : Nat} {l : List Nat} (hk : k < l.length) (hm : (k + p) % l.length < l.length) : (rotL p l).take (k + 1) = (rotL p l).take k ++ [l[(k + p) % l.length]] := by
  have hk2 : k < (rotL p l).length := by rw [rotL_len]; exact hk
  rw [List.take_succ_eq_append_getElem hk2]
  congr 1
  simp [rotL, hm]
theorem rotL_mem {p : Nat} {l : List Nat} (hp : p < l.length) (b : Nat) : b ∈ rotL p l ↔ b ∈ l := by
  unfold rotL
  rw [List.mem_map]
  constructor
  · rintro ⟨i, hi, rfl⟩
    have hm : (i + p) % l.length < l.length := Nat.mod_lt _ (by omega)
    rw [List.getD_eq_getElem?_getD, List.getElem?_eq_getElem hm]
    exact List.getElem_mem hm
  · intro hb
    obtain ⟨j, hj, rfl⟩ := List.getElem_of_mem hb
    by_cases h : p ≤ j
    · refine ⟨j - p, List.mem_range.2 (by omega), ?_⟩
      rw [Nat.sub_add_cancel h, Nat.mod_eq_of_lt hj, List.getD_eq_getElem?_getD, List.getElem?_eq_getElem hj]; rfl
    · refine ⟨j + l.length - p, List.mem_range.2 (by omega), ?_⟩
      rw [Nat.sub_add_cancel (by omega), Nat.add_mod_right, Nat.mod_eq_of_lt hj, List.getD_eq_getElem?_getD, List.getElem?_eq_getElem hj]; rfl
theorem row_rot {p : Nat} {l : List Nat} (hp : p < l.length ∨ l.length = 0) (h : l.length ≤ 16) (hb : ∀ b ∈ l, b < 256) : rowK (rotL p l) = rowK l := by
  rcases hp with hp | h0
  · have hb2 : ∀ b ∈ rotL p l, b < 256 := fun b hm => hb b ((rotL_mem hp b).1 hm)
    obtain ⟨a1, a2⟩ := rowK_val l h hb
    obtain ⟨b1, b2⟩ := rowK_val (rotL p l) (by rw [rotL_len]; exact h) hb2
    have e : (rowK (rotL p l)).1 = (rowK l).1 := by
      rw [a1, b1]
      funext b
      simp only [rotL_mem hp]
    rw [e, rotL_len] at b2
    exact Prod.ext e (by omega)
  · rw [List.eq_nil_of_length_eq_zero h0]; rfl
theorem put_law (f : Kids) {b : Nat} (r : Int × Int) (hb : b < 256) : ((putK 16 f b r).1 = 0 → cntK (putK 16 f b r).2 = cntK f + 1) ∧ ((putK 16 f b r).1 ≠ 0 → (putK 16 f b r).2 = f) ∧ (∀ x, ((putK 16 f b r).2 x).isSome = true → (f x).isSome = true ∨ x = b) := by
  unfold putK
  by_cases hs : (f b).isSome = true
  · rw [if_pos hs]; exact ⟨fun h => by (cases h), fun _ => rfl, fun x h => .inl h⟩
  · rw [if_neg hs]
    by_cases hc : (cntK f : Int) = 16
    · rw [if_pos hc]; exact ⟨fun h => by (cases h), fun _ => rfl, fun x h => .inl h⟩
    · rw [if_neg hc]
      refine ⟨fun _ => cnt_set_some r hb (by simpa using hs), fun h => absurd rfl h, fun x h => ?_⟩
      dsimp only [setK] at h
      by_cases hx : x = b
      · exact .inr hx
      · rw [if_neg hx] at h; exact .inl h
theorem take_law2 (f : Kids) {b : Nat} (hb : b < 256) : ((takeK f b).1.2 = 0 → cntK (takeK f b).2 + 1 = cntK f) ∧ ((takeK f b).1.2 ≠ 0 → (takeK f b).2 = f) ∧ (∀ x, ((takeK f b).2 x).isSome = true → (f x).isSome = true ∧ x ≠ b) := by
  unfold takeK
  rcases h : f b with _ | r
  · refine ⟨fun h => by (cases h), fun _ => rfl, fun x hx => ⟨hx, fun e => ?_⟩⟩
    subst e; dsimp only at hx; rw [h] at hx; cases hx
  · refine ⟨fun _ => cnt_set_none hb h, fun h => absurd rfl h, fun x hx => ?_⟩
    dsimp only [setK] at hx
    by_cases hxb : x = b
    · subst hxb; rw [if_pos rfl] at hx; cases hx
    · rw [if_neg hxb] at hx; exact ⟨hx, hxb⟩
theorem no_kids {f : Kids} (h : ∀ x, (f x).isSome = true → False) : f = noKids := by
  funext x
  cases hx : f x with
  | none => rfl
  | some r => exact (h x (by rw [hx]; rfl)).elim
theorem cnt_256 (f : Kids) : cntK f ≤ 256 := by
  unfold cntK kidsOf kidsIn
  exact Nat.le_trans (List.length_filterMap_le _ _) (by simp)
theorem kidsF_mem {f : Kids} {x : Kid} (h : x ∈ kidsF f) : f x.1.val = some x.2 := by
  unfold kidsF at h
  obtain ⟨b, _, hb⟩ := List.mem_filterMap.1 h
  cases hf : f b.val with
  | none => rw [hf] at hb; cases hb
  | some r => rw [hf] at hb; simp at hb; rw [← hb]; exact hf
theorem rowK_slot {l : List Nat} (h : l.length ≤ 16) (hb : ∀ b ∈ l, b < 256) {x : Kid} (hx : x ∈ kidsF (rowK l).1) : x.2.1 = (x.1.val : Int) := by
  have h1 := kidsF_mem hx
  rw [(rowK_val l h hb).1] at h1
  dsimp only at h1
  split at h1
  · injection h1 with h1; rw [← h1]
  · cases h1
theorem next_ge (f : Kids) (k : Int) : 0 ≤ (nextK f k).1 ∧ (nextK f k).1 ≤ 255 ∧ ((nextK f k).2.2 = true → k ≤ (nextK f k).1) := by
  unfold nextK
  rcases hh : highK f (clampK k) with _ | ⟨x, l⟩
  · exact ⟨by decide, by decide, fun h => by (cases h)⟩
  · have h1 : x ∈ highK f (clampK k) := by rw [hh]; simp
    have h2 := high_ge h1
    have h3 : x.1 < 256 := by
      have := List.mem_of_mem_drop (mem_kidsIn.1 h1).1
      exact List.mem_range.1 this
    exact ⟨by dsimp only; omega, by dsimp only; omega, fun _ => (clampK_iff h3).2 h2⟩
end Go.Proofs.Ytmcpfhhggapkcaa
