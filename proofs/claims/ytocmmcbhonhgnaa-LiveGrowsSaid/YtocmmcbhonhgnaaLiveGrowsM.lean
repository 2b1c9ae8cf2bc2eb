/-
  Plain laws: how ways, bounds and least budgets grow.
-/
import Derived.Test.YtocmmcbhonhgnaaEnoughM
namespace Go.Proofs.Ytocmmcbhonhgnaa
set_option linter.unusedVariables false

/-- The request with what bounds do not depend on taken from another one. -/
abbrev otherR (r o : Req) (l : Int) : Req := ⟨r.deed, o.ten, o.gen, o.rig, r.key, ⟨#[]⟩, r.old, l, o.tenant, o.qk, o.qb, o.rights⟩
/-- The request with a longer key. -/
abbrev longR (r : Req) : Req := ⟨r.deed, r.ten, r.gen, r.rig, r.key ++ ⟨#[97]⟩, r.val, r.old, r.lim, r.tenant, r.qk, r.qb, r.rights⟩
/-- The request with a greater limit. -/
abbrev moreR (r : Req) : Req := ⟨r.deed, r.ten, r.gen, r.rig, r.key, r.val, r.old, r.lim + 1, r.tenant, r.qk, r.qb, r.rights⟩

theorem isB_iff (r : Req) : isB r = true ↔ 1 ≤ r.deed ∧ r.deed ≤ 5 ∧ r.key.size ≤ 16 ∧ r.val.size ≤ 32 ∧ r.old.size ≤ 32 ∧ (r.deed = 5 → 0 ≤ r.lim ∧ r.lim ≤ 4096) := by
  simp only [isB, Bool.and_eq_true, decide_eq_true_eq, Bool.or_eq_true, Bool.not_eq_true', beq_eq_false_iff_ne, ne_eq]
  constructor
  · rintro ⟨h1, h2, h3, h4, h5, h6⟩
    exact ⟨h1, h2, h3, h4, h5, fun h => h6.elim (fun h7 => absurd h h7) id⟩
  · rintro ⟨h1, h2, h3, h4, h5, h6⟩
    refine ⟨h1, h2, h3, h4, h5, ?_⟩
    by_cases h : r.deed = 5
    · exact Or.inr (h6 h)
    · exact Or.inl h

theorem bound_yes {r : Req} {t : Int} (h : isB r = true) (ht : smallB t = true) : boundOf r t = if r.deed = 5 then (36 * r.lim + t) * wayOf r + 2 else (t + 1) * wayOf r + 1 := by
  unfold boundOf
  rw [if_pos ⟨h, ht⟩]

theorem isB_other {r o : Req} {l : Int} (h : isB r = true) (hl : r.deed = 5 → l = r.lim) : isB (otherR r o l) = true := by
  rw [isB_iff] at h ⊢
  refine ⟨h.1, h.2.1, h.2.2.1, by show (0 : Nat) ≤ 32; omega, h.2.2.2.2.1, fun h5 => ?_⟩
  have h5' : r.deed = 5 := h5
  show 0 ≤ l ∧ l ≤ 4096
  rw [hl h5']
  exact h.2.2.2.2.2 h5'
theorem way_other {r o : Req} {l : Int} (h : isB r = true) (hl : r.deed = 5 → l = r.lim) : wayOf (otherR r o l) = wayOf r := by
  unfold wayOf
  rw [if_pos h, if_pos (isB_other h hl)]
theorem bound_other {r o : Req} {l t : Int} (h : isB r = true) (hl : r.deed = 5 → l = r.lim) : boundOf (otherR r o l) t = boundOf r t := by
  unfold boundOf
  rw [way_other h hl, isB_other h hl, h]
  by_cases h5 : r.deed = 5
  · have e : (otherR r o l).lim = r.lim := hl h5
    rw [e]
  · have e : (otherR r o l).deed = r.deed := rfl
    rw [e, if_neg h5, if_neg h5]

theorem bound_succ {r : Req} {t : Int} (h : isB r = true) (h1 : 0 ≤ t) (h2 : t ≤ 1048576) : boundOf r (t + 1) - boundOf r t = wayOf r := by
  have e1 : smallB t = true := by simp [smallB]; omega
  have e2 : smallB (t + 1) = true := by simp [smallB]; omega
  rw [bound_yes h e1, bound_yes h e2]
  split
  · rw [show 36 * r.lim + (t + 1) = (36 * r.lim + t) + 1 by omega, Int.add_mul (36 * r.lim + t)]
    omega
  · rw [Int.add_mul (t + 1)]
    omega

theorem size_long (r : Req) : (r.key ++ (⟨#[97]⟩ : ByteArray)).size = r.key.size + 1 := by
  rw [ByteArray.size_append]
  rfl
theorem way_long {r : Req} (h : isB r = true) (hk : r.key.size < 16) : isB (longR r) = true ∧ wayOf (longR r) - wayOf r = if r.deed = 5 then 0 else 4 := by
  have hl : isB (longR r) = true := by
    rw [isB_iff] at h ⊢
    refine ⟨h.1, h.2.1, ?_, h.2.2.2.1, h.2.2.2.2.1, h.2.2.2.2.2⟩
    show (r.key ++ (⟨#[97]⟩ : ByteArray)).size ≤ 16
    rw [size_long]; omega
  refine ⟨hl, ?_⟩
  unfold wayOf
  rw [if_pos h, if_pos hl]
  by_cases h5 : r.deed = 5
  · rw [if_pos h5, if_pos h5, if_pos h5]; rfl
  · rw [if_neg h5, if_neg h5, if_neg h5]
    have e : (encode (r.key ++ (⟨#[97]⟩ : ByteArray)).data.toList).length = (encode r.key.data.toList).length + 1 := by
      have : (r.key ++ (⟨#[97]⟩ : ByteArray)).data.toList = r.key.data.toList ++ [97] := by simp
      rw [this]
      unfold encode
      rw [List.flatMap_append]
      simp [enc1]
    show 4 * ((encode (r.key ++ (⟨#[97]⟩ : ByteArray)).data.toList).length : Int) + 3 + addOf r.deed - _ = 4
    rw [e]
    omega

theorem bound_more {r : Req} {t : Int} (h : isB r = true) (h5 : r.deed = 5) (hl : r.lim < 4096) (h1 : 0 ≤ t) (h2 : t ≤ 1048576) : boundOf r t < boundOf (moreR r) t := by
  have hm : isB (moreR r) = true := by
    rw [isB_iff] at h ⊢
    refine ⟨h.1, h.2.1, h.2.2.1, h.2.2.2.1, h.2.2.2.2.1, fun _ => ?_⟩
    have := h.2.2.2.2.2 h5
    show 0 ≤ r.lim + 1 ∧ r.lim + 1 ≤ 4096
    omega
  have e1 : smallB t = true := by simp [smallB]; omega
  have w1 : wayOf r = 139 := by simp [wayOf, h, h5]
  have w2 : wayOf (moreR r) = 139 := by simp [wayOf, hm, h5]
  rw [bound_yes h e1, bound_yes hm e1, if_pos h5, if_pos (show (moreR r).deed = 5 from h5), w1, w2]
  show _ < (36 * (r.lim + 1) + t) * 139 + 2
  omega

theorem bound_mono {r : Req} {s t : Int} (h : isB r = true) (h0 : 0 ≤ s) (h1 : s ≤ t) (h2 : t ≤ 1048576) : boundOf r s ≤ boundOf r t := by
  have e1 : smallB t = true := by simp [smallB]; omega
  have e2 : smallB s = true := by simp [smallB]; omega
  have hw := way_pos h
  rw [bound_yes h e1, bound_yes h e2]
  split
  · have := Int.mul_le_mul_of_nonneg_right (c := wayOf r) (show 36 * r.lim + s ≤ 36 * r.lim + t by omega) (by omega)
    omega
  · have := Int.mul_le_mul_of_nonneg_right (c := wayOf r) (show s + 1 ≤ t + 1 by omega) (by omega)
    omega

theorem leastFrom_spec {r : Req} {need : Int} : ∀ (n : Nat) (b : Int), 0 < b →
    (leastFrom r need n b = 0 ∧ ∀ c, b ≤ c → c < b + n → picksOf r c ≤ need) ∨
    (b ≤ leastFrom r need n b ∧ leastFrom r need n b < b + n ∧ need < picksOf r (leastFrom r need n b) ∧ ∀ c, b ≤ c → c < leastFrom r need n b → picksOf r c ≤ need)
  | 0, b, _ => Or.inl ⟨rfl, fun c h1 h2 => by omega⟩
  | n + 1, b, hb => by
    unfold leastFrom
    by_cases h : need < picksOf r b
    · rw [if_pos h]
      exact Or.inr ⟨by omega, by omega, h, fun c h1 h2 => by omega⟩
    · rw [if_neg h]
      rcases leastFrom_spec n (b + 1) (by omega) with ⟨h1, h2⟩ | ⟨h1, h2, h3, h4⟩
      · refine Or.inl ⟨h1, fun c hc hd => ?_⟩
        by_cases e : c = b
        · subst e; omega
        · exact h2 c (by omega) (by omega)
      · refine Or.inr ⟨by omega, by omega, h3, fun c hc hd => ?_⟩
        by_cases e : c = b
        · subst e; omega
        · exact h4 c (by omega) hd

theorem enough_zero {r : Req} {t m : Int} (h : isB r = true) (ht : smallB t = true) (hm : smallB m = true) (hk : enoughOf r t m = 0) : picksOf r 4096 ≤ boundOf r t + m := by
  have e : enoughOf r t m = leastFrom r (boundOf r t + m) 4095 2 := by simp [enoughOf, h, ht, hm]
  rw [e] at hk
  rcases leastFrom_spec (r := r) (need := boundOf r t + m) 4095 2 (by omega) with ⟨_, h2⟩ | ⟨h1, _, _, _⟩
  · exact h2 4096 (by omega) (by omega)
  · omega
theorem enough_some {r : Req} {t m : Int} (h : isB r = true) (ht : smallB t = true) (hm : smallB m = true) (hk : enoughOf r t m ≠ 0) :
    2 ≤ enoughOf r t m ∧ enoughOf r t m ≤ 4096 ∧ boundOf r t + m < picksOf r (enoughOf r t m) ∧ ∀ c, 2 ≤ c → c < enoughOf r t m → picksOf r c ≤ boundOf r t + m := by
  have e : enoughOf r t m = leastFrom r (boundOf r t + m) 4095 2 := by simp [enoughOf, h, ht, hm]
  rw [e] at hk ⊢
  rcases leastFrom_spec (r := r) (need := boundOf r t + m) 4095 2 (by omega) with ⟨h1, _⟩ | ⟨h1, h2, h3, h4⟩
  · exact absurd h1 hk
  · exact ⟨h1, by omega, h3, h4⟩
theorem enough_less {r : Req} {s t l m : Int} (h : isB r = true) (hs0 : 0 ≤ s) (hst : s ≤ t) (ht : t ≤ 1048576) (hl0 : 0 ≤ l) (hlm : l ≤ m) (hm : m ≤ 1048576) (hk : enoughOf r t m ≠ 0) :
    2 ≤ enoughOf r s l ∧ enoughOf r s l ≤ enoughOf r t m := by
  have et : smallB t = true := by simp [smallB]; omega
  have es : smallB s = true := by simp [smallB]; omega
  have em : smallB m = true := by simp [smallB]; omega
  have el : smallB l = true := by simp [smallB]; omega
  obtain ⟨h1, h2, h3, _⟩ := enough_some h et em hk
  have hb := bound_mono h hs0 hst ht
  have e : enoughOf r s l = leastFrom r (boundOf r s + l) 4095 2 := by simp [enoughOf, h, es, el]
  rcases leastFrom_spec (r := r) (need := boundOf r s + l) 4095 2 (by omega) with ⟨_, k2⟩ | ⟨k1, k2, k3, k4⟩
  · have := k2 (enoughOf r t m) h1 (by omega)
    omega
  · rw [e]
    refine ⟨k1, ?_⟩
    by_cases hlt : enoughOf r t m < leastFrom r (boundOf r s + l) 4095 2
    · have := k4 (enoughOf r t m) h1 hlt
      omega
    · omega

/-- Two picks never suffice. -/
theorem picks_two {r : Req} {t m : Int} (h : isB r = true) (ht : 0 ≤ t) (ht2 : t ≤ 1048576) (hm : 0 ≤ m) : picksOf r 2 ≤ boundOf r t + m := by
  have e1 : smallB t = true := by simp [smallB]; omega
  have hi := (isB_iff r).1 h
  rw [bound_yes h e1]
  unfold picksOf
  rw [if_neg (show ¬(r.deed < 1 ∨ 5 < r.deed ∨ (2 : Int) < 2 ∨ (4096 : Int) < 2) by omega)]
  by_cases h5 : r.deed = 5
  · have hl := hi.2.2.2.2.2 h5
    have hw : wayOf r = 139 := by simp [wayOf, h, h5]
    rw [if_pos ⟨h5, hl.1, hl.2⟩, if_pos h5, hw]
    omega
  · have hw := way_pos h
    have := Int.mul_le_mul_of_nonneg_left hw.1 (show 0 ≤ t + 1 by omega)
    rw [if_neg (show ¬(r.deed = 5 ∧ 0 ≤ r.lim ∧ r.lim ≤ 4096) from fun h => h5 h.1), if_neg h5]
    omega

end Go.Proofs.Ytocmmcbhonhgnaa
