/-
  Layer 8: a row of many kids: its three blocks (no program in sight but the types' numbers).
-/
import Derived.Test.YtmcpfhhggapkcaaFewL2
import Derived.Test.YtmcpfhhggapkcaaFewR1
namespace Go.Proofs.Ytmcpfhhggapkcaa
open Go.RowKit Go.Shelf
set_option linter.unusedVariables false
set_option linter.unusedSimpArgs false

/-- The position of each byte's Ref, from 1; the Refs; which positions are used. -/
structure ManyO where
  at_ : Nat → Nat
  refs : Nat → Int × Int
  used : Nat → Bool
def mcells (o : ManyO) (gr gu room : Nat) : List Value := (List.range 256).map (fun b => .int .u16 (o.at_ b : Int)) ++ [.slice (some ⟨gr, 0, none⟩) room room, .slice (some ⟨gu, 0, none⟩) room room]
def rcells (o : ManyO) (room : Nat) : List Value := ((List.range room).map o.refs).flatMap rrow
def ucells (o : ManyO) (room : Nat) : List Value := (List.range room).map fun p => .bool (o.used p)
theorem mcells_at (o : ManyO) (gr gu room : Nat) {b : Nat} (hb : b < 256) : (mcells o gr gu room)[b]? = some (.int .u16 (o.at_ b : Int)) := by
  unfold mcells
  rw [List.getElem?_append_left (by simpa using hb)]
  simp [hb]
theorem mcells_sl (o : ManyO) (gr gu room : Nat) : (mcells o gr gu room)[256]? = some (.slice (some ⟨gr, 0, none⟩) room room) ∧ (mcells o gr gu room)[257]? = some (.slice (some ⟨gu, 0, none⟩) room room) := by
  unfold mcells
  constructor
  · rw [List.getElem?_append_right (by simp)]; simp
  · rw [List.getElem?_append_right (by simp)]; simp
theorem rcells_at (o : ManyO) (room : Nat) {p : Nat} (hp : p < room) : (rcells o room)[p * 2]? = some (.int .i64 (o.refs p).1) ∧ (rcells o room)[p * 2 + 1]? = some (.int .u32 (o.refs p).2) :=
  flatR_at ((List.range room).map o.refs) p (o.refs p) (by simp [hp])
theorem ucells_at (o : ManyO) (room : Nat) {p : Nat} (hp : p < room) : (ucells o room)[p]? = some (.bool (o.used p)) := by simp [ucells, hp]
/-- Written. -/
def ManyO.setAt (o : ManyO) (b n : Nat) : ManyO := ⟨fun x => if x = b then n else o.at_ x, o.refs, o.used⟩
def ManyO.setRef (o : ManyO) (p : Nat) (r : Int × Int) : ManyO := ⟨o.at_, setR o.refs p r, o.used⟩
def ManyO.setUsed (o : ManyO) (p : Nat) (v : Bool) : ManyO := ⟨o.at_, o.refs, fun x => if x = p then v else o.used x⟩
theorem mcells_set (o : ManyO) (gr gu room : Nat) {b : Nat} (n : Nat) (hb : b < 256) : (mcells o gr gu room).set b (.int .u16 (n : Int)) = mcells (o.setAt b n) gr gu room := by
  unfold mcells
  rw [List.set_append_left _ _ (by simpa using hb), map_set_range]
  congr 1
  refine List.map_congr_left fun x _ => ?_
  dsimp only [ManyO.setAt]
  split <;> rfl
theorem ucells_set (o : ManyO) (room : Nat) (p : Nat) (v : Bool) : (ucells o room).set p (.bool v) = ucells (o.setUsed p v) room := by
  unfold ucells
  rw [map_set_range]
  refine List.map_congr_left fun x _ => ?_
  dsimp only [ManyO.setUsed]
  split <;> rfl
theorem rcells_set (o : ManyO) (room : Nat) (p : Nat) (r : Int × Int) (hp : p < room) : ((rcells o room).set (p * 2) (.int .i64 r.1)).set (p * 2 + 1) (.int .u32 r.2) = rcells (o.setRef p r) room := by
  have h := flatRset2 ((List.range room).map o.refs) p r
  rw [map_set_range] at h
  unfold rcells
  exact h

/-- The row's kids are those of f. -/
structure ManyO.rep (o : ManyO) (room : Nat) (f : Kids) : Prop where
  some_ : ∀ b r, b < 256 → f b = some r → ∃ p, p < room ∧ o.at_ b = p + 1 ∧ o.used p = true ∧ o.refs p = r
  none_ : ∀ b, b < 256 → f b = none → o.at_ b = 0
  inj : ∀ b b', b < 256 → b' < 256 → o.at_ b = o.at_ b' → o.at_ b ≠ 0 → b = b'
  onto : ∀ p, p < room → o.used p = true → ∃ b, b < 256 ∧ o.at_ b = p + 1
theorem ManyO.rep.has {o : ManyO} {room : Nat} {f : Kids} (h : o.rep room f) {b : Nat} (hb : b < 256) : decide (0 < o.at_ b) = (f b).isSome := by
  cases hf : f b with
  | none => rw [h.none_ b hb hf]; rfl
  | some r =>
    obtain ⟨p, _, h2, _⟩ := h.some_ b r hb hf
    rw [h2]; simp
/-- The first free position. -/
def ManyO.free (o : ManyO) (room : Nat) : Nat := (List.range room).findIdx (fun p => !(o.used p))
theorem ManyO.free_le (o : ManyO) (room : Nat) : o.free room ≤ room := by
  have := List.findIdx_le_length (xs := List.range room) (p := fun p => !(o.used p))
  simpa [ManyO.free] using this
theorem ManyO.free_spec (o : ManyO) (room : Nat) (h : o.free room < room) : o.used (o.free room) = false := by
  have := List.findIdx_getElem (xs := List.range room) (p := fun p => !(o.used p)) (w := by simpa [ManyO.free] using h)
  simpa [ManyO.free] using this
theorem ManyO.free_all (o : ManyO) (room : Nat) (h : o.free room = room) : ∀ p, p < room → o.used p = true := by
  intro p hp
  have := List.not_of_lt_findIdx (xs := List.range room) (p := fun p => !(o.used p)) (i := p) (by unfold ManyO.free at h; omega)
  simpa using this
/-- lay, lift. -/
theorem rep_lay {o : ManyO} {room : Nat} {f : Kids} (h : o.rep room f) {b p : Nat} (hb : b < 256) (hf : f b = none) (hp : p < room) (hu : o.used p = false) (r : Int × Int) : (((o.setUsed p true).setRef p r).setAt b (p + 1)).rep room (setK f b (some r)) := by
  have hfree : ∀ x, x < 256 → o.at_ x ≠ p + 1 := by
    intro x hx e
    cases hfx : f x with
    | none => have := h.none_ x hx hfx; omega
    | some q =>
      obtain ⟨p', _, h2, h3, _⟩ := h.some_ x q hx hfx
      have : p' = p := by omega
      subst this; rw [hu] at h3; cases h3
  refine ⟨?_, ?_, ?_, ?_⟩
  · intro x q hx hq
    dsimp only [ManyO.setAt, ManyO.setRef, ManyO.setUsed, setR, setK] at hq ⊢
    by_cases hxb : x = b
    · rw [if_pos hxb] at hq ⊢
      exact ⟨p, hp, rfl, by simp, by simp; injection hq⟩
    · rw [if_neg hxb] at hq ⊢
      obtain ⟨p', h1, h2, h3, h4⟩ := h.some_ x q hx hq
      have hne : p' ≠ p := fun e => by subst e; rw [hu] at h3; cases h3
      exact ⟨p', h1, h2, by rw [if_neg hne]; exact h3, by rw [if_neg hne]; exact h4⟩
  · intro x hx hq
    dsimp only [ManyO.setAt, ManyO.setRef, ManyO.setUsed, setK] at hq ⊢
    by_cases hxb : x = b
    · rw [if_pos hxb] at hq; cases hq
    · rw [if_neg hxb] at hq ⊢; exact h.none_ x hx hq
  · intro x y hx hy e hne
    dsimp only [ManyO.setAt, ManyO.setRef, ManyO.setUsed] at e hne
    by_cases hxb : x = b <;> by_cases hyb : y = b
    · rw [hxb, hyb]
    · rw [if_pos hxb, if_neg hyb] at e; exact absurd e.symm (hfree y hy)
    · rw [if_neg hxb, if_pos hyb] at e; exact absurd e (hfree x hx)
    · rw [if_neg hxb, if_neg hyb] at e; rw [if_neg hxb] at hne; exact h.inj x y hx hy e hne
  · intro q hq hqu
    dsimp only [ManyO.setAt, ManyO.setRef, ManyO.setUsed] at hqu ⊢
    by_cases hqp : q = p
    · exact ⟨b, hb, by rw [if_pos rfl, hqp]⟩
    · rw [if_neg hqp] at hqu
      obtain ⟨x, hx, hx2⟩ := h.onto q hq hqu
      refine ⟨x, hx, ?_⟩
      rw [if_neg (fun e => by subst e; have := h.none_ x hx hf; omega)]
      exact hx2
theorem rep_lift {o : ManyO} {room : Nat} {f : Kids} (h : o.rep room f) {b p : Nat} (hb : b < 256) (hp : p < room) (hat : o.at_ b = p + 1) : (((o.setUsed p false).setRef p (0, 0)).setAt b 0).rep room (setK f b none) := by
  have hoth : ∀ x, x < 256 → x ≠ b → o.at_ x ≠ p + 1 := fun x hx hne e => hne (h.inj x b hx hb (by rw [e, hat]) (by omega))
  refine ⟨?_, ?_, ?_, ?_⟩
  · intro x q hx hq
    dsimp only [ManyO.setAt, ManyO.setRef, ManyO.setUsed, setR, setK] at hq ⊢
    by_cases hxb : x = b
    · rw [if_pos hxb] at hq; cases hq
    · rw [if_neg hxb] at hq ⊢
      obtain ⟨p', h1, h2, h3, h4⟩ := h.some_ x q hx hq
      have hne : p' ≠ p := fun e => hoth x hx hxb (by rw [h2, e])
      exact ⟨p', h1, h2, by rw [if_neg hne]; exact h3, by rw [if_neg hne]; exact h4⟩
  · intro x hx hq
    dsimp only [ManyO.setAt, ManyO.setRef, ManyO.setUsed, setK] at hq ⊢
    by_cases hxb : x = b
    · rw [if_pos hxb]
    · rw [if_neg hxb] at hq ⊢; exact h.none_ x hx hq
  · intro x y hx hy e hne
    dsimp only [ManyO.setAt, ManyO.setRef, ManyO.setUsed] at e hne
    by_cases hxb : x = b
    · rw [if_pos hxb] at hne; exact absurd rfl hne
    · rw [if_neg hxb] at e hne
      by_cases hyb : y = b
      · rw [if_pos hyb] at e; exact absurd e hne
      · rw [if_neg hyb] at e; exact h.inj x y hx hy e hne
  · intro q hq hqu
    dsimp only [ManyO.setAt, ManyO.setRef, ManyO.setUsed] at hqu ⊢
    by_cases hqp : q = p
    · rw [if_pos hqp] at hqu; cases hqu
    · rw [if_neg hqp] at hqu
      obtain ⟨x, hx, hx2⟩ := h.onto q hq hqu
      refine ⟨x, hx, ?_⟩
      rw [if_neg (fun e => by subst e; omega)]
      exact hx2
theorem rep_turn {o : ManyO} {room : Nat} {f : Kids} (h : o.rep room f) {b p : Nat} (hb : b < 256) (hp : p < room) (hat : o.at_ b = p + 1) (hu : o.used p = true) (r : Int × Int) : (o.setRef p r).rep room (setK f b (some r)) := by
  have hoth : ∀ x, x < 256 → x ≠ b → o.at_ x ≠ p + 1 := fun x hx hne e => hne (h.inj x b hx hb (by rw [e, hat]) (by omega))
  refine ⟨?_, ?_, h.inj, h.onto⟩
  · intro x q hx hq
    dsimp only [ManyO.setRef, setR, setK] at hq ⊢
    by_cases hxb : x = b
    · rw [if_pos hxb] at hq
      exact ⟨p, hp, by rw [hxb, hat], hu, by simp; injection hq⟩
    · rw [if_neg hxb] at hq
      obtain ⟨p', h1, h2, h3, h4⟩ := h.some_ x q hx hq
      have hne : p' ≠ p := fun e => hoth x hx hxb (by rw [h2, e])
      exact ⟨p', h1, h2, h3, by rw [if_neg hne]; exact h4⟩
  · intro x hx hq
    dsimp only [ManyO.setRef, setK] at hq ⊢
    by_cases hxb : x = b
    · rw [if_pos hxb] at hq; cases hq
    · rw [if_neg hxb] at hq; exact h.none_ x hx hq
theorem rep_new (room : Nat) : ManyO.rep ⟨fun _ => 0, fun _ => (0, 0), fun _ => false⟩ room noKids :=
  ⟨fun b r _ h => by (cases h), fun _ _ _ => rfl, fun _ _ _ _ _ h => absurd rfl h, fun _ _ h => by (cases h)⟩
end Go.Proofs.Ytmcpfhhggapkcaa
