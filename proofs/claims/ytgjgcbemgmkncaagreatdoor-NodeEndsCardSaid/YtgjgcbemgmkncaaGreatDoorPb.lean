/-
  Layer 7: the kid at hand is the next one behind those that were seen; '!=' of two Refs.
  Layer 7: what a row of at most 16 bytes holds (no program in sight).
  Layer 7: FewOrder's plain law (no program in sight).
  Layer 7: the reference row.
  Layer 8: a row of many kids: its three blocks (no program in sight but the types' numbers).
  Layer 8: walks of the inner methods.
  Layer 8: lay and lift.
  Layer 8: the methods of a row of many kids, told by its kids.
  Layer 8: Put, Take, Find, Room.
  Layer 8: Take, Find, Room.
  Layer 8: New.
  A range over an iterator that itself ranges over an iterator: the iterator's contract may rely on it that the caller's invariants abide every turn of a block that is no cells and lies at or beyond the heap's end. Over any program.
  Layer 8: a row that is only read (a copy, whose blocks may be longer); Copy.
  Layer 7: the kids that a range has seen, and those it has not (no program in sight).
  Layer 8: the iterator over the bytes that have a kid, as a contract of the kit's form.
  Layer 7: FewNext's range over the kids.
  Layer 7: FewOrder's ranges over the kids of two rows.
  A region that draws its order and only reads, walked once, in the round of a range over a function. Over any program.
  Layer 7: the reference row: Next, New.
  Layer 8: the first byte that has a kid, and Next (no program in sight).
-/
import Derived.Test.YtgjgcbemgmkncaaGreatDoorPa
import Derived.BigRegion
import Derived.Laws.MakeOwn
import Derived.Sort.BigQuietIn
import Derived.Deep.RegionHeld3
namespace Go.Proofs.YtgjgcbemgmkncaaGreatDoor
open Go.RowKit Go.Shelf
set_option linter.unusedVariables false
set_option linter.unusedSimpArgs false

/-- Behind the last of these kids. -/
def fromOf (pre : List Kid) : Nat := match pre.getLast? with
  | some x => x.1.val + 1
  | none => 0
end Go.Proofs.YtgjgcbemgmkncaaGreatDoor
namespace Go.Proofs.YtgjgcbemgmkncaaGreatDoor
open Go.RowKit Go.Shelf
set_option linter.unusedVariables false
set_option linter.unusedSimpArgs false

theorem cnt_set_some {f : Kids} {b : Nat} (r : Int × Int) (hb : b < 256) (h : f b = none) : cntK (setK f b (some r)) = cntK f + 1 := by
  unfold cntK
  rw [kids_set f b _ hb, kids_at f b hb, h]
  simp
  omega
theorem cnt_set_none {f : Kids} {b : Nat} {r : Int × Int} (hb : b < 256) (h : f b = some r) : cntK (setK f b none) + 1 = cntK f := by
  unfold cntK
  rw [kids_set f b _ hb, kids_at f b hb, h]
  simp
  omega
end Go.Proofs.YtgjgcbemgmkncaaGreatDoor
namespace Go.Proofs.YtgjgcbemgmkncaaGreatDoor
open Go.RowKit Go.Shelf
set_option linter.unusedVariables false
set_option linter.unusedSimpArgs false

/-- The list from another start on. -/
def rotL (p : Nat) (l : List Nat) : List Nat := (List.range l.length).map fun i => l.getD ((i + p) % l.length) 0
theorem cnt_256 (f : Kids) : cntK f ≤ 256 := by
  unfold cntK kidsOf kidsIn
  exact Nat.le_trans (List.length_filterMap_le _ _) (by simp)
end Go.Proofs.YtgjgcbemgmkncaaGreatDoor
namespace Go.Proofs.YtgjgcbemgmkncaaGreatDoor
open Go.RowKit Go.Shelf
set_option linter.unusedVariables false
set_option linter.unusedSimpArgs false

def refIs (f : Kids) : List Value := (List.range 256).map fun b => .bool (f b).isSome
def refRs (rs : Nat → Int × Int) : List Value := ((List.range 256).map rs).flatMap rrow
def refCells (room : Int) (f : Kids) (rs : Nat → Int × Int) : List Value := .int .i64 room :: (refIs f ++ refRs rs)
def setR (rs : Nat → Int × Int) (b : Nat) (r : Int × Int) : Nat → Int × Int := fun x => if x = b then r else rs x
theorem map_set_range {α : Type} (n : Nat) (f : Nat → α) (b : Nat) (v : α) : ((List.range n).map f).set b v = (List.range n).map fun x => if x = b then v else f x := by
  apply List.ext_getElem?
  intro i
  rw [List.getElem?_set]
  by_cases hi : i < n
  · by_cases h : b = i
    · subst h; simp [hi]
    · simp [h, hi, Ne.symm h]
  · by_cases h : b = i
    · subst h; simp [hi]
    · simp [h, hi]
theorem flatRset2 : ∀ (l : List (Int × Int)) (b : Nat) (r : Int × Int), ((l.flatMap rrow).set (b * 2) (.int .i64 r.1)).set (b * 2 + 1) (.int .u32 r.2) = (l.set b r).flatMap rrow
  | [], b, r => by simp
  | x :: l, 0, r => by simp [rrow]
  | x :: l, b + 1, r => by
    have ih := flatRset2 l b r
    rw [List.set_cons_succ, List.flatMap_cons, List.flatMap_cons, ← ih, show (b + 1) * 2 = (rrow x).length + b * 2 by simp [rrow]; omega, set_behind, Nat.add_assoc, set_behind]
theorem low_succ (f : Kids) (k : Nat) : (lowK f (k + 1)).length = (lowK f k).length + (if (f k).isSome = true then 1 else 0) := by
  unfold lowK kidsIn
  rw [List.range_succ, List.filterMap_append, List.length_append]
  cases h : f k <;> simp [h]
theorem low_all (f : Kids) : (lowK f 256).length = cntK f := rfl
end Go.Proofs.YtgjgcbemgmkncaaGreatDoor
namespace Go.Proofs.YtgjgcbemgmkncaaGreatDoor
open Go.RowKit Go.Shelf
set_option linter.unusedVariables false
set_option linter.unusedSimpArgs false

/-- The position of each byte's Ref, from 1; the Refs; which positions are used. -/
structure ManyO where
  at_ : Nat → Nat
  refs : Nat → Int × Int
  used : Nat → Bool
def mcells (o : ManyO) (gr gu room : Nat) : List Value := (List.range 256).map (fun b => .int .u16 (o.at_ b : Int)) ++ [.slice (some ⟨gr, 0, none⟩) room room, .slice (some ⟨gu, 0, none⟩) room room]
def rcells (o : ManyO) (room : Nat) : List Value := ((List.range room).map o.refs).flatMap rrow
def ucells (o : ManyO) (room : Nat) : List Value := (List.range room).map fun p => .bool (o.used p)
theorem mcells_at (o : ManyO) (gr gu room : Nat) {b : Nat} (hb : b < 256) : (mcells o gr gu room)[b]? = some (.int .u16 (o.at_ b : Int)) := by
  unfold mcells
  rw [List.getElem?_append_left (by simpa using hb)]
  simp [hb]
theorem mcells_sl (o : ManyO) (gr gu room : Nat) : (mcells o gr gu room)[256]? = some (.slice (some ⟨gr, 0, none⟩) room room) ∧ (mcells o gr gu room)[257]? = some (.slice (some ⟨gu, 0, none⟩) room room) := by
  unfold mcells
  constructor
  · rw [List.getElem?_append_right (by simp)]; simp
  · rw [List.getElem?_append_right (by simp)]; simp
theorem rcells_at (o : ManyO) (room : Nat) {p : Nat} (hp : p < room) : (rcells o room)[p * 2]? = some (.int .i64 (o.refs p).1) ∧ (rcells o room)[p * 2 + 1]? = some (.int .u32 (o.refs p).2) :=
  flatR_at ((List.range room).map o.refs) p (o.refs p) (by simp [hp])
theorem ucells_at (o : ManyO) (room : Nat) {p : Nat} (hp : p < room) : (ucells o room)[p]? = some (.bool (o.used p)) := by simp [ucells, hp]
/-- Written. -/
def ManyO.setAt (o : ManyO) (b n : Nat) : ManyO := ⟨fun x => if x = b then n else o.at_ x, o.refs, o.used⟩
def ManyO.setRef (o : ManyO) (p : Nat) (r : Int × Int) : ManyO := ⟨o.at_, setR o.refs p r, o.used⟩
def ManyO.setUsed (o : ManyO) (p : Nat) (v : Bool) : ManyO := ⟨o.at_, o.refs, fun x => if x = p then v else o.used x⟩
theorem mcells_set (o : ManyO) (gr gu room : Nat) {b : Nat} (n : Nat) (hb : b < 256) : (mcells o gr gu room).set b (.int .u16 (n : Int)) = mcells (o.setAt b n) gr gu room := by
  unfold mcells
  rw [List.set_append_left _ _ (by simpa using hb), map_set_range]
  congr 1
  refine List.map_congr_left fun x _ => ?_
  dsimp only [ManyO.setAt]
  split <;> rfl
theorem ucells_set (o : ManyO) (room : Nat) (p : Nat) (v : Bool) : (ucells o room).set p (.bool v) = ucells (o.setUsed p v) room := by
  unfold ucells
  rw [map_set_range]
  refine List.map_congr_left fun x _ => ?_
  dsimp only [ManyO.setUsed]
  split <;> rfl
theorem rcells_set (o : ManyO) (room : Nat) (p : Nat) (r : Int × Int) (hp : p < room) : ((rcells o room).set (p * 2) (.int .i64 r.1)).set (p * 2 + 1) (.int .u32 r.2) = rcells (o.setRef p r) room := by
  have h := flatRset2 ((List.range room).map o.refs) p r
  rw [map_set_range] at h
  unfold rcells
  exact h

/-- The row's kids are those of f. -/
structure ManyO.rep (o : ManyO) (room : Nat) (f : Kids) : Prop where
  some_ : ∀ b r, b < 256 → f b = some r → ∃ p, p < room ∧ o.at_ b = p + 1 ∧ o.used p = true ∧ o.refs p = r
  none_ : ∀ b, b < 256 → f b = none → o.at_ b = 0
  inj : ∀ b b', b < 256 → b' < 256 → o.at_ b = o.at_ b' → o.at_ b ≠ 0 → b = b'
  onto : ∀ p, p < room → o.used p = true → ∃ b, b < 256 ∧ o.at_ b = p + 1
theorem ManyO.rep.has {o : ManyO} {room : Nat} {f : Kids} (h : o.rep room f) {b : Nat} (hb : b < 256) : decide (0 < o.at_ b) = (f b).isSome := by
  cases hf : f b with
  | none => rw [h.none_ b hb hf]; rfl
  | some r =>
    obtain ⟨p, _, h2, _⟩ := h.some_ b r hb hf
    rw [h2]; simp
/-- The first free position. -/
def ManyO.free (o : ManyO) (room : Nat) : Nat := (List.range room).findIdx (fun p => !(o.used p))
theorem ManyO.free_le (o : ManyO) (room : Nat) : o.free room ≤ room := by
  have := List.findIdx_le_length (xs := List.range room) (p := fun p => !(o.used p))
  simpa [ManyO.free] using this
theorem ManyO.free_spec (o : ManyO) (room : Nat) (h : o.free room < room) : o.used (o.free room) = false := by
  have := List.findIdx_getElem (xs := List.range room) (p := fun p => !(o.used p)) (w := by simpa [ManyO.free] using h)
  simpa [ManyO.free] using this
theorem ManyO.free_all (o : ManyO) (room : Nat) (h : o.free room = room) : ∀ p, p < room → o.used p = true := by
  intro p hp
  have := List.not_of_lt_findIdx (xs := List.range room) (p := fun p => !(o.used p)) (i := p) (by unfold ManyO.free at h; omega)
  simpa using this
/-- lay, lift. -/
theorem rep_lay {o : ManyO} {room : Nat} {f : Kids} (h : o.rep room f) {b p : Nat} (hb : b < 256) (hf : f b = none) (hp : p < room) (hu : o.used p = false) (r : Int × Int) : (((o.setUsed p true).setRef p r).setAt b (p + 1)).rep room (setK f b (some r)) := by
  have hfree : ∀ x, x < 256 → o.at_ x ≠ p + 1 := by
    intro x hx e
    cases hfx : f x with
    | none => have := h.none_ x hx hfx; omega
    | some q =>
      obtain ⟨p', _, h2, h3, _⟩ := h.some_ x q hx hfx
      have : p' = p := by omega
      subst this; rw [hu] at h3; cases h3
  refine ⟨?_, ?_, ?_, ?_⟩
  · intro x q hx hq
    dsimp only [ManyO.setAt, ManyO.setRef, ManyO.setUsed, setR, setK] at hq ⊢
    by_cases hxb : x = b
    · rw [if_pos hxb] at hq ⊢
      exact ⟨p, hp, rfl, by simp, by simp; injection hq⟩
    · rw [if_neg hxb] at hq ⊢
      obtain ⟨p', h1, h2, h3, h4⟩ := h.some_ x q hx hq
      have hne : p' ≠ p := fun e => by subst e; rw [hu] at h3; cases h3
      exact ⟨p', h1, h2, by rw [if_neg hne]; exact h3, by rw [if_neg hne]; exact h4⟩
  · intro x hx hq
    dsimp only [ManyO.setAt, ManyO.setRef, ManyO.setUsed, setK] at hq ⊢
    by_cases hxb : x = b
    · rw [if_pos hxb] at hq; cases hq
    · rw [if_neg hxb] at hq ⊢; exact h.none_ x hx hq
  · intro x y hx hy e hne
    dsimp only [ManyO.setAt, ManyO.setRef, ManyO.setUsed] at e hne
    by_cases hxb : x = b <;> by_cases hyb : y = b
    · rw [hxb, hyb]
    · rw [if_pos hxb, if_neg hyb] at e; exact absurd e.symm (hfree y hy)
    · rw [if_neg hxb, if_pos hyb] at e; exact absurd e (hfree x hx)
    · rw [if_neg hxb, if_neg hyb] at e; rw [if_neg hxb] at hne; exact h.inj x y hx hy e hne
  · intro q hq hqu
    dsimp only [ManyO.setAt, ManyO.setRef, ManyO.setUsed] at hqu ⊢
    by_cases hqp : q = p
    · exact ⟨b, hb, by rw [if_pos rfl, hqp]⟩
    · rw [if_neg hqp] at hqu
      obtain ⟨x, hx, hx2⟩ := h.onto q hq hqu
      refine ⟨x, hx, ?_⟩
      rw [if_neg (fun e => by subst e; have := h.none_ x hx hf; omega)]
      exact hx2
theorem rep_lift {o : ManyO} {room : Nat} {f : Kids} (h : o.rep room f) {b p : Nat} (hb : b < 256) (hp : p < room) (hat : o.at_ b = p + 1) : (((o.setUsed p false).setRef p (0, 0)).setAt b 0).rep room (setK f b none) := by
  have hoth : ∀ x, x < 256 → x ≠ b → o.at_ x ≠ p + 1 := fun x hx hne e => hne (h.inj x b hx hb (by rw [e, hat]) (by omega))
  refine ⟨?_, ?_, ?_, ?_⟩
  · intro x q hx hq
    dsimp only [ManyO.setAt, ManyO.setRef, ManyO.setUsed, setR, setK] at hq ⊢
    by_cases hxb : x = b
    · rw [if_pos hxb] at hq; cases hq
    · rw [if_neg hxb] at hq ⊢
      obtain ⟨p', h1, h2, h3, h4⟩ := h.some_ x q hx hq
      have hne : p' ≠ p := fun e => hoth x hx hxb (by rw [h2, e])
      exact ⟨p', h1, h2, by rw [if_neg hne]; exact h3, by rw [if_neg hne]; exact h4⟩
  · intro x hx hq
    dsimp only [ManyO.setAt, ManyO.setRef, ManyO.setUsed, setK] at hq ⊢
    by_cases hxb : x = b
    · rw [if_pos hxb]
    · rw [if_neg hxb] at hq ⊢; exact h.none_ x hx hq
  · intro x y hx hy e hne
    dsimp only [ManyO.setAt, ManyO.setRef, ManyO.setUsed] at e hne
    by_cases hxb : x = b
    · rw [if_pos hxb] at hne; exact absurd rfl hne
    · rw [if_neg hxb] at e hne
      by_cases hyb : y = b
      · rw [if_pos hyb] at e; exact absurd e hne
      · rw [if_neg hyb] at e; exact h.inj x y hx hy e hne
  · intro q hq hqu
    dsimp only [ManyO.setAt, ManyO.setRef, ManyO.setUsed] at hqu ⊢
    by_cases hqp : q = p
    · rw [if_pos hqp] at hqu; cases hqu
    · rw [if_neg hqp] at hqu
      obtain ⟨x, hx, hx2⟩ := h.onto q hq hqu
      refine ⟨x, hx, ?_⟩
      rw [if_neg (fun e => by subst e; omega)]
      exact hx2
theorem rep_new (room : Nat) : ManyO.rep ⟨fun _ => 0, fun _ => (0, 0), fun _ => false⟩ room noKids :=
  ⟨fun b r _ h => by (cases h), fun _ _ _ => rfl, fun _ _ _ _ _ h => absurd rfl h, fun _ _ h => by (cases h)⟩
end Go.Proofs.YtgjgcbemgmkncaaGreatDoor
namespace Go.Proofs.YtgjgcbemgmkncaaGreatDoor
open Go.RowKit Go.Shelf
set_option linter.unusedVariables false
set_option linter.unusedSimpArgs false

/-- The row in its three blocks. -/
def MBlk (W : World) (g gr gu room : Nat) (o : ManyO) : Prop := Blk W g 113 (mcells o gr gu room).toArray ∧ Blk W gr 29 (rcells o room).toArray ∧ Blk W gu 4 (ucells o room).toArray
theorem MBlk.below {W W' : World} {g gr gu room : Nat} {o : ManyO} (h : MBlk W g gr gu room o) (hb : Below W.heap.size W W') : MBlk W' g gr gu room o := ⟨h.1.below hb h.1.lt, h.2.1.below hb h.2.1.lt, h.2.2.below hb h.2.2.lt⟩
theorem MBlk.drew {W : World} {g gr gu room : Nat} {o : ManyO} (h : MBlk W g gr gu room o) : MBlk W.drew g gr gu room o := ⟨h.1.drew, h.2.1.drew, h.2.2.drew⟩
theorem MBlk.drewN {W : World} {g gr gu room : Nat} {o : ManyO} (h : MBlk W g gr gu room o) (k : Nat) : MBlk (W.drewN k) g gr gu room o := ⟨h.1.drewN k, h.2.1.drewN k, h.2.2.drewN k⟩
theorem MBlk.alloc {W : World} {g gr gu room : Nat} {o : ManyO} (h : MBlk W g gr gu room o) (x : Obj) : MBlk (W.alloc x) g gr gu room o := ⟨h.1.alloc x, h.2.1.alloc x, h.2.2.alloc x⟩
theorem MBlk.at_ {W : World} {g gr gu room : Nat} {o : ManyO} (h : MBlk W g gr gu room o) {b : Nat} (hb : b < 256) : W.cell? ⟨g, b, none⟩ = some (.int .u16 (o.at_ b : Int)) := (h.1.cell b).trans (by rw [List.getElem?_toArray]; exact mcells_at o gr gu room hb)
theorem MBlk.sl {W : World} {g gr gu room : Nat} {o : ManyO} (h : MBlk W g gr gu room o) : W.cell? ⟨g, 256, none⟩ = some (.slice (some ⟨gr, 0, none⟩) room room) ∧ W.cell? ⟨g, 257, none⟩ = some (.slice (some ⟨gu, 0, none⟩) room room) :=
  ⟨(h.1.cell 256).trans (by rw [List.getElem?_toArray]; exact (mcells_sl o gr gu room).1), (h.1.cell 257).trans (by rw [List.getElem?_toArray]; exact (mcells_sl o gr gu room).2)⟩
theorem MBlk.ref {W : World} {g gr gu room : Nat} {o : ManyO} (h : MBlk W g gr gu room o) {p : Nat} (hp : p < room) : W.cell? ⟨gr, p * 2, none⟩ = some (.int .i64 (o.refs p).1) ∧ W.cell? ⟨gr, p * 2 + 1, none⟩ = some (.int .u32 (o.refs p).2) :=
  ⟨(h.2.1.cell _).trans (by rw [List.getElem?_toArray]; exact (rcells_at o room hp).1), (h.2.1.cell _).trans (by rw [List.getElem?_toArray]; exact (rcells_at o room hp).2)⟩
theorem MBlk.us {W : World} {g gr gu room : Nat} {o : ManyO} (h : MBlk W g gr gu room o) {p : Nat} (hp : p < room) : W.cell? ⟨gu, p, none⟩ = some (.bool (o.used p)) := (h.2.2.cell _).trans (by rw [List.getElem?_toArray]; exact ucells_at o room hp)

theorem mthere (g gr gu room : Nat) (o : ManyO) (w : World) (h : MBlk w g gr gu room o) (hr : 0 < room) : Calls Tryz.prog 136 #[.pointer (some ⟨g, 0, none⟩)] w (StayEnd (.bool true) w) := by
  obtain ⟨c1, c2⟩ := h.sl
  have i1 : (0 : Int) < (room : Int) := by omega
  go_enter Tryz.func136, Tryz.ntmps136
  go_wp2
  go_ret
  exact ⟨rfl, rfl⟩
theorem mhas (g gr gu room : Nat) (o : ManyO) (b : Nat) (w : World) (h : MBlk w g gr gu room o) (hb : b < 256) : Calls Tryz.prog 134 #[.pointer (some ⟨g, 0, none⟩), .int .i64 (b : Int)] w (StayEnd (.bool (decide (0 < o.at_ b))) w) := by
  have c1 := h.at_ hb
  have i1 : (0 : Int) ≤ (b : Int) := by omega
  have i2 : (b : Int) < 256 := by omega
  generalize o.at_ b = n at c1
  clear h
  by_cases hn : 0 < n
  · have i3 : (0 : Int) < (n : Int) := by omega
    go_enter Tryz.func134, Tryz.ntmps134
    go_wp2
    go_ret
    exact ⟨by simp [hn], rfl⟩
  · have i3 : ¬ ((0 : Int) < (n : Int)) := by omega
    go_enter Tryz.func134, Tryz.ntmps134
    go_wp2
    go_ret
    exact ⟨by simp [hn], rfl⟩
theorem mref (g gr gu room : Nat) (o : ManyO) (b p : Nat) (w : World) (h : MBlk w g gr gu room o) (hb : b < 256) (hp : p < room) (hroom : room ≤ 256) (hat : o.at_ b = p + 1) : Calls Tryz.prog 135 #[.pointer (some ⟨g, 0, none⟩), .int .i64 (b : Int)] w (fun e w' => e = .returned (.pointer (some ⟨gr, p * 2, none⟩)) ∧ ∃ k, w' = w.drewN k) := by
  have c1 := h.at_ hb
  rw [hat] at c1
  have c1' : w.cell? ⟨g, b, none⟩ = some (.int .u16 ((p : Int) + 1)) := by rw [c1]; simp
  obtain ⟨c2, c3⟩ := h.sl
  have i1 : (0 : Int) ≤ (b : Int) := by omega
  have i2 : (b : Int) < 256 := by omega
  have i3 : (0 : Int) ≤ (p : Int) := by omega
  have i4 : (p : Int) < (room : Int) := by omega
  have i5 : (p : Int) + 1 - 1 = (p : Int) := by omega
  have sw : IntKind.u16.wrap ((p : Int) + 1 - 1) = (p : Int) := by rw [i5]; exact IntWalk.u16_in _ (by omega)
  have sw2 : IntKind.u16.wrap (p : Int) = (p : Int) := IntWalk.u16_in _ (by omega)
  clear h c1 hat c3
  go_enter Tryz.func135, Tryz.ntmps135
  go_wp2_with fail
  go_quiet (fail)
  go_wp2
  go_ret
  exact ⟨rfl, _, rfl⟩
/-- slices.Index's number. -/
def ManyO.ix (o : ManyO) (room : Nat) : Int := if o.free room < room then (o.free room : Int) else -1
set_option maxRecDepth 100000 in
theorem sindex (gu room : Nat) (o : ManyO) (w : World) (h : ∀ p, p < room → w.cell? ⟨gu, p, none⟩ = some (.bool (o.used p))) (hroom : room ≤ 256) : Calls Tryz.prog 142 #[.slice (some ⟨gu, 0, none⟩) room room, .bool false] w (StayEnd (.int .i64 (o.ix room)) w) := by
  have H := Lib.hid h
  have HS := Lib.hid (fun (k : Nat) (hk : k ≤ o.free room) (hlt : k < room) => idx_step (p := fun p => !(o.used p)) (l := List.range room) (k := k) (x := k) hk (by simp [hlt]))
  have HL := Lib.hid (o.free_le room)
  clear h
  go_enter Tryz.func142, Tryz.ntmps142
  go_wp2_with fail
  go_loop [8] (fun i => ∃ k : Nat, k ≤ room ∧ i = .int .i64 k ∧ k ≤ o.free room) (fun i => room - (intOf i).toNat)
  case atStart => exact ⟨0, by omega, rfl, by omega⟩
  case round =>
    obtain ⟨k, hk, rfl, hkf⟩ := hrel
    by_cases hlt : k < room
    · have c1 := H.out k hlt
      obtain ⟨s1, s2⟩ := HS.out k hkf hlt
      have i1 : (0 : Int) ≤ (k : Int) := by omega
      have i2 : (k : Int) < (room : Int) := by omega
      cases hu : o.used k with
      | false =>
        rw [hu] at c1
        have hfr : o.free room = k := s1 (by rw [hu]; rfl)
        have HE := Lib.hid (show o.ix room = (k : Int) by unfold ManyO.ix; rw [hfr, if_pos hlt])
        clear s1 s2 hfr
        go_wp2_with fail
        go_ret
        exact ⟨ret_int HE.out.symm, rfl⟩
      | true =>
        rw [hu] at c1
        have hn := s2 (by rw [hu]; rfl)
        clear s1 s2
        go_wp2_with fail
        go_round
        case rel => exact ⟨k + 1, by omega, by go_num, hn⟩
        case measure => simp [intOf]; omega
    · obtain rfl : k = room := by omega
      have i2 : ¬ ((k : Int) < (k : Int)) := by omega
      have HE := Lib.hid (show o.ix k = -1 by unfold ManyO.ix; rw [if_neg (by omega)])
      go_wp2_with fail
      go_ret
      exact ⟨ret_int HE.out.symm, rfl⟩
end Go.Proofs.YtgjgcbemgmkncaaGreatDoor
namespace Go.Proofs.YtgjgcbemgmkncaaGreatDoor
open Go.RowKit Go.Shelf
set_option linter.unusedVariables false
set_option linter.unusedSimpArgs false

/-- Nothing old is changed but the blocks a, b and c. -/
structure Three (a b c : Nat) (w w' : World) : Prop where
  os : w'.os = w.os
  tape : w'.tape = w.tape
  output : w'.output = w.output
  size : w.heap.size ≤ w'.heap.size
  block : ∀ k, k < w.heap.size → k ≠ a → k ≠ b → k ≠ c → w'.heap[k]? = w.heap[k]?
theorem Three.refl (a b c : Nat) (w : World) : Three a b c w w := ⟨rfl, rfl, rfl, Nat.le_refl _, fun _ _ _ _ _ => rfl⟩
theorem Three.alloc {a b c : Nat} {w w1 : World} (h : Three a b c w w1) (o : Obj) : Three a b c w (w1.alloc o) := ⟨h.os, h.tape, h.output, by have := h.size; simp; omega, fun k hk h1 h2 h3 => (Below.heap_alloc w1 o k (Nat.lt_of_lt_of_le hk h.size)).trans (h.block k hk h1 h2 h3)⟩
theorem Three.drew {a b c : Nat} {w w1 : World} (h : Three a b c w w1) : Three a b c w w1.drew := ⟨h.os, h.tape, h.output, h.size, h.block⟩
theorem Three.setCell {a b c : Nat} {w w1 : World} (h : Three a b c w w1) (p : Addr) (u : Value) (hp : p.block = a ∨ p.block = b ∨ p.block = c ∨ w.heap.size ≤ p.block) : Three a b c w (w1.setCell p u) :=
  ⟨h.os, h.tape, h.output, by simpa [World.setCell] using h.size, fun k hk h1 h2 h3 => (Below.heap_setCell w1 p u k (by rintro rfl; rcases hp with e | e | e | e <;> omega)).trans (h.block k hk h1 h2 h3)⟩
theorem Three.trans {a b c : Nat} {w w1 w2 : World} (h : Three a b c w w1) (k : Three a b c w1 w2) : Three a b c w w2 :=
  ⟨k.os.trans h.os, k.tape.trans h.tape, k.output.trans h.output, Nat.le_trans h.size k.size, fun i hi h1 h2 h3 => (k.block i (Nat.lt_of_lt_of_le hi h.size) h1 h2 h3).trans (h.block i hi h1 h2 h3)⟩
/-- The three stores of lay and lift. -/
theorem MBlk.wrote {w : World} {g gr gu room : Nat} {o : ManyO} (h : MBlk w g gr gu room o) {b p n : Nat} (v : Bool) (r : Int × Int) (hb : b < 256) (hp : p < room) :
    MBlk ((((w.setCell ⟨gu, p, none⟩ (.bool v)).setCell ⟨gr, p * 2, none⟩ (.int .i64 r.1)).setCell ⟨gr, p * 2 + 1, none⟩ (.int .u32 r.2)).setCell ⟨g, b, none⟩ (.int .u16 (n : Int))) g gr gu room (((o.setUsed p v).setRef p r).setAt b n) := by
  obtain ⟨h1, h2, h3⟩ := h
  have n1 : g ≠ gr := blk_neF h1 h2 (by decide)
  have n2 : g ≠ gu := blk_neF h1 h3 (by decide)
  have n3 : gr ≠ gu := blk_neF h2 h3 (by decide)
  refine ⟨?_, ?_, ?_⟩
  · have k := (((h1.far (p := ⟨gu, p, none⟩) n2 (.bool v)).far (p := ⟨gr, p * 2, none⟩) n1 (.int .i64 r.1)).far (p := ⟨gr, p * 2 + 1, none⟩) n1 (.int .u32 r.2)).set_ b (.int .u16 (n : Int))
    rw [List.setIfInBounds_toArray, mcells_set o gr gu room n hb] at k
    exact k
  · have k := (((h2.far (p := ⟨gu, p, none⟩) n3 (.bool v)).set_ (p * 2) (.int .i64 r.1)).set_ (p * 2 + 1) (.int .u32 r.2)).far (p := ⟨g, b, none⟩) (Ne.symm n1) (.int .u16 (n : Int))
    rw [List.setIfInBounds_toArray, List.setIfInBounds_toArray, rcells_set o room p r hp] at k
    exact k
  · have k := (((h3.set_ p (.bool v)).far (p := ⟨gr, p * 2, none⟩) (Ne.symm n3) (.int .i64 r.1)).far (p := ⟨gr, p * 2 + 1, none⟩) (Ne.symm n3) (.int .u32 r.2)).far (p := ⟨g, b, none⟩) (Ne.symm n2) (.int .u16 (n : Int))
    rw [List.setIfInBounds_toArray, ucells_set] at k
    exact k
def MEnd (v : Value) (g gr gu room : Nat) (o : ManyO) (w : World) (e : Ending) (w' : World) : Prop := e = .returned v ∧ MBlk w' g gr gu room o ∧ Three g gr gu w w'
set_option maxHeartbeats 3200000 in
set_option maxRecDepth 100000 in
theorem mlay_yes (g gr gu room : Nat) (o : ManyO) (b : Nat) (r : Int × Int) (w : World) (h : MBlk w g gr gu room o) (hb : b < 256) (hroom : room ≤ 256) (hfree : o.free room < room) :
    Calls Tryz.prog 137 #[.pointer (some ⟨g, 0, none⟩), .int .i64 (b : Int), refV r] w (MEnd (.bool true) g gr gu room (((o.setUsed (o.free room) true).setRef (o.free room) r).setAt b (o.free room + 1)) w) := by
  have hI := fun V (hV : MBlk V g gr gu room o) => sindex gu room o V (fun p hp => hV.us hp) hroom
  have hix : o.ix room = (o.free room : Int) := by unfold ManyO.ix; rw [if_pos hfree]
  rw [hix] at hI
  have HW := Lib.hid (h.wrote (n := o.free room + 1) true r hb hfree)
  have hat := h.at_ hb
  obtain ⟨c1, c2⟩ := h.sl
  obtain ⟨c3, c4⟩ := h.ref hfree
  have c5 := h.us hfree
  have l1 := h.1.lt
  have l2 := h.2.1.lt
  have l3 := h.2.2.lt
  have f1 := h.1.frozen b
  have f2 := h.2.1.frozen (o.free room * 2)
  have f3 := h.2.1.frozen (o.free room * 2 + 1)
  have f4 := h.2.2.frozen (o.free room)
  have n1 : g ≠ gr := blk_neF h.1 h.2.1 (by decide)
  have n2 : g ≠ gu := blk_neF h.1 h.2.2 (by decide)
  have n3 : gr ≠ gu := blk_neF h.2.1 h.2.2 (by decide)
  have HI := Lib.hid (hI (w.alloc (.cells #[.int .i64 r.1, .int .u32 r.2] 29)) (h.alloc _))
  clear hI hix
  generalize o.free room = p at *
  have i1 : (0 : Int) ≤ (b : Int) := by omega
  have i2 : (b : Int) < 256 := by omega
  have i3 : (0 : Int) ≤ (p : Int) := by omega
  have i4 : (p : Int) < (room : Int) := by omega
  have i5 : ¬ ((p : Int) < 0) := by omega
  have s1 : IntKind.i64.wrap ((p : Int) + 1) = (p : Int) + 1 := IntWalk.i64_in _ (by omega)
  have s2 : IntKind.u16.wrap ((p : Int) + 1) = (p : Int) + 1 := IntWalk.u16_in _ (by omega)
  have H := Lib.hid h
  clear h
  go_enter Tryz.func137, Tryz.ntmps137
  go_wp2_with fail
  refine HI.out.mono ?_
  rintro e w1 ⟨rfl, rfl⟩
  clear HI
  go_wp2_with fail
  go_region
  all_goals
    go_wp2
    go_ret
    exact ⟨rfl, (HW.out.alloc _).drew, ((((((Three.refl g gr gu w).setCell ⟨gu, p, none⟩ _ (.inr (.inr (.inl rfl)))).setCell ⟨gr, p * 2, none⟩ _ (.inr (.inl rfl))).setCell ⟨gr, p * 2 + 1, none⟩ _ (.inr (.inl rfl))).setCell ⟨g, b, none⟩ _ (.inl rfl)).alloc _).drew⟩
set_option maxRecDepth 100000 in
theorem mlay_no (g gr gu room : Nat) (o : ManyO) (b : Nat) (r : Int × Int) (w : World) (h : MBlk w g gr gu room o) (hroom : room ≤ 256) (hfree : ¬ o.free room < room) :
    Calls Tryz.prog 137 #[.pointer (some ⟨g, 0, none⟩), .int .i64 (b : Int), refV r] w (MEnd (.bool false) g gr gu room o w) := by
  have hI := fun V (hV : MBlk V g gr gu room o) => sindex gu room o V (fun p hp => hV.us hp) hroom
  have hix : o.ix room = -1 := by unfold ManyO.ix; rw [if_neg hfree]
  rw [hix] at hI
  obtain ⟨c1, c2⟩ := h.sl
  have l1 := h.1.lt
  have HI := Lib.hid (hI (w.alloc (.cells #[.int .i64 r.1, .int .u32 r.2] 29)) (h.alloc _))
  have H := Lib.hid h
  clear hI hix h hfree
  go_enter Tryz.func137, Tryz.ntmps137
  go_wp2_with fail
  refine HI.out.mono ?_
  rintro e w1 ⟨rfl, rfl⟩
  clear HI
  go_wp2
  go_ret
  exact ⟨rfl, H.out.alloc _, (Three.refl g gr gu w).alloc _⟩
set_option maxHeartbeats 3200000 in
set_option maxRecDepth 100000 in
theorem mlift (g gr gu room : Nat) (o : ManyO) (b p : Nat) (w : World) (h : MBlk w g gr gu room o) (hb : b < 256) (hroom : room ≤ 256) (hp : p < room) (hat : o.at_ b = p + 1) :
    Calls Tryz.prog 138 #[.pointer (some ⟨g, 0, none⟩), .int .i64 (b : Int)] w (MEnd (refV (o.refs p)) g gr gu room (((o.setUsed p false).setRef p (0, 0)).setAt b 0) w) := by
  have c0 := h.at_ hb
  rw [hat] at c0
  have c0' : w.cell? ⟨g, b, none⟩ = some (.int .u16 ((p : Int) + 1)) := by rw [c0]; simp
  obtain ⟨c1, c2⟩ := h.sl
  obtain ⟨c3, c4⟩ := h.ref hp
  have c5 := h.us hp
  have l1 := h.1.lt
  have l2 := h.2.1.lt
  have l3 := h.2.2.lt
  have f1 := h.1.frozen b
  have f2 := h.2.1.frozen (p * 2)
  have f3 := h.2.1.frozen (p * 2 + 1)
  have f4 := h.2.2.frozen p
  have n1 : g ≠ gr := blk_neF h.1 h.2.1 (by decide)
  have n2 : g ≠ gu := blk_neF h.1 h.2.2 (by decide)
  have n3 : gr ≠ gu := blk_neF h.2.1 h.2.2 (by decide)
  have i1 : (0 : Int) ≤ (b : Int) := by omega
  have i2 : (b : Int) < 256 := by omega
  have i3 : (0 : Int) ≤ (p : Int) := by omega
  have i4 : (p : Int) < (room : Int) := by omega
  have i5 : (p : Int) + 1 - 1 = (p : Int) := by omega
  have sw : IntKind.u16.wrap ((p : Int) + 1 - 1) = (p : Int) := by rw [i5]; exact IntWalk.u16_in _ (by omega)
  have sw2 : IntKind.u16.wrap (p : Int) = (p : Int) := IntWalk.u16_in _ (by omega)
  have HW := Lib.hid (h.wrote (n := 0) false (0, 0) hb hp)
  clear h c0 hat
  generalize hq : o.refs p = q at *
  go_enter Tryz.func138, Tryz.ntmps138
  go_wp2_with fail
  go_region
  all_goals
    go_wp2_with fail
    refine bodyPost_ret (v := refV q) (by simp [results, Tryz.results138, go_sem, *]) rfl ⟨rfl, ((HW.out.alloc _).alloc _).drew, (((((((Three.refl g gr gu w).setCell ⟨gu, p, none⟩ _ (.inr (.inr (.inl rfl)))).setCell ⟨gr, p * 2, none⟩ _ (.inr (.inl rfl))).setCell ⟨gr, p * 2 + 1, none⟩ _ (.inr (.inl rfl))).setCell ⟨g, b, none⟩ _ (.inl rfl)).alloc _).alloc _).drew⟩
end Go.Proofs.YtgjgcbemgmkncaaGreatDoor
namespace Go.Proofs.YtgjgcbemgmkncaaGreatDoor
open Go.RowKit Go.Shelf
set_option linter.unusedVariables false
set_option linter.unusedSimpArgs false

/-- As many positions are used as there are kids. -/
theorem nodup_len {α : Type} [DecidableEq α] : ∀ {l m : List α}, l.Nodup → (∀ x ∈ l, x ∈ m) → l.length ≤ m.length
  | [], m, _, _ => Nat.zero_le _
  | x :: l, m, h, hs => by
    have hx : x ∈ m := hs x (by simp)
    obtain ⟨h1, h2⟩ := List.nodup_cons.1 h
    have := nodup_len (l := l) (m := m.erase x) h2 (fun y hy => (List.mem_erase_of_ne (show y ≠ x from fun e => h1 (by rw [← e]; exact hy))).2 (hs y (by simp [hy])))
    rw [List.length_erase_of_mem hx] at this
    have hpos : 0 < m.length := List.length_pos_of_mem hx
    simp only [List.length_cons]
    omega
def kidBytes (f : Kids) : List Nat := (List.range 256).filter fun b => (f b).isSome
theorem kidBytes_len (f : Kids) : (kidBytes f).length = cntK f := by
  unfold kidBytes cntK kidsOf kidsIn
  have : ∀ l : List Nat, (l.filter fun b => (f b).isSome).length = (l.filterMap fun b => (f b).map fun r => (b, r)).length := by
    intro l
    induction l with
    | nil => rfl
    | cons x l ih =>
      rw [List.filter_cons, List.filterMap_cons]
      cases h : f x <;> simp [h, ih]
  exact this _
theorem rep_used {o : ManyO} {room : Nat} {f : Kids} (h : o.rep room f) : (((List.range room).filter o.used).length = cntK f) := by
  have hat : ∀ b, b ∈ kidBytes f → ∃ p, p < room ∧ o.at_ b = p + 1 ∧ o.used p = true := by
    intro b hb
    obtain ⟨h1, h2⟩ := List.mem_filter.1 hb
    obtain ⟨r, hr⟩ := Option.isSome_iff_exists.1 h2
    obtain ⟨p, k1, k2, k3, _⟩ := h.some_ b r (List.mem_range.1 h1) hr
    exact ⟨p, k1, k2, k3⟩
  have hle1 : ((kidBytes f).map (fun b => o.at_ b - 1)).length ≤ ((List.range room).filter o.used).length := by
    refine nodup_len ?_ ?_
    · unfold kidBytes
      rw [List.Nodup, List.pairwise_map]
      refine (List.Pairwise.filter _ (List.nodup_range (n := 256))).imp_of_mem ?_
      intro a b ha hb hne e
      obtain ⟨p, k1, k2, _⟩ := hat a ha
      obtain ⟨q, m1, m2, _⟩ := hat b hb
      exact hne (h.inj a b (List.mem_range.1 (List.mem_filter.1 ha).1) (List.mem_range.1 (List.mem_filter.1 hb).1) (by omega) (by omega))
    · intro x hx
      obtain ⟨b, hb, rfl⟩ := List.mem_map.1 hx
      obtain ⟨p, k1, k2, k3⟩ := hat b hb
      rw [k2]
      exact List.mem_filter.2 ⟨List.mem_range.2 (by omega), by simpa using k3⟩
  have hle2 : (((List.range room).filter o.used).map (fun p => ((List.range 256).filter fun b => o.at_ b == p + 1).headD 0)).length ≤ (kidBytes f).length := by
    have hfind : ∀ p, p ∈ (List.range room).filter o.used → ∃ b, b ∈ kidBytes f ∧ ((List.range 256).filter fun b => o.at_ b == p + 1).headD 0 = b ∧ o.at_ b = p + 1 := by
      intro p hp
      obtain ⟨k1, k2⟩ := List.mem_filter.1 hp
      obtain ⟨b, hb, hb2⟩ := h.onto p (List.mem_range.1 k1) k2
      have hm : b ∈ (List.range 256).filter fun b => o.at_ b == p + 1 := List.mem_filter.2 ⟨List.mem_range.2 hb, by simp [hb2]⟩
      cases hl : (List.range 256).filter fun b => o.at_ b == p + 1 with
      | nil => rw [hl] at hm; cases hm
      | cons c l =>
        have hc : c ∈ (List.range 256).filter fun b => o.at_ b == p + 1 := by rw [hl]; simp
        obtain ⟨m1, m2⟩ := List.mem_filter.1 hc
        have m3 : o.at_ c = p + 1 := by simpa using m2
        refine ⟨c, List.mem_filter.2 ⟨m1, ?_⟩, rfl, m3⟩
        cases hfc : f c with
        | none => have := h.none_ c (List.mem_range.1 m1) hfc; omega
        | some r => rfl
    refine nodup_len ?_ ?_
    · rw [List.Nodup, List.pairwise_map]
      refine (List.Pairwise.filter _ (List.nodup_range (n := room))).imp_of_mem ?_
      intro a b ha hb hne e
      obtain ⟨x, _, x2, x3⟩ := hfind a ha
      obtain ⟨y, _, y2, y3⟩ := hfind b hb
      rw [x2, y2] at e
      subst e
      omega
    · intro x hx
      obtain ⟨p, hp, rfl⟩ := List.mem_map.1 hx
      obtain ⟨b, hb, hb2, _⟩ := hfind p hp
      rw [hb2]; exact hb
  rw [List.length_map] at hle1 hle2
  rw [← kidBytes_len f]
  omega
theorem rep_full {o : ManyO} {room : Nat} {f : Kids} (h : o.rep room f) : o.free room < room ↔ cntK f ≠ room := by
  rw [← rep_used h]
  have hle := o.free_le room
  constructor
  · intro hlt e
    have hall : ∀ p ∈ List.range room, o.used p = true := by
      have := List.length_filter_eq_length_iff.1 (show ((List.range room).filter o.used).length = (List.range room).length by rw [e, List.length_range])
      exact this
    have := o.free_spec room hlt
    rw [hall _ (List.mem_range.2 hlt)] at this
    cases this
  · intro hne
    refine Nat.lt_of_le_of_ne hle (fun e => hne ?_)
    have hall := o.free_all room e
    rw [List.filter_eq_self.2 (fun p hp => hall p (List.mem_range.1 hp)), List.length_range]

/-- The row in block g, its Refs in gr, its marks in gu: room for so many, and the kids f. -/
def ManyAt (W : World) (g gr gu room : Nat) (f : Kids) : Prop := ∃ o : ManyO, o.rep room f ∧ MBlk W g gr gu room o ∧ 0 < room ∧ room ≤ 256
theorem ManyAt.below {W W' : World} {g gr gu room : Nat} {f : Kids} (h : ManyAt W g gr gu room f) (hb : Below W.heap.size W W') : ManyAt W' g gr gu room f := by
  obtain ⟨o, h1, h2, h3⟩ := h
  exact ⟨o, h1, h2.below hb, h3⟩
theorem ManyAt.drew {W : World} {g gr gu room : Nat} {f : Kids} (h : ManyAt W g gr gu room f) : ManyAt W.drew g gr gu room f := by
  obtain ⟨o, h1, h2, h3⟩ := h
  exact ⟨o, h1, h2.drew, h3⟩
theorem ManyAt.drewN {W : World} {g gr gu room : Nat} {f : Kids} (h : ManyAt W g gr gu room f) (k : Nat) : ManyAt (W.drewN k) g gr gu room f := by
  obtain ⟨o, h1, h2, h3⟩ := h
  exact ⟨o, h1, h2.drewN k, h3⟩
theorem ManyAt.lt {W : World} {g gr gu room : Nat} {f : Kids} (h : ManyAt W g gr gu room f) : g < W.heap.size ∧ gr < W.heap.size ∧ gu < W.heap.size := by
  obtain ⟨o, h1, h2, h3⟩ := h
  exact ⟨h2.1.lt, h2.2.1.lt, h2.2.2.lt⟩
def ManyEnd (v : Value) (g gr gu room : Nat) (f : Kids) (w : World) (e : Ending) (w' : World) : Prop := e = .returned v ∧ ManyAt w' g gr gu room f ∧ Three g gr gu w w'
theorem there_m {g gr gu room : Nat} {f : Kids} {w : World} (h : ManyAt w g gr gu room f) : Calls Tryz.prog 136 #[.pointer (some ⟨g, 0, none⟩)] w (StayEnd (.bool true) w) := by
  obtain ⟨o, h1, h2, h3, h4⟩ := h
  exact mthere g gr gu room o w h2 h3
theorem has_m {g gr gu room : Nat} {f : Kids} {w : World} (h : ManyAt w g gr gu room f) {b : Nat} (hb : b < 256) : Calls Tryz.prog 134 #[.pointer (some ⟨g, 0, none⟩), .int .i64 (b : Int)] w (StayEnd (.bool (f b).isSome) w) := by
  obtain ⟨o, h1, h2, h3, h4⟩ := h
  have := mhas g gr gu room o b w h2 hb
  rw [h1.has hb] at this
  exact this
/-- ref: an address at which the kid's Ref stands. -/
def RefPtr (gr : Nat) (r : Int × Int) (w : World) (e : Ending) (w' : World) : Prop := ∃ p : Nat, e = .returned (.pointer (some ⟨gr, p * 2, none⟩)) ∧ w.cell? ⟨gr, p * 2, none⟩ = some (.int .i64 r.1) ∧ w.cell? ⟨gr, p * 2 + 1, none⟩ = some (.int .u32 r.2) ∧ ∃ k, w' = w.drewN k
theorem ref_m {g gr gu room : Nat} {f : Kids} {w : World} (h : ManyAt w g gr gu room f) {b : Nat} {r : Int × Int} (hb : b < 256) (hf : f b = some r) : Calls Tryz.prog 135 #[.pointer (some ⟨g, 0, none⟩), .int .i64 (b : Int)] w (RefPtr gr r w) := by
  obtain ⟨o, h1, h2, h3, h4⟩ := h
  obtain ⟨p, k1, k2, k3, k4⟩ := h1.some_ b r hb hf
  refine (mref g gr gu room o b p w h2 hb k1 h4 k2).mono ?_
  rintro e w' ⟨rfl, k⟩
  obtain ⟨c1, c2⟩ := h2.ref k1
  rw [k4] at c1 c2
  exact ⟨p, rfl, c1, c2, k⟩
theorem lay_m {g gr gu room : Nat} {f : Kids} {w : World} (h : ManyAt w g gr gu room f) {b : Nat} (r : Int × Int) (hb : b < 256) (hf : f b = none) : Calls Tryz.prog 137 #[.pointer (some ⟨g, 0, none⟩), .int .i64 (b : Int), refV r] w (fun e w' => ∃ ok : Bool, ok = !(decide (cntK f = room)) ∧ ManyEnd (.bool ok) g gr gu room (if cntK f = room then f else setK f b (some r)) w e w') := by
  obtain ⟨o, h1, h2, h3, h4⟩ := h
  by_cases hc : cntK f = room
  · refine (mlay_no g gr gu room o b r w h2 h4 (fun hlt => (rep_full h1).1 hlt hc)).mono ?_
    rintro e w' ⟨rfl, k1, k2⟩
    exact ⟨false, by simp [hc], rfl, by rw [if_pos hc]; exact ⟨o, h1, k1, h3, h4⟩, k2⟩
  · have hlt := (rep_full h1).2 hc
    refine (mlay_yes g gr gu room o b r w h2 hb h4 hlt).mono ?_
    rintro e w' ⟨rfl, k1, k2⟩
    exact ⟨true, by simp [hc], rfl, by rw [if_neg hc]; exact ⟨_, rep_lay h1 hb hf hlt (o.free_spec room hlt) r, k1, h3, h4⟩, k2⟩
theorem lift_m {g gr gu room : Nat} {f : Kids} {w : World} (h : ManyAt w g gr gu room f) {b : Nat} {r : Int × Int} (hb : b < 256) (hf : f b = some r) : Calls Tryz.prog 138 #[.pointer (some ⟨g, 0, none⟩), .int .i64 (b : Int)] w (ManyEnd (refV r) g gr gu room (setK f b none) w) := by
  obtain ⟨o, h1, h2, h3, h4⟩ := h
  obtain ⟨p, k1, k2, k3, k4⟩ := h1.some_ b r hb hf
  refine (mlift g gr gu room o b p w h2 hb h4 k1 k2).mono ?_
  rintro e w' ⟨rfl, m1, m2⟩
  rw [k4]
  exact ⟨rfl, ⟨_, rep_lift h1 hb k1 k2, m1, h3, h4⟩, m2⟩
end Go.Proofs.YtgjgcbemgmkncaaGreatDoor
namespace Go.Proofs.YtgjgcbemgmkncaaGreatDoor
open Go.RowKit Go.Shelf
set_option linter.unusedVariables false
set_option linter.unusedSimpArgs false

theorem ManyAt.alloc {W : World} {g gr gu room : Nat} {f : Kids} (h : ManyAt W g gr gu room f) (x : Obj) : ManyAt (W.alloc x) g gr gu room f := h.below (below_box W x)
/-- A block that is none of the three. -/
theorem Blk.three {W W' : World} {a b c x : Nat} {t : TypeId} {cs : Array Value} (h : Blk W x t cs) (ht : Three a b c W W') (h1 : x ≠ a) (h2 : x ≠ b) (h3 : x ≠ c) : Blk W' x t cs := (ht.block x h.lt h1 h2 h3).trans h
set_option maxHeartbeats 1600000 in
set_option maxRecDepth 100000 in
theorem Put_m (g gr gu room : Nat) (f : Kids) (b : Nat) (r : Int × Int) (w : World) (h : ManyAt w g gr gu room f) (hb : b < 256) :
    Calls Tryz.prog 128 #[.pointer (some ⟨g, 0, none⟩), .int .u8 (b : Int), refV r] w (ManyEnd (.int .i64 (putK (room : Int) f b r).1) g gr gu room (putK (room : Int) f b r).2 w) := by
  have hlt := h.lt
  have h1 := h.alloc (.cells #[.int .i64 r.1, .int .u32 r.2] 29)
  have hr := Blk.new w 29 #[.int .i64 r.1, .int .u32 r.2]
  have HR := Lib.hid hr
  have e0 : (w.alloc (.cells #[.int .i64 r.1, .int .u32 r.2] 29)).cell? ⟨w.heap.size, 0, none⟩ = some (.int .i64 r.1) := hr.cell 0
  have e1 : (w.alloc (.cells #[.int .i64 r.1, .int .u32 r.2] 29)).cell? ⟨w.heap.size, 1, none⟩ = some (.int .u32 r.2) := hr.cell 1
  have HT := Lib.hid (there_m h1)
  have HH := Lib.hid (has_m h1 hb)
  have H1 := Lib.hid h1
  have i1 : (0 : Int) ≤ (b : Int) := by omega
  have i2 : (b : Int) ≤ 255 := by omega
  have sw : IntKind.i64.wrap (b : Int) = (b : Int) := IntWalk.i64_in _ (by omega)
  clear h h1 hr
  unfold putK
  cases hf : f b with
  | some q =>
    rw [hf] at HH
    simp only [Option.isSome_some] at HH ⊢
    clear hf
    rw [if_pos trivial]
    go_enter Tryz.func128, Tryz.ntmps128
    go_wp2_with fail
    refine HT.out.mono ?_
    rintro e w1 ⟨rfl, rfl⟩
    go_wp2_with fail
    refine HH.out.mono ?_
    rintro e w2 ⟨rfl, rfl⟩
    go_wp2
    go_ret
    exact ⟨rfl, H1.out, (Three.refl g gr gu w).alloc _⟩
  | none =>
    rw [hf] at HH
    simp only [Option.isSome_none] at HH ⊢
    have HL := Lib.hid (lay_m H1.out.drew r hb hf)
    rw [if_neg (by simp)]
    clear hf
    have m1 : w.heap.size ≠ g := by omega
    have m2 : w.heap.size ≠ gr := by omega
    have m3 : w.heap.size ≠ gu := by omega
    by_cases hc : cntK f = room
    · have hci : (cntK f : Int) = (room : Int) := by omega
      rw [if_pos hci]
      have HC := Lib.hid hc
      clear hc hci
      go_enter Tryz.func128, Tryz.ntmps128
      go_wp2_with fail
      refine HT.out.mono ?_
      rintro e w1 ⟨rfl, rfl⟩
      go_wp2_with fail
      refine HH.out.mono ?_
      rintro e w2 ⟨rfl, rfl⟩
      go_wp2_with fail
      go_region_held3 (fun V => V.cell? ⟨w.heap.size, 0, none⟩ = some (.int .i64 r.1) ∧ V.cell? ⟨w.heap.size, 1, none⟩ = some (.int .u32 r.2)) (first | exact ⟨e0, e1⟩ | exact hx)
        (first | (go_at_call 137; (with_reducible refine HL.out.mono ?_); rintro e w3 ⟨ok, hok, rfl, k1, k2⟩; rw [decide_eq_true HC.out] at hok; subst hok; have hx : w3.cell? ⟨w.heap.size, 0, none⟩ = some (.int .i64 r.1) ∧ w3.cell? ⟨w.heap.size, 1, none⟩ = some (.int .u32 r.2) := ⟨(Blk.three HR.out.drew k2 m1 m2 m3).cell 0, (Blk.three HR.out.drew k2 m1 m2 m3).cell 1⟩))
      all_goals
        go_wp2
        go_ret
        exact ⟨rfl, by rw [if_pos HC.out] at k1; exact k1, (((Three.refl g gr gu w).alloc _).drew).trans k2⟩
    · have hci : ¬ (cntK f : Int) = (room : Int) := by omega
      rw [if_neg hci]
      have HC := Lib.hid hc
      clear hc hci
      go_enter Tryz.func128, Tryz.ntmps128
      go_wp2_with fail
      refine HT.out.mono ?_
      rintro e w1 ⟨rfl, rfl⟩
      go_wp2_with fail
      refine HH.out.mono ?_
      rintro e w2 ⟨rfl, rfl⟩
      go_wp2_with fail
      go_region_held3 (fun V => V.cell? ⟨w.heap.size, 0, none⟩ = some (.int .i64 r.1) ∧ V.cell? ⟨w.heap.size, 1, none⟩ = some (.int .u32 r.2)) (first | exact ⟨e0, e1⟩ | exact hx)
        (first | (go_at_call 137; (with_reducible refine HL.out.mono ?_); rintro e w3 ⟨ok, hok, rfl, k1, k2⟩; rw [decide_eq_false HC.out] at hok; subst hok; have hx : w3.cell? ⟨w.heap.size, 0, none⟩ = some (.int .i64 r.1) ∧ w3.cell? ⟨w.heap.size, 1, none⟩ = some (.int .u32 r.2) := ⟨(Blk.three HR.out.drew k2 m1 m2 m3).cell 0, (Blk.three HR.out.drew k2 m1 m2 m3).cell 1⟩))
      all_goals
        go_wp2
        go_ret
        exact ⟨rfl, by rw [if_neg HC.out] at k1; exact k1, (((Three.refl g gr gu w).alloc _).drew).trans k2⟩
end Go.Proofs.YtgjgcbemgmkncaaGreatDoor
namespace Go.Proofs.YtgjgcbemgmkncaaGreatDoor
open Go.RowKit Go.Shelf
set_option linter.unusedVariables false
set_option linter.unusedSimpArgs false

set_option maxHeartbeats 1600000 in
set_option maxRecDepth 100000 in
theorem Take_m (g gr gu room : Nat) (f : Kids) (b : Nat) (w : World) (h : ManyAt w g gr gu room f) (hb : b < 256) :
    Calls Tryz.prog 129 #[.pointer (some ⟨g, 0, none⟩), .int .u8 (b : Int)] w (ManyEnd (.tuple #[refV (takeK f b).1.1, .int .i64 (takeK f b).1.2]) g gr gu room (takeK f b).2 w) := by
  have hlt := h.lt
  have h1 := h.alloc (.cells #[.int .i64 0, .int .u32 0] 29)
  have hr := Blk.new w 29 #[.int .i64 0, .int .u32 0]
  have HR := Lib.hid hr
  have HT := Lib.hid (there_m h1)
  have HH := Lib.hid (has_m h1 hb)
  have H1 := Lib.hid h1
  have i1 : (0 : Int) ≤ (b : Int) := by omega
  have i2 : (b : Int) ≤ 255 := by omega
  have sw : IntKind.i64.wrap (b : Int) = (b : Int) := IntWalk.i64_in _ (by omega)
  have m1 : w.heap.size ≠ g := by omega
  have m2 : w.heap.size ≠ gr := by omega
  have m3 : w.heap.size ≠ gu := by omega
  clear h h1 hr
  unfold takeK
  cases hf : f b with
  | none =>
    dsimp only
    rw [hf] at HH
    simp only [Option.isSome_none] at HH
    clear hf
    go_enter Tryz.func129, Tryz.ntmps129
    go_wp2_with fail
    refine HT.out.mono ?_
    rintro e w1 ⟨rfl, rfl⟩
    go_wp2_with fail
    refine HH.out.mono ?_
    rintro e w2 ⟨rfl, rfl⟩
    go_wp2_with fail
    refine bodyPost_ret (v := .tuple #[refV (0, 0), .int .i64 5]) (by simp [results, Tryz.results129, go_sem, *]) rfl ⟨rfl, ?_, ?_⟩
    · first | exact H1.out | exact H1.out.alloc _
    · first | exact (Three.refl g gr gu w).alloc _ | exact ((Three.refl g gr gu w).alloc _).alloc _
  | some q =>
    dsimp only
    have HL := Lib.hid (lift_m H1.out hb hf)
    rw [hf] at HH
    simp only [Option.isSome_some] at HH
    clear hf
    go_enter Tryz.func129, Tryz.ntmps129
    go_wp2_with fail
    refine HT.out.mono ?_
    rintro e w1 ⟨rfl, rfl⟩
    go_wp2_with fail
    refine HH.out.mono ?_
    rintro e w2 ⟨rfl, rfl⟩
    go_wp2_with fail
    refine HL.out.mono ?_
    rintro e w3 ⟨rfl, k1, k2⟩
    have hr3 := Blk.three HR.out k2 m1 m2 m3
    have e0 := hr3.cell 0
    have e1 := hr3.cell 1
    have f0 := hr3.frozen 0
    have f1 := hr3.frozen 1
    have l0 := hr3.lt
    simp at e0 e1
    have hrn := (hr3.set_ 0 (.int .i64 q.1)).set_ 1 (.int .u32 q.2)
    have q0 := hrn.cell 0
    have q1 := hrn.cell 1
    simp at q0 q1
    obtain ⟨o, o1, o2, o3⟩ := k1
    have kf : ManyAt ((w3.setCell ⟨w.heap.size, 0, none⟩ (.int .i64 q.1)).setCell ⟨w.heap.size, 1, none⟩ (.int .u32 q.2)) g gr gu room (setK (fun x => f x) b none) :=
      ⟨o, o1, ⟨(o2.1.far (p := ⟨w.heap.size, 0, none⟩) (Ne.symm m1) _).far (p := ⟨w.heap.size, 1, none⟩) (Ne.symm m1) _, (o2.2.1.far (p := ⟨w.heap.size, 0, none⟩) (Ne.symm m2) _).far (p := ⟨w.heap.size, 1, none⟩) (Ne.symm m2) _, (o2.2.2.far (p := ⟨w.heap.size, 0, none⟩) (Ne.symm m3) _).far (p := ⟨w.heap.size, 1, none⟩) (Ne.symm m3) _⟩, o3⟩
    have kt := ((((Three.refl g gr gu w).alloc (.cells #[.int .i64 0, .int .u32 0] 29)).trans k2).setCell ⟨w.heap.size, 0, none⟩ (.int .i64 q.1) (.inr (.inr (.inr (Nat.le_refl _))))).setCell ⟨w.heap.size, 1, none⟩ (.int .u32 q.2) (.inr (.inr (.inr (Nat.le_refl _))))
    have HK := Lib.hid (And.intro kf kt)
    clear k2 hr3 hrn kf kt o1 o2 o3 HR H1 HT HH HL
    go_wp2_with fail
    refine bodyPost_ret (v := .tuple #[refV q, .int .i64 0]) (by simp [results, Tryz.results129, go_sem, *]) rfl ⟨rfl, HK.out.1, HK.out.2⟩
set_option maxHeartbeats 1600000 in
set_option maxRecDepth 100000 in
theorem Find_m (g gr gu room : Nat) (f : Kids) (b : Nat) (w : World) (h : ManyAt w g gr gu room f) (hb : b < 256) :
    Calls Tryz.prog 125 #[.pointer (some ⟨g, 0, none⟩), .int .u8 (b : Int)] w (TwoEnd (optV (f b)) (.bool (f b).isSome) w) := by
  have hlt := h.lt
  have h1 := h.alloc (.cells #[.int .i64 0, .int .u32 0] 29)
  have hr := Blk.new w 29 #[.int .i64 0, .int .u32 0]
  have HR := Lib.hid hr
  have HT := Lib.hid (there_m h1)
  have HH := Lib.hid (has_m h1 hb)
  have H1 := Lib.hid h1
  have i1 : (0 : Int) ≤ (b : Int) := by omega
  have i2 : (b : Int) ≤ 255 := by omega
  have sw : IntKind.i64.wrap (b : Int) = (b : Int) := IntWalk.i64_in _ (by omega)
  clear h h1 hr
  unfold optV
  cases hf : f b with
  | none =>
    rw [hf] at HH
    simp only [Option.isSome_none, Option.getD_none] at HH ⊢
    clear hf
    go_enter Tryz.func125, Tryz.ntmps125
    go_wp2_with fail
    refine HT.out.mono ?_
    rintro e w1 ⟨rfl, rfl⟩
    go_wp2_with fail
    refine HH.out.mono ?_
    rintro e w2 ⟨rfl, rfl⟩
    go_wp2_with fail
    refine bodyPost_ret (v := .tuple #[refV (0, 0), .bool false]) (by simp [results, Tryz.results125, go_sem, *]) rfl ⟨rfl, below_box w _⟩
  | some q =>
    have HL := Lib.hid (ref_m H1.out hb hf)
    rw [hf] at HH
    simp only [Option.isSome_some, Option.getD_some] at HH ⊢
    clear hf
    go_enter Tryz.func125, Tryz.ntmps125
    go_wp2_with fail
    refine HT.out.mono ?_
    rintro e w1 ⟨rfl, rfl⟩
    go_wp2_with fail
    refine HH.out.mono ?_
    rintro e w2 ⟨rfl, rfl⟩
    go_wp2_with fail
    refine HL.out.mono ?_
    rintro e w3 ⟨p, rfl, c1, c2, k, rfl⟩
    have c1' : ((w.alloc (.cells #[.int .i64 0, .int .u32 0] 29)).drewN k).cell? ⟨gr, p * 2, none⟩ = some (.int .i64 q.1) := c1
    have c2' : ((w.alloc (.cells #[.int .i64 0, .int .u32 0] 29)).drewN k).cell? ⟨gr, p * 2 + 1, none⟩ = some (.int .u32 q.2) := c2
    have hbel := below_drewN (below_box w (.cells #[.int .i64 0, .int .u32 0] 29)) k
    have hr3 := HR.out.drewN k
    generalize (w.alloc (.cells #[.int .i64 0, .int .u32 0] 29)).drewN k = w4 at c1' c2' hbel hr3 ⊢
    have e0 := hr3.cell 0
    have e1 := hr3.cell 1
    have f0 := hr3.frozen 0
    have f1 := hr3.frozen 1
    have l0 := hr3.lt
    simp at e0 e1
    have hrn := (hr3.set_ 0 (.int .i64 q.1)).set_ 1 (.int .u32 q.2)
    have q0 := hrn.cell 0
    have q1 := hrn.cell 1
    simp at q0 q1
    have HB := Lib.hid ((hbel.setCell (p := ⟨w.heap.size, 0, none⟩) (Nat.le_refl _) (.int .i64 q.1)).setCell (p := ⟨w.heap.size, 1, none⟩) (Nat.le_refl _) (.int .u32 q.2))
    clear hrn hr3 hbel c1 c2 HR H1 HT HH HL
    go_wp2_with fail
    refine bodyPost_ret (v := .tuple #[refV q, .bool true]) (by simp [results, Tryz.results125, go_sem, *]) rfl ⟨rfl, HB.out⟩
end Go.Proofs.YtgjgcbemgmkncaaGreatDoor
namespace Go.Proofs.YtgjgcbemgmkncaaGreatDoor
open Go.RowKit Go.Shelf
set_option linter.unusedVariables false
set_option linter.unusedSimpArgs false

def zeroIdx : List Value := (List.range 256).map (fun _ => .int .u16 0) ++ [.slice none 0 0, .slice none 0 0]
theorem infoIdx : (Tryz.prog.info? 111).map (fun i => (i.zero, i.size)) = some (some (.agg zeroIdx.toArray), 258) := by kernel_rfl
theorem infoMany : (Tryz.prog.info? 113).map (fun i => (i.zero, i.size)) = some (some (.agg zeroIdx.toArray), 258) := by kernel_rfl
theorem zero_of {t : TypeId} {z : Value} {n : Nat} (h : (Tryz.prog.info? t).map (fun i => (i.zero, i.size)) = some (some z, n)) (V : World) : (zeroValue t).run Tryz.prog V = .ok z V := by
  cases hq : Tryz.prog.info? t with
  | none => simp [hq] at h
  | some i =>
    rw [hq] at h
    simp only [Option.map_some, Option.some.injEq, Prod.mk.injEq] at h
    simp [zeroValue, typeInfo, hq, h.1]
theorem infoRef2 : (Tryz.prog.info? 29).map (fun i => (i.zero, i.size, i.bytes)) = some (some (.agg #[.int .i64 0, .int .u32 0]), 2, 16) := by kernel_rfl
theorem infoBool1 : (Tryz.prog.info? 4).map (fun i => (i.zero, i.size, i.bytes)) = some (some (.bool false), 1, 1) := by kernel_rfl
def oNew : ManyO := ⟨fun _ => 0, fun _ => (0, 0), fun _ => false⟩
theorem made_refs {n : Nat} (h : n = 48 ∨ n = 256) : madeCells (Value.agg #[.int .i64 0, .int .u32 0]).cells (n * 2) = (rcells oNew n).toArray := by
  rcases h with rfl | rfl <;> kernel_rfl
theorem made_bools {n : Nat} (h : n = 48 ∨ n = 256) : madeCells (Value.bool false).cells (n * 1) = (ucells oNew n).toArray := by
  rcases h with rfl | rfl <;> kernel_rfl
theorem fold_zip (L : List Value) : ∀ (A Z : List Value), L.length = Z.length → (L.zipIdx A.length).foldl (fun (cs : Array Value) x => cs.setIfInBounds x.2 x.1) (A ++ Z).toArray = (A ++ L).toArray := by
  induction L with
  | nil =>
    intro A Z h
    rw [List.eq_nil_of_length_eq_zero h.symm]
    rfl
  | cons x L ih =>
    intro A Z h
    cases Z with
    | nil => cases h
    | cons z Z =>
      rw [List.zipIdx_cons, List.foldl_cons]
      have h1 : (A ++ z :: Z).toArray.setIfInBounds A.length x = ((A ++ [x]) ++ Z).toArray := by
        rw [List.setIfInBounds_toArray, List.set_append_right _ _ (Nat.le_refl _), Nat.sub_self, List.set_cons_zero]
        simp
      have h2 := ih (A ++ [x]) Z (by simpa using h)
      simp only [List.length_append, List.length_cons, List.length_nil, Nat.zero_add] at h2
      dsimp only
      rw [h1, h2]
      simp
theorem fold_all (L Z : List Value) (h : L.length = Z.length) : L.zipIdx.foldl (fun (cs : Array Value) x => cs.setIfInBounds x.2 x.1) Z.toArray = L.toArray := by
  have := fold_zip L [] Z h
  simpa using this
theorem idx_made (gr gu room : Nat) : (zeroIdx.set 256 (.slice (some ⟨gr, 0, none⟩) room room)).set 257 (.slice (some ⟨gu, 0, none⟩) room room) = mcells oNew gr gu room := by
  unfold zeroIdx mcells oNew
  rw [List.set_append_right _ _ (by simp), List.set_append_right _ _ (by simp)]
  simp
theorem idx_len : zeroIdx.length = 258 := by simp [zeroIdx]
set_option maxHeartbeats 3200000 in
set_option maxRecDepth 100000 in
theorem new_tail (room : Nat) (w : World) (hroom : room = 48 ∨ room = 256) {u1 u2 u3 u4 u5 u6 u7 u8 u9 u10 u11 u12 u13 u14 u15 u16 : Value} {Q : Exit → Act → World → Prop}
    (hQ : ∀ (y10 y11 y12 y13 y14 y15 y16 : Value) (g gr gu : Nat) (W : World), ManyAt W g gr gu room noKids → w.heap.size ≤ g → w.heap.size ≤ gr → w.heap.size ≤ gu → Below w.heap.size w W → Q .ret ⟨#[.int .i64 (room : Int), u1, .pointer (some ⟨g, 0, none⟩), .int .i64 0, u4, u5, u6, u7, u8, u9, y10, y11, y12, y13, y14, y15, y16], []⟩ W) :
    Code.wp Tryz.prog (part Tryz.f73 [1, 1]) Q ⟨#[.int .i64 (room : Int), u1, u2, u3, u4, u5, u6, u7, u8, u9, u10, u11, u12, u13, u14, u15, u16], []⟩ w := by
  conv => arg 2; whnf
  have HQ := Lib.hid hQ
  clear hQ
  have hz1 := zero_of infoIdx
  have hz2 := zero_of infoMany
  obtain ⟨i1, hi1, ha1, hb1, hc1⟩ := info_parts infoRef2
  obtain ⟨i2, hi2, ha2, hb2, hc2⟩ := info_parts infoBool1
  have hr0 : room ≤ 256 ∧ 0 < room := by omega
  have hm1 : ∀ V : World, (Instr.makeSlice 24 (.int .i64 (room : Int)) (.int .i64 (room : Int))).run Tryz.prog V = .ok (.slice (some ⟨V.heap.size, 0, none⟩) room room) (V.alloc (.cells (rcells oNew room).toArray 29)) := fun V => by
    have := run_make (P := Tryz.prog) V 24 29 i1 _ Tryz.underlying24 hi1 ha1 .i64 .i64 (room : Int) (room : Int) (by omega) (Int.le_refl _) (by rw [hc1]; omega) (by omega)
    rw [Int.toNat_natCast, hb1, made_refs hroom] at this
    exact this
  have hm2 : ∀ V : World, (Instr.makeSlice 107 (.int .i64 (room : Int)) (.int .i64 (room : Int))).run Tryz.prog V = .ok (.slice (some ⟨V.heap.size, 0, none⟩) room room) (V.alloc (.cells (ucells oNew room).toArray 4)) := fun V => by
    have := run_make (P := Tryz.prog) V 107 4 i2 _ Tryz.underlying107 hi2 ha2 .i64 .i64 (room : Int) (room : Int) (by omega) (Int.le_refl _) (by rw [hc2]; omega) (by omega)
    rw [Int.toNat_natCast, hb2, made_bools hroom] at this
    exact this
  obtain ⟨R, hR⟩ : ∃ R : List Value, R = rcells oNew room := ⟨_, rfl⟩
  obtain ⟨U, hU⟩ : ∃ U : List Value, U = ucells oNew room := ⟨_, rfl⟩
  obtain ⟨Z, hZ⟩ : ∃ Z : List Value, Z = zeroIdx := ⟨_, rfl⟩
  have hne : (Z.toArray = #[]) = False := by rw [hZ]; simp [zeroIdx]
  have hlen : Z.length = 258 := by rw [hZ]; exact idx_len
  rw [← hR] at hm1
  rw [← hU] at hm2
  rw [← hZ] at hz1 hz2
  have HZ := Lib.hid (And.intro hR (And.intro hU (And.intro hZ hr0)))
  clear hroom hr0 hR hU hZ hi1 ha1 hb1 hc1 hi2 ha2 hb2 hc2
  go_wp2_with fail
  go_region
  · go_wp2
    obtain ⟨hR, hU, hZ, hr0⟩ := HZ.out
    subst hR hU hZ
    refine HQ.out _ _ _ _ _ _ _ _ w.heap.size (w.heap.size + 1) _ ⟨oNew, rep_new room, ⟨?_, ?_, ?_⟩, hr0.2, hr0.1⟩ (by omega) (Nat.le_refl _) (by omega) ?_
    · have h := Blk.new ((w.alloc (.cells (rcells oNew room).toArray 29)).alloc (.cells (ucells oNew room).toArray 4)) 113 (mcells oNew w.heap.size (w.heap.size + 1) room).toArray
      rw [fold_all _ _ (by simp [zeroIdx]), idx_made]
      simpa using h.drew
    · exact (((Blk.new w _ _).alloc _).alloc _).drew
    · have h := Blk.new (w.alloc (.cells (rcells oNew room).toArray 29)) 4 (ucells oNew room).toArray
      rw [show (w.alloc (.cells (rcells oNew room).toArray 29)).heap.size = w.heap.size + 1 by simp] at h
      exact (h.alloc _).drew
    · have b1 := below_box w (.cells (rcells oNew room).toArray 29)
      have b2 := b1.alloc b1.size (.cells (ucells oNew room).toArray 4)
      exact (b2.alloc b2.size _).drew
  · go_wp2
    obtain ⟨hR, hU, hZ, hr0⟩ := HZ.out
    subst hR hU hZ
    refine HQ.out _ _ _ _ _ _ _ _ (w.heap.size + 1) w.heap.size _ ⟨oNew, rep_new room, ⟨?_, ?_, ?_⟩, hr0.2, hr0.1⟩ (by omega) (by omega) (Nat.le_refl _) ?_
    · have h := Blk.new ((w.alloc (.cells (ucells oNew room).toArray 4)).alloc (.cells (rcells oNew room).toArray 29)) 113 (mcells oNew (w.heap.size + 1) w.heap.size room).toArray
      rw [fold_all _ _ (by simp [zeroIdx]), idx_made]
      simpa using h.drew
    · have h := Blk.new (w.alloc (.cells (ucells oNew room).toArray 4)) 29 (rcells oNew room).toArray
      rw [show (w.alloc (.cells (ucells oNew room).toArray 4)).heap.size = w.heap.size + 1 by simp] at h
      exact (h.alloc _).drew
    · exact (((Blk.new w _ _).alloc _).alloc _).drew
    · have b1 := below_box w (.cells (ucells oNew room).toArray 4)
      have b2 := b1.alloc b1.size (.cells (rcells oNew room).toArray 29)
      exact (b2.alloc b2.size _).drew
def NewMEnd (room : Nat) (w : World) (e : Ending) (w' : World) : Prop := ∃ g gr gu, e = .returned (.tuple #[.pointer (some ⟨g, 0, none⟩), .int .i64 0]) ∧ ManyAt w' g gr gu room noKids ∧ w.heap.size ≤ g ∧ w.heap.size ≤ gr ∧ w.heap.size ≤ gu ∧ Below w.heap.size w w'
set_option maxRecDepth 100000 in
theorem New_m (room : Nat) (w : World) (hroom : room = 48 ∨ room = 256) : Calls Tryz.prog 73 #[.int .i64 (room : Int)] w (NewMEnd room w) := by
  have hrb : ((room : Int) != 48) = false ∨ ((room : Int) != 48) = true ∧ ((room : Int) != 256) = false := by
    rcases hroom with rfl | rfl
    · exact .inl rfl
    · exact .inr ⟨rfl, rfl⟩
  have HR := Lib.hid hroom
  clear hroom
  rcases hrb with hrb | ⟨hrb, hrb2⟩
  all_goals
    go_enter Tryz.func73, Tryz.ntmps73
    refine wp_seq_k fun K0 hK => ?_
    have HK0 := Lib.hid hK
    clear hK
    go_wp2_with fail
    refine HK0.out _ _ ?_
    clear HK0
    refine wp_seq_k fun K1 hK => ?_
    have HK1 := Lib.hid hK
    clear hK
    go_wp2_with fail
    refine HK1.out _ _ ?_
    clear HK1
    refine new_tail room w HR.out ?_
    intros
    rename_i g gr gu W h1 h2 h3 h4 h5
    go_ret2
    exact ⟨g, gr, gu, rfl, h1, h2, h3, h4, h5⟩
end Go.Proofs.YtgjgcbemgmkncaaGreatDoor
namespace Go.Proofs.YtgjgcbemgmkncaaGreatDoor
open Go.RowKit Go.Shelf
set_option linter.unusedVariables false

/-- An iterator's contract, for callers whose invariants speak of cells, or of what lay there. A round keeps whatever is no cells from B0 on. -/
def SeqStopsO {α : Type} (F : Fence) (n : Nat) (P : Program) (g : Nat) (lb : Array Value) (encs : α → Array Value) (Kp : World → World → Prop) (S Sp : List α → Prop) (N : Nat) (w : World) (B0 : Nat) : Prop :=
  ∀ (l : Nat) (J Jx : List α → World → Prop) (W : World), Below w.heap.size w W → B0 ≤ W.heap.size → OwnFrom W.heap.size J → OwnFrom W.heap.size Jx →
    (∀ pre x W1, J pre W1 → pre.length < N → YieldAt F (n - 1) P l (encs x) W1 fun e W' => KeepsFrom B0 W1 W' ∧
      ((e = .returned (.bool true) ∧ J (pre ++ [x]) W' ∧ Kp W1 W') ∨ (e = .returned (.bool false) ∧ Jx (pre ++ [x]) W'))) →
    J [] W →
    CallsIn F n P g (#[.func (.yield l) #[] #[]] ++ lb) W fun e W' => (∃ v, e = .returned v) ∧ ((∃ xs, S xs ∧ J xs W') ∨ (∃ pre, Sp pre ∧ Jx pre W'))
theorem ownFrom_abides {β : Type} {B : Nat} {I : β → World → Prop} (h : OwnFrom B I) : AbidesFrom B I := fun s W W' row hs hg hr =>
  h s W W' row hs hg (fun r e => ⟨(hr r e).1, by obtain ⟨o, ho, hw⟩ := (hr r e).2; exact ⟨o, ho, Obj.not_cells_of_walk hw⟩⟩)
theorem seqStopsK_O {α : Type} {F : Fence} {n : Nat} {P : Program} {g : Nat} {lb : Array Value} {encs : α → Array Value} {Kp : World → World → Prop} {S Sp : List α → Prop} {N : Nat} {w : World} (B0 : Nat)
    (h : SeqStopsK F n P g lb encs Kp S Sp N w) : SeqStopsO F n P g lb encs Kp S Sp N w B0 := fun l J Jx W hW _ hJ hJx hY h0 => h l J Jx W hW (ownFrom_abides hJ) (ownFrom_abides hJx) (fun pre x W1 h1 h2 => (hY pre x W1 h1 h2).mono fun e W' h => h.2) h0
theorem keepsFrom_le {B B' : Nat} {W W' : World} (h : KeepsFrom B W W') (hB : B ≤ B') : KeepsFrom B' W W' := ⟨h.size, fun k o hk h1 h2 => h.same k o (Nat.le_trans hB hk) h1 h2⟩
theorem keepsFrom_put {B : Nat} (W : World) {l : Nat} (o : Obj) (h : l < B) : KeepsFrom B W (W.putObj l o) := ⟨by simp, fun k o2 hk h1 h2 => (World.putObj_heap_other (by omega)).trans h1⟩

/-- The two blocks that the loop lays: its record at D + 1, the block for deferred calls at D. -/
structure Kept2 (D : Nat) (r : Loop) (W : World) : Prop where
  rec_ : W.heap[D + 1]? = some (.loop r)
  def_ : W.heap[D]? = some (.deferred (some []))
theorem Kept2.lt {D : Nat} {r : Loop} {W : World} (h : Kept2 D r W) : D + 2 ≤ W.heap.size := (Array.getElem?_eq_some_iff.1 h.rec_).1
theorem Kept2.from_ {D : Nat} {r : Loop} {W W' : World} (h : Kept2 D r W) (k : KeepsFrom D W W') : Kept2 D r W' := ⟨k.same _ _ (Nat.le_succ D) h.rec_ rfl, k.same _ _ (Nat.le_refl D) h.def_ rfl⟩
theorem Kept2.put {D : Nat} {r : Loop} {W : World} (h : Kept2 D r W) (r' : Loop) : Kept2 D r' (W.putObj (D + 1) (.loop r')) :=
  ⟨World.putObj_heap_same h.lt, (World.putObj_heap_other (by omega)).trans h.def_⟩
theorem Kept2.own {D : Nat} {r : Loop} {W W' : World} {row : Option Nat} (h : Kept2 D r W) (hg : W.grownBy W' row) (hr : ∀ k, row = some k → D + 2 ≤ k) : Kept2 D r W' :=
  ⟨(hg.block _ (by have := h.lt; omega) (fun e => by have := hr _ e.symm; omega)).trans h.rec_, (hg.block _ (by have := h.lt; omega) (fun e => by have := hr _ e.symm; omega)).trans h.def_⟩

section
variable {F : Fence} {n : Nat} {P : Program}
theorem wpIn_range_O {α : Type} {g : Operand} {ps : Array Tmp} {assign body : Code} {Q : Exit → Act → World → Prop} {a : Act} {w : World}
    (hro : F.round = none) (h1 : 1 ≤ n) {gf : Nat} {lb : Array Value} (hg : a.eval g = .func (.func gf) #[] lb) (hFg : F.fn gf) (eg : ∀ args w, (callFunc gf args).run P w = .ok (.enter gf args) w)
    {encs : α → Array Value} {Kp : World → World → Prop} {S Sp : List α → Prop} {N : Nat} {w0 : World} (hseq : SeqStopsO F (n - 1) P gf lb encs Kp S Sp N w0 (w.heap.size + 2))
    (hKt : ∀ {A B C : World}, Kp A B → Kp B C → Kp A C) (hKb : ∀ (W : World) (o o' : Obj), W.heap[w.heap.size + 1]? = some o → o.isCells = false → o'.isCells = false → Kp W (W.putObj (w.heap.size + 1) o')) (hb0 : Below w0.heap.size w0 w) (hps : ∀ x, (encs x).size = ps.size)
    (I : List α → World → Prop) (Ix : Code → List α → World → Prop) (hI : OwnFrom w.heap.size I) (hIx : ∀ c, OwnFrom w.heap.size (Ix c)) (h0 : I [] w) (Ax : α → Act → World → Prop) (hAx : ∀ x a', OwnFrom w.heap.size (fun (_ : Unit) W => Ax x a' W))
    (hassign : ∀ (l : Nat) (pre : List α) (x : α) (W : World) (K : Act → World → Prop), I pre W → (∀ a' W', KeepsFrom w.heap.size W W' → Kp W W' → I pre W' → Ax x a' W' → K a' W') →
      assign.wpIn (F.inRound l) (n - 1 - 1) P (Exit.then K (fun _ _ _ => False)) { tmps := (ps.zip (encs x)).foldl (fun t (p, v) => t.setIfInBounds p v) a.tmps, defers := [] } W)
    (hbody : ∀ (l : Nat) (pre : List α) (x : α) (a' : Act) (W : World), w.heap.size ≤ l → (∃ r, W.heap[l]? = some (.loop r)) → I pre W → Ax x a' W → pre.length < N → body.wpIn (F.inRound l) (n - 1 - 1) P (ownPostG w.heap.size Kp I Ix (pre ++ [x]) W) a' W)
    (hdone : ∀ (D : Nat) (xs : List α) (W : World), w.heap.size ≤ D → S xs → I xs W → W.heap[D]? = some (.deferred (some [])) → Q .normal { a with defers := { target := .collected D, args := #[] } :: a.defers } W)
    (hstop : ∀ (D : Nat) (c : Code) (pre : List α) (W : World), w.heap.size ≤ D → Sp pre → Ix c pre W → W.heap[D]? = some (.deferred (some [])) → c.wpIn F n P Q { a with defers := { target := .collected D, args := #[] } :: a.defers } W) :
    (Code.rangeFunc g ps assign body).wpIn F n P Q a w := by
  refine wpIn_rangeFunc fun fn hfn => ?_
  rw [hro]
  obtain ⟨mk, hmk⟩ : ∃ mk : LoopState → Option Code → Loop, ∀ s j, mk s j = { state := s, pending := j, fn, tmps := a.tmps, params := ps, assign, body, defers := w.heap.size } := ⟨_, fun _ _ => rfl⟩
  have hW : ∃ W1 : World, (Instr.enterLoop fn a.tmps ps assign body none).run P w = .ok (w.heap.size + 1, [{ target := .collected w.heap.size, args := #[] }]) W1 ∧ Kept2 w.heap.size (mk .ready none) W1 ∧ I [] W1 ∧ Below w0.heap.size w0 W1 ∧ w.heap.size + 2 ≤ W1.heap.size := by
    refine ⟨_, run_enterLoop_outer _ _ _ _ _, ⟨?_, ?_⟩, hI.alloc _ (hI.alloc _ h0), ?_, by simp⟩
    · rw [hmk]
      have k := World.alloc_heap_new (w.alloc (.deferred (some []))) (.loop { state := .ready, pending := none, fn, tmps := a.tmps, params := ps, assign, body, defers := w.heap.size })
      rwa [World.size_alloc] at k
    · exact (Below.heap_alloc _ _ _ (by simp)).trans (World.alloc_heap_new w _)
    · exact (hb0.alloc hb0.size _).alloc (hb0.alloc hb0.size _).size _
  obtain ⟨W1, hent, hk1, hi1, hb1, hs1⟩ := hW
  refine ⟨_, _, W1, { target := .fn (.func gf) lb, args := #[.func (.yield (w.heap.size + 1)) #[] #[]] }, W1, gf, #[.func (.yield (w.heap.size + 1)) #[] #[]] ++ lb, W1, hent, ?_, ?_, ?_, fun _ => h1, ?_⟩
  · simp only [resolve, hg]
    simp [go_sem]
  · intro f' hf'
    simp [Target.leads] at hf'
    subst hf'
    exact hFg
  · simp [invoke, go_sem, eg]
  refine (hseq (w.heap.size + 1) (fun pre W => I pre W ∧ Kept2 w.heap.size (mk .ready none) W) (fun pre W => ∃ c, Ix c pre W ∧ Kept2 w.heap.size (mk .done (some c)) W) W1 hb1 hs1 ?_ ?_ ?_ ⟨hi1, hk1⟩).mono ?_
  · intro s A B row hs hgr hr
    exact ⟨hI s A B row hs.1 hgr (fun k e => ⟨by have := (hr k e).1; omega, (hr k e).2⟩), hs.2.own hgr (fun k e => by have := (hr k e).1; omega)⟩
  · intro s A B row hs hgr hr
    obtain ⟨c, hc, hk⟩ := hs
    exact ⟨c, hIx c s A B row hc hgr (fun k e => ⟨by have := (hr k e).1; omega, (hr k e).2⟩), hk.own hgr (fun k e => by have := (hr k e).1; omega)⟩
  · rintro pre x W ⟨hi, hk⟩ hlen
    have hy := run_yield (P := P) (args := encs x) hk.rec_ (by rw [hmk]; exact hps x)
    rw [hmk] at hy
    refine ⟨fn, _, assign, body, hy, roundIn_of_wpIn hfn (hassign _ pre x W _ hi fun a' Wa hkf hkp hia hax => ?_)⟩
    have hka := hk.from_ hkf
    refine ⟨_, run_beginRound hka.rec_ (by rw [hmk]), ?_⟩
    have hbusy : ({ mk .ready none with state := LoopState.busy } : Loop) = mk .busy none := by rw [hmk, hmk]
    rw [hbusy]
    have hkb := hka.put (mk .busy none)
    have hkp2 : Kp Wa (Wa.putObj (w.heap.size + 1) (.loop (mk .busy none))) := hKb _ _ _ hka.rec_ rfl rfl
    refine wpIn_mono (hbody _ pre x a' _ (Nat.le_succ _) ⟨_, hkb.rec_⟩ (hI.putObj _ hia (Nat.le_succ _) hka.rec_ rfl) ((hAx x a').putObj (s := ()) _ hax (Nat.le_succ _) hka.rec_ rfl) hlen) ?_
    have kfin : ∀ {W3 : World}, KeepsFrom w.heap.size (Wa.putObj (w.heap.size + 1) (.loop (mk .busy none))) W3 → ∀ o, KeepsFrom (w.heap.size + 2) W (W3.putObj (w.heap.size + 1) o) := fun hk3 o =>
      (((keepsFrom_le hkf (by omega)).trans (keepsFrom_put _ _ (by omega))).trans (keepsFrom_le hk3 (by omega))).trans (keepsFrom_put _ _ (by omega))
    have leave : ∀ (c : Code) (W3 : World), KeepsFrom w.heap.size (Wa.putObj (w.heap.size + 1) (.loop (mk .busy none))) W3 → Ix c (pre ++ [x]) W3 →
        ∃ v w', (Instr.endRound (w.heap.size + 1) (some c)).run P W3 = .ok v w' ∧ KeepsFrom (w.heap.size + 2) W w' ∧ ((Ending.returned v = .returned (.bool true) ∧ (I (pre ++ [x]) w' ∧ Kept2 w.heap.size (mk .ready none) w') ∧ Kp W w') ∨ (Ending.returned v = .returned (.bool false) ∧ ∃ c, Ix c (pre ++ [x]) w' ∧ Kept2 w.heap.size (mk .done (some c)) w')) := by
      intro c W3 hk3 hx3
      have h3 := hkb.from_ hk3
      refine ⟨_, _, run_endRound (some c) h3.rec_, kfin hk3 _, .inr ⟨rfl, c, (hIx c).putObj _ hx3 (Nat.le_succ _) h3.rec_ rfl, ?_⟩⟩
      have : ({ mk .busy none with state := if (some c).isNone = true then LoopState.ready else LoopState.done, pending := some c } : Loop) = mk .done (some c) := by rw [hmk, hmk]; rfl
      rw [this]
      exact h3.put _
    intro e a3 W3 hp
    cases e with
    | normal =>
      obtain ⟨hk3, hkp3, hi3⟩ := hp
      have h3 := hkb.from_ hk3
      refine ⟨_, _, run_endRound none h3.rec_, kfin hk3 _, .inl ⟨rfl, ⟨hI.putObj _ hi3 (Nat.le_succ _) h3.rec_ rfl, ?_⟩, hKt hkp (hKt hkp2 (hKt hkp3 (hKb _ _ _ h3.rec_ rfl rfl)))⟩⟩
      have : ({ mk .busy none with state := if (none : Option Code).isNone = true then LoopState.ready else LoopState.done, pending := none } : Loop) = mk .ready none := by rw [hmk, hmk]; rfl
      rw [this]
      exact h3.put _
    | ret => exact leave _ W3 hp.1 hp.2
    | exit id => exact leave _ W3 hp.1 hp.2
    | goto t => exact leave _ W3 hp.1 hp.2
    | panic ch => exact hp.elim
    | outgrown => exact hp.elim
  · rintro e W2 ⟨⟨v, rfl⟩, ⟨xs, hS, hi, hk⟩ | ⟨pre, hSp, c, hi, hk⟩⟩
    · refine ⟨none, _, ?_, hdone _ xs _ (Nat.le_refl _) hS (hI.putObj (.loop { mk .ready none with state := .exhausted }) hi (Nat.le_succ _) hk.rec_ rfl) ((World.putObj_heap_other (by omega)).trans hk.def_)⟩
      have k := run_endLoop (P := P) hk.rec_ (by rw [hmk]; simp)
      rw [k, hmk]
    · refine ⟨some c, _, ?_, hstop _ c pre _ (Nat.le_refl _) hSp ((hIx c).putObj (.loop { mk .done (some c) with state := .exhausted }) hi (Nat.le_succ _) hk.rec_ rfl) ((World.putObj_heap_other (by omega)).trans hk.def_)⟩
      have k := run_endLoop (P := P) hk.rec_ (by rw [hmk]; simp)
      rw [k, hmk]
end
end Go.Proofs.YtgjgcbemgmkncaaGreatDoor
namespace Go.Proofs.YtgjgcbemgmkncaaGreatDoor
open Go.RowKit Go.Shelf
set_option linter.unusedVariables false
set_option linter.unusedSimpArgs false

/-- What is read of a row: the positions of the bytes and the Refs. -/
def RBlk (W : World) (g gr room : Nat) (o : ManyO) : Prop := ∃ (mc rc : List Value) (cap : Nat), Blk W g 113 mc.toArray ∧ Blk W gr 29 rc.toArray ∧ (∀ b, b < 256 → mc[b]? = some (.int .u16 (o.at_ b : Int))) ∧ mc[256]? = some (.slice (some ⟨gr, 0, none⟩) room cap) ∧ ∀ p, p < room → rc[p * 2]? = some (.int .i64 (o.refs p).1) ∧ rc[p * 2 + 1]? = some (.int .u32 (o.refs p).2)
theorem MBlk.read {W : World} {g gr gu room : Nat} {o : ManyO} (h : MBlk W g gr gu room o) : RBlk W g gr room o :=
  ⟨_, _, _, h.1, h.2.1, fun b hb => mcells_at o gr gu room hb, (mcells_sl o gr gu room).1, fun p hp => rcells_at o room hp⟩
def ReadAt (W : World) (g gr room : Nat) (f : Kids) : Prop := ∃ o : ManyO, o.rep room f ∧ RBlk W g gr room o ∧ 0 < room ∧ room ≤ 256
theorem ManyAt.read {W : World} {g gr gu room : Nat} {f : Kids} (h : ManyAt W g gr gu room f) : ReadAt W g gr room f := by
  obtain ⟨o, h1, h2, h3⟩ := h
  exact ⟨o, h1, h2.read, h3⟩
theorem ReadAt.keep {W W' : World} {g gr room : Nat} {f : Kids} (h : ReadAt W g gr room f) (hk : ∀ k t cs, k = g ∨ k = gr → Blk W k t cs → Blk W' k t cs) : ReadAt W' g gr room f := by
  obtain ⟨o, h1, ⟨mc, rc, cap, h2, h3, h4⟩, h5⟩ := h
  exact ⟨o, h1, ⟨mc, rc, cap, hk _ _ _ (.inl rfl) h2, hk _ _ _ (.inr rfl) h3, h4⟩, h5⟩
theorem ReadAt.below {W W' : World} {g gr room : Nat} {f : Kids} (h : ReadAt W g gr room f) (hb : Below W.heap.size W W') : ReadAt W' g gr room f := h.keep fun k t cs _ hk => hk.below hb hk.lt
theorem ReadAt.lt {W : World} {g gr room : Nat} {f : Kids} (h : ReadAt W g gr room f) : g < W.heap.size ∧ gr < W.heap.size := by
  obtain ⟨o, h1, ⟨mc, rc, cap, h2, h3, h4⟩, h5⟩ := h
  exact ⟨h2.lt, h3.lt⟩
theorem RBlk.at_ {W : World} {g gr room : Nat} {o : ManyO} (h : RBlk W g gr room o) {b : Nat} (hb : b < 256) : W.cell? ⟨g, b, none⟩ = some (.int .u16 (o.at_ b : Int)) := by
  obtain ⟨mc, rc, cap, h2, h3, h4, h5, h6⟩ := h
  exact (h2.cell b).trans (by rw [List.getElem?_toArray]; exact h4 b hb)
theorem RBlk.sl {W : World} {g gr room : Nat} {o : ManyO} (h : RBlk W g gr room o) : ∃ cap, W.cell? ⟨g, 256, none⟩ = some (.slice (some ⟨gr, 0, none⟩) room cap) := by
  obtain ⟨mc, rc, cap, h2, h3, h4, h5, h6⟩ := h
  exact ⟨cap, (h2.cell 256).trans (by rw [List.getElem?_toArray]; exact h5)⟩
theorem RBlk.ref {W : World} {g gr room : Nat} {o : ManyO} (h : RBlk W g gr room o) {p : Nat} (hp : p < room) : W.cell? ⟨gr, p * 2, none⟩ = some (.int .i64 (o.refs p).1) ∧ W.cell? ⟨gr, p * 2 + 1, none⟩ = some (.int .u32 (o.refs p).2) := by
  obtain ⟨mc, rc, cap, h2, h3, h4, h5, h6⟩ := h
  exact ⟨(h3.cell _).trans (by rw [List.getElem?_toArray]; exact (h6 p hp).1), (h3.cell _).trans (by rw [List.getElem?_toArray]; exact (h6 p hp).2)⟩
theorem rhas (g gr room : Nat) (o : ManyO) (b : Nat) (w : World) (h : RBlk w g gr room o) (hb : b < 256) : Calls Tryz.prog 134 #[.pointer (some ⟨g, 0, none⟩), .int .i64 (b : Int)] w (StayEnd (.bool (decide (0 < o.at_ b))) w) := by
  have c1 := h.at_ hb
  have i1 : (0 : Int) ≤ (b : Int) := by omega
  have i2 : (b : Int) < 256 := by omega
  generalize o.at_ b = n at c1
  clear h
  by_cases hn : 0 < n
  · have i3 : (0 : Int) < (n : Int) := by omega
    go_enter Tryz.func134, Tryz.ntmps134
    go_wp2
    go_ret
    exact ⟨by simp [hn], rfl⟩
  · have i3 : ¬ ((0 : Int) < (n : Int)) := by omega
    go_enter Tryz.func134, Tryz.ntmps134
    go_wp2
    go_ret
    exact ⟨by simp [hn], rfl⟩
theorem rref (g gr room : Nat) (o : ManyO) (b p : Nat) (w : World) (h : RBlk w g gr room o) (hb : b < 256) (hp : p < room) (hroom : room ≤ 256) (hat : o.at_ b = p + 1) : Calls Tryz.prog 135 #[.pointer (some ⟨g, 0, none⟩), .int .i64 (b : Int)] w (fun e w' => e = .returned (.pointer (some ⟨gr, p * 2, none⟩)) ∧ ∃ k, w' = w.drewN k) := by
  have c1 := h.at_ hb
  rw [hat] at c1
  have c1' : w.cell? ⟨g, b, none⟩ = some (.int .u16 ((p : Int) + 1)) := by rw [c1]; simp
  obtain ⟨cap, c2⟩ := h.sl
  have i1 : (0 : Int) ≤ (b : Int) := by omega
  have i2 : (b : Int) < 256 := by omega
  have i3 : (0 : Int) ≤ (p : Int) := by omega
  have i4 : (p : Int) < (room : Int) := by omega
  have i5 : (p : Int) + 1 - 1 = (p : Int) := by omega
  have sw : IntKind.u16.wrap ((p : Int) + 1 - 1) = (p : Int) := by rw [i5]; exact IntWalk.u16_in _ (by omega)
  have sw2 : IntKind.u16.wrap (p : Int) = (p : Int) := IntWalk.u16_in _ (by omega)
  clear h c1 hat
  go_enter Tryz.func135, Tryz.ntmps135
  go_wp2_with fail
  go_quiet (fail)
  go_wp2
  go_ret
  exact ⟨rfl, _, rfl⟩
theorem has_r {g gr room : Nat} {f : Kids} {w : World} (h : ReadAt w g gr room f) {b : Nat} (hb : b < 256) : Calls Tryz.prog 134 #[.pointer (some ⟨g, 0, none⟩), .int .i64 (b : Int)] w (StayEnd (.bool (f b).isSome) w) := by
  obtain ⟨o, h1, h2, h3, h4⟩ := h
  have := rhas g gr room o b w h2 hb
  rw [h1.has hb] at this
  exact this

/-! ### Copy -/
theorem rcells_one (o : ManyO) (room : Nat) : ∀ v ∈ rcells o room, v.oneCell' = true := ref_one _
theorem ucells_one (o : ManyO) (room : Nat) : ∀ v ∈ ucells o room, v.oneCell' = true := by
  intro v hv
  obtain ⟨p, _, rfl⟩ := List.mem_map.1 hv
  rfl
theorem rcells_len (o : ManyO) (room : Nat) : (rcells o room).length = room * 2 := by
  unfold rcells
  have h : ∀ l : List (Int × Int), (l.flatMap rrow).length = l.length * 2 := by
    intro l
    induction l with
    | nil => rfl
    | cons x l ih => rw [List.flatMap_cons, List.length_append, ih]; simp [rrow]; omega
  rw [h]
  simp
theorem ucells_len (o : ManyO) (room : Nat) : (ucells o room).length = room := by simp [ucells]
def CloneEnd (T : TypeId) (size n : Nat) (xs : List Value) (w : World) (e : Ending) (w' : World) : Prop := ∃ g cap cur, e = .returned (.slice (some ⟨g, 0, none⟩) n cap) ∧ w.heap.size ≤ g ∧ Blk w' g T cur ∧ cur.toList.take (n * size) = xs ∧ Below w.heap.size w w'
theorem own_clone {T : TypeId} {size n : Nat} {xs : List Value} {w w' : World} {v : Value} (h : w'.ownsRow w.heap.size T size v n xs) (hn : 0 < n) (hb : Below w.heap.size w w') : CloneEnd T size n xs w (.returned v) w' := by
  rcases h.2 with ⟨_, h0⟩ | ⟨g, cap, cur, rfl, hg, hblk, _, _, _, ht⟩
  · omega
  · exact ⟨g, cap, cur, rfl, hg, hblk, ht, hb⟩
set_option maxHeartbeats 2000000 in
set_option maxRecDepth 100000 in
theorem clone_refs (gr room cap : Nat) (o : ManyO) (w : World) (h : Blk w gr 29 (rcells o room).toArray) (h0 : 0 < room) (hroom : room ≤ 256) : Calls Tryz.prog 139 #[.slice (some ⟨gr, 0, none⟩) room cap] w (CloneEnd 29 2 room (rcells o room) w) := by
  obtain ⟨i0, hi, hz0, hz1, hz2⟩ := info_parts infoRef2
  have q : ∀ (w : World) (a : Option Addr) (n c n' c' : Nat), (binOp .eql 24 (.slice a n c) (.slice none n' c')).run Tryz.prog w = .ok (.bool a.isNone) w := fun w a n c n' c' => Lib.run_eql_slice_nil w _ _ a n c n' c' Tryz.underlying24
  have A : Aside (Blk w gr 29 (rcells o room).toArray ∧ 0 < room) := ⟨h, h0⟩
  have hl := rcells_len o room
  clear h h0
  go_enter Tryz.func139, Tryz.ntmps139
  go_wp2_with (at_builtin; refine wpList_append_own _ rfl _ _ 24 rfl w.heap.size 29 i0 (.agg #[.int .i64 0, .int .u32 0]) 2 16 Tryz.underlying24 hi hz0 hz1 hz2 rfl (by decide) _ _ _ rfl (World.ownsRow_made w #[] 0 (Nat.le_refl _) (Nat.zero_le _) rfl) ⟨gr, 0, none⟩ room cap (rcells o room) rfl ?qc1 ?qc2 ?qc3 ?qc4 ?qc5 ?qc6 ?_)
  case qc1 => exact hl
  case qc2 =>
    intro j u hj
    rw [Addr.add_lit]
    refine Lib.cell?_alloc_some _ ?_
    rw [Nat.zero_add]
    exact (A.out.1.cell j).trans (by rw [List.getElem?_toArray]; exact hj)
  case qc3 => exact rcells_one o room
  case qc4 => unfold maxLen; omega
  case qc5 => omega
  case qc6 => simp
  intro v' w1 hown hgrow hnil
  go_wp2
  go_ret
  refine own_clone (by simpa using hown) A.out.2 ?_
  exact ((Below.refl _ w).alloc (Nat.le_refl _) _).grown hgrow (by simp) (by intro k hk; simp [Value.ownBlock] at hk; omega)
set_option maxHeartbeats 2000000 in
set_option maxRecDepth 100000 in
theorem clone_bools (gu room cap : Nat) (o : ManyO) (w : World) (h : Blk w gu 4 (ucells o room).toArray) (h0 : 0 < room) (hroom : room ≤ 256) : Calls Tryz.prog 140 #[.slice (some ⟨gu, 0, none⟩) room cap] w (CloneEnd 4 1 room (ucells o room) w) := by
  obtain ⟨i0, hi, hz0, hz1, hz2⟩ := info_parts infoBool1
  have q : ∀ (w : World) (a : Option Addr) (n c n' c' : Nat), (binOp .eql 107 (.slice a n c) (.slice none n' c')).run Tryz.prog w = .ok (.bool a.isNone) w := fun w a n c n' c' => Lib.run_eql_slice_nil w _ _ a n c n' c' Tryz.underlying107
  have A : Aside (Blk w gu 4 (ucells o room).toArray ∧ 0 < room) := ⟨h, h0⟩
  have hl := ucells_len o room
  clear h h0
  go_enter Tryz.func140, Tryz.ntmps140
  go_wp2_with (at_builtin; refine wpList_append_own _ rfl _ _ 107 rfl w.heap.size 4 i0 (.bool false) 1 1 Tryz.underlying107 hi hz0 hz1 hz2 rfl (by decide) _ _ _ rfl (World.ownsRow_made w #[] 0 (Nat.le_refl _) (Nat.zero_le _) rfl) ⟨gu, 0, none⟩ room cap (ucells o room) rfl ?qc1 ?qc2 ?qc3 ?qc4 ?qc5 ?qc6 ?_)
  case qc1 => simp [hl]
  case qc2 =>
    intro j u hj
    rw [Addr.add_lit]
    refine Lib.cell?_alloc_some _ ?_
    rw [Nat.zero_add]
    exact (A.out.1.cell j).trans (by rw [List.getElem?_toArray]; exact hj)
  case qc3 => exact ucells_one o room
  case qc4 => unfold maxLen; omega
  case qc5 => omega
  case qc6 => simp
  intro v' w1 hown hgrow hnil
  go_wp2
  go_ret
  refine own_clone (by simpa using hown) A.out.2 ?_
  exact ((Below.refl _ w).alloc (Nat.le_refl _) _).grown hgrow (by simp) (by intro k hk; simp [Value.ownBlock] at hk; omega)

theorem fold_pre (L : List Value) : ∀ (A Z R : List Value), L.length = Z.length → (L.zipIdx A.length).foldl (fun (cs : Array Value) x => cs.setIfInBounds x.2 x.1) (A ++ (Z ++ R)).toArray = (A ++ (L ++ R)).toArray := by
  induction L with
  | nil =>
    intro A Z R h
    rw [List.eq_nil_of_length_eq_zero h.symm]
    rfl
  | cons x L ih =>
    intro A Z R h
    cases Z with
    | nil => cases h
    | cons z Z =>
      rw [List.zipIdx_cons, List.foldl_cons]
      have h1 : (A ++ (z :: Z ++ R)).toArray.setIfInBounds A.length x = ((A ++ [x]) ++ (Z ++ R)).toArray := by
        rw [List.setIfInBounds_toArray, List.set_append_right _ _ (Nat.le_refl _), Nat.sub_self, List.cons_append, List.set_cons_zero]
        simp
      have h2 := ih (A ++ [x]) Z R (by simpa using h)
      simp only [List.length_append, List.length_cons, List.length_nil, Nat.zero_add] at h2
      dsimp only
      rw [h1, h2]
      simp
/-- The positions alone. -/
def idxs (o : ManyO) : List Value := (List.range 256).map (fun b => .int .u16 (o.at_ b : Int))
theorem idxs_len (o : ManyO) : (idxs o).length = 256 := by simp [idxs]
theorem idxs_range {W : World} {g : Nat} {o : ManyO} {gr gu room : Nat} {t : TypeId} (h : Blk W g t (mcells o gr gu room).toArray) : W.rangeAt g 0 (idxs o) := by
  intro j v hv
  have hj : j < 256 := by have := (List.getElem?_eq_some_iff.1 hv).1; rwa [idxs_len] at this
  rw [Nat.zero_add]
  refine (h.cell j).trans ?_
  rw [List.getElem?_toArray]
  unfold mcells
  rw [List.getElem?_append_left (by simpa using hj)]
  exact hv
theorem idx_fold (o : ManyO) (v1 v2 : Value) : (((idxs o).zipIdx.foldl (fun (cs : Array Value) x => cs.setIfInBounds x.2 x.1) zeroIdx.toArray).setIfInBounds 256 v1).setIfInBounds 257 v2 = (idxs o ++ [v1, v2]).toArray := by
  have h := fold_pre (idxs o) [] ((List.range 256).map (fun _ => .int .u16 0)) [.slice none 0 0, .slice none 0 0] (by simp [idxs])
  simp only [List.nil_append, List.length_nil] at h
  have e : zeroIdx = (List.range 256).map (fun _ => .int .u16 0) ++ [.slice none 0 0, .slice none 0 0] := rfl
  rw [e, h, List.setIfInBounds_toArray, List.setIfInBounds_toArray, List.set_append_right _ _ (by rw [idxs_len]; omega), List.set_append_right _ _ (by rw [idxs_len]; omega), idxs_len]
  rfl
def CopyMEnd (room : Nat) (f : Kids) (w : World) (e : Ending) (w' : World) : Prop := ∃ g gr, e = .returned (.pointer (some ⟨g, 0, none⟩)) ∧ ReadAt w' g gr room f ∧ w.heap.size ≤ g ∧ w.heap.size ≤ gr ∧ Below w.heap.size w w'
theorem copied {o : ManyO} {room : Nat} {f : Kids} {W : World} {g gr cap : Nat} {cur : Array Value} {v2 : Value} (ho : o.rep room f) (h0 : 0 < room ∧ room ≤ 256) (h1 : Blk W g 113 (idxs o ++ [.slice (some ⟨gr, 0, none⟩) room cap, v2]).toArray) (h2 : Blk W gr 29 cur) (h3 : cur.toList.take (room * 2) = rcells o room) : ReadAt W g gr room f := by
  refine ⟨o, ho, ⟨_, cur.toList, cap, h1, by simpa using h2, fun b hb => ?_, ?_, fun p hp => ?_⟩, h0⟩
  · rw [List.getElem?_append_left (by rw [idxs_len]; exact hb)]
    simp [idxs, hb]
  · rw [List.getElem?_append_right (by rw [idxs_len]; omega), idxs_len]
    rfl
  · obtain ⟨k1, k2⟩ := rcells_at o room hp
    rw [← h3, List.getElem?_take, if_pos (by omega)] at k1 k2
    exact ⟨k1, k2⟩
theorem sCopy {V : World} {g gr gu room : Nat} {o : ManyO} (h : MBlk V g gr gu room o) : V.cell? ⟨g, 256, none⟩ = some (.slice (some ⟨gr, 0, none⟩) room room) ∧ V.cell? ⟨g, 257, none⟩ = some (.slice (some ⟨gu, 0, none⟩) room room) ∧ MBlk V g gr gu room o := ⟨h.sl.1, h.sl.2, h⟩
set_option maxHeartbeats 3200000 in
set_option maxRecDepth 100000 in
theorem Copy_m (g gr gu room : Nat) (f : Kids) (w : World) (h : ManyAt w g gr gu room f) : Calls Tryz.prog 132 #[.pointer (some ⟨g, 0, none⟩)] w (CopyMEnd room f w) := by
  have HT := Lib.hid (there_m h)
  obtain ⟨o, h1, h2, h3, h4⟩ := h
  have hz1 := zero_of infoIdx
  have hz2 := zero_of infoMany
  obtain ⟨Z, hZ⟩ : ∃ Z : List Value, Z = zeroIdx := ⟨_, rfl⟩
  have hne : (Z.toArray = #[]) = False := by rw [hZ]; simp [zeroIdx]
  have hlen : Z.length = 258 := by rw [hZ]; exact idx_len
  rw [← hZ] at hz1 hz2
  obtain ⟨X, hX⟩ : ∃ X : List Value, X = idxs o := ⟨_, rfl⟩
  have hXl : X.length = 256 := by rw [hX]; exact idxs_len o
  obtain ⟨Y, hY⟩ : ∃ Y : List Value, List.foldl (fun (cs : Array Value) x => cs.setIfInBounds x.snd x.fst) Z.toArray X.zipIdx = Y.toArray := ⟨(List.foldl (fun (cs : Array Value) x => cs.setIfInBounds x.snd x.fst) Z.toArray X.zipIdx).toList, by simp⟩
  have hYl : Y.length = 258 ∧ ∀ v1 v2, ((Y.set 256 v1).set 257 v2) = idxs o ++ [v1, v2] := by
    rw [hX, hZ] at hY
    have e : ∀ v1 v2, ((Y.set 256 v1).set 257 v2) = idxs o ++ [v1, v2] := fun v1 v2 => by
      have := idx_fold o v1 v2
      rw [hY, List.setIfInBounds_toArray, List.setIfInBounds_toArray] at this
      simpa using this
    refine ⟨?_, e⟩
    have := congrArg List.length (e undef undef)
    simpa [idxs_len] using this
  have hF2 : ∀ U : List Value, U.length = 258 → List.foldl (fun (cs : Array Value) x => cs.setIfInBounds x.snd x.fst) Z.toArray U.zipIdx = U.toArray := fun U hU => fold_all U Z (by rw [hU, hlen])
  have HY := Lib.hid hYl.2
  replace hYl := hYl.1
  have HZ := Lib.hid (And.intro hZ hX)
  have HO := Lib.hid (And.intro h1 (And.intro h2 (And.intro h3 h4)))
  clear h1 h2 h3 h4 hZ hX
  go_enter Tryz.func132, Tryz.ntmps132
  go_wp2_with fail
  refine HT.out.mono ?_
  rintro e w1 ⟨rfl, rfl⟩
  clear HT
  go_wp2_with fail
  refine wp_region_held_drew (S := (fun V : World => V.cell? ⟨g, 256, none⟩ = some (.slice (some ⟨gr, 0, none⟩) room room) ∧ V.cell? ⟨g, 257, none⟩ = some (.slice (some ⟨gu, 0, none⟩) room room) ∧ MBlk V g gr gu room o)) (by kernel_rfl) ?_ (fun hHeld0 => ?_)
  · exact sCopy HO.out.2.1.drew
  refine wpAnyH_take (i := 0) (v := ?_) rfl (by kernel_rfl) (by kernel_rfl) (by kernel_rfl) (fun _ _ _ h => h) (Or.inl ⟨by rfl, ?_⟩) hHeld0 ?_
  rotate_left
  · (intro w hSw; (try dsimp only at hSw); go_simp <;> with_reducible rfl)
  try simp only [Act.put, List.setIfInBounds_toArray, List.set_cons_zero, List.set_cons_succ]
  refine wpAnyH_take (i := 1) (v := ?_) rfl (by kernel_rfl) (by kernel_rfl) (by kernel_rfl) (fun _ _ _ h => h) (Or.inl ⟨by rfl, ?_⟩) hHeld0 ?_
  rotate_left
  · (intro w hSw; (try dsimp only at hSw); go_simp <;> with_reducible rfl)
  try simp only [Act.put, List.setIfInBounds_toArray, List.set_cons_zero, List.set_cons_succ]
  refine wpAnyH_take (i := 2) (v := ?_) rfl (by kernel_rfl) (by kernel_rfl) (by kernel_rfl) (fun _ _ _ h => h) (Or.inl ⟨by rfl, ?_⟩) hHeld0 ?_
  rotate_left
  · (intro w hSw; (try dsimp only at hSw); go_simp <;> with_reducible rfl)
  try simp only [Act.put, List.setIfInBounds_toArray, List.set_cons_zero, List.set_cons_succ]
  refine wpAnyH_take (i := 3) (v := ?_) rfl (by kernel_rfl) (by kernel_rfl) (by kernel_rfl) (fun _ _ _ h => h) (Or.inl ⟨by rfl, ?_⟩) hHeld0 ?_
  rotate_left
  · (intro w hSw; (try dsimp only at hSw); go_simp <;> with_reducible rfl)
  try simp only [Act.put, List.setIfInBounds_toArray, List.set_cons_zero, List.set_cons_succ]
  refine wpAnyH_take (i := 4) (v := .agg X.toArray) rfl (by kernel_rfl) (by kernel_rfl) (by kernel_rfl) (fun _ _ _ h => h) ?_ hHeld0 ?_
  · exact yieldsIf_load_mid (by kernel_rfl) 109 (.tmp 9) rfl g 0 rfl X _ (fun V hV => by have hV2 : (fun V : World => V.cell? ⟨g, 256, none⟩ = some (.slice (some ⟨gr, 0, none⟩) room room) ∧ V.cell? ⟨g, 257, none⟩ = some (.slice (some ⟨gu, 0, none⟩) room room) ∧ MBlk V g gr gu room o) V := hV; rw [HZ.out.2]; exact idxs_range hV2.2.2.1) Tryz.underlying109 rfl (by rw [HZ.out.2, idxs_len]; kernel_rfl)
  try simp only [Act.put, List.setIfInBounds_toArray, List.set_cons_zero, List.set_cons_succ]
  refine wpAnyH_take (i := 5) (v := ?_) rfl (by kernel_rfl) (by kernel_rfl) (by kernel_rfl) (fun _ _ _ h => h) (Or.inl ⟨by rfl, ?_⟩) hHeld0 ?_
  rotate_left
  · (intro w hSw; (try dsimp only at hSw); go_simp <;> with_reducible rfl)
  try simp only [Act.put, List.setIfInBounds_toArray, List.set_cons_zero, List.set_cons_succ]
  refine wpAnyH_take (i := 6) (v := ?_) rfl (by kernel_rfl) (by kernel_rfl) (by kernel_rfl) (fun _ _ _ h => h) (Or.inl ⟨by rfl, ?_⟩) hHeld0 ?_
  rotate_left
  · (intro w hSw; (try dsimp only at hSw); go_simp <;> with_reducible rfl)
  try simp only [Act.put, List.setIfInBounds_toArray, List.set_cons_zero, List.set_cons_succ]
  refine wpAnyH_take (i := 7) (v := ?_) rfl (by kernel_rfl) (by kernel_rfl) (by kernel_rfl) (fun _ _ _ h => h) (Or.inl ⟨by rfl, ?_⟩) hHeld0 ?_
  rotate_left
  · (intro w hSw; (try dsimp only at hSw); go_simp <;> with_reducible rfl)
  try simp only [Act.put, List.setIfInBounds_toArray, List.set_cons_zero, List.set_cons_succ]
  refine wpAnyH_take (i := 8) (v := ?_) rfl (by kernel_rfl) (by kernel_rfl) (by kernel_rfl) (fun _ _ _ h => h) (Or.inl ⟨by rfl, ?_⟩) hHeld0 ?_
  rotate_left
  · (intro w hSw; (try dsimp only at hSw); go_simp <;> with_reducible rfl)
  try simp only [Act.put, List.setIfInBounds_toArray, List.set_cons_zero, List.set_cons_succ]
  refine wpAnyH_take (i := 9) (v := ?_) rfl (by kernel_rfl) (by kernel_rfl) (by kernel_rfl) (fun _ _ _ h => h) (Or.inl ⟨by rfl, ?_⟩) hHeld0 ?_
  rotate_left
  · (intro w hSw; (try dsimp only at hSw); go_simp <;> with_reducible rfl)
  try simp only [Act.put, List.setIfInBounds_toArray, List.set_cons_zero, List.set_cons_succ]
  refine wpAnyH_take (i := 11) (v := ?_) rfl (by kernel_rfl) (by kernel_rfl) (by kernel_rfl) (fun _ _ _ h => h) (Or.inl ⟨by rfl, ?_⟩) hHeld0 ?_
  rotate_left
  · (intro w hSw; (try dsimp only at hSw); go_simp <;> with_reducible rfl)
  try simp only [Act.put, List.setIfInBounds_toArray, List.set_cons_zero, List.set_cons_succ]
  refine wpAnyH_take (i := 12) (v := ?_) rfl (by kernel_rfl) (by kernel_rfl) (by kernel_rfl) (fun _ _ _ h => h) (Or.inl ⟨by rfl, ?_⟩) hHeld0 ?_
  rotate_left
  · (intro w hSw; (try dsimp only at hSw); go_simp <;> with_reducible rfl)
  try simp only [Act.put, List.setIfInBounds_toArray, List.set_cons_zero, List.set_cons_succ]
  refine wpAnyH_take (i := 13) (v := ?_) rfl (by kernel_rfl) (by kernel_rfl) (by kernel_rfl) (fun _ _ _ h => h) (Or.inl ⟨by rfl, ?_⟩) hHeld0 ?_
  rotate_left
  · (intro w hSw; (try dsimp only at hSw); go_simp <;> with_reducible rfl)
  try simp only [Act.put, List.setIfInBounds_toArray, List.set_cons_zero, List.set_cons_succ]
  refine wpAnyH_take (i := 14) (v := ?_) rfl (by kernel_rfl) (by kernel_rfl) (by kernel_rfl) (fun _ _ _ h => h) (Or.inl ⟨by rfl, ?_⟩) hHeld0 ?_
  rotate_left
  · (intro w hSw; (try dsimp only at hSw); go_simp <;> with_reducible rfl)
  try simp only [Act.put, List.setIfInBounds_toArray, List.set_cons_zero, List.set_cons_succ]
  refine wpAnyH_take (i := 15) (v := ?_) rfl (by kernel_rfl) (by kernel_rfl) (by kernel_rfl) (fun _ _ _ h => h) (Or.inl ⟨by rfl, ?_⟩) hHeld0 ?_
  rotate_left
  · (intro w hSw; (try dsimp only at hSw); go_simp <;> with_reducible rfl)
  try simp only [Act.put, List.setIfInBounds_toArray, List.set_cons_zero, List.set_cons_succ]
  refine wpAnyH_ready (rs := [10]) (by kernel_rfl) (by simp) ?_
  refine AllReadyH.cons rfl (fun K hK => ?_) ?_
  · go_simp
    go_at_call 139
    refine (clone_refs gr room room o _ hHeld0.2.2.2.1 HO.out.2.2.1 HO.out.2.2.2).mono ?_
    rintro e w2 ⟨gr', cap1, cur1, rfl, k1, k2, k3, k4⟩
    refine hK.out _ _ ?_ (fun hHeld1 => ?_)
    · exact sCopy (hHeld0.2.2.below k4)
    clear hK K hHeld0
    try simp only [Act.put, List.setIfInBounds_toArray, List.set_cons_zero, List.set_cons_succ]
    refine wpAnyH_ready (rs := [16]) (by kernel_rfl) (by simp) ?_
    refine AllReadyH.cons rfl (fun K hK => ?_) ?_
    · go_simp
      go_at_call 140
      refine (clone_bools gu room room o _ hHeld1.2.2.2.2 HO.out.2.2.1 HO.out.2.2.2).mono ?_
      rintro e w3 ⟨gu', cap2, cur2, rfl, m1, m2, m3, m4⟩
      refine hK.out _ _ ?_ (fun hHeld2 => ?_)
      · exact sCopy (hHeld1.2.2.below m4)
      clear hK K hHeld1
      try simp only [Act.put, List.setIfInBounds_toArray, List.set_cons_zero, List.set_cons_succ]
      refine wpAnyH_take (i := 17) (v := ?_) rfl (by kernel_rfl) (by kernel_rfl) (by kernel_rfl) (fun _ _ _ h => h) (Or.inl ⟨by rfl, ?_⟩) hHeld2 ?_
      rotate_left
      · (intro w hSw; (try dsimp only at hSw); go_simp <;> with_reducible rfl)
      try simp only [Act.put, List.setIfInBounds_toArray, List.set_cons_zero, List.set_cons_succ]
      refine wpAnyH_take (i := 18) (v := ?_) rfl (by kernel_rfl) (by kernel_rfl) (by kernel_rfl) (fun _ _ _ h => h) (Or.inl ⟨by rfl, ?_⟩) hHeld2 ?_
      rotate_left
      · (intro w hSw; (try dsimp only at hSw); go_simp <;> with_reducible rfl)
      try simp only [Act.put, List.setIfInBounds_toArray, List.set_cons_zero, List.set_cons_succ]
      refine wpAnyH_ready (rs := [19]) (by kernel_rfl) (by simp) ?_
      refine AllReadyH.cons rfl (fun K hK => ?_) ?_
      · go_simp
        refine hK.out _ _ ?_ (fun hHeld3 => ?_)
        · exact sCopy (hHeld2.2.2.alloc _)
        clear hK K hHeld2
        try simp only [Act.put, List.setIfInBounds_toArray, List.set_cons_zero, List.set_cons_succ]
        refine wpAnyH_take (i := 20) (v := ?_) rfl (by kernel_rfl) (by kernel_rfl) (by kernel_rfl) (fun _ _ _ h => h) (Or.inl ⟨by rfl, ?_⟩) hHeld3 ?_
        rotate_left
        · (intro w hSw; (try dsimp only at hSw); go_simp <;> with_reducible rfl)
        try simp only [Act.put, List.setIfInBounds_toArray, List.set_cons_zero, List.set_cons_succ]
        refine wpAnyH_done (by kernel_rfl) ?_ _
        refine (‹∀ (a : Act) (w : World), Code.wp Tryz.prog Code.ret _ a w → _› _ _ ?_)
        go_simp
        refine wp_ret ?_
        go_ret
        rw [HY.out]
        have n1 : Below w1.heap.size w1 w2 := (Below.refl _ w1).drew.trans k4
        have n2 := n1.trans (m4.mono n1.size)
        have n3 : w1.heap.size ≤ gr' := k1
        exact ⟨w3.heap.size, gr', rfl, copied HO.out.1 HO.out.2.2 (Blk.new _ _ _) ((k2.below m4 k2.lt).alloc _) k3, n2.size, n3, n2.alloc n2.size _⟩
      exact AllReadyH.nil
    exact AllReadyH.nil
  exact AllReadyH.nil
end Go.Proofs.YtgjgcbemgmkncaaGreatDoor
namespace Go.Proofs.YtgjgcbemgmkncaaGreatDoor
open Go.RowKit Go.Shelf
set_option linter.unusedVariables false
set_option linter.unusedSimpArgs false

end Go.Proofs.YtgjgcbemgmkncaaGreatDoor
namespace Go.Proofs.YtgjgcbemgmkncaaGreatDoor
open Go.RowKit Go.Shelf
set_option linter.unusedVariables false
set_option linter.unusedSimpArgs false
attribute [local go_sem] Oper.semAt_some

/-- A round keeps whatever cells lay in the blocks that B says. -/
structure KeepsC (B : Nat → Prop) (W W' : World) : Prop where
  size : W.heap.size ≤ W'.heap.size
  same : ∀ (k : Nat) (o : Obj), B k → W.heap[k]? = some o → o.isCells = true → W'.heap[k]? = some o
theorem KeepsC.refl (B : Nat → Prop) (W : World) : KeepsC B W W := ⟨Nat.le_refl _, fun _ _ _ h _ => h⟩
theorem KeepsC.trans {B : Nat → Prop} {W1 W2 W3 : World} (h : KeepsC B W1 W2) (k : KeepsC B W2 W3) : KeepsC B W1 W3 := ⟨Nat.le_trans h.size k.size, fun i o hi h1 h2 => k.same i o hi (h.same i o hi h1 h2) h2⟩
theorem KeepsC.book {B : Nat → Prop} (W : World) (l : Nat) (o o' : Obj) (h : W.heap[l]? = some o) (hc : o.isCells = false) : KeepsC B W (W.putObj l o') :=
  ⟨by simp, fun k o2 hk h2 hc2 => by
    by_cases e : k = l
    · subst e; rw [h] at h2; injection h2 with h2; subst h2; rw [hc] at hc2; cases hc2
    · exact (World.putObj_heap_other e).trans h2⟩
theorem KeepsC.blk {B : Nat → Prop} {W W' : World} (h : KeepsC B W W') {g : Nat} {t : TypeId} {cs : Array Value} (hb : Blk W g t cs) (hg : B g) : Blk W' g t cs := h.same g _ hg hb rfl
theorem KeepsC.many {B : Nat → Prop} {W W' : World} (h : KeepsC B W W') {g gr room : Nat} {f : Kids} (hm : ReadAt W g gr room f) (h1 : B g) (h2 : B gr) : ReadAt W' g gr room f :=
  hm.keep fun k t cs hk hb => h.blk hb (by rcases hk with rfl | rfl <;> assumption)

/-- A byte that has a kid. -/
abbrev KidB (f : Kids) := { b : Fin 256 // (f b.val).isSome = true }
abbrev encB {f : Kids} (x : KidB f) : Array Value := #[.int .i64 (x.1.val : Int)]
/-- Those from m on, below k. -/
def bytesLo (f : Kids) (m : Nat) : Nat → List (KidB f)
  | 0 => []
  | k + 1 => bytesLo f m k ++ (if h : k < 256 ∧ m ≤ k ∧ (f k).isSome = true then [⟨⟨k, h.1⟩, h.2.2⟩] else [])
def bytesF (f : Kids) (m : Nat) : List (KidB f) := bytesLo f m 256
theorem bytesLo_start (f : Kids) (m : Nat) : ∀ k, k ≤ m → bytesLo f m k = []
  | 0, _ => rfl
  | k + 1, h => by
    unfold bytesLo
    rw [bytesLo_start f m k (by omega), dif_neg (by omega)]
    rfl
theorem bytesLo_yes (f : Kids) (m : Nat) {k : Nat} (hm : m ≤ k) (hk : k < 256) (h : (f k).isSome = true) : bytesLo f m (k + 1) = bytesLo f m k ++ [⟨⟨k, hk⟩, h⟩] := by
  conv => lhs; unfold bytesLo
  rw [dif_pos ⟨hk, hm, h⟩]
theorem bytesLo_no (f : Kids) (m : Nat) {k : Nat} (h : (f k).isSome = false) : bytesLo f m (k + 1) = bytesLo f m k := by
  conv => lhs; unfold bytesLo
  rw [dif_neg (by rw [h]; simp), List.append_nil]
theorem bytesLo_prefix_n (f : Kids) (m k : Nat) : ∀ d, bytesLo f m k <+: bytesLo f m (k + d)
  | 0 => List.prefix_refl _
  | d + 1 => by
    have h1 := bytesLo_prefix_n f m k d
    show _ <+: bytesLo f m ((k + d) + 1)
    conv => rhs; unfold bytesLo
    exact h1.trans (List.prefix_append _ _)
theorem bytesLo_prefix (f : Kids) (m : Nat) {k : Nat} (hk : k ≤ 256) : bytesLo f m k <+: bytesF f m := by
  have := bytesLo_prefix_n f m k (256 - k)
  rwa [show k + (256 - k) = 256 by omega] at this
theorem bytesLo_len (f : Kids) (m : Nat) : ∀ k, (bytesLo f m k).length ≤ k
  | 0 => Nat.le_refl _
  | k + 1 => by
    unfold bytesLo
    rw [List.length_append]
    have := bytesLo_len f m k
    split <;> simp <;> omega
theorem bytesF_len (f : Kids) : (bytesF f 0).length = cntK f := by
  have h : ∀ k, k ≤ 256 → (bytesLo f 0 k).length = (lowK f k).length := by
    intro k
    induction k with
    | zero => intro _; rfl
    | succ k ih =>
      intro hk
      rw [low_succ, ← ih (by omega)]
      cases hs : (f k).isSome with
      | true => rw [bytesLo_yes f 0 (by omega) (by omega) hs]; simp
      | false => rw [bytesLo_no f 0 hs]; simp
  exact (h 256 (Nat.le_refl _)).trans (low_all f)

set_option maxHeartbeats 3200000 in
set_option maxRecDepth 100000 in
theorem bytes_stops (Bf Bi g gr room n : Nat) (B : Nat → Prop) (from_ : Int) (f : Kids) (w : World) (hB : B Bf ∧ B Bi ∧ B g ∧ B gr) (hn : 2 ≤ n) (hf : Blk w Bf 3 #[.int .i64 from_]) (hi : Blk w Bi 155 #[.func (.func 134) #[.pointer (some ⟨g, 0, none⟩)] #[]]) (hm : ReadAt w g gr room f) :
    SeqStopsK Fence.wide n Tryz.prog 141 #[.pointer (some ⟨Bf, 0, none⟩), .pointer (some ⟨Bi, 0, none⟩)] encB (KeepsC B) (fun ys => ys = bytesF f (max from_ 0).toNat) (fun pre => pre <+: bytesF f (max from_ 0).toNat) 256 w := fun l J Jx W hW hJ hJx hY h0 => by
  have H0 := Lib.hid (And.intro (hf.below hW hf.lt) (And.intro (hi.below hW hi.lt) (hm.below hW)))
  have HJ := Lib.hid (And.intro hJ (And.intro hJx (And.intro hY h0)))
  have e0 := (hf.below hW hf.lt).cell 0
  simp at e0
  clear hJ hJx hY h0 hf hi hm
  obtain ⟨m, hm⟩ : ∃ m : Nat, (m : Int) = max from_ 0 := ⟨(max from_ 0).toNat, by omega⟩
  have hmt : (max from_ 0).toNat = m := by omega
  rw [hmt]
  refine callsIn_of_wp Tryz.func141 rfl trivial ?_ rfl
  simp only [Tryz.ntmps141, List.size_toArray, List.length_cons, List.length_nil, Nat.reduceAdd, Nat.reduceSub, Array.replicate_succ, Array.replicate_zero, List.push_toArray, List.append_toArray, List.nil_append, List.cons_append]
  refine wpIn_wide.2 ?_
  have hcase : (from_ < 0 ∧ m = 0) ∨ (0 ≤ from_ ∧ from_ = (m : Int)) := by omega
  clear hm hmt
  rcases hcase with ⟨hneg, hm0⟩ | ⟨hpos, hfm⟩
  · have HM0 := Lib.hid hm0
    clear hm0
    go_wp2_with fail
    refine (wpIn_wide (n := n)).1 ?_
    gi_loopw [4] (fun i wr => ∃ k : Nat, m ≤ k ∧ i = .int .i64 k ∧ Hid (J (bytesLo f m (min k 256)) wr ∧ KeepsC B W wr)) (fun i _ => 256 - (intOf i).toNat)
    case atStart => exact ⟨0, by (have := HM0.out; omega), rfl, Lib.hid ⟨by rw [show 0 = m by (have := HM0.out; omega)]; rw [bytesLo_start f m _ (by omega)]; exact HJ.out.2.2.2, KeepsC.refl _ _⟩⟩
    case round =>
      obtain ⟨k, hmk, rfl, HW⟩ := hrel
      by_cases hlt : k < 256
      · have hmin : min k 256 = k := by omega
        rw [hmin] at HW
        have e1 : wr.cell? ⟨Bi, 0, none⟩ = some (.func (.func 134) #[.pointer (some ⟨g, 0, none⟩)] #[]) := (HW.out.2.blk H0.out.2.1 hB.2.1).cell 0
        have hmw := HW.out.2.many H0.out.2.2 hB.2.2.1 hB.2.2.2
        have i1 : (0 : Int) ≤ (k : Int) := by omega
        have i2 : (k : Int) < 256 := by omega
        have hn1 : 1 ≤ n := by omega
        have hHS := (callsIn_wide (n := n - 1)).2 (has_r hmw hlt)
        cases hs : (f k).isSome with
        | false =>
          rw [hs] at hHS
          have HN := Lib.hid (show J (bytesLo f m (min (k + 1) 256)) wr by rw [show min (k + 1) 256 = k + 1 by omega, bytesLo_no f m hs]; exact HW.out.1)
          have HHS := Lib.hid hHS
          clear hHS hs hmw
          gi_wp2_with (fail)
          refine ⟨trivial, ?_⟩
          refine HHS.out.mono ?_
          rintro e w2 ⟨rfl, rfl⟩
          gi_wp2
          refine ⟨fun _ hf => by (cases hf), ?_⟩
          gi_wp2
          go_roundw
          case rel => exact ⟨k + 1, by omega, by go_num, Lib.hid ⟨HN.out, HW.out.2⟩⟩
          case measure => simp [intOf]; omega
        | true =>
          have hlen : (bytesLo f m k).length < 256 := Nat.lt_of_le_of_lt (bytesLo_len f m k) hlt
          have hsucc := bytesLo_yes f m hmk hlt hs
          rw [hs] at hHS
          have hpre := bytesLo_prefix f m (k := k + 1) (by omega)
          rw [hsucc] at hpre
          have HPRE := Lib.hid hpre
          have HSUC : Hid (bytesLo f m (min (k + 1) 256) = bytesLo f m k ++ [⟨⟨k, hlt⟩, hs⟩]) := Lib.hid (by rw [show min (k + 1) 256 = k + 1 by omega, hsucc])
          have HHS := Lib.hid hHS
          have hYd : YieldAt Fence.wide (n - 1) Tryz.prog l (encB ⟨⟨k, hlt⟩, hs⟩) wr (fun e W' => ∃ b : Bool, e = .returned (.bool b) ∧ Hid ((b = true → J (bytesLo f m k ++ [⟨⟨k, hlt⟩, hs⟩]) W' ∧ KeepsC B wr W') ∧ (b = false → Jx (bytesLo f m k ++ [⟨⟨k, hlt⟩, hs⟩]) W'))) :=
            (HJ.out.2.2.1 _ ⟨⟨k, hlt⟩, hs⟩ wr HW.out.1 hlen).mono (fun e W' h => by
              rcases h with ⟨rfl, h1, h2⟩ | ⟨rfl, h1⟩
              · exact ⟨true, rfl, Lib.hid ⟨fun _ => ⟨h1, h2⟩, fun e => by cases e⟩⟩
              · exact ⟨false, rfl, Lib.hid ⟨fun e => by (cases e), fun _ => h1⟩⟩)
          obtain ⟨fn, tmps, assign, body, hy, hR⟩ := hYd
          dsimp only [encB] at hy
          clear hHS hsucc hmw hpre hlen
          gi_wp2_with (fail)
          refine ⟨trivial, ?_⟩
          refine HHS.out.mono ?_
          rintro e w2 ⟨rfl, rfl⟩
          gi_wp2_with (fail)
          refine hR.mono ?_
          rintro e W3 ⟨bb, rfl, hP⟩
          cases bb with
          | true =>
            obtain ⟨hJ3, hk3⟩ := hP.out.1 rfl
            have HN := Lib.hid (And.intro (show J (bytesLo f m (min (k + 1) 256)) W3 by rw [HSUC.out]; exact hJ3) (HW.out.2.trans hk3))
            clear hJ3 hk3 hP hR hy
            gi_wp2
            go_roundw
            case rel => exact ⟨k + 1, by omega, by go_num, HN⟩
            case measure => simp [intOf]; omega
          | false =>
            have hx3 := hP.out.2 rfl
            have HN := Lib.hid hx3
            clear hx3 hP hR hy
            gi_wp2
            refine bodyPost_ret (results_none rfl _ _ _) rfl ?_
            exact ⟨⟨_, rfl⟩, .inr ⟨_, HPRE.out, HN.out⟩⟩
      · have hfin := HW.out.1
        rw [Nat.min_eq_right (by omega)] at hfin
        change J (bytesF f m) wr at hfin
        have HF := Lib.hid hfin
        have i2 : ¬ ((k : Int) < 256) := by omega
        clear hfin
        gi_wp2
        go_end0
        exact ⟨⟨_, rfl⟩, .inl HF.out⟩
  · subst hfm
    go_wp2_with fail
    refine (wpIn_wide (n := n)).1 ?_
    gi_loopw [4] (fun i wr => ∃ k : Nat, m ≤ k ∧ i = .int .i64 k ∧ Hid (J (bytesLo f m (min k 256)) wr ∧ KeepsC B W wr)) (fun i _ => 256 - (intOf i).toNat)
    case atStart => exact ⟨m, by omega, rfl, Lib.hid ⟨by rw [show m = m by omega]; rw [bytesLo_start f m _ (by omega)]; exact HJ.out.2.2.2, KeepsC.refl _ _⟩⟩
    case round =>
      obtain ⟨k, hmk, rfl, HW⟩ := hrel
      by_cases hlt : k < 256
      · have hmin : min k 256 = k := by omega
        rw [hmin] at HW
        have e1 : wr.cell? ⟨Bi, 0, none⟩ = some (.func (.func 134) #[.pointer (some ⟨g, 0, none⟩)] #[]) := (HW.out.2.blk H0.out.2.1 hB.2.1).cell 0
        have hmw := HW.out.2.many H0.out.2.2 hB.2.2.1 hB.2.2.2
        have i1 : (0 : Int) ≤ (k : Int) := by omega
        have i2 : (k : Int) < 256 := by omega
        have hn1 : 1 ≤ n := by omega
        have hHS := (callsIn_wide (n := n - 1)).2 (has_r hmw hlt)
        cases hs : (f k).isSome with
        | false =>
          rw [hs] at hHS
          have HN := Lib.hid (show J (bytesLo f m (min (k + 1) 256)) wr by rw [show min (k + 1) 256 = k + 1 by omega, bytesLo_no f m hs]; exact HW.out.1)
          have HHS := Lib.hid hHS
          clear hHS hs hmw
          gi_wp2_with (fail)
          refine ⟨trivial, ?_⟩
          refine HHS.out.mono ?_
          rintro e w2 ⟨rfl, rfl⟩
          gi_wp2
          refine ⟨fun _ hf => by (cases hf), ?_⟩
          gi_wp2
          go_roundw
          case rel => exact ⟨k + 1, by omega, by go_num, Lib.hid ⟨HN.out, HW.out.2⟩⟩
          case measure => simp [intOf]; omega
        | true =>
          have hlen : (bytesLo f m k).length < 256 := Nat.lt_of_le_of_lt (bytesLo_len f m k) hlt
          have hsucc := bytesLo_yes f m hmk hlt hs
          rw [hs] at hHS
          have hpre := bytesLo_prefix f m (k := k + 1) (by omega)
          rw [hsucc] at hpre
          have HPRE := Lib.hid hpre
          have HSUC : Hid (bytesLo f m (min (k + 1) 256) = bytesLo f m k ++ [⟨⟨k, hlt⟩, hs⟩]) := Lib.hid (by rw [show min (k + 1) 256 = k + 1 by omega, hsucc])
          have HHS := Lib.hid hHS
          have hYd : YieldAt Fence.wide (n - 1) Tryz.prog l (encB ⟨⟨k, hlt⟩, hs⟩) wr (fun e W' => ∃ b : Bool, e = .returned (.bool b) ∧ Hid ((b = true → J (bytesLo f m k ++ [⟨⟨k, hlt⟩, hs⟩]) W' ∧ KeepsC B wr W') ∧ (b = false → Jx (bytesLo f m k ++ [⟨⟨k, hlt⟩, hs⟩]) W'))) :=
            (HJ.out.2.2.1 _ ⟨⟨k, hlt⟩, hs⟩ wr HW.out.1 hlen).mono (fun e W' h => by
              rcases h with ⟨rfl, h1, h2⟩ | ⟨rfl, h1⟩
              · exact ⟨true, rfl, Lib.hid ⟨fun _ => ⟨h1, h2⟩, fun e => by cases e⟩⟩
              · exact ⟨false, rfl, Lib.hid ⟨fun e => by (cases e), fun _ => h1⟩⟩)
          obtain ⟨fn, tmps, assign, body, hy, hR⟩ := hYd
          dsimp only [encB] at hy
          clear hHS hsucc hmw hpre hlen
          gi_wp2_with (fail)
          refine ⟨trivial, ?_⟩
          refine HHS.out.mono ?_
          rintro e w2 ⟨rfl, rfl⟩
          gi_wp2_with (fail)
          refine hR.mono ?_
          rintro e W3 ⟨bb, rfl, hP⟩
          cases bb with
          | true =>
            obtain ⟨hJ3, hk3⟩ := hP.out.1 rfl
            have HN := Lib.hid (And.intro (show J (bytesLo f m (min (k + 1) 256)) W3 by rw [HSUC.out]; exact hJ3) (HW.out.2.trans hk3))
            clear hJ3 hk3 hP hR hy
            gi_wp2
            go_roundw
            case rel => exact ⟨k + 1, by omega, by go_num, HN⟩
            case measure => simp [intOf]; omega
          | false =>
            have hx3 := hP.out.2 rfl
            have HN := Lib.hid hx3
            clear hx3 hP hR hy
            gi_wp2
            refine bodyPost_ret (results_none rfl _ _ _) rfl ?_
            exact ⟨⟨_, rfl⟩, .inr ⟨_, HPRE.out, HN.out⟩⟩
      · have hfin := HW.out.1
        rw [Nat.min_eq_right (by omega)] at hfin
        change J (bytesF f m) wr at hfin
        have HF := Lib.hid hfin
        have i2 : ¬ ((k : Int) < 256) := by omega
        clear hfin
        gi_wp2
        go_end0
        exact ⟨⟨_, rfl⟩, .inl HF.out⟩
/-- bytes's value: a closure over two boxes. -/
theorem bytes_any (from_ : Int) (fv : Value) (hfv : ∃ a b c, fv = .func a b c) (w : World) : Calls Tryz.prog 133 #[.int .i64 from_, fv] w fun e w' => e = .returned (.func (.func 141) #[] #[.pointer (some ⟨w.heap.size, 0, none⟩), .pointer (some ⟨w.heap.size + 1, 0, none⟩)]) ∧ w' = (w.alloc (.cells #[.int .i64 from_] 3)).alloc (.cells #[fv] 155) := by
  obtain ⟨a, b, c, rfl⟩ := hfv
  go_enter Tryz.func133, Tryz.ntmps133
  go_wp2
  go_ret
  exact ⟨rfl, rfl⟩
end Go.Proofs.YtgjgcbemgmkncaaGreatDoor
namespace Go.Proofs.YtgjgcbemgmkncaaGreatDoor
open Go.RowKit Go.Shelf
set_option linter.unusedVariables false
set_option linter.unusedSimpArgs false
attribute [local go_sem] Oper.semAt_some

/-- What holds between two rounds. -/
def NextI (w : World) (lo g g4 g5 g7 : Nat) (f : Kids) (pre : List Kid) (W : World) : Prop :=
  (∃ m : Nat, Blk W g7 3 #[.int .i64 (m : Int)] ∧ m ≤ 256 ∧ (pre <+: kidsF f → m = fromOf pre)) ∧ Blk W g4 4 #[.bool false] ∧ Blk W g5 88 #[.pointer (some ⟨g, 0, none⟩)] ∧ FewAt W g 16 f ∧ (Below w.heap.size w W ∧ lo ≤ W.heap.size)
theorem Blk.own_ {W W' : World} {row : Option Nat} {g : Nat} {t : TypeId} {cs : Array Value} (h : Blk W g t cs) (hg : W.grownBy W' row) (hr : ∀ r, row = some r → ∃ o : Obj, W.heap[r]? = some o ∧ o.isCells = false) : Blk W' g t cs :=
  (grownBy_keeps_cells hg hr h rfl).trans h
/-- What the body is told of its variables. -/
def NextA (x : Kid) (lo : Nat) (mk : Nat → Act) (a' : Act) (W : World) : Prop := ∃ B9, lo ≤ B9 ∧ a' = mk B9 ∧ Blk W B9 29 #[.int .i64 x.2.1, .int .u32 x.2.2]

end Go.Proofs.YtgjgcbemgmkncaaGreatDoor
namespace Go.Proofs.YtgjgcbemgmkncaaGreatDoor
open Go.RowKit Go.Shelf
set_option linter.unusedVariables false
set_option linter.unusedSimpArgs false
attribute [local go_sem] Oper.semAt_some

theorem infoU8o : (Tryz.prog.info? 5).map (fun i => (i.zero, i.size, i.bytes)) = some (some (.int .u8 0), 1, 1) := by kernel_rfl
/-- The bytes of kids. -/
def rowB (l : List Kid) : List Value := l.map fun x => .int .u8 (x.1.val : Int)
theorem rowB_snoc (l : List Kid) (x : Kid) : rowB (l ++ [x]) = rowB l ++ [.int .u8 (x.1.val : Int)] := by simp [rowB]
/-- What holds between two rounds: the list of bytes, and the rest of the world. -/
def OrdI (lo gx : Nat) (R : World → Prop) (pre : List Kid) (W : World) : Prop :=
  (∃ v, Blk W gx 23 #[v] ∧ W.ownsRow lo 5 1 v pre.length (rowB pre)) ∧ R W ∧ lo ≤ W.heap.size
/-- What abides whatever is written beyond, or in the block gx. -/
def Stays (lo gx : Nat) (R : World → Prop) : Prop := ∀ W W' row, R W → W.grownBy W' row → (∀ r, row = some r → lo ≤ r ∨ r = gx) → R W'
theorem Stays.alloc {lo gx : Nat} {R : World → Prop} (h : Stays lo gx R) {W : World} (hR : R W) (o : Obj) : R (W.alloc o) := h W _ none hR (World.grownBy_alloc W o none) (fun r e => by cases e)
theorem ownsRow_own {W W' : World} {base : Nat} {e : TypeId} {size n : Nat} {v : Value} {xs : List Value} {row : Option Nat} (h : W.ownsRow base e size v n xs) (hg : W.grownBy W' row) (hr : ∀ r, row = some r → ∃ o : Obj, W.heap[r]? = some o ∧ o.isCells = false) : W'.ownsRow base e size v n xs := by
  refine h.kept hg ?_
  rcases h.2 with ⟨rfl, _⟩ | ⟨g, cap, cur, rfl, _, hgb, _⟩
  · exact .inl rfl
  · refine .inr fun e' => ?_
    obtain ⟨o, ho, hc⟩ := hr g (by simpa [Value.ownBlock] using e'.symm)
    rw [hgb] at ho; cases ho; cases hc
end Go.Proofs.YtgjgcbemgmkncaaGreatDoor
namespace Go.Proofs.YtgjgcbemgmkncaaGreatDoor
open Go.RowKit Go.Shelf
set_option linter.unusedVariables false

section
variable {F : Fence} {n : Nat} {P : Program} {ops : Array Oper} {Q : Exit → Act → World → Prop} {md : Region.Mode}
theorem oper_inRound {o : Oper} {a : Act} {w : World} {K : Act → World → Prop} (l : Nat) (h : ∀ c, o.op ≠ .defer c) (hh : o.wpIn F n P a w K Q) : o.wpIn (F.inRound l) n P a w K Q := by
  unfold Oper.wpIn at *
  rw [Oper.semAt_plain F _ _ h] at hh
  rw [Oper.semAt_plain (F.inRound l) _ _ h]
  exact hh
theorem wpOp_inRound {i : Nat} {a : Act} {w : World} {K : Act → World → Prop} (l : Nat) (h : ∀ o, ops[i]? = some o → ∀ c, o.op ≠ .defer c) (hh : wpOpIn F n P ops Q i K a w) : wpOpIn (F.inRound l) n P ops Q i K a w := by
  unfold wpOpIn at *
  cases ho : ops[i]? with
  | none => simpa [ho] using hh
  | some o =>
    simp only [ho] at hh ⊢
    split
    · rename_i hw; simp only [hw, if_true] at hh; exact oper_inRound l (h o ho) hh
    · rename_i hw; simp only [hw] at hh; exact hh
theorem wpAny_inRound (l : Nat) (h : ∀ (i : Nat) (o : Oper), ops[i]? = some o → ∀ c, o.op ≠ .defer c) : ∀ (fuel : Nat) (listed : Array Bool) (a : Act) (w : World), wpAnyIn F n P md ops Q fuel listed a w → wpAnyIn (F.inRound l) n P md ops Q fuel listed a w
  | 0, _, _, _, hh => hh
  | fuel + 1, _, _, _, hh => ⟨hh.1, fun i hi => wpOpIn_mono (fun a w hK => wpAny_inRound l h fuel _ a w hK) (wpOp_inRound l (h i) (hh.2 i hi))⟩
theorem wpIn_region_quiet_round {id : Nat} {a : Act} {w : World} {ops : List Oper} (l : Nat) (hro : F.round = none) (hm : P.follows .mixedOrders = true) (hB : Region.lexB .any ops.toArray = true) (hd : ops.all (fun o => match o.op with | .defer _ => false | _ => true) = true)
    (h : wpQuietIn F n P ops.toArray (fun w' => ∃ n, w' = w.drewN n) (fun a' => ∀ w', (∃ n, w' = w.drewN n) → Q .normal a' w') ops a) : (Code.region id ops.toArray true).wpIn (F.inRound l) n P Q a w := by
  have hd2 : ∀ (i : Nat) (o : Oper), ops.toArray[i]? = some o → ∀ c, o.op ≠ .defer c := by
    intro i o ho c hc
    have hm := List.mem_of_getElem? (show ops[i]? = some o by simpa using ho)
    have := List.all_eq_true.1 hd o hm
    rw [hc] at this
    cases this
  have hB' := hB
  simp only [Region.lexB, Bool.and_eq_true] at hB'
  refine wpIn_region_any hm (wpAny_inRound l hd2 _ _ _ _ ?_)
  refine wpAnyIn_of_quiet (C := fun w' => ∃ n, w' = w.drewN n) (Q := fun a' => ∀ w', (∃ n, w' = w.drewN n) → Q .normal a' w') hro (fun _ w' hw' h => h w' hw') _ _ _ _ ⟨1, rfl⟩ ?_
  have := wpAnyQIn_lex (F := F) (n := n) (C := fun w' => ∃ n, w' = w.drewN n) (md := .any) hB'.1 ops 0 (Array.replicate ops.toArray.size false) a (by simp) (by simpa using hB'.2) h
  simpa using this
theorem rows_wide {row : String} {args : Array Value} {w : World} {m : Nat} {R : Value → World → Prop} (h : Rows P row args w R) : RowsIn Fence.wide m P row args w R :=
  fun c cs _ => let ⟨v, w', r, s⟩ := h c cs; ⟨v, w', r, stepsIn_wide.2 s⟩
/-- A plain operation's walk serves in a round. -/
theorem oper_round {o : Oper} {a : Act} {w : World} {K : Act → World → Prop} (l m : Nat) (h : ∀ c, o.op ≠ .defer c) (hh : o.wp P a w K Q) : o.wpIn (Fence.wide.inRound l) m P a w K Q := by
  refine ⟨fun f _ => trivial, ?_⟩
  rw [Oper.semAt_plain (Fence.wide.inRound l) _ _ h]
  unfold Oper.wp at hh
  generalize (execOp a.eval o).run P w = r at hh
  cases r with
  | ok x w' =>
    cases x <;> simp only [Oper.upon, Oper.uponIn] at hh ⊢ <;>
      first
        | exact hh
        | exact ⟨fun e => (by cases e), callsIn_wide.2 hh⟩
        | exact ⟨fun e => (by cases e), rows_wide hh⟩
  | halt x w' => cases x <;> simp only [Oper.upon, Oper.uponIn] at hh ⊢ <;> exact hh
theorem wpOp_round {i : Nat} {a : Act} {w : World} {K : Act → World → Prop} (l m : Nat) (hout : ¬ LetsOut Q) (h : ∀ o, ops[i]? = some o → ∀ c, o.op ≠ .defer c) (hh : wpOp P ops Q i K a w) : wpOpIn (Fence.wide.inRound l) m P ops Q i K a w := by
  unfold wpOp at hh
  unfold wpOpIn
  cases ho : ops[i]? with
  | none => simpa [ho] using hh
  | some o =>
    simp only [ho] at hh ⊢
    split
    · rename_i hw; simp only [hw, if_true] at hh; exact oper_round l m (h o ho) (hh.resolve_right (fun e => hout e.2))
    · rename_i hw; simp only [hw] at hh; exact ⟨fun _ _ => trivial, hh⟩
theorem wpAny_round (l m : Nat) (hout : ¬ LetsOut Q) (h : ∀ (i : Nat) (o : Oper), ops[i]? = some o → ∀ c, o.op ≠ .defer c) : ∀ (fuel : Nat) (listed : Array Bool) (a : Act) (w : World), wpAny P md ops Q fuel listed a w → wpAnyIn (Fence.wide.inRound l) m P md ops Q fuel listed a w
  | 0, _, _, _, hh => hh
  | fuel + 1, _, _, _, hh => ⟨hh.1, fun i hi => wpOpIn_mono (fun a w hK => wpAny_round l m hout h fuel _ a w hK) (wpOp_round l m hout (h i) (hh.2 i hi))⟩
/-- A held walk (wpAnyH) of a region in a round. -/
theorem wpIn_region_held_round {id m : Nat} {a : Act} {w : World} {ops : List Oper} {S : World → Prop} (l : Nat) (hout : ¬ LetsOut Q) (hm : P.follows .mixedOrders = true) (hd : ops.all (fun o => match o.op with | .defer _ => false | _ => true) = true) (hS : S w.drew)
    (h : S w.drew → wpAnyH P .any ops.toArray Q S ops.toArray.size (Array.replicate ops.toArray.size false) a w.drew) : (Code.region id ops.toArray true).wpIn (Fence.wide.inRound l) m P Q a w := by
  have hd2 : ∀ (i : Nat) (o : Oper), ops.toArray[i]? = some o → ∀ c, o.op ≠ .defer c := by
    intro i o ho c hc
    have hm := List.mem_of_getElem? (show ops[i]? = some o by simpa using ho)
    have := List.all_eq_true.1 hd o hm
    rw [hc] at this
    cases this
  exact wpIn_region_any hm (wpAny_round l m hout hd2 _ _ _ _ (wpAny_of_held _ _ _ _ (h hS)))
end
end Go.Proofs.YtgjgcbemgmkncaaGreatDoor
namespace Go.Proofs.YtgjgcbemgmkncaaGreatDoor
open Go.RowKit Go.Shelf
set_option linter.unusedVariables false
set_option linter.unusedSimpArgs false

theorem next_high {f : Kids} {from_ : Int} {k : Nat} (h : highK f (clampK from_) = highK f k) {r : Int × Int} (hk : k < 256) (hf : f k = some r) : nextK f from_ = ((k : Int), (r, true)) := by
  unfold nextK
  rw [h, high_succ f k hk, hf]
  rfl
theorem next_none {f : Kids} {from_ : Int} (h : highK f (clampK from_) = highK f 256) : nextK f from_ = (0, ((0, 0), false)) := by
  unfold nextK
  rw [h]
  rfl
end Go.Proofs.YtgjgcbemgmkncaaGreatDoor
namespace Go.Proofs.YtgjgcbemgmkncaaGreatDoor
open Go.RowKit Go.Shelf
set_option linter.unusedVariables false
set_option linter.unusedSimpArgs false

theorem bytesLo_lt (f : Kids) (m : Nat) : ∀ k (x : KidB f), x ∈ bytesLo f m k → m ≤ x.1.val ∧ x.1.val < k
  | 0, x, h => by cases h
  | k + 1, x, h => by
    unfold bytesLo at h
    rcases List.mem_append.1 h with h | h
    · have := bytesLo_lt f m k x h; omega
    · split at h
      · rename_i hc
        simp at h
        subst h
        exact ⟨hc.2.1, by simp⟩
      · cases h
theorem bytesLo_nil (f : Kids) (m : Nat) : ∀ k, k ≤ 256 → bytesLo f m k = [] → ∀ j, m ≤ j → j < k → f j = none
  | 0, _, _, j, _, h => by omega
  | k + 1, hk, h, j, h1, h2 => by
    cases hs : (f k).isSome with
    | true =>
      by_cases hm : m ≤ k
      · rw [bytesLo_yes f m hm (by omega) hs] at h
        simp at h
      · omega
    | false =>
      rw [bytesLo_no f m hs] at h
      by_cases hj : j = k
      · subst hj; simpa using hs
      · exact bytesLo_nil f m k (by omega) h j h1 (by omega)
theorem high_skip (f : Kids) (c : Nat) : ∀ d, c + d ≤ 256 → (∀ j, c ≤ j → j < c + d → f j = none) → highK f c = highK f (c + d)
  | 0, _, _ => rfl
  | d + 1, h, hn => by
    rw [high_skip f c d (by omega) (fun j h1 h2 => hn j h1 (by omega)), high_succ f (c + d) (by omega), hn (c + d) (by omega) (by omega)]
    rfl
/-- The first that is seen is Next's. -/
theorem nx_some {f : Kids} {from_ : Int} {x : KidB f} {r : Int × Int} (h : [x] <+: bytesF f (max from_ 0).toNat) (hf : f x.1.val = some r) : nextK f from_ = ((x.1.val : Int), (r, true)) := by
  obtain ⟨m, hm⟩ : ∃ m : Nat, m = (max from_ 0).toNat := ⟨_, rfl⟩
  rw [← hm] at h
  have hx := x.1.isLt
  have hmem : x ∈ bytesLo f m 256 := h.subset (by simp)
  obtain ⟨h1, _⟩ := bytesLo_lt f m 256 x hmem
  have hp : bytesLo f m (x.1.val + 1) <+: bytesF f m := bytesLo_prefix f m (by omega)
  rw [bytesLo_yes f m h1 hx x.2] at hp
  have hnil : bytesLo f m x.1.val = [] := by
    cases hl : bytesLo f m x.1.val with
    | nil => rfl
    | cons y l =>
      have hy := bytesLo_lt f m x.1.val y (by rw [hl]; simp)
      rw [hl] at hp
      obtain ⟨t1, e1⟩ := h
      obtain ⟨t2, e2⟩ := hp
      rw [← e1] at e2
      simp at e2
      have := e2.1
      subst this
      omega
  have hno := bytesLo_nil f m x.1.val (by omega) hnil
  have hc : clampK from_ ≤ x.1.val ∧ ∀ j, clampK from_ ≤ j → j < x.1.val → f j = none := by
    have : clampK from_ = m ∨ 256 ≤ m := by unfold clampK; split <;> (try split) <;> omega
    rcases this with e | e
    · rw [e]; exact ⟨h1, hno⟩
    · omega
  obtain ⟨d, hd⟩ : ∃ d, x.1.val = clampK from_ + d := ⟨x.1.val - clampK from_, by omega⟩
  refine next_high ?_ hx hf
  rw [hd]
  exact high_skip f _ d (by omega) (fun j h1 h2 => hc.2 j h1 (by omega))
theorem nx_none {f : Kids} {from_ : Int} (h : bytesF f (max from_ 0).toNat = []) : nextK f from_ = (0, ((0, 0), false)) := by
  obtain ⟨m, hm⟩ : ∃ m : Nat, m = (max from_ 0).toNat := ⟨_, rfl⟩
  rw [← hm] at h
  have hno := bytesLo_nil f m 256 (Nat.le_refl _) h
  refine next_none ?_
  have hle := clampK_le from_
  obtain ⟨d, hd⟩ : ∃ d, 256 = clampK from_ + d := ⟨256 - clampK from_, by omega⟩
  rw [high_skip f (clampK from_) d (by omega) (fun j h1 h2 => hno j (by
    have : clampK from_ = m ∨ 256 ≤ m := by unfold clampK; split <;> (try split) <;> omega
    unfold clampK at h1 hd
    split at h1 <;> (try split at h1) <;> (try split at hd) <;> (try split at hd) <;> omega) (by omega)), ← hd]
end Go.Proofs.YtgjgcbemgmkncaaGreatDoor
