/-
  Layer 7: what a row's methods do, told by its kids as a function of the byte. Plain lists.
-/
import Derived.Test.YtmcpfhhggapkcaaFewW4
namespace Go.Proofs.Ytmcpfhhggapkcaa
open Go.RowKit
set_option linter.unusedVariables false

/-- The row's kids are those of f. -/
structure FewO.rep (o : FewO) (f : Kids) : Prop where
  n : o.n = (kidsOf f).length
  bs : o.bs.take o.n = (kidsOf f).map (fun x => (x.1 : Int))
  rs : o.rs.take o.n = (kidsOf f).map (·.2)

theorem findIdx_mapF {α β : Type} (g : α → β) (p : β → Bool) : ∀ l : List α, (l.map g).findIdx p = l.findIdx (fun x => p (g x))
  | [] => rfl
  | x :: l => by
    rw [List.map_cons, List.findIdx_cons, List.findIdx_cons, findIdx_mapF g p l]
theorem findIdx_congrF {α : Type} {p q : α → Bool} : ∀ {l : List α}, (∀ x ∈ l, p x = q x) → l.findIdx p = l.findIdx q
  | [], _ => rfl
  | x :: l, h => by
    rw [List.findIdx_cons, List.findIdx_cons, h x (by simp), findIdx_congrF (l := l) (fun y hy => h y (by simp [hy]))]
/-- A number brought into 0 to 256. -/
def clampK (k : Int) : Nat := if k ≤ 0 then 0 else if 256 ≤ k then 256 else k.toNat
theorem clampK_le (k : Int) : clampK k ≤ 256 := by unfold clampK; split <;> (try split) <;> omega
theorem clampK_nat {b : Nat} (h : b ≤ 256) : clampK b = b := by unfold clampK; split <;> (try split) <;> omega
theorem clampK_iff {k : Int} {x : Nat} (h : x < 256) : k ≤ (x : Int) ↔ clampK k ≤ x := by unfold clampK; split <;> (try split) <;> omega
theorem idx_rep {o : FewO} {f : Kids} (h : o.rep f) (k : Int) : o.idx k = (lowK f (clampK k)).length := by
  unfold FewO.idx
  rw [h.bs, findIdx_mapF, ← idx_of f (clampK k) (clampK_le k)]
  refine findIdx_congrF fun x hx => ?_
  have := (mem_kids hx).1
  exact decide_eq_decide.2 (clampK_iff this)
theorem n_split {o : FewO} {f : Kids} (h : o.rep f) (b : Nat) (hb : b ≤ 256) : o.n = (lowK f b).length + (highK f b).length := by
  rw [h.n, kids_split f b hb, List.length_append]
/-- The kid from a byte on. -/
theorem at_high {o : FewO} {f : Kids} (h : o.rep f) (ho : o.ok) {b : Nat} (hb : b ≤ 256) : o.bs[(lowK f b).length]? = ((highK f b).head?.map fun x => (x.1 : Int)) ∨ highK f b = [] := by
  rcases hh : highK f b with _ | ⟨x, l⟩
  · exact .inr rfl
  · refine .inl ?_
    have hn := n_split h b hb
    rw [hh, List.length_cons] at hn
    have h1 : (o.bs.take o.n)[(lowK f b).length]? = some (x.1 : Int) := by
      rw [h.bs, kids_split f b hb, hh, List.map_append, List.getElem?_append_right (by simp)]
      simp
    rw [List.getElem?_take, if_pos (by omega)] at h1
    exact h1
theorem rs_high {o : FewO} {f : Kids} (h : o.rep f) (ho : o.ok) {b : Nat} (hb : b ≤ 256) {x : Nat × (Int × Int)} {l : List (Nat × (Int × Int))} (hh : highK f b = x :: l) : o.bs[(lowK f b).length]? = some (x.1 : Int) ∧ o.rs[(lowK f b).length]? = some x.2 ∧ (lowK f b).length < o.n := by
  have hn := n_split h b hb
  rw [hh, List.length_cons] at hn
  have h1 : (o.bs.take o.n)[(lowK f b).length]? = some (x.1 : Int) := by
    rw [h.bs, kids_split f b hb, hh, List.map_append, List.getElem?_append_right (by simp)]
    simp
  have h2 : (o.rs.take o.n)[(lowK f b).length]? = some x.2 := by
    rw [h.rs, kids_split f b hb, hh, List.map_append, List.getElem?_append_right (by simp)]
    simp
  rw [List.getElem?_take, if_pos (by omega)] at h1 h2
  exact ⟨h1, h2, by omega⟩
theorem has_rep {o : FewO} {f : Kids} (h : o.rep f) (ho : o.ok) {b : Nat} (hb : b < 256) : o.has b = (f b).isSome := by
  have hi : o.idx (b : Int) = (lowK f b).length := by rw [idx_rep h, clampK_nat (by omega)]
  unfold FewO.has
  rw [hi]
  rcases hh : highK f b with _ | ⟨x, l⟩
  · have hn := n_split h b (by omega)
    rw [hh] at hn
    have hf : f b = none := by
      rw [high_succ f b hb] at hh
      cases hfb : f b with
      | none => rfl
      | some r => rw [hfb] at hh; simp at hh
    rw [hf]
    simp
    intro h1
    simp at hn
    omega
  · obtain ⟨h1, h2, h3⟩ := rs_high h ho (by omega) hh
    rw [List.getD_eq_getElem?_getD, h1, decide_eq_true h3]
    rw [high_succ f b hb] at hh
    cases hfb : f b with
    | none =>
      rw [hfb] at hh
      simp only [Option.map_none, Option.toList_none, List.nil_append] at hh
      have := (mem_high (f := f) (b := b + 1) (x := x) (by rw [hh]; simp)).1
      simp
      omega
    | some r =>
      rw [hfb] at hh
      simp at hh
      simp [← hh.1]
theorem find_rep {o : FewO} {f : Kids} (h : o.rep f) (ho : o.ok) {b : Nat} (hb : b < 256) : o.find b = f b := by
  unfold FewO.find
  rw [has_rep h ho hb]
  cases hfb : f b with
  | none => simp
  | some r =>
    have hi : o.idx (b : Int) = (lowK f b).length := by rw [idx_rep h, clampK_nat (by omega)]
    have hh := high_succ f b hb
    rw [hfb] at hh
    obtain ⟨h1, h2, h3⟩ := rs_high h ho (b := b) (by omega) (x := (b, r)) (l := highK f (b + 1)) (by rw [hh]; rfl)
    simp only [Option.isSome_some, if_true]
    rw [hi, h2]
theorem put_rep {o : FewO} {f : Kids} (h : o.rep f) (ho : o.ok) {b : Nat} (hb : b < 256) (hf : f b = none) (hn : o.n < 16) (r : Int × Int) : (o.put (o.idx b) b r).rep (setK f b (some r)) := by
  have hi : o.idx (b : Int) = (lowK f b).length := by rw [idx_rep h, clampK_nat (by omega)]
  have hk := kids_at f b hb
  rw [hf] at hk
  simp only [Option.map_none, Option.toList_none, List.nil_append] at hk
  have hs := kids_set f b (some r) hb
  simp only [Option.map_some, Option.toList_some] at hs
  have hle : o.idx (b : Int) ≤ o.n := FewO.idx_le ho b
  refine ⟨?_, ?_, ?_⟩
  · show o.n + 1 = _
    rw [hs, h.n, hk]
    simp
    omega
  · show (insL o.bs (o.idx b) o.n (b : Int)).take (o.n + 1) = _
    rw [insL_take hle (by rw [ho.lb]; exact hn), h.bs, hs, hk, hi, List.map_append, List.map_append, List.take_append_of_le_length (by simp), List.drop_append_of_le_length (by simp), List.take_of_length_le (by simp), List.drop_eq_nil_of_le (by simp)]
    simp
  · show (insL o.rs (o.idx b) o.n r).take (o.n + 1) = _
    rw [insL_take hle (by rw [ho.lr]; exact hn), h.rs, hs, hk, hi, List.map_append, List.map_append, List.take_append_of_le_length (by simp), List.drop_append_of_le_length (by simp), List.take_of_length_le (by simp), List.drop_eq_nil_of_le (by simp)]
    simp
theorem take_rep {o : FewO} {f : Kids} (h : o.rep f) (ho : o.ok) {b : Nat} (hb : b < 256) {r : Int × Int} (hf : f b = some r) : (o.take (o.idx b)).rep (setK f b none) := by
  have hi : o.idx (b : Int) = (lowK f b).length := by rw [idx_rep h, clampK_nat (by omega)]
  have hk := kids_at f b hb
  rw [hf] at hk
  simp only [Option.map_some, Option.toList_some] at hk
  have hs := kids_set f b none hb
  simp only [Option.map_none, Option.toList_none, List.nil_append] at hs
  have hn : o.n = (lowK f b).length + 1 + (highK f (b + 1)).length := by rw [h.n, hk]; simp; omega
  have hlt : o.idx (b : Int) < o.n := by omega
  have hln := ho.ln
  refine ⟨?_, ?_, ?_⟩
  · show o.n - 1 = _
    rw [hs, hn]
    simp <;> omega
  · show (delL o.bs (o.idx b) o.n).take (o.n - 1) = _
    rw [delL_take hlt (by rw [ho.lb]; exact hln), h.bs, hs, hk, hi, List.map_append, List.map_append, List.take_append_of_le_length (by simp), List.take_of_length_le (by simp), List.drop_append, List.drop_eq_nil_of_le (by simp)]
    simp
  · show (delL o.rs (o.idx b) o.n).take (o.n - 1) = _
    rw [delL_take hlt (by rw [ho.lr]; exact hln), h.rs, hs, hk, hi, List.map_append, List.map_append, List.take_append_of_le_length (by simp), List.take_of_length_le (by simp), List.drop_append, List.drop_eq_nil_of_le (by simp)]
    simp
theorem turn_rep {o : FewO} {f : Kids} (h : o.rep f) (ho : o.ok) {b : Nat} (hb : b < 256) {q : Int × Int} (hf : f b = some q) (r : Int × Int) : (o.turn (o.idx b) r).rep (setK f b (some r)) := by
  have hi : o.idx (b : Int) = (lowK f b).length := by rw [idx_rep h, clampK_nat (by omega)]
  have hk := kids_at f b hb
  rw [hf] at hk
  simp only [Option.map_some, Option.toList_some] at hk
  have hs := kids_set f b (some r) hb
  simp only [Option.map_some, Option.toList_some] at hs
  refine ⟨?_, ?_, ?_⟩
  · show o.n = _
    rw [hs, h.n, hk]
    simp
  · show o.bs.take o.n = _
    rw [h.bs, hs, hk]
    simp
  · show (o.rs.set (o.idx b) r).take o.n = _
    rw [List.take_set, h.rs, hs, hk, hi, List.map_append, List.set_append_right _ _ (by simp)]
    simp
theorem ok_put {o : FewO} {f : Kids} (h : o.rep f) (ho : o.fits) {b : Nat} (hb : b < 256) {r : Int × Int} (hn : (o.n : Int) ≠ o.room) : (o.put (o.idx b) b r).fits := by
  obtain ⟨h1, h2, h3, h4⟩ := ho
  exact ⟨FewO.put_ok h1 (FewO.idx_le h1 b) (by omega) ⟨by omega, by omega⟩, h2, h3, by simp only [FewO.put]; omega⟩
theorem ok_take {o : FewO} (ho : o.fits) {i : Nat} (hi : i < o.n) : (o.take i).fits := by
  obtain ⟨h1, h2, h3, h4⟩ := ho
  exact ⟨FewO.take_ok h1 hi, h2, h3, by simp only [FewO.take]; omega⟩
theorem ok_turn {o : FewO} (ho : o.fits) {i : Nat} {r : Int × Int} : (o.turn i r).fits := by
  obtain ⟨h1, h2, h3, h4⟩ := ho
  exact ⟨⟨h1.lb, by simp only [FewO.turn]; rw [List.length_set]; exact h1.lr, h1.ln, h1.bb⟩, h2, h3, h4⟩

/-- The row in block g has room for so many, and the kids f. -/
def FewAt (W : World) (g : Nat) (room : Int) (f : Kids) : Prop := ∃ o : FewO, o.fits ∧ o.rep f ∧ o.room = room ∧ Blk W g 66 o.cells.toArray
theorem FewAt.below {W W' : World} {g : Nat} {room : Int} {f : Kids} (h : FewAt W g room f) (hb : Below W.heap.size W W') : FewAt W' g room f := by
  obtain ⟨o, h1, h2, h3, h4⟩ := h
  exact ⟨o, h1, h2, h3, h4.below hb h4.lt⟩
theorem FewAt.lt {W : World} {g : Nat} {room : Int} {f : Kids} (h : FewAt W g room f) : g < W.heap.size := by
  obtain ⟨o, h1, h2, h3, h4⟩ := h
  exact h4.lt
theorem FewAt.kept {W W' : World} {g : Nat} {row : Option Nat} {room : Int} {f : Kids} (h : FewAt W g room f) (hg : W.grownBy W' row) (hne : some g ≠ row) : FewAt W' g room f := by
  obtain ⟨o, h1, h2, h3, h4⟩ := h
  exact ⟨o, h1, h2, h3, h4.grown hg hne⟩
/-- How many kids. -/
def cntK (f : Kids) : Nat := (kidsOf f).length
/-- What the methods come to. -/
def putK (room : Int) (f : Kids) (b : Nat) (r : Int × Int) : Int × Kids := if (f b).isSome = true then (8, f) else if (cntK f : Int) = room then (14, f) else (0, setK f b (some r))
def turnK (f : Kids) (b : Nat) (r : Int × Int) : Int × Kids := if (f b).isSome = true then (0, setK f b (some r)) else (5, f)
def takeK (f : Kids) (b : Nat) : ((Int × Int) × Int) × Kids := match f b with
  | some r => ((r, 0), setK f b none)
  | none => (((0, 0), 5), f)
def nextK (f : Kids) (k : Int) : Int × ((Int × Int) × Bool) := match highK f (clampK k) with
  | x :: _ => ((x.1 : Int), (x.2, true))
  | [] => (0, ((0, 0), false))
/-- The row has turned. -/
def FewEnd (v : Value) (g : Nat) (room : Int) (f : Kids) (w : World) (e : Ending) (w' : World) : Prop := e = .returned v ∧ FewAt w' g room f ∧ w.grownBy w' (some g)
theorem next_rep {o : FewO} {f : Kids} (h : o.rep f) (ho : o.ok) (k : Int) : o.next k = nextK f k := by
  have hi := idx_rep h k
  unfold FewO.next nextK
  rw [hi]
  rcases hh : highK f (clampK k) with _ | ⟨x, l⟩
  · have hn := n_split h (clampK k) (clampK_le k)
    rw [hh] at hn
    rw [if_neg (by simp at hn; omega)]
  · obtain ⟨h1, h2, h3⟩ := rs_high h ho (clampK_le k) hh
    rw [if_pos h3, List.getD_eq_getElem?_getD, h1, List.getD_eq_getElem?_getD, h2]
    rfl

theorem Put_k (g : Nat) (room : Int) (f : Kids) (b : Nat) (r : Int × Int) (w : World) (h : FewAt w g room f) (hb : b < 256) :
    Calls Try.prog 10 #[.pointer (some ⟨g, 0, none⟩), .int .u8 (b : Int), refV r] w (FewEnd (.int .i64 (putK room f b r).1) g room (putK room f b r).2 w) := by
  obtain ⟨o, ho, hr, rfl, hg⟩ := h
  refine (Put_any o b r g w ho hg ⟨by omega, by omega⟩).mono ?_
  rintro e w' ⟨rfl, h1, h2⟩
  have hhas := has_rep hr ho.1 hb
  have hn := hr.n
  cases hf : f b with
  | some q =>
    have e1 : o.putM b r = (8, o) := by unfold FewO.putM; rw [hhas, hf]; rfl
    have e2 : putK o.room f b r = (8, f) := by unfold putK; rw [hf]; rfl
    rw [e1] at h1 ⊢
    rw [e2]
    exact ⟨rfl, ⟨o, ho, hr, rfl, h1⟩, h2⟩
  | none =>
    have hno : ¬ o.has (b : Int) = true := by rw [hhas, hf]; simp
    by_cases hroom : (o.n : Int) = o.room
    · have e1 : o.putM b r = (14, o) := by unfold FewO.putM; rw [if_neg hno, if_pos hroom]
      have e2 : putK o.room f b r = (14, f) := by unfold putK cntK; rw [hf, ← hn, if_pos hroom]; rfl
      rw [e1] at h1 ⊢
      rw [e2]
      exact ⟨rfl, ⟨o, ho, hr, rfl, h1⟩, h2⟩
    · have e1 : o.putM b r = (0, o.put (o.idx b) b r) := by unfold FewO.putM; rw [if_neg hno, if_neg hroom]
      have e2 : putK o.room f b r = (0, setK f b (some r)) := by unfold putK cntK; rw [hf, ← hn, if_neg hroom]; rfl
      rw [e1] at h1 ⊢
      rw [e2]
      exact ⟨rfl, ⟨_, ok_put hr ho hb hroom, put_rep hr ho.1 hb hf (by have := ho.2; omega) r, rfl, h1⟩, h2⟩
theorem Turn_k (g : Nat) (room : Int) (f : Kids) (b : Nat) (r : Int × Int) (w : World) (h : FewAt w g room f) (hb : b < 256) :
    Calls Try.prog 28 #[.pointer (some ⟨g, 0, none⟩), .int .u8 (b : Int), refV r] w (FewEnd (.int .i64 (turnK f b r).1) g room (turnK f b r).2 w) := by
  obtain ⟨o, ho, hr, rfl, hg⟩ := h
  refine (Turn_any o b r g w ho hg ⟨by omega, by omega⟩).mono ?_
  rintro e w' ⟨rfl, h1, h2⟩
  have hhas := has_rep hr ho.1 hb
  cases hf : f b with
  | some q =>
    have e1 : o.turnM b r = (0, o.turn (o.idx b) r) := by unfold FewO.turnM; rw [hhas, hf]; rfl
    have e2 : turnK f b r = (0, setK f b (some r)) := by unfold turnK; rw [hf]; rfl
    rw [e1] at h1 ⊢
    rw [e2]
    exact ⟨rfl, ⟨_, ok_turn ho, turn_rep hr ho.1 hb hf r, rfl, h1⟩, h2⟩
  | none =>
    have e1 : o.turnM b r = (5, o) := by unfold FewO.turnM; rw [if_neg (by rw [hhas, hf]; simp)]
    have e2 : turnK f b r = (5, f) := by unfold turnK; rw [hf]; rfl
    rw [e1] at h1 ⊢
    rw [e2]
    exact ⟨rfl, ⟨o, ho, hr, rfl, h1⟩, h2⟩
theorem Take_k (g : Nat) (room : Int) (f : Kids) (b : Nat) (w : World) (h : FewAt w g room f) (hb : b < 256) :
    Calls Try.prog 11 #[.pointer (some ⟨g, 0, none⟩), .int .u8 (b : Int)] w (FewEnd (.tuple #[refV (takeK f b).1.1, .int .i64 (takeK f b).1.2]) g room (takeK f b).2 w) := by
  obtain ⟨o, ho, hr, rfl, hg⟩ := h
  refine (Take_any o b g w ho hg ⟨by omega, by omega⟩).mono ?_
  rintro e w' ⟨rfl, h1, h2⟩
  have hhas := has_rep hr ho.1 hb
  have hfind := find_rep hr ho.1 hb
  cases hf : f b with
  | some q =>
    have hh : o.has (b : Int) = true := by rw [hhas, hf]; rfl
    have hq : o.rs.getD (o.idx b) (0, 0) = q := by
      unfold FewO.find at hfind
      rw [if_pos hh, hf] at hfind
      rw [List.getD_eq_getElem?_getD, hfind]; rfl
    have e1 : o.takeM b = ((q, 0), o.take (o.idx b)) := by unfold FewO.takeM; rw [if_pos hh, hq]
    have e2 : takeK f b = ((q, 0), setK f b none) := by unfold takeK; rw [hf]
    rw [e1] at h1 ⊢
    rw [e2]
    exact ⟨rfl, ⟨_, ok_take ho (FewO.has_lt hh), take_rep hr ho.1 hb hf, rfl, h1⟩, h2⟩
  | none =>
    have e1 : o.takeM b = (((0, 0), 5), o) := by unfold FewO.takeM; rw [if_neg (by rw [hhas, hf]; simp)]
    have e2 : takeK f b = (((0, 0), 5), f) := by unfold takeK; rw [hf]
    rw [e1] at h1 ⊢
    rw [e2]
    exact ⟨rfl, ⟨o, ho, hr, rfl, h1⟩, h2⟩
theorem Find_k (g : Nat) (room : Int) (f : Kids) (b : Nat) (w : World) (h : FewAt w g room f) (hb : b < 256) :
    Calls Try.prog 16 #[.pointer (some ⟨g, 0, none⟩), .int .u8 (b : Int)] w (TwoEnd (optV (f b)) (.bool (f b).isSome) w) := by
  obtain ⟨o, ho, hr, rfl, hg⟩ := h
  have := find_any o b g w ho.1 ho.2.1 hg ⟨by omega, by omega⟩
  rw [find_rep hr ho.1 hb] at this
  exact this
theorem Next_k (g : Nat) (room : Int) (f : Kids) (k : Int) (w : World) (h : FewAt w g room f) :
    Calls Try.prog 15 #[.pointer (some ⟨g, 0, none⟩), .int .i64 k] w (ThreeEnd (.int .u8 (nextK f k).1) (refV (nextK f k).2.1) (.bool (nextK f k).2.2) w) := by
  obtain ⟨o, ho, hr, rfl, hg⟩ := h
  have := next_any o k g w ho.1 ho.2.1 hg
  rw [next_rep hr ho.1] at this
  exact this
theorem Len_k (g : Nat) (room : Int) (f : Kids) (w : World) (h : FewAt w g room f) : Calls Try.prog 13 #[.pointer (some ⟨g, 0, none⟩)] w (StayEnd (.int .i64 (cntK f)) w) := by
  obtain ⟨o, ho, hr, rfl, hg⟩ := h
  have := len_any o g w ho.1 ho.2.1 hg
  rw [hr.n] at this
  exact this
theorem Room_k (g : Nat) (room : Int) (f : Kids) (w : World) (h : FewAt w g room f) : Calls Try.prog 29 #[.pointer (some ⟨g, 0, none⟩)] w (StayEnd (.int .i64 room) w) := by
  obtain ⟨o, ho, hr, rfl, hg⟩ := h
  exact room_any o g w ho hg
end Go.Proofs.Ytmcpfhhggapkcaa
