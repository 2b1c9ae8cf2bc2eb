/-
  Layer 7: what copies and stores make of a row's block. Plain lists.
-/
import Derived.Test.YtmcpfhhggapkcaaFewW2
namespace Go.Proofs.Ytmcpfhhggapkcaa
open Go.RowKit
set_option linter.unusedVariables false

theorem grown_trans {a b c : World} {g : Nat} (h : a.grownBy b (some g)) (k : b.grownBy c (some g)) : a.grownBy c (some g) :=
  ⟨k.os.trans h.os, k.tape.trans h.tape, k.output.trans h.output, Nat.le_trans h.size k.size, fun i hi hn => (k.block i (Nat.lt_of_lt_of_le hi h.size) hn).trans (h.block i hi hn)⟩
theorem grown_alloc (w : World) (g : Nat) (o : Obj) : w.grownBy (w.alloc o) (some g) := World.grownBy_alloc w o _
theorem grown_setCell {a w : World} {g : Nat} (h : a.grownBy w (some g)) (i : Nat) (u : Value) : a.grownBy (w.setCell ⟨g, i, none⟩ u) (some g) :=
  ⟨h.os, h.tape, h.output, by simpa [World.setCell] using h.size, fun k hk hne => (Below.heap_setCell w ⟨g, i, none⟩ u k (fun e => hne (by rw [e]))).trans (h.block k hk hne)⟩
theorem grown_drew {a w : World} {g : Nat} (h : a.grownBy w (some g)) : a.grownBy w.drew (some g) := ⟨h.os, h.tape, h.output, h.size, h.block⟩
theorem grown_below {a w w' : World} {g : Nat} (h : a.grownBy w (some g)) (hb : Below w.heap.size w w') : a.grownBy w' (some g) :=
  ⟨hb.os.trans h.os, hb.tape.trans h.tape, hb.output.trans h.output, Nat.le_trans h.size hb.size, fun i hi hn => (hb.block i (Nat.lt_of_lt_of_le hi h.size)).trans (h.block i hi hn)⟩
theorem below_grown {a w : World} {g : Nat} (hb : Below a.heap.size a w) (g1 : Nat) : a.grownBy w (some g1) :=
  ⟨hb.os, hb.tape, hb.output, hb.size, fun i hi hn => hb.block i hi⟩

theorem splice_append {α : Type} (A B cs : List α) (k : Nat) (h : k + cs.length ≤ A.length) : splice (A ++ B) k cs = splice A k cs ++ B := by
  unfold splice
  rw [List.take_append_of_le_length (by omega), List.drop_append_of_le_length (by omega)]
  simp
theorem splice_behind {α : Type} (A B cs : List α) (k : Nat) : splice (A ++ B) (A.length + k) cs = A ++ splice B k cs := by
  unfold splice
  rw [List.take_length_add_append, Nat.add_assoc, List.drop_length_add_append]
  simp
theorem splice_map {α β : Type} (f : α → β) (l cs : List α) (k : Nat) : splice (l.map f) k (cs.map f) = (splice l k cs).map f := by
  unfold splice
  simp [List.map_take, List.map_drop]
theorem flatR_take (l : List (Int × Int)) (k : Nat) : (l.flatMap rrow).take (k * 2) = (l.take k).flatMap rrow := by
  induction l generalizing k with
  | nil => simp
  | cons x l ih =>
    cases k with
    | zero => simp
    | succ k =>
      rw [List.flatMap_cons, List.take_succ_cons, List.flatMap_cons, show (k + 1) * 2 = (rrow x).length + k * 2 by simp [rrow]; omega, List.take_length_add_append, ih]
theorem flatR_drop (l : List (Int × Int)) (k : Nat) : (l.flatMap rrow).drop (k * 2) = (l.drop k).flatMap rrow := by
  induction l generalizing k with
  | nil => simp
  | cons x l ih =>
    cases k with
    | zero => simp
    | succ k =>
      rw [List.flatMap_cons, List.drop_succ_cons, show (k + 1) * 2 = (rrow x).length + k * 2 by simp [rrow]; omega, List.drop_length_add_append, ih]
theorem splice_flatR (l cs : List (Int × Int)) (k : Nat) : splice (l.flatMap rrow) (k * 2) (cs.flatMap rrow) = (splice l k cs).flatMap rrow := by
  unfold splice
  rw [flatR_take, flatR_len, show k * 2 + cs.length * 2 = (k + cs.length) * 2 by omega, flatR_drop]
  simp
theorem cells_spliceB {o : FewO} (h : o.ok) {k : Nat} {m : List Int} (hk : k + m.length ≤ 16) : splice o.cells k (m.map (Value.int .u8)) = FewO.cells ⟨splice o.bs k m, o.rs, o.n, o.room⟩ := by
  unfold FewO.cells
  rw [splice_append _ _ _ _ (by simp [h.lb]; omega), splice_map]
theorem cells_spliceR {o : FewO} (h : o.ok) {k : Nat} {m : List (Int × Int)} (hk : k + m.length ≤ 16) : splice o.cells (16 + k * 2) (m.flatMap rrow) = FewO.cells ⟨o.bs, splice o.rs k m, o.n, o.room⟩ := by
  unfold FewO.cells
  have hl : 16 = (o.bs.map (Value.int .u8)).length := by rw [List.length_map, h.lb]
  rw [show 16 + k * 2 = (o.bs.map (Value.int .u8)).length + k * 2 by rw [← hl], splice_behind, splice_append _ _ _ _ (by rw [flatR_len, flatR_len, h.lr]; omega), splice_flatR]
theorem set_behind {α : Type} (A B : List α) (k : Nat) (x : α) : (A ++ B).set (A.length + k) x = A ++ B.set k x := by
  rw [List.set_append_right _ _ (by omega), Nat.add_sub_cancel_left]
theorem cells_setB {o : FewO} (h : o.ok) {k : Nat} (b : Int) (hk : k < 16) : o.cells.set k (.int .u8 b) = FewO.cells ⟨o.bs.set k b, o.rs, o.n, o.room⟩ := by
  unfold FewO.cells
  rw [List.set_append_left _ _ (by simp [h.lb]; omega), List.map_set]
theorem flatR_set (r : Int × Int) : ∀ (l : List (Int × Int)) (k : Nat), ((l.flatMap rrow).set (k * 2) (.int .i64 r.1)).set (k * 2 + 1) (.int .u32 r.2) = if k < l.length then (l.set k r).flatMap rrow else ((l.flatMap rrow).set (k * 2) (.int .i64 r.1)).set (k * 2 + 1) (.int .u32 r.2)
  | [], k => by simp
  | x :: l, 0 => by simp [rrow]
  | x :: l, k + 1 => by
    have ih := flatR_set r l k
    by_cases hk : k < l.length
    · rw [if_pos (by simpa using hk)]
      rw [if_pos hk] at ih
      rw [List.flatMap_cons, List.set_cons_succ, List.flatMap_cons, ← ih, show (k + 1) * 2 = (rrow x).length + k * 2 by simp [rrow]; omega, set_behind, show (rrow x).length + k * 2 + 1 = (rrow x).length + (k * 2 + 1) by omega, set_behind]
    · rw [if_neg (by simpa using hk)]
theorem cells_setR {o : FewO} (h : o.ok) {k : Nat} (r : Int × Int) (hk : k < 16) : (o.cells.set (16 + k * 2) (.int .i64 r.1)).set (16 + k * 2 + 1) (.int .u32 r.2) = FewO.cells ⟨o.bs, o.rs.set k r, o.n, o.room⟩ := by
  unfold FewO.cells
  have hl : 16 = (o.bs.map (Value.int .u8)).length := by rw [List.length_map, h.lb]
  rw [show 16 + k * 2 = (o.bs.map (Value.int .u8)).length + k * 2 by rw [← hl], set_behind, show (o.bs.map (Value.int .u8)).length + k * 2 + 1 = (o.bs.map (Value.int .u8)).length + (k * 2 + 1) by omega, set_behind,
    List.set_append_left _ _ (by rw [flatR_len, h.lr]; omega), List.set_append_left _ _ (by rw [List.length_set, flatR_len, h.lr]; omega), flatR_set, if_pos (by rw [h.lr]; exact hk)]
theorem cells_setN {o : FewO} (h : o.ok) (m : Nat) : o.cells.set 48 (.int .i64 m) = FewO.cells ⟨o.bs, o.rs, m, o.room⟩ := by
  unfold FewO.cells
  have hl : 48 = (o.bs.map (Value.int .u8)).length + 32 := by rw [List.length_map, h.lb]
  rw [hl, set_behind, show 32 = (o.rs.flatMap rrow).length + 0 by rw [flatR_len, h.lr], set_behind]; rfl
theorem ins_splice {α : Type} {l : List α} {i n : Nat} (x : α) (hi : i ≤ n) (hn : n < l.length) : (splice l (i + 1) ((l.take n).drop i)).set i x = insL l i n x := by
  unfold splice insL
  have h1 : i + 1 + ((l.take n).drop i).length = n + 1 := by simp; omega
  have h2 : ∀ y : α, (l.take i ++ [y]).set i x = l.take i ++ [x] := fun y => by
    have hl : i - (l.take i).length = 0 := by rw [List.length_take]; omega
    rw [List.set_append_right _ _ (by rw [List.length_take]; omega), hl]; rfl
  rw [h1, List.set_append_left _ _ (by simp; omega), show l.take (i + 1) = l.take i ++ [l[i]'(by omega)] from List.take_succ_eq_append_getElem (by omega), h2]
  simp
theorem del_splice {α : Type} {l : List α} {i n : Nat} (hi : i < n) (hn : n ≤ l.length) : splice l i ((l.take n).drop (i + 1)) = delL l i n := by
  unfold splice delL
  have h1 : i + ((l.take n).drop (i + 1)).length = n - 1 := by simp; omega
  rw [h1]

/-- A kid put in, a kid taken out. -/
def FewO.put (o : FewO) (i : Nat) (b : Int) (r : Int × Int) : FewO := ⟨insL o.bs i o.n b, insL o.rs i o.n r, o.n + 1, o.room⟩
def FewO.take (o : FewO) (i : Nat) : FewO := ⟨delL o.bs i o.n, delL o.rs i o.n, o.n - 1, o.room⟩
theorem FewO.put_ok {o : FewO} (h : o.ok) {i : Nat} {b : Int} {r : Int × Int} (hi : i ≤ o.n) (hn : o.n < 16) (hb : 0 ≤ b ∧ b ≤ 255) : (o.put i b r).ok := by
  refine ⟨by rw [← h.lb]; exact insL_len hi (by rw [h.lb]; exact hn), by rw [← h.lr]; exact insL_len hi (by rw [h.lr]; exact hn), hn, ?_⟩
  intro x hx
  simp only [FewO.put, insL, List.mem_append, List.mem_cons] at hx
  rcases hx with hx | rfl | hx | hx
  · exact h.bb x (List.mem_of_mem_take hx)
  · exact hb
  · exact h.bb x (List.mem_of_mem_take (List.mem_of_mem_drop hx))
  · exact h.bb x (List.mem_of_mem_drop hx)
theorem FewO.take_ok {o : FewO} (h : o.ok) {i : Nat} (hi : i < o.n) : (o.take i).ok := by
  have hn := h.ln
  refine ⟨by rw [← h.lb]; exact delL_len hi (by rw [h.lb]; exact hn), by rw [← h.lr]; exact delL_len hi (by rw [h.lr]; exact hn), by simp only [FewO.take]; omega, ?_⟩
  intro x hx
  simp only [FewO.take, delL, List.mem_append] at hx
  rcases hx with hx | hx | hx
  · exact h.bb x (List.mem_of_mem_take hx)
  · exact h.bb x (List.mem_of_mem_take (List.mem_of_mem_drop hx))
  · exact h.bb x (List.mem_of_mem_drop hx)
end Go.Proofs.Ytmcpfhhggapkcaa
