/-
  Layer 7: a row of a few kids as it lies in a block; its kids as a function of the byte; copy of elements of any size. Plain lists, and laws over any program.
-/
import Derived.Test.YtagcbihjejjmnaaTail
import Derived.Maps.AppendAt
import Derived.Laws.CopyOwn
import Derived.RegionTactic
import Derived.OwnWalk
namespace Go.Proofs.Ytagcbihjejjmnaa
open Go.RowKit
set_option linter.unusedVariables false

/-- A part of a code, by a path: 0 the first of two, 1 the second, 2 inside, 3 then, 4 else. -/
def sub : List Nat → Code → Code
  | [], c => c
  | 0 :: l, .seq a _ => sub l a
  | 1 :: l, .seq _ b => sub l b
  | 2 :: l, .block _ c => sub l c
  | 2 :: l, .loop c => sub l c
  | 2 :: l, .scope c => sub l c
  | 3 :: l, .cond _ a _ => sub l a
  | 4 :: l, .cond _ _ b => sub l b
  | _ :: _, c => c
noncomputable def part (f : Func) (l : List Nat) : Code := sub l (f.body.getD .skip)

/-! ### copy, elements of any size -/
section
variable {P : Program} {w : World}
theorem grown_setRow (w : World) (g : Nat) (cs : Array Value) : w.grownBy (w.setRow g cs) (some g) :=
  ⟨rfl, rfl, rfl, by simp [World.setRow], fun k _ hk => setRow_other w g k cs (fun e => hk (by rw [e]))⟩
theorem run_copy_any (dT sT ty elem : TypeId) (sz : Nat) (hz : 0 < sz) (hu : P.underlying dT = some (.slice elem)) (hs : (P.info? elem).map (·.size) = some sz)
    (dp sp : Option Addr) (dLen dCap sLen sCap : Nat) (g off : Nat) (cur : List Value) (t : TypeId) (hg : Blk w g t cur.toArray) (cs : List Value) (hn : cs.length = Nat.min sLen dLen * sz)
    (hpos : 0 < cs.length → dp = some ⟨g, off, none⟩ ∧ ∃ ad, sp = some ad ∧ ∀ j v, cs[j]? = some v → w.cell? (ad.add j) = some v)
    (hfit : off + cs.length ≤ cur.length) (h1 : ∀ v ∈ cs, v.oneCell' = true) :
    ∃ w', (Builtin.copy_ #[dT, sT] ty #[.slice dp dLen dCap, .slice sp sLen sCap]).run P w = .ok (goInt (Nat.min sLen dLen)) w' ∧ Blk w' g t (splice cur off cs).toArray ∧ w.grownBy w' (some g) := by
  cases hq : P.info? elem with
  | none => simp [hq] at hs
  | some i =>
    have hi : i.size = sz := by simpa [hq] using hs
    rcases Nat.eq_zero_or_pos (Nat.min sLen dLen) with h0 | h0
    · have hc0 : cs = [] := List.eq_nil_of_length_eq_zero (by rw [hn, h0, Nat.zero_mul])
      subst hc0
      have hl : ∀ (x : Addr), (loadCells x 0).run P w = .ok #[] w := fun x => by simpa using run_loadCells_list (P := P) w x [] (by simp)
      refine ⟨w, ?_, by simpa [splice] using hg, World.grownBy.refl w _⟩
      cases dp <;> cases sp <;> simp [Builtin.copy_, run_underlying hu, Builtin.lenOf, Builtin.firstCells, sizeOf, typeInfo, hq, h0, storeCells, hl]
    · have hcp : 0 < cs.length := by rw [hn]; exact Nat.mul_pos h0 hz
      obtain ⟨rfl, ad, rfl, hsrc⟩ := hpos hcp
      have hl := run_loadCells_list (P := P) w ad cs hsrc
      have hst := run_storeCells_at P g off t cs 0 cur.toArray w hg (by simpa using hfit) h1
      have hst2 : (storeCells ⟨g, off, none⟩ cs 0).run P w = .ok () (w.setRow g (splice cur off cs).toArray) := by
        rw [hst]; simp [splice]
      refine ⟨w.setRow g (splice cur off cs).toArray, ?_, ?_, grown_setRow w g _⟩
      · simp [Builtin.copy_, run_underlying hu, Builtin.lenOf, Builtin.firstCells, sizeOf, typeInfo, hq, hi, ← hn, hl, hst2]
      · have := setRow_heap w g cur.toArray (splice cur off cs).toArray t (0, 0) hg
        simpa [splice, Blk] using this
theorem step_copy_any {ops : Array Oper} {o : Oper} {a : Act} {K : Act → World → Prop} {Q : Exit → Act → World → Prop} {E : Prop} (hgd : o.guard = none) (d s : Operand) (dT sT : TypeId)
    (ho : o.op = .call { callee := .builtin .copy, args := #[d, s], argTypes := #[dT, sT] }) (elem : TypeId) (sz : Nat) (hz : 0 < sz) (hu : P.underlying dT = some (.slice elem)) (hs : (P.info? elem).map (·.size) = some sz)
    (dp sp : Option Addr) (dLen dCap sLen sCap : Nat) (hd : a.eval d = .slice dp dLen dCap) (hsr : a.eval s = .slice sp sLen sCap)
    (g off : Nat) (cur : List Value) (t : TypeId) (hg : Blk w g t cur.toArray) (cs : List Value) (hn : cs.length = Nat.min sLen dLen * sz)
    (hpos : 0 < cs.length → dp = some ⟨g, off, none⟩ ∧ ∃ ad, sp = some ad ∧ ∀ j v, cs[j]? = some v → w.cell? (ad.add j) = some v)
    (hfit : off + cs.length ≤ cur.length) (h1 : ∀ v ∈ cs, v.oneCell' = true)
    (h : ∀ w', Hid (Blk w' g t (splice cur off cs).toArray ∧ w.grownBy w' (some g)) → K (a.put o.dst (goInt (Nat.min sLen dLen))) w') :
    if Region.wanted o (yielded ops a.tmps) = true then Oper.wp P o a w K Q else E := by
  have hw : Region.wanted o (yielded ops a.tmps) = true := by simp [Region.wanted, hgd]
  rw [if_pos hw]
  obtain ⟨w', hrun, h2, h3⟩ := run_copy_any (P := P) (w := w) dT sT o.type elem sz hz hu hs dp sp dLen dCap sLen sCap g off cur t hg cs hn hpos hfit h1
  unfold Oper.wp
  simp [execOp, ho, resolve, invoke, builtin, hd, hsr, hrun, Result.andThen]
  exact h w' (Lib.hid ⟨h2, h3⟩)
end

/-! ### A row -/
def rrow (r : Int × Int) : List Value := [.int .i64 r.1, .int .u32 r.2]
theorem rrow_len (r : Int × Int) : (rrow r).length = 2 := rfl
/-- A row's block: sixteen bytes, sixteen Refs, the number, the room. -/
structure FewO where
  bs : List Int
  rs : List (Int × Int)
  n : Nat
  room : Int
def FewO.cells (o : FewO) : List Value := o.bs.map (Value.int .u8) ++ (o.rs.flatMap rrow ++ [.int .i64 o.n, .int .i64 o.room])
structure FewO.ok (o : FewO) : Prop where
  lb : o.bs.length = 16
  lr : o.rs.length = 16
  ln : o.n ≤ 16
  bb : ∀ b ∈ o.bs, 0 ≤ b ∧ b ≤ 255
theorem flatR_len : ∀ l : List (Int × Int), (l.flatMap rrow).length = l.length * 2
  | [] => rfl
  | r :: l => by simp only [List.flatMap_cons, List.length_append, flatR_len l, rrow_len, List.length_cons]; omega
theorem flatR_at : ∀ (l : List (Int × Int)) (k : Nat) (r : Int × Int), l[k]? = some r → (l.flatMap rrow)[k * 2]? = some (.int .i64 r.1) ∧ (l.flatMap rrow)[k * 2 + 1]? = some (.int .u32 r.2)
  | [], k, r, h => by simp at h
  | x :: l, 0, r, h => by simp at h; subst h; exact ⟨rfl, rfl⟩
  | x :: l, k + 1, r, h => by
    have ih := flatR_at l k r (by simpa using h)
    rw [List.flatMap_cons, show (k + 1) * 2 = k * 2 + 2 by omega]
    exact ⟨by rw [List.getElem?_append_right (by simp [rrow])]; simpa [rrow] using ih.1, by rw [List.getElem?_append_right (by simp [rrow] <;> omega)]; simpa [rrow] using ih.2⟩
section
variable {o : FewO}
theorem FewO.len (h : o.ok) : o.cells.length = 50 := by
  unfold FewO.cells
  rw [List.length_append, List.length_append, flatR_len, List.length_map, h.lb, h.lr]; rfl
theorem FewO.atB (h : o.ok) {k : Nat} {b : Int} (hk : o.bs[k]? = some b) : o.cells[k]? = some (.int .u8 b) := by
  have hl : k < o.bs.length := (List.getElem?_eq_some_iff.1 hk).1
  unfold FewO.cells
  rw [List.getElem?_append_left (by simpa using hl), List.getElem?_map, hk]; rfl
theorem FewO.atR (h : o.ok) {k : Nat} {r : Int × Int} (hk : o.rs[k]? = some r) : o.cells[16 + k * 2]? = some (.int .i64 r.1) ∧ o.cells[16 + k * 2 + 1]? = some (.int .u32 r.2) := by
  have hl : k < o.rs.length := (List.getElem?_eq_some_iff.1 hk).1
  obtain ⟨h1, h2⟩ := flatR_at o.rs k r hk
  have e1 : ∀ j, j < 32 → o.cells[16 + j]? = (o.rs.flatMap rrow)[j]? := by
    intro j hj
    unfold FewO.cells
    rw [List.getElem?_append_right (by rw [List.length_map, h.lb]; omega), List.length_map, h.lb, Nat.add_sub_cancel_left, List.getElem?_append_left (by rw [flatR_len, h.lr]; omega)]
  rw [h.lr] at hl
  exact ⟨by rw [e1 _ (by omega)]; exact h1, by rw [Nat.add_assoc, e1 _ (by omega)]; exact h2⟩
theorem FewO.atN (h : o.ok) : o.cells[48]? = some (.int .i64 o.n) := by
  unfold FewO.cells
  rw [List.getElem?_append_right (by rw [List.length_map, h.lb]; omega), List.length_map, h.lb, List.getElem?_append_right (by rw [flatR_len, h.lr]; omega), flatR_len, h.lr]; rfl
theorem FewO.atRoom (h : o.ok) : o.cells[49]? = some (.int .i64 o.room) := by
  unfold FewO.cells
  rw [List.getElem?_append_right (by rw [List.length_map, h.lb]; omega), List.length_map, h.lb, List.getElem?_append_right (by rw [flatR_len, h.lr]; omega), flatR_len, h.lr]; rfl
end

/-! ### Insertion and removal in a list of a fixed length -/
def insL {α : Type} (l : List α) (i n : Nat) (x : α) : List α := l.take i ++ (x :: ((l.take n).drop i ++ l.drop (n + 1)))
def delL {α : Type} (l : List α) (i n : Nat) : List α := l.take i ++ ((l.take n).drop (i + 1) ++ l.drop (n - 1))
theorem insL_len {α : Type} {l : List α} {i n : Nat} {x : α} (hi : i ≤ n) (hn : n < l.length) : (insL l i n x).length = l.length := by
  simp [insL]; omega
theorem delL_len {α : Type} {l : List α} {i n : Nat} (hi : i < n) (hn : n ≤ l.length) : (delL l i n).length = l.length := by
  simp [delL]; omega
theorem insL_take {α : Type} {l : List α} {i n : Nat} {x : α} (hi : i ≤ n) (hn : n < l.length) : (insL l i n x).take (n + 1) = (l.take n).take i ++ x :: (l.take n).drop i := by
  unfold insL
  rw [List.take_take, Nat.min_eq_left hi, show l.take i ++ (x :: ((l.take n).drop i ++ l.drop (n + 1))) = (l.take i ++ x :: (l.take n).drop i) ++ l.drop (n + 1) by simp]
  rw [List.take_append_of_le_length (by simp; omega), List.take_of_length_le (by simp; omega)]
theorem delL_take {α : Type} {l : List α} {i n : Nat} (hi : i < n) (hn : n ≤ l.length) : (delL l i n).take (n - 1) = (l.take n).take i ++ (l.take n).drop (i + 1) := by
  unfold delL
  rw [List.take_take, Nat.min_eq_left (by omega), show l.take i ++ ((l.take n).drop (i + 1) ++ l.drop (n - 1)) = (l.take i ++ (l.take n).drop (i + 1)) ++ l.drop (n - 1) by simp]
  rw [List.take_append_of_le_length (by simp; omega), List.take_of_length_le (by simp; omega)]

/-! ### Kids as a function of the byte -/
abbrev Kids := Nat → Option (Int × Int)
def kidsIn (f : Kids) (l : List Nat) : List (Nat × (Int × Int)) := l.filterMap fun b => (f b).map fun r => (b, r)
def kidsOf (f : Kids) : List (Nat × (Int × Int)) := kidsIn f (List.range 256)
def lowK (f : Kids) (b : Nat) : List (Nat × (Int × Int)) := kidsIn f (List.range b)
def highK (f : Kids) (b : Nat) : List (Nat × (Int × Int)) := kidsIn f ((List.range 256).drop b)
def setK (f : Kids) (b : Nat) (r : Option (Int × Int)) : Kids := fun i => if i = b then r else f i
theorem kidsIn_append (f : Kids) (a b : List Nat) : kidsIn f (a ++ b) = kidsIn f a ++ kidsIn f b := by simp [kidsIn]
theorem kids_split (f : Kids) (b : Nat) (hb : b ≤ 256) : kidsOf f = lowK f b ++ highK f b := by
  have h : List.range 256 = List.range b ++ (List.range 256).drop b := by
    rw [show List.range b = (List.range 256).take b by rw [List.take_range, Nat.min_eq_left hb], List.take_append_drop]
  unfold kidsOf lowK highK
  rw [← kidsIn_append, ← h]
theorem high_succ (f : Kids) (b : Nat) (hb : b < 256) : highK f b = ((f b).map fun r => (b, r)).toList ++ highK f (b + 1) := by
  unfold highK
  rw [List.drop_eq_getElem_cons (by simpa using hb)]
  have : (List.range 256)[b]'(by simpa using hb) = b := List.getElem_range _
  rw [this, show b :: (List.range 256).drop (b + 1) = [b] ++ (List.range 256).drop (b + 1) from rfl, kidsIn_append]
  have h1 : kidsIn f [b] = ((f b).map fun r => (b, r)).toList := by
    unfold kidsIn
    cases hf : f b <;> simp [List.filterMap_cons, hf]
  rw [h1]
theorem kids_at (f : Kids) (b : Nat) (hb : b < 256) : kidsOf f = lowK f b ++ (((f b).map fun r => (b, r)).toList ++ highK f (b + 1)) := by
  rw [kids_split f b (by omega), high_succ f b hb]
theorem mem_kidsIn {f : Kids} {l : List Nat} {x : Nat × (Int × Int)} : x ∈ kidsIn f l ↔ x.1 ∈ l ∧ f x.1 = some x.2 := by
  unfold kidsIn
  rw [List.mem_filterMap]
  constructor
  · rintro ⟨b, hb, h⟩
    cases hf : f b with
    | none => rw [hf] at h; cases h
    | some r => rw [hf] at h; cases h; exact ⟨hb, hf⟩
  · rintro ⟨h1, h2⟩
    exact ⟨x.1, h1, by rw [h2]; rfl⟩
theorem mem_low {f : Kids} {b : Nat} {x : Nat × (Int × Int)} (h : x ∈ lowK f b) : x.1 < b := by
  have := (mem_kidsIn.1 h).1
  simpa using this
theorem mem_high {f : Kids} {b : Nat} {x : Nat × (Int × Int)} (h : x ∈ highK f b) : b ≤ x.1 ∧ x.1 < 256 := by
  have h1 := (mem_kidsIn.1 h).1
  obtain ⟨i, hi, he⟩ := List.getElem_of_mem h1
  rw [List.getElem_drop, List.getElem_range] at he
  simp at hi
  omega
theorem mem_kids {f : Kids} {x : Nat × (Int × Int)} (h : x ∈ kidsOf f) : x.1 < 256 ∧ f x.1 = some x.2 := by
  have := mem_kidsIn.1 h
  exact ⟨by simpa using this.1, this.2⟩
theorem kidsIn_set {f : Kids} {b : Nat} {r : Option (Int × Int)} : ∀ {l : List Nat}, b ∉ l → kidsIn (setK f b r) l = kidsIn f l
  | [], _ => rfl
  | x :: l, h => by
    have hx : x ≠ b := fun e => h (by simp [e])
    have ih := kidsIn_set (f := f) (b := b) (r := r) (l := l) (fun e => h (by simp [e]))
    unfold kidsIn at ih ⊢
    rw [List.filterMap_cons, List.filterMap_cons, ih]
    simp [setK, hx]
theorem low_set (f : Kids) (b : Nat) (r : Option (Int × Int)) : lowK (setK f b r) b = lowK f b := kidsIn_set (by simp)
theorem high_set (f : Kids) (b : Nat) (r : Option (Int × Int)) : highK (setK f b r) (b + 1) = highK f (b + 1) := kidsIn_set (by
  intro h
  obtain ⟨i, hi, he⟩ := List.getElem_of_mem h
  rw [List.getElem_drop, List.getElem_range] at he
  omega)
theorem kids_set (f : Kids) (b : Nat) (r : Option (Int × Int)) (hb : b < 256) : kidsOf (setK f b r) = lowK f b ++ ((r.map fun r => (b, r)).toList ++ highK f (b + 1)) := by
  rw [kids_at _ b hb, low_set, high_set]
  simp [setK]
/-- The index at which a byte is or would be. -/
theorem idx_of (f : Kids) (b : Nat) (hb : b ≤ 256) : (kidsOf f).findIdx (fun x => decide (b ≤ x.1)) = (lowK f b).length := by
  rw [kids_split f b hb, List.findIdx_append]
  have h1 : (lowK f b).findIdx (fun x => decide (b ≤ x.1)) = (lowK f b).length := List.findIdx_eq_length.2 (fun x hx => by have := mem_low hx; simp; omega)
  rw [h1]
  simp only [Nat.lt_irrefl, if_false]
  cases hh : highK f b with
  | nil => simp
  | cons y l =>
    have := (mem_high (f := f) (b := b) (x := y) (by rw [hh]; simp)).1
    rw [List.findIdx_cons]
    simp [this]
end Go.Proofs.Ytagcbihjejjmnaa
