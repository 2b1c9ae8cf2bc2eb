/-
  Rows of jobs in memory: each an owned row, in blocks of their own; later rows that have lost heads.
-/
import Derived.Test.YtlmehmmdbdembaaNextW
namespace Go.Proofs.Ytlmehmmdbdembaa
open Go.RowKit
set_option linter.unusedVariables false

/-- Rows that are only appended to. -/
structure Rows1 (W : World) (base gr : Nat) (rows : List (List Job)) (vs : List Value) : Prop where
  len : vs.length = rows.length
  blk : Blk W gr 70 vs.toArray
  own : ∀ (k : Nat) (js : List Job) (v : Value), rows[k]? = some js → vs[k]? = some v → W.ownsRow base 72 3 v js.length (js.flatMap Job.row)
  apart : ∀ (k k' : Nat) (v v' : Value) (b : Nat), vs[k]? = some v → vs[k']? = some v' → v.ownBlock = some b → v'.ownBlock = some b → k = k'

theorem Rows1.alloc {W : World} {base gr : Nat} {rows : List (List Job)} {vs : List Value} (h : Rows1 W base gr rows vs) (o : Obj) : Rows1 (W.alloc o) base gr rows vs :=
  ⟨h.len, h.blk.alloc o, fun k js v h1 h2 => (h.own k js v h1 h2).alloc o, h.apart⟩
theorem Rows1.drew {W : World} {base gr : Nat} {rows : List (List Job)} {vs : List Value} (h : Rows1 W base gr rows vs) : Rows1 W.drew base gr rows vs :=
  ⟨h.len, h.blk.drew, fun k js v h1 h2 => h.own k js v h1 h2, h.apart⟩
theorem ownsRow_below {W W' : World} {B base size n : Nat} {e : TypeId} {v : Value} {xs : List Value} (h : W.ownsRow base e size v n xs) (hb : Below B W W') (hB : W.heap.size ≤ B) : W'.ownsRow base e size v n xs :=
  h.kept (row := none) ⟨hb.os, hb.tape, hb.output, hb.size, fun k hk _ => hb.block k (by omega)⟩ (by cases hv : v.ownBlock <;> simp)
theorem Rows1.below {W W' : World} {base gr : Nat} {rows : List (List Job)} {vs : List Value} (h : Rows1 W base gr rows vs) (hb : Below W.heap.size W W') : Rows1 W' base gr rows vs :=
  ⟨h.len, h.blk.below hb h.blk.lt, fun k js v h1 h2 => ownsRow_below (h.own k js v h1 h2) hb (Nat.le_refl _), h.apart⟩

theorem job_rows_snoc (js : List Job) (j : Job) : (js ++ [j]).flatMap Job.row = js.flatMap Job.row ++ j.row := by simp [List.flatMap_append]

/-- One job more in a row. -/
theorem Rows1.append {W w1 : World} {base gr k g cap : Nat} {rows : List (List Job)} {vs : List Value} {v : Value} {js : List Job} {j : Job} (h : Rows1 W base gr rows vs) (hgr : gr < base)
    (hk : rows[k]? = some js) (hv : vs[k]? = some v) (hg : W.grownBy w1 v.ownBlock) (ho : w1.ownsRow base 72 3 (.slice (some ⟨g, 0, none⟩) (js.length + 1) cap) (js.length + 1) (js.flatMap Job.row ++ j.row))
    (hw : v.ownBlock = some g ∨ g = W.heap.size) : Rows1 (w1.setCell ⟨gr, k, none⟩ (.slice (some ⟨g, 0, none⟩) (js.length + 1) cap)) base gr (rows.set k (js ++ [j])) (vs.set k (.slice (some ⟨g, 0, none⟩) (js.length + 1) cap)) := by
  have hkv : k < vs.length := (List.getElem?_eq_some_iff.1 hv).1
  have hne : some gr ≠ v.ownBlock := by
    intro e
    have := ((h.own k js v hk hv).lt gr e.symm).1
    omega
  refine ⟨by simp [h.len], ?_, ?_, ?_⟩
  · have := (h.blk.grown hg hne).set_ k (.slice (some ⟨g, 0, none⟩) (js.length + 1) cap)
    rw [List.setIfInBounds_toArray] at this
    exact this
  · intro k' js' v' h1 h2
    by_cases e : k' = k
    · subst e
      rw [List.getElem?_set_self (by rw [← h.len]; exact hkv)] at h1
      rw [List.getElem?_set_self hkv] at h2
      simp only [Option.some.injEq] at h1 h2
      subst h1 h2
      rw [job_rows_snoc, List.length_append]
      exact ownsRow_setCell_below ho hgr _
    · rw [List.getElem?_set_ne (by omega)] at h1 h2
      have h3 := h.own k' js' v' h1 h2
      refine ownsRow_setCell_below (h3.kept hg ?_) hgr _
      cases hb : v'.ownBlock with
      | none => exact Or.inl rfl
      | some b => exact Or.inr (fun e2 => e (h.apart k' k v' v b h2 hv hb e2.symm))
  · intro a b va vb x h1 h2 h3 h4
    by_cases ea : a = k
    · by_cases eb : b = k
      · omega
      · subst ea
        rw [List.getElem?_set_self hkv] at h1
        simp only [Option.some.injEq] at h1
        subst h1
        rw [List.getElem?_set_ne (by omega)] at h2
        simp only [Value.ownBlock, Option.some.injEq] at h3
        subst h3
        have hlen : b < rows.length := by rw [← h.len]; exact (List.getElem?_eq_some_iff.1 h2).1
        rcases hw with hw | hw
        · exact h.apart _ _ _ _ _ hv h2 hw h4
        · have := ((h.own b _ vb (List.getElem?_eq_getElem hlen) h2).lt g h4).2
          omega
    · by_cases eb : b = k
      · subst eb
        rw [List.getElem?_set_self hkv] at h2
        simp only [Option.some.injEq] at h2
        subst h2
        rw [List.getElem?_set_ne (by omega)] at h1
        simp only [Value.ownBlock, Option.some.injEq] at h4
        subst h4
        have hlen : a < rows.length := by rw [← h.len]; exact (List.getElem?_eq_some_iff.1 h1).1
        rcases hw with hw | hw
        · exact h.apart _ _ _ _ _ h1 hv h3 hw
        · have := ((h.own a _ va (List.getElem?_eq_getElem hlen) h1).lt g h3).2
          omega
      · rw [List.getElem?_set_ne (by omega)] at h1 h2
        exact h.apart _ _ _ _ _ h1 h2 h3 h4

/-- A row that may have lost heads; its block lies from base on, before top. -/
def Row2 (W : World) (base top : Nat) (v : Value) (js : List Job) : Prop :=
  ∃ A c, v = .slice A js.length c ∧ js.length ≤ c ∧ c ≤ maxLen ∧ (0 < js.length → ∃ b off cs, A = some ⟨b, off, none⟩ ∧ base ≤ b ∧ b < top ∧ Blk W b 72 cs ∧ ∀ i u, (js.flatMap Job.row)[i]? = some u → cs[off + i]? = some u)
structure Rows2 (W : World) (base top gr : Nat) (rows : List (List Job)) (vs : List Value) : Prop where
  len : vs.length = rows.length
  blk : Blk W gr 70 vs.toArray
  row : ∀ (k : Nat) (js : List Job) (v : Value), rows[k]? = some js → vs[k]? = some v → Row2 W base top v js
  apart : ∀ (k k' : Nat) (v v' : Value) (b : Nat), vs[k]? = some v → vs[k']? = some v' → v.ownBlock = some b → v'.ownBlock = some b → k = k'

theorem Row2.of_own {W : World} {base : Nat} {v : Value} {js : List Job} (h : W.ownsRow base 72 3 v js.length (js.flatMap Job.row)) : Row2 W base W.heap.size v js := by
  rcases h.2 with ⟨h0, h1⟩ | ⟨g, cap, cur, hv, hb, hh, hn, hc, hs, ht⟩
  · exact ⟨none, 0, by rw [h1]; exact h0, by omega, Nat.zero_le _, fun h => by omega⟩
  · refine ⟨_, cap, hv, hn, hc, fun _ => ⟨g, 0, cur, rfl, hb, Blk.lt (t := 72) (cs := cur) hh, hh, fun i u hu => ?_⟩⟩
    rw [← ht] at hu
    rw [List.getElem?_take] at hu
    split at hu
    · rw [Nat.zero_add, ← Array.getElem?_toList]; exact hu
    · cases hu
theorem Rows2.of_rows1 {W : World} {base gr : Nat} {rows : List (List Job)} {vs : List Value} (h : Rows1 W base gr rows vs) : Rows2 W base W.heap.size gr rows vs :=
  ⟨h.len, h.blk, fun k js v h1 h2 => Row2.of_own (h.own k js v h1 h2), h.apart⟩

theorem Rows2.slices {W : World} {base top gr : Nat} {rows : List (List Job)} {vs : List Value} (h : Rows2 W base top gr rows vs) : Slices vs (rows.map List.length) := by
  refine ⟨by simp [h.len], fun k n hk => ?_⟩
  simp only [List.getElem?_map, Option.map_eq_some_iff] at hk
  obtain ⟨js, hjs, rfl⟩ := hk
  have hlt : k < vs.length := by rw [h.len]; exact (List.getElem?_eq_some_iff.1 hjs).1
  obtain ⟨A, c, hv, _⟩ := h.row k js _ hjs (List.getElem?_eq_getElem hlt)
  exact ⟨A, c, by rw [List.getElem?_eq_getElem hlt, hv]⟩
theorem Rows2.drew {W : World} {base top gr : Nat} {rows : List (List Job)} {vs : List Value} (h : Rows2 W base top gr rows vs) : Rows2 W.drew base top gr rows vs :=
  ⟨h.len, h.blk.drew, fun k js v h1 h2 => h.row k js v h1 h2, h.apart⟩
theorem Row2.kept {W W' : World} {base top : Nat} {v : Value} {js : List Job} (h : Row2 W base top v js) (hk : ∀ b, v.ownBlock = some b → base ≤ b → b < top → W'.heap[b]? = W.heap[b]?) : Row2 W' base top v js := by
  obtain ⟨A, c, hv, h1, h2, h3⟩ := h
  refine ⟨A, c, hv, h1, h2, fun hpos => ?_⟩
  obtain ⟨b, off, cs, hA, hb, ht, hbl, hc⟩ := h3 hpos
  exact ⟨b, off, cs, hA, hb, ht, (hk b (by rw [hv, hA]; rfl) hb ht).trans hbl, hc⟩
/-- What lies before top stays: the rows stay. -/
theorem Rows2.kept {W W' : World} {base top gr : Nat} {rows : List (List Job)} {vs : List Value} (h : Rows2 W base top gr rows vs) (hgr : gr < top) (hk : ∀ b, b < top → W'.heap[b]? = W.heap[b]?) : Rows2 W' base top gr rows vs :=
  ⟨h.len, (hk gr hgr).trans h.blk, fun k js v h1 h2 => (h.row k js v h1 h2).kept fun b _ _ hb => hk b hb, h.apart⟩

/-- The head of a row that is not empty. -/
theorem Rows2.head {W : World} {base top gr k : Nat} {rows : List (List Job)} {vs : List Value} {j : Job} {js : List Job} (h : Rows2 W base top gr rows vs) (hk : rows[k]? = some (j :: js)) :
    ∃ b off c, vs[k]? = some (.slice (some ⟨b, off, none⟩) (js.length + 1) c) ∧ js.length + 1 ≤ c ∧ c ≤ maxLen ∧ base ≤ b ∧ b < top ∧ W.cell? ⟨gr, k, none⟩ = some (.slice (some ⟨b, off, none⟩) (js.length + 1) c) ∧
      W.cell? ⟨b, off, none⟩ = some (.int .i64 j.entry) ∧ W.cell? ⟨b, off + 1, none⟩ = some (.int .i64 j.left) ∧ W.cell? ⟨b, off + 2, none⟩ = some (.int .i64 j.start) ∧ W.frozen? ⟨b, off, none⟩ = false ∧ W.frozen? ⟨b, off + 1, none⟩ = false ∧ W.frozen? ⟨b, off + 2, none⟩ = false := by
  have hlt : k < vs.length := by rw [h.len]; exact (List.getElem?_eq_some_iff.1 hk).1
  obtain ⟨A, c, hv, h1, h2, h3⟩ := h.row k _ _ hk (List.getElem?_eq_getElem hlt)
  obtain ⟨b, off, cs, rfl, hb, ht, hbl, hc⟩ := h3 (by simp)
  have hv' : vs[k]? = some (.slice (some ⟨b, off, none⟩) (js.length + 1) c) := by rw [List.getElem?_eq_getElem hlt, hv]; rfl
  refine ⟨b, off, c, hv', by simpa using h1, h2, hb, ht, ?_, ?_, ?_, ?_, hbl.frozen _, hbl.frozen _, hbl.frozen _⟩
  · rw [h.blk.cell, List.getElem?_toArray]; exact hv'
  · rw [hbl.cell]; exact hc 0 _ (by simp [Job.row])
  · rw [hbl.cell]; exact hc 1 _ (by simp [Job.row])
  · rw [hbl.cell]; exact hc 2 _ (by simp [Job.row])

/-- The same of a head whose slice is known. -/
theorem Rows2.headAt {W : World} {base top gr k b off c : Nat} {rows : List (List Job)} {vs : List Value} {j : Job} {js : List Job} (h : Rows2 W base top gr rows vs) (hk : rows[k]? = some (j :: js)) (hv : vs[k]? = some (.slice (some ⟨b, off, none⟩) (js.length + 1) c)) :
    W.cell? ⟨b, off, none⟩ = some (.int .i64 j.entry) ∧ W.cell? ⟨b, off + 1, none⟩ = some (.int .i64 j.left) ∧ W.cell? ⟨b, off + 2, none⟩ = some (.int .i64 j.start) ∧ W.frozen? ⟨b, off, none⟩ = false ∧ W.frozen? ⟨b, off + 1, none⟩ = false ∧ W.frozen? ⟨b, off + 2, none⟩ = false := by
  obtain ⟨b', off', c', hv', _, _, _, _, _, e⟩ := h.head hk
  rw [hv] at hv'
  simp only [Option.some.injEq, Value.slice.injEq, Addr.mk.injEq] at hv'
  obtain ⟨⟨rfl, rfl, _⟩, _, _⟩ := hv'
  exact e
theorem List.set_getElem?_self_eq {α : Type} {l : List α} {k : Nat} {x : α} (h : l[k]? = some x) : l.set k x = l := by
  obtain ⟨hk, rfl⟩ := List.getElem?_eq_some_iff.1 h
  exact List.set_getElem_self hk

/-- A field of a row's head is set. -/
theorem Rows2.setHead {W : World} {base top gr k b off c i : Nat} {rows : List (List Job)} {vs : List Value} {j j' : Job} {js : List Job} {u : Value} (h : Rows2 W base top gr rows vs) (hgr : gr < base) (hk : rows[k]? = some (j :: js))
    (hv : vs[k]? = some (.slice (some ⟨b, off, none⟩) (js.length + 1) c)) (hi : i < 3) (hj : j'.row = j.row.set i u) : Rows2 (W.setCell ⟨b, off + i, none⟩ u) base top gr (rows.set k (j' :: js)) vs := by
  have hkl : k < rows.length := (List.getElem?_eq_some_iff.1 hk).1
  have hbb : base ≤ b ∧ b < top := by
    obtain ⟨A, c', hv', _, _, h3⟩ := h.row k _ _ hk hv
    obtain ⟨b', off', cs, hA, hb, ht, _⟩ := h3 (by simp)
    rw [hA] at hv'
    simp only [Value.slice.injEq, Option.some.injEq, Addr.mk.injEq] at hv'
    omega
  refine ⟨by simp [h.len], h.blk.far (by simp; omega) u, ?_, h.apart⟩
  intro k' js' v' h1 h2
  by_cases e : k' = k
  · subst e
    rw [List.getElem?_set_self hkl] at h1
    simp only [Option.some.injEq] at h1
    subst h1
    rw [hv] at h2
    simp only [Option.some.injEq] at h2
    subst h2
    obtain ⟨A, c', hv', e1, e2, h3⟩ := h.row k' _ _ hk hv
    obtain ⟨b', off', cs, hA, hb, ht, hbl, hc⟩ := h3 (by simp)
    rw [hA] at hv'
    simp only [Value.slice.injEq, Option.some.injEq, Addr.mk.injEq] at hv'
    obtain ⟨⟨rfl, rfl, _⟩, _, rfl⟩ := hv'
    refine ⟨_, c, rfl, by simpa using e1, e2, fun _ => ⟨b, off, _, rfl, hb, ht, hbl.set_ (off + i) u, fun n x hx => ?_⟩⟩
    simp only [List.flatMap_cons, hj] at hx
    by_cases en : n = i
    · subst en
      have h4 : off + n < cs.size := by
        have : ((j :: js).flatMap Job.row)[n]? = some (((j :: js).flatMap Job.row)[n]'(by simp [Job.row]; omega)) := List.getElem?_eq_getElem _
        exact (Array.getElem?_eq_some_iff.1 (hc n _ this)).1
      rw [List.getElem?_append_left (by simp [Job.row]; omega), List.getElem?_set_self (by simp [Job.row]; omega)] at hx
      rw [← hx]
      simp [h4]
    · rw [Array.getElem?_setIfInBounds_ne (by omega)]
      refine hc n x ?_
      simp only [List.flatMap_cons]
      rw [List.getElem?_append] at hx ⊢
      simp only [List.length_set] at hx
      split
      · rename_i hlt
        rw [if_pos hlt, List.getElem?_set_ne (by omega)] at hx
        exact hx
      · rename_i hlt
        rw [if_neg hlt] at hx
        exact hx
  · rw [List.getElem?_set_ne (by omega)] at h1
    refine (h.row k' js' v' h1 h2).kept fun b' hb' _ _ => Below.heap_setCell _ _ _ _ ?_
    intro eb
    simp only at eb
    subst eb
    exact e (h.apart k' k v' _ b' h2 hv hb' rfl)

/-- A row without its head. -/
theorem Rows2.dropHead {W : World} {base top gr k b off c : Nat} {rows : List (List Job)} {vs : List Value} {j : Job} {js : List Job} {A : Option Addr} (h : Rows2 W base top gr rows vs) (hgr : gr < base) (hk : rows[k]? = some (j :: js))
    (hv : vs[k]? = some (.slice (some ⟨b, off, none⟩) (js.length + 1) c)) (hA : A = if c = 1 then some ⟨b, off, none⟩ else some ⟨b, off + 3, none⟩) :
    Rows2 (W.setCell ⟨gr, k, none⟩ (.slice A js.length (c - 1))) base top gr (rows.set k js) (vs.set k (.slice A js.length (c - 1))) := by
  have hkl : k < rows.length := (List.getElem?_eq_some_iff.1 hk).1
  have hkv : k < vs.length := (List.getElem?_eq_some_iff.1 hv).1
  have hown : ∀ x, (Value.slice A js.length (c - 1)).ownBlock = some x → x = b := by
    intro x hx
    rw [hA] at hx
    split at hx <;> simp [Value.ownBlock] at hx <;> exact hx.symm
  refine ⟨by simp [h.len], ?_, ?_, ?_⟩
  · have := h.blk.set_ k (.slice A js.length (c - 1))
    rw [List.setIfInBounds_toArray] at this
    exact this
  · intro k' js' v' h1 h2
    by_cases e : k' = k
    · subst e
      rw [List.getElem?_set_self hkl] at h1
      rw [List.getElem?_set_self hkv] at h2
      simp only [Option.some.injEq] at h1 h2
      subst h1 h2
      obtain ⟨A', c', hv', e1, e2, h3⟩ := h.row k' _ _ hk hv
      obtain ⟨b', off', cs, hA', hb, ht, hbl, hc⟩ := h3 (by simp)
      rw [hA'] at hv'
      simp only [Value.slice.injEq, Option.some.injEq, Addr.mk.injEq] at hv'
      obtain ⟨⟨rfl, rfl, _⟩, _, rfl⟩ := hv'
      simp only [List.length_cons] at e1
      refine ⟨A, c - 1, rfl, by omega, by omega, fun hpos => ⟨b, off + 3, cs, by rw [hA, if_neg (by omega)], hb, ht, hbl.far (by simp; omega) _, fun i u hu => ?_⟩⟩
      have := hc (3 + i) u (by
        simp only [List.flatMap_cons]
        rw [List.getElem?_append_right (by simp [Job.row])]
        simpa [Job.row] using hu)
      rw [show off + 3 + i = off + (3 + i) by omega]
      exact this
    · rw [List.getElem?_set_ne (by omega)] at h1 h2
      exact (h.row k' js' v' h1 h2).kept fun b' _ hb' _ => Below.heap_setCell _ _ _ _ (by simp; omega)
  · intro a a' va va' x h1 h2 h3 h4
    have key : ∀ (a : Nat) (va : Value), (vs.set k (.slice A js.length (c - 1)))[a]? = some va → va.ownBlock = some x → ∃ va0, vs[a]? = some va0 ∧ va0.ownBlock = some x := by
      intro a va ha hx
      by_cases e : a = k
      · subst e
        rw [List.getElem?_set_self hkv] at ha
        simp only [Option.some.injEq] at ha
        subst ha
        exact ⟨_, hv, by rw [hown x hx]; rfl⟩
      · rw [List.getElem?_set_ne (by omega)] at ha
        exact ⟨va, ha, hx⟩
    obtain ⟨v1, p1, p2⟩ := key a va h1 h3
    obtain ⟨v2, q1, q2⟩ := key a' va' h2 h4
    exact h.apart a a' v1 v2 x p1 q1 p2 q2
end Go.Proofs.Ytlmehmmdbdembaa
