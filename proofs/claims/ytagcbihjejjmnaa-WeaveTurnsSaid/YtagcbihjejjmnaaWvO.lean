/-
  Slices that may begin within their block; appending to one.
-/
import Derived.Test.YtagcbihjejjmnaaBase
import Derived.ArgAppend
namespace Go.Proofs.Ytagcbihjejjmnaa
open Go.RowKit
set_option linter.unusedVariables false
set_option linter.unusedSimpArgs false

/-- The slice value v holds xs (elements of one cell) in a block from base B on, wherever it begins there; it may be written up to its capacity. -/
def Off (W : World) (B : Nat) (e : TypeId) (v : Value) (xs : List Value) : Prop :=
  (v = .slice none 0 0 ∧ xs = []) ∨ ∃ g o cap, ∃ cur : Array Value, v = .slice (some ⟨g, o, none⟩) xs.length cap ∧ B ≤ g ∧ Blk W g e cur ∧ xs.length ≤ cap ∧ cap ≤ maxLen ∧ o + cap ≤ cur.size ∧ ∀ (j : Nat) (u : Value), xs[j]? = some u → cur[o + j]? = some u
section
variable {W W' : World} {B : Nat} {e : TypeId} {v : Value} {xs : List Value}
theorem Off.same (h : Off W B e v xs) (hb : ∀ g, v.ownBlock = some g → W'.heap[g]? = W.heap[g]?) : Off W' B e v xs := by
  rcases h with h | ⟨g, o, cap, cur, rfl, h1, h2, h3⟩
  · exact .inl h
  · exact .inr ⟨g, o, cap, cur, rfl, h1, (hb g rfl).trans h2, h3⟩
theorem Off.lt (h : Off W B e v xs) {g : Nat} (hg : v.ownBlock = some g) : B ≤ g ∧ g < W.heap.size ∧ ∃ cs, Blk W g e cs := by
  rcases h with ⟨rfl, _⟩ | ⟨g', o, cap, cur, rfl, h1, h2, h3⟩
  · cases hg
  · simp only [Value.ownBlock, Option.some.injEq] at hg
    subst hg
    exact ⟨h1, h2.lt, cur, h2⟩
theorem Off.below (h : Off W B e v xs) (hb : Below W.heap.size W W') : Off W' B e v xs := h.same fun g hg => hb.block g (h.lt hg).2.1
theorem Off.nil_ (W : World) (B : Nat) (e : TypeId) : Off W B e (.slice none 0 0) [] := .inl ⟨rfl, rfl⟩
theorem Off.of_own {n : Nat} (h : W.ownsRow B e 1 v n xs) : Off W B e v xs := by
  have hl := h.1
  rw [Nat.mul_one] at hl
  rcases h.2 with ⟨h0, h1⟩ | ⟨g, cap, cur, hv, hb, hh, hn, hc, hs, ht⟩
  · subst h1
    exact .inl ⟨h0, List.eq_nil_of_length_eq_zero hl⟩
  · subst hl
    refine .inr ⟨g, 0, cap, cur, hv, hb, hh, hn, hc, by omega, fun j u hj => ?_⟩
    have hjl := (List.getElem?_eq_some_iff.1 hj).1
    rw [← ht, Nat.mul_one, List.getElem?_take_of_lt hjl] at hj
    rw [Nat.zero_add, ← hj, Array.getElem?_toList]
theorem Off.form (h : Off W B e v xs) : ∃ A c, v = .slice A xs.length c ∧ (A = none → xs.length = 0 ∧ c = 0) ∧ xs.length ≤ c ∧ c ≤ maxLen := by
  rcases h with ⟨rfl, rfl⟩ | ⟨g, o, cap, cur, rfl, h1, h2, h3, h4, h5⟩
  · exact ⟨none, 0, rfl, fun _ => ⟨rfl, rfl⟩, Nat.le_refl _, Nat.zero_le _⟩
  · exact ⟨_, cap, rfl, (fun h => by cases h), h3, h4⟩
theorem Off.formL (h : Off W B e v xs) : ∃ A n c, v = .slice A n c := by
  obtain ⟨A, c, h1, _⟩ := h.form
  exact ⟨A, _, c, h1⟩
/-- A cell of it. -/
theorem Off.cell {A : Option Addr} {n c j : Nat} {u : Value} (h : Off W B e (.slice A n c) xs) (hj : xs[j]? = some u) : ∃ g o, A = some ⟨g, o, none⟩ ∧ g < W.heap.size ∧ n = xs.length ∧ W.cell? ⟨g, o + j, none⟩ = some u := by
  rcases h with ⟨_, rfl⟩ | ⟨g, o, cap, cur, hv, h1, h2, h3, h4, h5, h6⟩
  · simp at hj
  · injection hv with a b c'
    subst a b
    exact ⟨g, o, rfl, h2.lt, rfl, (h2.cell _).trans (h6 j u hj)⟩
/-- The first element is cut off. -/
theorem Off.tail {g o c n : Nat} {x : Value} {r : List Value} (h : Off W B e (.slice (some ⟨g, o, none⟩) n c) (x :: r)) : Off W B e (.slice (some ⟨g, o + 1, none⟩) r.length (c - 1)) r ∧ 1 ≤ c ∧ n = r.length + 1 := by
  rcases h with ⟨hv, _⟩ | ⟨g', o', cap, cur, hv, h1, h2, h3, h4, h5, h6⟩
  · cases hv
  · injection hv with a b c'
    injection a with a
    injection a with a1 a2
    subst a1 a2 c'
    simp only [List.length_cons] at h3 b
    refine ⟨.inr ⟨g, o + 1, c - 1, cur, rfl, h1, h2, by omega, by omega, by omega, fun j u hj => ?_⟩, by omega, b⟩
    have := h6 (j + 1) u (by rw [List.getElem?_cons_succ]; exact hj)
    rw [show o + 1 + j = o + (j + 1) by omega]
    exact this
/-- .. where the capacity is one, the address stays. -/
theorem Off.tail1 {g o n : Nat} {x : Value} {r : List Value} (h : Off W B e (.slice (some ⟨g, o, none⟩) n 1) (x :: r)) : Off W B e (.slice (some ⟨g, o, none⟩) 0 0) r ∧ r = [] ∧ n = 1 := by
  rcases h with ⟨hv, _⟩ | ⟨g', o', cap, cur, hv, h1, h2, h3, h4, h5, h6⟩
  · cases hv
  · injection hv with a b c'
    injection a with a
    injection a with a1 a2
    subst a1 a2 c'
    simp only [List.length_cons] at h3 b
    have hr : r.length = 0 := by omega
    have hr' := List.eq_nil_of_length_eq_zero hr
    subst hr'
    exact ⟨.inr ⟨g, o, 0, cur, rfl, h1, h2, by simp, by unfold maxLen; omega, by omega, fun j u hj => by simp at hj⟩, rfl, by simpa using b⟩
end
theorem grown_set (w : World) (g i : Nat) (v : Value) : w.grownBy (w.setCell ⟨g, i, none⟩ v) (some g) :=
  ⟨rfl, rfl, rfl, by simp [World.setCell], fun k _ hk => Below.heap_setCell w _ v k (fun e => hk (by rw [show k = g from e]))⟩
section
variable {P : Program} {w : World}
theorem run_append_off (t ty e : TypeId) (i : TypeInfo) (z : Value) (B bytes : Nat) (ht : P.underlying t = some (.slice e)) (hi : P.info? e = some i) (hz : i.zero = some z)
    (hsize : i.size = 1) (hby : i.bytes = bytes) (hzs : z.cells.size = 1) (v : Value) (xs : List Value) (hoff : Off w B e v xs)
    (ad : Addr) (c : Nat) (u : Value) (hu : w.cell? ad = some u) (h1 : u.oneCell' = true)
    (h63 : xs.length + 1 ≤ maxLen) (hbytes : (xs.length + 1) * bytes ≤ 140737488355328) (hbase : B ≤ w.heap.size) :
    ∃ v' w', (Builtin.append_ #[t, t] ty #[v, .slice (some ad) 1 c]).run P w = .ok v' w' ∧ Off w' B e v' (xs ++ [u]) ∧ w.grownBy w' v.ownBlock ∧ (v'.ownBlock = v.ownBlock ∨ ∃ g, v'.ownBlock = some g ∧ w.heap.size ≤ g) := by
  have hnews : ∀ j u', [u][j]? = some u' → w.cell? (ad.add j) = some u' := fun j u' hj => by
    have hj0 : j = 0 := by have := (List.getElem?_eq_some_iff.1 hj).1; simpa using this
    subst hj0
    rw [show ad.add 0 = ad by unfold Addr.add; simp]
    rw [hu]
    simpa using hj
  have hone : ∀ u' ∈ [u], u'.oneCell' = true := fun u' hu' => by
    obtain rfl := List.mem_singleton.1 hu'
    exact h1
  rcases hoff with ⟨rfl, rfl⟩ | ⟨g, off, cap, cur, rfl, hb, hh, hn, hc, hsz, hr⟩
  · obtain ⟨v', w', hrun, hown, hg, _⟩ := run_append_own (P := P) w w.heap.size t ty e i z 1 bytes ht hi hz hsize hby hzs (by decide) (.slice none 0 0) 0 [] (World.ownsRow_nil w _ e 1) ad 1 c [u] rfl hnews hone (by unfold maxLen; omega) (by simpa using hbytes) (Nat.le_refl _)
    refine ⟨v', w', hrun, ?_, hg, ?_⟩
    · rcases Off.of_own hown with h0 | ⟨g, o, cap, cur, q1, q2, q3⟩
      · exact .inl h0
      · exact .inr ⟨g, o, cap, cur, q1, Nat.le_trans hbase q2, q3⟩
    · rcases hown.2 with ⟨_, h0⟩ | ⟨g, cap, cur, hv, hb, _⟩
      · omega
      · exact .inr ⟨g, by rw [hv]; rfl, hb⟩
  · by_cases hle : xs.length + 1 ≤ cap
    · have hrun := run_append_room_cells (P := P) w t ty e i ht hi g off xs.length cap ad 1 c [u] (by rw [hsize]; rfl) hnews hone hle (fun j hj => by
        have hj0 : j = 0 := by simpa using hj
        subst hj0
        rw [hh.cell, Array.getElem?_eq_getElem (by rw [hsize]; omega)]
        rfl) (fun j hj => hh.frozen _)
      refine ⟨_, _, hrun, .inr ⟨g, off, cap, cur.setIfInBounds (off + xs.length) u, by rw [List.length_append]; rfl, hb, ?_, by rw [List.length_append]; exact hle, hc, by simpa using hsz, fun j u' hj => ?_⟩, ?_, .inl rfl⟩
      · have := hh.set_ (off + xs.length) u
        rw [hsize, Nat.mul_one]
        exact this
      · by_cases hjl : j < xs.length
        · rw [List.getElem?_append_left hjl] at hj
          rw [Array.getElem?_setIfInBounds_ne (by omega)]
          exact hr j u' hj
        · rw [List.getElem?_append_right (by omega)] at hj
          have hj0 : j - xs.length = 0 := by have := (List.getElem?_eq_some_iff.1 hj).1; simpa using this
          rw [hj0] at hj
          have : j = xs.length := by omega
          subst this
          rw [Array.getElem?_setIfInBounds_self, if_pos (by omega)]
          simpa using hj
      · rw [hsize, Nat.mul_one]
        exact grown_set w g _ u
    · obtain ⟨v', w', hrun, hown, hg⟩ := run_append_arg_grows (P := P) w t ty e i z 1 bytes ht hi hz hsize hby hzs (by decide) ⟨g, off, none⟩ xs.length cap xs (by rw [Nat.mul_one]) (fun j u' hj => by rw [Addr.add_lit]; exact (hh.cell _).trans (hr j u' hj)) ad 1 c [u] rfl hnews (by omega) h63 hbytes
      refine ⟨v', w', hrun, ?_, ⟨hg.os, hg.tape, hg.output, hg.size, fun k hk _ => hg.block k hk (by simp)⟩, ?_⟩
      · rcases Off.of_own hown with h0 | ⟨g, o, cap, cur, q1, q2, q3⟩
        · exact .inl h0
        · exact .inr ⟨g, o, cap, cur, q1, Nat.le_trans hbase q2, q3⟩
      · rcases hown.2 with ⟨_, h0⟩ | ⟨g', cap', cur', hv, hb', _⟩
        · omega
        · exact .inr ⟨g', by rw [hv]; rfl, hb'⟩
theorem wp_append_off {o : Oper} {a : Act} {K : Act → World → Prop} {Q : Exit → Act → World → Prop} (s x : Operand) (t : TypeId)
    (ho : o.op = .call { callee := .builtin .append, args := #[s, x], argTypes := #[t, t] })
    (B : Nat) (e : TypeId) (i : TypeInfo) (z : Value) (bytes : Nat) (ht : P.underlying t = some (.slice e)) (hi : P.info? e = some i) (hz : i.zero = some z)
    (hsize : i.size = 1) (hby : i.bytes = bytes) (hzs : z.cells.size = 1)
    (v : Value) (xs : List Value) (hs : a.eval s = v) (hoff : Off w B e v xs)
    (ad : Addr) (c : Nat) (u : Value) (hx : a.eval x = .slice (some ad) 1 c) (hu : w.cell? ad = some u) (h1 : u.oneCell' = true)
    (h63 : xs.length + 1 ≤ maxLen) (hbytes : (xs.length + 1) * bytes ≤ 140737488355328) (hbase : B ≤ w.heap.size)
    (h : ∀ v' w', Off w' B e v' (xs ++ [u]) → w.grownBy w' v.ownBlock → (v'.ownBlock = v.ownBlock ∨ ∃ g, v'.ownBlock = some g ∧ w.heap.size ≤ g) → K (a.put o.dst v') w') : Oper.wp P o a w K Q := by
  obtain ⟨v', w', hrun, r1, r2, r3⟩ := run_append_off (P := P) t o.type e i z B bytes ht hi hz hsize hby hzs v xs hoff ad c u hu h1 h63 hbytes hbase
  unfold Oper.wp
  simp [execOp, ho, resolve, invoke, builtin, hs, hx, hrun, Result.andThen]
  exact h v' w' r1 r2 r3
theorem wpList_append_off {ops : Array Oper} {rest : List Oper} {o : Oper} {a : Act} {Q : Exit → Act → World → Prop} (hgd : o.guard = none) (s x : Operand) (t : TypeId)
    (ho : o.op = .call { callee := .builtin .append, args := #[s, x], argTypes := #[t, t] })
    (B : Nat) (e : TypeId) (i : TypeInfo) (z : Value) (bytes : Nat) (ht : P.underlying t = some (.slice e)) (hi : P.info? e = some i) (hz : i.zero = some z)
    (hsize : i.size = 1) (hby : i.bytes = bytes) (hzs : z.cells.size = 1)
    (v : Value) (xs : List Value) (hs : a.eval s = v) (hoff : Off w B e v xs)
    (ad : Addr) (c : Nat) (u : Value) (hx : a.eval x = .slice (some ad) 1 c) (hu : w.cell? ad = some u) (h1 : u.oneCell' = true)
    (h63 : xs.length + 1 ≤ maxLen) (hbytes : (xs.length + 1) * bytes ≤ 140737488355328) (hbase : B ≤ w.heap.size)
    (h : ∀ v' w', Off w' B e v' (xs ++ [u]) → w.grownBy w' v.ownBlock → (v'.ownBlock = v.ownBlock ∨ ∃ g, v'.ownBlock = some g ∧ w.heap.size ≤ g) → wpList P ops Q rest (a.put o.dst v') w') : wpList P ops Q (o :: rest) a w :=
  wpList_plain hgd fun _ hK => wp_append_off s x t ho B e i z bytes ht hi hz hsize hby hzs v xs hs hoff ad c u hx hu h1 h63 hbytes hbase fun v' w' h2 h3 h4 => hK _ _ (h v' w' h2 h3 h4)
/-- At a step of a region that draws its order. -/
theorem step_append_off {ops : Array Oper} {o : Oper} {a : Act} {K : Act → World → Prop} {Q : Exit → Act → World → Prop} {E : Prop} (hgd : o.guard = none) (s x : Operand) (t : TypeId)
    (ho : o.op = .call { callee := .builtin .append, args := #[s, x], argTypes := #[t, t] })
    (B : Nat) (e : TypeId) (i : TypeInfo) (z : Value) (bytes : Nat) (ht : P.underlying t = some (.slice e)) (hi : P.info? e = some i) (hz : i.zero = some z)
    (hsize : i.size = 1) (hby : i.bytes = bytes) (hzs : z.cells.size = 1)
    (v : Value) (xs : List Value) (hs : a.eval s = v) (hoff : Off w B e v xs)
    (ad : Addr) (c : Nat) (u : Value) (hx : a.eval x = .slice (some ad) 1 c) (hu : w.cell? ad = some u) (h1 : u.oneCell' = true)
    (h63 : xs.length + 1 ≤ maxLen) (hbytes : (xs.length + 1) * bytes ≤ 140737488355328) (hbase : B ≤ w.heap.size)
    (h : ∀ v' w', Off w' B e v' (xs ++ [u]) → w.grownBy w' v.ownBlock → (v'.ownBlock = v.ownBlock ∨ ∃ g, v'.ownBlock = some g ∧ w.heap.size ≤ g) → K (a.put o.dst v') w') :
    if Region.wanted o (yielded ops a.tmps) = true then Oper.wp P o a w K Q else E := by
  have hw : Region.wanted o (yielded ops a.tmps) = true := by simp [Region.wanted, hgd]
  rw [if_pos hw]
  exact wp_append_off s x t ho B e i z bytes ht hi hz hsize hby hzs v xs hs hoff ad c u hx hu h1 h63 hbytes hbase h
end
end Go.Proofs.Ytagcbihjejjmnaa
