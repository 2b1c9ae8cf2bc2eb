/-
  Layer 23: what becomes of a weave in memory.
-/
import Derived.Test.YtagcbihjejjmnaaWvW3
namespace Go.Proofs.Ytagcbihjejjmnaa
open Go.RowKit
set_option linter.unusedVariables false
set_option linter.unusedSimpArgs false

theorem blk_apart {W : World} {i i' : Nat} {t t' : TypeId} {cs cs' : Array Value} (h : Blk W i t cs) (h' : Blk W i' t' cs') (hne : t ≠ t') : i ≠ i' := fun e => by
  subst e
  unfold Blk at h h'
  rw [h] at h'
  injection h' with h'
  injection h' with _ h2
  exact hne h2
/-- Blocks of types that T does not name are as they were, and all below B. -/
structure WKeep (T : TypeId → Prop) (B : Nat) (W W' : World) : Prop where
  below : Below B W W'
  same : ∀ i t cs, Blk W i t cs → ¬ T t → Blk W' i t cs
section
variable {T : TypeId → Prop} {B : Nat} {W W' W'' : World}
theorem WKeep.refl (T : TypeId → Prop) (B : Nat) (W : World) : WKeep T B W W := ⟨Below.refl _ _, fun _ _ _ h _ => h⟩
theorem WKeep.trans (h : WKeep T B W W') (k : WKeep T B W' W'') : WKeep T B W W'' := ⟨h.below.trans k.below, fun i t cs hb ht => k.same i t cs (h.same i t cs hb ht) ht⟩
theorem WKeep.of_below (h : Below W.heap.size W W') (hB : B ≤ W.heap.size) : WKeep T B W W' := ⟨h.mono hB, fun i t cs hb _ => hb.below h hb.lt⟩
theorem WKeep.of_grown {g : Nat} {t : TypeId} {cs : Array Value} (h : W.grownBy W' (some g)) (hg : Blk W g t cs) (ht : T t) (hB : B ≤ g) (hs : B ≤ W.heap.size) : WKeep T B W W' :=
  ⟨(Below.refl B W).grown h hs (fun k hk => by cases hk; exact hB), fun i t' cs' hb ht' => hb.grown h (fun e => by
    injection e with e
    subst e
    by_cases htt : t' = t
    · subst htt; exact ht' ht
    · exact blk_apart hb hg htt rfl)⟩
theorem WKeep.mono {T' : TypeId → Prop} (h : WKeep T B W W') (hT : ∀ t, T t → T' t) : WKeep T' B W W' := ⟨h.below, fun i t cs hb ht => h.same i t cs hb (fun e => ht (hT t e))⟩
end
theorem WKeep.setNew {T : TypeId → Prop} {B g : Nat} {W W' : World} (h : WKeep T B W W') (hg : W.heap.size ≤ g) (hB : B ≤ g) (i : Nat) (v : Value) : WKeep T B W (W'.setCell ⟨g, i, none⟩ v) :=
  ⟨h.below.setCell (p := ⟨g, i, none⟩) hB v, fun k t cs hb ht => (h.same k t cs hb ht).far (p := ⟨g, i, none⟩) (by have := hb.lt; show k ≠ g; omega) v⟩
theorem grown_setP (w : World) (g i : Nat) (v : Value) : w.grownBy (w.setCell ⟨g, i, none⟩ v) (some g) := grown_set w g i v
/-- What a pick writes. -/
def PickT (t : TypeId) : Prop := t = 55 ∨ t = 58 ∨ t = 33
/-- What asking writes. -/
def AskT (t : TypeId) : Prop := t = 55 ∨ t = 58 ∨ t = 28 ∨ t = 3
section
variable {W W' : World} {B p gl S : Nat} {J : List Jb} {k : Int} {vj : Value} {b : Nat → Nat} {r : Nat → Value}
theorem own_blkT {W : World} {base size n g : Nat} {e : TypeId} {v : Value} {xs : List Value} (h : W.ownsRow base e size v n xs) (hg : v.ownBlock = some g) : ∃ cs, Blk W g e cs := by
  rcases h.2 with ⟨rfl, _⟩ | ⟨g', cap, cur, rfl, hb, hh, _⟩
  · cases hg
  · simp only [Value.ownBlock, Option.some.injEq] at hg
    subst hg
    exact ⟨cur, hh⟩
/-- Nothing that is the weave's has been written. -/
theorem WvAt.keepT (h : WvAt W B p gl S J k vj b r) (hk : ∀ i t cs, Blk W i t cs → t = 55 ∨ t = 58 ∨ t = 28 ∨ t = 33 ∨ t = 3 → Blk W' i t cs) : WvAt W' B p gl S J k vj b r := by
  obtain ⟨cs, hl, hl2⟩ := h.l
  refine ⟨hk _ _ _ h.pb (.inl rfl), ⟨cs, hk _ _ _ hl (.inr (.inl rfl)), hl2⟩, own_same2 h.j fun g hg => ?_, fun i x hx => hk _ _ _ (h.c i x hx) (.inr (.inr (.inr (.inl rfl)))), fun s hs => (h.q s hs).same fun g hg => ?_, h.ra, h.ba, h.ge, h.ok, h.S1, h.Jl, h.tl, h.sl⟩
  · obtain ⟨cs, hb⟩ := own_blkT h.j hg
    exact (hk _ _ _ hb (.inr (.inr (.inl rfl)))).trans hb.symm
  · obtain ⟨_, _, cs, hb⟩ := (h.q s hs).lt hg
    exact (hk _ _ _ hb (.inr (.inr (.inr (.inr rfl))))).trans hb.symm
/-- A turn's block is written. -/
theorem WvAt.farT (h : WvAt W B p gl S J k vj b r) {g : Nat} {cs : Array Value} (hg : Blk W g 37 cs) (i : Nat) (v : Value) : WvAt (W.setCell ⟨g, i, none⟩ v) B p gl S J k vj b r :=
  h.keepT fun i' t cs' hb ht => hb.far (p := ⟨g, i, none⟩) (blk_apart hb hg (by rcases ht with rfl | rfl | rfl | rfl | rfl <;> decide)) v
/-- The count of picks is another. -/
theorem WvAt.setP (h : WvAt W B p gl S J k vj b r) (k' : Int) : WvAt (W.setCell ⟨p, 2, none⟩ (.int .i64 k')) B p gl S J k' vj b r := by
  have hne : ∀ i t cs, Blk W i t cs → t ≠ 55 → Blk (W.setCell ⟨p, 2, none⟩ (.int .i64 k')) i t cs := fun i t cs hb ht => hb.far (p := ⟨p, 2, none⟩) (blk_apart hb h.pb ht) _
  have hsame : ∀ i t cs, Blk W i t cs → t ≠ 55 → (W.setCell ⟨p, 2, none⟩ (.int .i64 k')).heap[i]? = W.heap[i]? := fun i t cs hb ht => (hne i t cs hb ht).trans hb.symm
  obtain ⟨cs, hl, hl2⟩ := h.l
  refine ⟨h.pb.set_ 2 _, ⟨cs, hne _ _ _ hl (by decide), hl2⟩, own_same2 h.j fun g hg => ?_, fun i x hx => hne _ _ _ (h.c i x hx) (by decide), fun s hs => (h.q s hs).same fun g hg => ?_, h.ra, h.ba, h.ge, h.ok, h.S1, h.Jl, h.tl, h.sl⟩
  · obtain ⟨cs, hb⟩ := own_blkT h.j hg
    exact hsame _ _ _ hb (by decide)
  · obtain ⟨_, _, cs, hb⟩ := (h.q s hs).lt hg
    exact hsame _ _ _ hb (by decide)
/-- A job has had a pick, and turn has been told. -/
theorem WvAt.pick (h : WvAt W B p gl S J k vj b r) {s n : Nat} {l : List Nat} {j : Jb} (hs : s < S) (hp : pendJ J s = n :: l) (hj : J[n]? = some j) {W1 W2 : World} {m : Nat} (h1 : W1 = (W.setCell ⟨b n, 1, none⟩ (.int .i64 ((j.h : Int) + 1))).drewN m)
    {v : Value} (h2 : W1.grownBy W2 (some gl)) (h3 : ∀ cs, Blk W1 gl 58 cs → Blk W2 gl 58 (turnC s (decide (j.t ≤ j.h + 1)) v cs)) (hv : j.t ≤ j.h + 1 → Off W B 3 v (l.map numV) ∧ v.ownBlock = (r s).ownBlock) :
    WvAt W2 B p gl S (hadJ J n) k vj b (fun s' => if s' = s ∧ j.t ≤ j.h + 1 then v else r s') ∧ WKeep PickT B W W2 := by
  obtain ⟨j', hj', hjs, hjt⟩ := pend_mem.1 (show n ∈ pendJ J s by rw [hp]; simp)
  rw [hj] at hj'
  obtain rfl : j = j' := Option.some.inj hj'
  have hnl : n < J.length := (List.getElem?_eq_some_iff.1 hj).1
  have hc := h.c n j hj
  obtain ⟨cs, hl, hl1, hl2⟩ := h.l
  have k1 : ∀ i t cs', Blk W i t cs' → i ≠ b n → Blk W1 i t cs' := fun i t cs' hb hne => by
    rw [h1]
    exact hb.far (p := ⟨b n, 1, none⟩) hne _
  have k2 : ∀ i t cs', Blk W i t cs' → i ≠ b n → i ≠ gl → Blk W2 i t cs' := fun i t cs' hb hne hng => (k1 i t cs' hb hne).grown h2 (fun e => hng (by injection e))
  have k3 : ∀ i t cs', Blk W i t cs' → i ≠ b n → i ≠ gl → W2.heap[i]? = W.heap[i]? := fun i t cs' hb hne hng => (k2 i t cs' hb hne hng).trans hb.symm
  have hgn : gl ≠ b n := blk_apart hl hc (by decide)
  have hcn : Blk W1 (b n) 33 #[.int .i64 (j.t : Nat), .int .i64 ((j.h : Int) + 1)] := by
    rw [h1]
    exact hc.set_ 1 _
  have hcn2 := hcn.grown h2 (fun e => hgn (by injection e with e; exact e.symm))
  have hB := h.ge
  have hsz : W.heap.size ≤ W1.heap.size := by rw [h1]; simp [World.setCell]
  have hkeep : WKeep PickT B W W2 := by
    have a1 : WKeep PickT B W (W.setCell ⟨b n, 1, none⟩ (.int .i64 ((j.h : Int) + 1))) := WKeep.of_grown (grown_set W (b n) 1 _) hc (.inr (.inr rfl)) (hB.2.2 n hnl) (by have := hc.lt; have := hB.2.2 n hnl; omega)
    have a2 : WKeep PickT B (W.setCell ⟨b n, 1, none⟩ (.int .i64 ((j.h : Int) + 1))) W1 := by
      rw [h1]
      exact WKeep.of_below ⟨rfl, rfl, rfl, Nat.le_refl _, fun _ _ => rfl⟩ (by have := hc.lt; have := hB.2.2 n hnl; simp [World.setCell]; omega)
    have a3 : WKeep PickT B W1 W2 := WKeep.of_grown h2 (k1 _ _ _ hl hgn) (.inr (.inl rfl)) hB.2.1 (by have := hl.lt; omega)
    exact (a1.trans a2).trans a3
  refine ⟨⟨k2 _ _ _ h.pb (blk_apart h.pb hc (by decide)) (blk_apart h.pb hl (by decide)), ?_, ?_, ?_, ?_, ?_, ?_, ?_, h.ok.had hp, h.S1, ?_, ?_, ?_⟩, hkeep⟩
  · have hb := h3 cs (k1 _ _ _ hl hgn)
    refine ⟨_, hb, ?_, fun s' hs' => ?_⟩
    · unfold turnC
      split <;> simpa using hl1
    · have hbg : begJ (hadJ J n) s' = if s' = s then decide (j.h + 1 < j.t) else begJ J s' := by
        by_cases e : s' = s
        · subst e
          rw [if_pos rfl]
          exact beg_had h.ok hp hj
        · rw [if_neg e]
          exact beg_had_other hj (fun e2 => e (e2.symm.trans hjs))
      rw [hbg]
      dsimp only
      unfold turnC
      by_cases hend : j.t ≤ j.h + 1
      · rw [if_pos (decide_eq_true hend)]
        by_cases e : s' = s
        · subst e
          rw [if_pos rfl, decide_eq_false (by omega : ¬ j.h + 1 < j.t)]
          refine ⟨?_, ?_⟩
          · rw [Array.getElem?_setIfInBounds_self, if_pos (by simp; omega), if_pos ⟨rfl, hend⟩]
          · rw [Array.getElem?_setIfInBounds_ne (by omega), Array.getElem?_setIfInBounds_self, if_pos (by omega)]
        · rw [if_neg e]
          refine ⟨?_, ?_⟩
          · rw [Array.getElem?_setIfInBounds_ne (by omega), Array.getElem?_setIfInBounds_ne (by omega), if_neg (fun e2 => e e2.1)]
            exact (hl2 s' hs').1
          · rw [Array.getElem?_setIfInBounds_ne (by omega), Array.getElem?_setIfInBounds_ne (by omega)]
            exact (hl2 s' hs').2
      · rw [if_neg (by simpa using hend)]
        refine ⟨?_, ?_⟩
        · rw [Array.getElem?_setIfInBounds_ne (by omega), if_neg (fun e2 => hend e2.2)]
          exact (hl2 s' hs').1
        · by_cases e : s' = s
          · subst e
            rw [if_pos rfl, decide_eq_true (by omega : j.h + 1 < j.t), Array.getElem?_setIfInBounds_self, if_pos (by omega)]
          · rw [if_neg e, Array.getElem?_setIfInBounds_ne (by omega)]
            exact (hl2 s' hs').2
  · rw [had_len]
    exact own_same2 h.j fun g hg => by
      obtain ⟨cs', hb⟩ := own_blkT h.j hg
      exact k3 _ _ _ hb (blk_apart hb hc (by decide)) (blk_apart hb hl (by decide))
  · intro i x hx
    by_cases e : n = i
    · subst e
      rw [had_get hj] at hx
      obtain rfl := Option.some.inj hx
      exact hcn2
    · rw [had_ne e] at hx
      have hil : i < J.length := (List.getElem?_eq_some_iff.1 hx).1
      exact k2 _ _ _ (h.c i x hx) (fun e2 => e (h.ba n i hnl hil e2.symm)) (blk_apart (h.c i x hx) hl (by decide))
  · intro s' hs'
    have hother : ∀ {v' : Value} {xs : List Value}, Off W B 3 v' xs → Off W2 B 3 v' xs := fun ho => ho.same fun g hg => by
      obtain ⟨_, _, cs', hb⟩ := ho.lt hg
      exact k3 _ _ _ hb (blk_apart hb hc (by decide)) (blk_apart hb hl (by decide))
    by_cases e : s' = s
    · subst e
      rw [pend_had hp hj]
      by_cases hend : j.t ≤ j.h + 1
      · rw [if_pos ⟨rfl, hend⟩, if_neg (by omega)]
        exact hother (hv hend).1
      · rw [if_neg (fun e2 => hend e2.2), if_pos (by omega), ← hp]
        exact hother (h.q s' hs')
    · rw [if_neg (fun e2 => e e2.1), pend_had_other hj (fun e2 => e (e2.symm.trans hjs))]
      exact hother (h.q s' hs')
  · have hbl : ∀ s', (if s' = s ∧ j.t ≤ j.h + 1 then v else r s').ownBlock = (r s').ownBlock := fun s' => by
      split
      · next e =>
        rw [(hv e.2).2, e.1]
      · rfl
    intro s' s'' g a1 a2 a3 a4
    rw [hbl] at a4 ⊢
    exact h.ra s' s'' g a1 a2 a3 a4
  · rw [had_len]
    exact h.ba
  · rw [had_len]
    exact h.ge
  · rw [had_len]
    exact h.Jl
  · intro x hx
    obtain ⟨i, hi⟩ := List.mem_iff_getElem?.1 hx
    by_cases e : n = i
    · subst e
      rw [had_get hj] at hi
      obtain rfl := Option.some.inj hi
      exact h.tl j (List.mem_of_getElem? hj)
    · rw [had_ne e] at hi
      exact h.tl x (List.mem_of_getElem? hi)
  · intro x hx
    obtain ⟨i, hi⟩ := List.mem_iff_getElem?.1 hx
    by_cases e : n = i
    · subst e
      rw [had_get hj] at hi
      obtain rfl := Option.some.inj hi
      exact h.sl j (List.mem_of_getElem? hj)
    · rw [had_ne e] at hi
      exact h.sl x (List.mem_of_getElem? hi)
end
end Go.Proofs.Ytagcbihjejjmnaa
