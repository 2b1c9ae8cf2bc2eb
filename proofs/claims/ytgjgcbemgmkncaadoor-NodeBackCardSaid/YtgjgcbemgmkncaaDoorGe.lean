/-
  Layer 9: what 'of' keeps while it appends.
  Layer 9: of's range over the kids.
  Layer 9: of.
  Layer 9: of.
  Layer 9: kind; what Add and Cut make (no program in sight but for kind).
-/
import Derived.Test.YtgjgcbemgmkncaaDoorGd
namespace Go.Proofs.YtgjgcbemgmkncaaDoor
open Go.RowKit Go.Shelf
set_option linter.unusedVariables false
set_option linter.unusedSimpArgs false

/-- What 'of' calls its own: the node that it makes, and the two rows to which it leads. -/
def ofOwn (b : Nat) (W : World) (k : Nat) : Prop := k = b ∨ (∃ n c, W.cell? ⟨b, 4, none⟩ = some (.slice (some ⟨k, 0, none⟩) n c)) ∨ (∃ n c, W.cell? ⟨b, 5, none⟩ = some (.slice (some ⟨k, 0, none⟩) n c))
theorem ofOwn_same {b : Nat} {W W' : World} (h4 : W'.cell? ⟨b, 4, none⟩ = W.cell? ⟨b, 4, none⟩) (h5 : W'.cell? ⟨b, 5, none⟩ = W.cell? ⟨b, 5, none⟩) {k : Nat} : ofOwn b W' k → ofOwn b W k := by
  unfold ofOwn
  rw [h4, h5]
  exact id
theorem grown_cell {W W' : World} {row : Option Nat} (hg : W.grownBy W' row) {b : Nat} (hb : b < W.heap.size) (hr : row ≠ some b) (o : Nat) : W'.cell? ⟨b, o, none⟩ = W.cell? ⟨b, o, none⟩ :=
  World.cell?_of_block (hg.block b hb (Ne.symm hr))
theorem ofOwn_owns {b B : Nat} (hb : b < B) : Owns B (ofOwn b) := ⟨fun W W' row k hB hg hr h => by
  have hne : row ≠ some b := fun e => by have := hr b e; omega
  exact ofOwn_same (grown_cell hg (by omega) hne 4) (grown_cell hg (by omega) hne 5) h⟩
/-- The node's cells. -/
def outC (k : Int) (p : ByteArray) (v4 v5 : Value) : Array Value := #[.int .i64 k, .string { data := #[] }, .string { data := #[] }, .string p, v4, v5]
theorem ofOwn_blk {W : World} {b : Nat} {t : TypeId} {k : Int} {p : ByteArray} {v4 v5 : Value} (h : Blk W b t (outC k p v4 v5)) (i : Nat) : ofOwn b W i ↔ i = b ∨ (∃ n c, v4 = .slice (some ⟨i, 0, none⟩) n c) ∨ (∃ n c, v5 = .slice (some ⟨i, 0, none⟩) n c) := by
  have h4 : W.cell? ⟨b, 4, none⟩ = some v4 := h.cell 4
  have h5 : W.cell? ⟨b, 5, none⟩ = some v5 := h.cell 5
  unfold ofOwn
  rw [h4, h5]
  simp
theorem own_slice {W : World} {base size n : Nat} {e : TypeId} {v : Value} {xs : List Value} (h : W.ownsRow base e size v n xs) {g : Nat} (hg : v.ownBlock = some g) : ∃ n c, v = .slice (some ⟨g, 0, none⟩) n c := by
  rcases h.2 with ⟨rfl, _⟩ | ⟨g', cap, cur, rfl, _⟩
  · cases hg
  · injection hg with hg
    exact ⟨n, cap, by rw [← hg]⟩
theorem own_two {w : World} {base base' size size' n n' : Nat} {e e' : TypeId} {v v' : Value} {xs xs' : List Value} (h : w.ownsRow base e size v n xs) (h' : w.ownsRow base' e' size' v' n' xs') (hne : e ≠ e') : v.ownBlock = none ∨ v.ownBlock ≠ v'.ownBlock := by
  rcases h.2 with ⟨rfl, _⟩ | ⟨g, cap, cur, rfl, _, hg, _⟩
  · exact .inl rfl
  · refine .inr fun e1 => ?_
    rcases h'.2 with ⟨rfl, _⟩ | ⟨g', cap', cur', rfl, _, hg', _⟩
    · cases e1
    · simp [Value.ownBlock] at e1
      subst e1
      rw [hg] at hg'
      simp at hg'
      exact hne hg'.2
theorem own_blk_ne {w : World} {base size n : Nat} {e : TypeId} {v : Value} {xs : List Value} (h : w.ownsRow base e size v n xs) {g : Nat} {t : TypeId} {cs : Array Value} (hb : Blk w g t cs) (hne : t ≠ e) : some g ≠ v.ownBlock := by
  rcases h.2 with ⟨rfl, _⟩ | ⟨g', cap, cur, rfl, _, hg, _⟩
  · intro e1; cases e1
  · intro e1
    simp [Value.ownBlock] at e1
    subst e1
    unfold Blk at hb
    rw [hg] at hb
    simp at hb
    exact hne hb.2.symm
/-- Between two operations of a round. -/
structure OfP (lo b b9 : Nat) (R : World → Prop) (k : Int) (p : ByteArray) (r : Int × Int) (v4 v5 w4 w5 : Value) (n4 n5 : Nat) (xs4 xs5 : List Value) (W0 W : World) : Prop where
  out : Blk W b 27 (outC k p v4 v5)
  out0 : Blk W0 b 27 (outC k p v4 v5)
  ref : Blk W b9 35 #[.int .i64 r.1, .int .u32 r.2]
  rest : R W
  size : W0.heap.size ≤ W.heap.size
  lo_ : lo ≤ W0.heap.size
  blt : b < lo
  from_ : KeepsFrom lo W0 W
  own : ∀ (j : Nat) (o : Obj), ¬ ofOwn b W0 j → W0.heap[j]? = some o → o.isCells = true → W.heap[j]? = some o
  row4 : W.ownsRow lo 5 1 w4 n4 xs4
  row5 : W.ownsRow lo 35 2 w5 n5 xs5
  old4 : w4.ownBlock = v4.ownBlock ∨ ∃ g, w4.ownBlock = some g ∧ W0.heap.size ≤ g
  old5 : w5.ownBlock = v5.ownBlock ∨ ∃ g, w5.ownBlock = some g ∧ W0.heap.size ≤ g
  was4 : v4.ownBlock = none ∨ ∃ i n c, v4.ownBlock = some i ∧ v4 = .slice (some ⟨i, 0, none⟩) n c
  was5 : v5.ownBlock = none ∨ ∃ i n c, v5.ownBlock = some i ∧ v5 = .slice (some ⟨i, 0, none⟩) n c
  apart : ∀ g, v5.ownBlock = some g → g ≠ b9
  ref0 : b9 < W0.heap.size
section
variable {lo b b9 : Nat} {R : World → Prop} {k : Int} {p : ByteArray} {r : Int × Int} {v4 v5 w4 w5 : Value} {n4 n5 : Nat} {xs4 xs5 : List Value} {W0 W W' : World}
theorem OfP.cells (h : OfP lo b b9 R k p r v4 v5 w4 w5 n4 n5 xs4 xs5 W0 W) : W.cell? ⟨b, 4, none⟩ = some v4 ∧ W.cell? ⟨b, 5, none⟩ = some v5 ∧ W.cell? ⟨b9, 0, none⟩ = some (.int .i64 r.1) ∧ W.cell? ⟨b9, 1, none⟩ = some (.int .u32 r.2) :=
  ⟨h.out.cell 4, h.out.cell 5, h.ref.cell 0, h.ref.cell 1⟩
theorem OfP.alloc (hR : Stays lo b R) (h : OfP lo b b9 R k p r v4 v5 w4 w5 n4 n5 xs4 xs5 W0 W) (o : Obj) : OfP lo b b9 R k p r v4 v5 w4 w5 n4 n5 xs4 xs5 W0 (W.alloc o) :=
  { h with
    out := h.out.alloc o
    ref := h.ref.alloc o
    rest := hR.alloc h.rest o
    size := Nat.le_trans h.size (by simp)
    from_ := h.from_.trans ((KeepsOthers.alloc W o).from _)
    own := fun j o2 hj h1 h2 => (Below.heap_alloc W o j (by have := (Array.getElem?_eq_some_iff.1 h1).1; have := h.size; omega)).trans (h.own j o2 hj h1 h2)
    row4 := h.row4.alloc o
    row5 := h.row5.alloc o }
theorem OfP.drew (hR : Stays lo b R) (h : OfP lo b b9 R k p r v4 v5 w4 w5 n4 n5 xs4 xs5 W0 W) : OfP lo b b9 R k p r v4 v5 w4 w5 n4 n5 xs4 xs5 W0 W.drew :=
  { h with
    out := h.out.drew
    ref := h.ref.drew
    rest := hR _ _ none h.rest ⟨rfl, rfl, rfl, Nat.le_refl _, fun _ _ _ => rfl⟩ (fun r e => by cases e)
    from_ := h.from_.trans ((KeepsOthers.drew W).from _) }
/-- The row of bytes grows. -/
theorem OfP.app4 (hR : Stays lo b R) (h : OfP lo b b9 R k p r v4 v5 v4 w5 n4 n5 xs4 xs5 W0 W) {w4' : Value} {m4 : Nat} {ys4 : List Value} (ho : W'.ownsRow lo 5 1 w4' m4 ys4) (hg : W.grownBy W' v4.ownBlock) (hf : w4'.ownBlock = v4.ownBlock ∨ w4'.ownBlock = some W.heap.size) :
    OfP lo b b9 R k p r v4 v5 w4' w5 m4 n5 ys4 xs5 W0 W' := by
  have hb : some b ≠ v4.ownBlock := own_blk_ne h.row4 h.out (by decide)
  have h9 : some b9 ≠ v4.ownBlock := own_blk_ne h.row4 h.ref (by decide)
  exact { h with
    out := h.out.grown hg hb
    ref := h.ref.grown hg h9
    rest := hR _ _ _ h.rest hg (fun g e => .inl (h.row4.lt g e).1)
    size := Nat.le_trans h.size hg.size
    from_ := h.from_.trans ((KeepsOthers.of_grownBy hg fun j o ej hj => by
      rcases h.row4.2 with ⟨rfl, _⟩ | ⟨g', cap, cur, rfl, _, hgb, _⟩
      · cases ej
      · simp [Value.ownBlock] at ej; subst ej; rw [hgb] at hj; cases hj; rfl).from _)
    own := fun j o hj h1 h2 => (hg.block j (by have := (Array.getElem?_eq_some_iff.1 h1).1; have := h.size; omega) (fun e => hj ((ofOwn_blk h.out0 j).2 (.inr (.inl (own_slice h.row4 e.symm)))))).trans (h.own j o hj h1 h2)
    row4 := ho
    row5 := h.row5.kept hg (own_two h.row5 h.row4 (by decide))
    old4 := by
      rcases hf with e | e
      · exact .inl e
      · exact .inr ⟨_, e, h.size⟩ }
/-- The row of Refs grows. -/
theorem OfP.app5 (hR : Stays lo b R) (h : OfP lo b b9 R k p r v4 v5 w4 v5 n4 n5 xs4 xs5 W0 W) {w5' : Value} {m5 : Nat} {ys5 : List Value} (ho : W'.ownsRow lo 35 2 w5' m5 ys5) (hg : W.grownBy W' v5.ownBlock) (hf : w5'.ownBlock = v5.ownBlock ∨ w5'.ownBlock = some W.heap.size) :
    OfP lo b b9 R k p r v4 v5 w4 w5' n4 m5 xs4 ys5 W0 W' := by
  have hb : some b ≠ v5.ownBlock := own_blk_ne h.row5 h.out (by decide)
  have h9 : some b9 ≠ v5.ownBlock := fun e => h.apart b9 e.symm rfl
  exact { h with
    out := h.out.grown hg hb
    ref := h.ref.grown hg h9
    rest := hR _ _ _ h.rest hg (fun g e => .inl (h.row5.lt g e).1)
    size := Nat.le_trans h.size hg.size
    from_ := h.from_.trans ((KeepsOthers.of_grownBy hg fun j o ej hj => by
      rcases h.row5.2 with ⟨rfl, _⟩ | ⟨g', cap, cur, rfl, _, hgb, _⟩
      · cases ej
      · simp [Value.ownBlock] at ej; subst ej; rw [hgb] at hj; cases hj; rfl).from _)
    own := fun j o hj h1 h2 => (hg.block j (by have := (Array.getElem?_eq_some_iff.1 h1).1; have := h.size; omega) (fun e => hj ((ofOwn_blk h.out0 j).2 (.inr (.inr (own_slice h.row5 e.symm)))))).trans (h.own j o hj h1 h2)
    row4 := h.row4.kept hg (own_two h.row4 h.row5 (by decide))
    row5 := ho
    old5 := by
      rcases hf with e | e
      · exact .inl e
      · exact .inr ⟨_, e, h.size⟩ }
/-- Behind the two stores. -/
theorem OfP.stored (hR : Stays lo b R) (h : OfP lo b b9 R k p r v4 v5 w4 w5 n4 n5 xs4 xs5 W0 W) :
    Blk ((W.setCell ⟨b, 4, none⟩ w4).setCell ⟨b, 5, none⟩ w5) b 27 (outC k p w4 w5) ∧ ((W.setCell ⟨b, 4, none⟩ w4).setCell ⟨b, 5, none⟩ w5).ownsRow lo 5 1 w4 n4 xs4 ∧ ((W.setCell ⟨b, 4, none⟩ w4).setCell ⟨b, 5, none⟩ w5).ownsRow lo 35 2 w5 n5 xs5 ∧
    R ((W.setCell ⟨b, 4, none⟩ w4).setCell ⟨b, 5, none⟩ w5) ∧ lo ≤ ((W.setCell ⟨b, 4, none⟩ w4).setCell ⟨b, 5, none⟩ w5).heap.size ∧ KeepsFrom lo W0 ((W.setCell ⟨b, 4, none⟩ w4).setCell ⟨b, 5, none⟩ w5) ∧ KeepsO (ofOwn b) W0 ((W.setCell ⟨b, 4, none⟩ w4).setCell ⟨b, 5, none⟩ w5) := by
  have hout : Blk ((W.setCell ⟨b, 4, none⟩ w4).setCell ⟨b, 5, none⟩ w5) b 27 (outC k p w4 w5) := by
    have := (h.out.set_ 4 w4).set_ 5 w5
    simpa [outC] using this
  have hg : W.grownBy ((W.setCell ⟨b, 4, none⟩ w4).setCell ⟨b, 5, none⟩ w5) (some b) := grown_setCell (grown_setCell ⟨rfl, rfl, rfl, Nat.le_refl _, fun _ _ _ => rfl⟩ 4 w4) 5 w5
  have hb4 : some b ≠ w4.ownBlock := own_blk_ne h.row4 h.out (by decide)
  have hb5 : some b ≠ w5.ownBlock := own_blk_ne h.row5 h.out (by decide)
  have hsz : ((W.setCell ⟨b, 4, none⟩ w4).setCell ⟨b, 5, none⟩ w5).heap.size = W.heap.size := by simp [World.setCell]
  refine ⟨hout, h.row4.kept hg (.inr (Ne.symm hb4)), h.row5.kept hg (.inr (Ne.symm hb5)), hR _ _ _ h.rest hg (fun g e => .inr (by injection e with e; exact e.symm)), by rw [hsz]; exact Nat.le_trans h.lo_ h.size, ?_, ?_⟩
  · exact h.from_.trans (((KeepsOthers.setCell _ _ _).trans (KeepsOthers.setCell _ _ _)).from _)
  · refine ⟨by rw [hsz]; exact h.size, fun j o hj h1 h2 => ?_, fun j hj hown => ?_⟩
    · refine (hg.block j (by have := (Array.getElem?_eq_some_iff.1 h1).1; have := h.size; omega) (fun e => hj (.inl (by injection e)))).trans (h.own j o hj h1 h2)
    · rw [ofOwn_blk hout] at hown
      rw [ofOwn_blk h.out0]
      rcases hown with e | ⟨n, c, e⟩ | ⟨n, c, e⟩
      · exact .inl e
      · have eb : w4.ownBlock = some j := by rw [e]; rfl
        rcases h.old4 with e4 | ⟨g, e4, hge⟩
        · rcases h.was4 with e5 | ⟨i, n', c', e5, e6⟩
          · rw [eb] at e4; rw [← e4] at e5; cases e5
          · rw [eb, e5] at e4
            injection e4 with e4
            subst e4
            exact .inr (.inl ⟨n', c', e6⟩)
        · rw [eb] at e4; injection e4 with e4; omega
      · have eb : w5.ownBlock = some j := by rw [e]; rfl
        rcases h.old5 with e4 | ⟨g, e4, hge⟩
        · rcases h.was5 with e5 | ⟨i, n', c', e5, e6⟩
          · rw [eb] at e4; rw [← e4] at e5; cases e5
          · rw [eb, e5] at e4
            injection e4 with e4
            subst e4
            exact .inr (.inr ⟨n', c', e6⟩)
        · rw [eb] at e4; injection e4 with e4; omega
end
end Go.Proofs.YtgjgcbemgmkncaaDoor
namespace Go.Proofs.YtgjgcbemgmkncaaDoor
open Go.RowKit Go.Shelf
set_option linter.unusedVariables false
set_option linter.unusedSimpArgs false
attribute [local go_sem] Oper.semAt_some

theorem infoRef3 : (Tryd.prog.info? 35).map (fun i => (i.zero, i.size, i.bytes)) = some (some (.agg #[.int .i64 0, .int .u32 0]), 2, 16) := by kernel_rfl
def rowR (l : List Kid) : List Value := l.flatMap fun x => rrow x.2
theorem rowR_snoc (l : List Kid) (x : Kid) : rowR (l ++ [x]) = rowR l ++ [.int .i64 x.2.1, .int .u32 x.2.2] := by simp [rowR, rrow]
theorem cell_list_blk {W : World} {g : Nat} {t : TypeId} {l : List Value} (h : Blk W g t l.toArray) : ∀ j u, l[j]? = some u → W.cell? ((⟨g, 0, none⟩ : Addr).add j) = some u := by
  intro j u hu
  rw [Addr.add_lit, Nat.zero_add]
  exact (h.cell j).trans (by rw [List.getElem?_toArray]; exact hu)
theorem own_was {W : World} {base size n : Nat} {e : TypeId} {v : Value} {xs : List Value} (h : W.ownsRow base e size v n xs) : v.ownBlock = none ∨ ∃ i n c, v.ownBlock = some i ∧ v = .slice (some ⟨i, 0, none⟩) n c := by
  cases hv : v.ownBlock with
  | none => exact .inl rfl
  | some g => obtain ⟨n, c, e⟩ := own_slice h hv; exact .inr ⟨g, n, c, rfl, e⟩
/-- Between two rounds. -/
def OfI (lo b7 : Nat) (R : World → Prop) (k : Int) (p : ByteArray) (pre : List Kid) (W : World) : Prop :=
  (∃ v4 v5, Blk W b7 27 (outC k p v4 v5) ∧ W.ownsRow lo 5 1 v4 pre.length (rowB pre) ∧ W.ownsRow lo 35 2 v5 pre.length (rowR pre)) ∧ R W ∧ lo ≤ W.heap.size
theorem ofI_own {lo b7 : Nat} {R : World → Prop} {k : Int} {p : ByteArray} (hR : Stays lo b7 R) : OwnFrom lo (OfI lo b7 R k p) := by
  intro s W W' row hs hg hr
  obtain ⟨⟨v4, v5, h1, h2, h3⟩, h4, h5⟩ := hs
  have hr' := fun r e => (hr r e).2
  exact ⟨⟨v4, v5, h1.own_ hg hr', ownsRow_own h2 hg hr', ownsRow_own h3 hg hr'⟩, hR W W' row h4 hg (fun r e => .inl (hr r e).1), Nat.le_trans h5 hg.size⟩
theorem ofI_alloc {lo b7 : Nat} {R : World → Prop} {k : Int} {p : ByteArray} (hR : Stays lo b7 R) {pre : List Kid} {W : World} (h : OfI lo b7 R k p pre W) (o : Obj) : OfI lo b7 R k p pre (W.alloc o) := by
  obtain ⟨⟨v4, v5, h1, h2, h3⟩, h4, h5⟩ := h
  exact ⟨⟨v4, v5, h1.alloc o, h2.alloc o, h3.alloc o⟩, hR.alloc h4 o, Nat.le_trans h5 (by simp)⟩
/-- What the body is told of its variables. -/
def OfA (x : Kid) (lo b7 : Nat) (mk : Nat → Act) (a' : Act) (W : World) : Prop := ∃ B9, lo ≤ B9 ∧ B9 < W.heap.size ∧ a' = mk B9 ∧ Blk W B9 35 #[.int .i64 x.2.1, .int .u32 x.2.2] ∧ (∀ n c, W.cell? ⟨b7, 5, none⟩ ≠ some (.slice (some ⟨B9, 0, none⟩) n c)) ∧ ∃ v, W.cell? ⟨b7, 5, none⟩ = some v
theorem keepsO_below {B b : Nat} (hb : b < B) {W W' : World} (hB : B ≤ W.heap.size) (h : Below W.heap.size W W') : KeepsO (ofOwn b) W W' := KeepsO.grown (ofOwn_owns hb) hB (World.grownBy_of_below h) (fun r e => by cases e)

set_option maxHeartbeats 6400000 in
set_option maxRecDepth 100000 in
theorem of_loop (gf N b7 : Nat) (lb : Array Value) (k : Int) (p : ByteArray) (f : Kids) {u0 u1 u2 u3 u4 u5 u6 u8 u9 u10 u11 u12 u13 u14 u15 u17 u18 u19 u20 u21 u22 u23 u24 u25 u26 u27 u28 u29 u30 u31 : Value} (wx : World) {ds : List Deferred} {Q : Exit → Act → World → Prop} (R : World → Prop) (hR : Stays wx.heap.size b7 R) (hR0 : R wx) (hN : N ≤ 256)
    (eg : ∀ args w, (callFunc gf args).run Tryd.prog w = .ok (.enter gf args) w) (hseq : SeqStopsO Fence.wide 9 Tryd.prog gf lb encK (KeepsO (ofOwn b7)) (fun ys => ys = kidsF f) (fun pre => pre <+: kidsF f) N wx (wx.heap.size + 2))
    (h7 : Blk wx b7 27 (outC k p (.slice none 0 0) (.slice none 0 0)))
    (hQ : ∀ (D : Nat) (v4 v5 : Value) (W : World), wx.heap.size ≤ D → Blk W b7 27 (outC k p v4 v5) → W.ownsRow wx.heap.size 5 1 v4 (kidsF f).length (rowB (kidsF f)) → W.ownsRow wx.heap.size 35 2 v5 (kidsF f).length (rowR (kidsF f)) → R W → wx.heap.size ≤ W.heap.size → W.heap[D]? = some (.deferred (some [])) → Q .normal ⟨#[u0, u1, u2, u3, u4, u5, u6, .pointer (some ⟨b7, 0, none⟩), u8, u9, u10, u11, u12, u13, u14, u15, .func (.func gf) #[] lb, u17, u18, u19, u20, u21, u22, u23, u24, u25, u26, u27, u28, u29, u30, u31], { target := .collected D, args := #[] } :: ds⟩ W) :
    Code.wp Tryd.prog (part Tryd.f23 [1, 1, 0, 1]) Q ⟨#[u0, u1, u2, u3, u4, u5, u6, .pointer (some ⟨b7, 0, none⟩), u8, u9, u10, u11, u12, u13, u14, u15, .func (.func gf) #[] lb, u17, u18, u19, u20, u21, u22, u23, u24, u25, u26, u27, u28, u29, u30, u31], ds⟩ wx := by
  conv => arg 2; whnf
  obtain ⟨i0, hi, hz0, hz1, hz2⟩ := info_parts infoU8o
  obtain ⟨j0, hj, hj0, hj1, hj2⟩ := info_parts infoRef3
  have HQ := Lib.hid hQ
  have h7lt := h7.lt
  clear hQ
  refine wp_block ?_
  refine (wpIn_wide (n := 10)).1 ?_
  refine wpIn_range_O rfl (by decide) (gf := gf) (lb := lb) rfl trivial eg hseq (fun h k => h.trans k) (fun W o o' h1 h2 h3 => ?kb) (Below.refl _ _) (fun _ => rfl)
    (OfI wx.heap.size b7 R k p) (fun _ pre W => ¬ (pre <+: kidsF f)) (ofI_own hR) (fun c s W W' row hs hg hr => hs) ⟨⟨_, _, h7, World.ownsRow_nil _ _ _ _, World.ownsRow_nil _ _ _ _⟩, hR0, Nat.le_refl _⟩
    (fun x a' W => OfA x wx.heap.size b7 (fun B9 => ⟨#[u0, u1, u2, u3, u4, u5, u6, .pointer (some ⟨b7, 0, none⟩), .int .u8 (x.1.val : Int), .pointer (some ⟨B9, 0, none⟩), u10, u11, u12, u13, u14, u15, .func (.func gf) #[] lb, .int .u8 (x.1.val : Int), refV x.2, u19, u20, u21, u22, u23, u24, u25, u26, u27, u28, u29, u30, u31], []⟩) a' W) (fun x a' s W W' row hs hg hr => ?own) ?assign ?body ?done ?stop
  case kb =>
    have hl := (Array.getElem?_eq_some_iff.1 h1).1
    have hg : W.grownBy (W.putObj (wx.heap.size + 1) o') (some (wx.heap.size + 1)) := grownBy_putObj' W _ o'
    exact KeepsO.grown (ofOwn_owns h7lt) (by omega) hg (fun r e => by injection e with e; subst e; exact ⟨by omega, o, h1, h2⟩)
  case own =>
    obtain ⟨B9, hb, hbl, he, hk, hn, v, hv⟩ := hs
    have hc := grown_cell hg (b := b7) (World.block_lt_of_cell? W _ hv) (fun e => by have := (hr _ e).1; omega) 5
    exact ⟨B9, hb, Nat.lt_of_lt_of_le hbl hg.size, he, hk.own_ hg (fun r e => (hr r e).2), by rw [hc]; exact hn, v, hc.trans hv⟩
  case assign =>
    rintro l pre x W K hi2 hK
    have hsz := hi2.2.2
    obtain ⟨v4, v5, q1, q2, q3⟩ := hi2.1
    have e5 : (W.alloc (.cells #[.int .i64 x.2.1, .int .u32 x.2.2] 35)).cell? ⟨b7, 5, none⟩ = some v5 := (q1.alloc _).cell 5
    have hne : ∀ n c, (W.alloc (.cells #[.int .i64 x.2.1, .int .u32 x.2.2] 35)).cell? ⟨b7, 5, none⟩ ≠ some (.slice (some ⟨W.heap.size, 0, none⟩) n c) := fun n c e => by
      rw [e5] at e
      injection e with e
      have := (q3.lt W.heap.size (by rw [e]; rfl)).2
      omega
    have hfin : K ⟨#[u0, u1, u2, u3, u4, u5, u6, .pointer (some ⟨b7, 0, none⟩), .int .u8 (x.1.val : Int), .pointer (some ⟨W.heap.size, 0, none⟩), u10, u11, u12, u13, u14, u15, .func (.func gf) #[] lb, .int .u8 (x.1.val : Int), refV x.2, u19, u20, u21, u22, u23, u24, u25, u26, u27, u28, u29, u30, u31], []⟩ (W.alloc (.cells #[.int .i64 x.2.1, .int .u32 x.2.2] 35)) :=
      hK _ _ ((KeepsOthers.alloc W _).from _) (keepsO_below h7lt hsz (below_box W _)) (ofI_alloc hR hi2 _) ⟨W.heap.size, hsz, by simp, rfl, Blk.new _ _ _, hne, v5, e5⟩
    have HF := Lib.hid hfin
    clear hfin hK e5 hne q1 q2 q3 hi2
    gi_wp2
    exact HF.out
  case body =>
    rintro l pre x a' W hl ⟨rec, hrec⟩ ⟨⟨v4, v5, q1, q2, q3⟩, hRW, hsz⟩ ⟨b9, hB9, hB9l, rfl, hk9, hn9, _⟩ hlen
    have hx0 : (0 : Int) ≤ (x.1.val : Int) := by omega
    have hx1 : (x.1.val : Int) ≤ 255 := by have := x.1.isLt; omega
    have P0 : OfP wx.heap.size b7 b9 R k p x.2 v4 v5 v4 v5 pre.length pre.length (rowB pre) (rowR pre) W W.drew := OfP.drew hR ⟨q1, q1, hk9, hRW, Nat.le_refl _, hsz, h7lt, KeepsFrom.refl _ _, fun _ _ _ h _ => h, q2, q3, .inl rfl, .inl rfl, own_was q2, own_was q3, fun g hg e => by
      obtain ⟨n, c, e2⟩ := own_slice q3 hg
      subst e
      exact hn9 n c ((q1.cell 5).trans (by rw [← e2]; rfl)), hB9l⟩
    have hmix : Tryd.prog.follows .mixedOrders = true := by kernel_rfl
    clear q1 q2 q3 hRW hk9 hn9 h7 hR0 hseq
    gi_wp2_with (fail)
    refine wpIn_region_L_round l 11 (fun V : World => V.cell? ⟨b7, 4, none⟩ = some v4 ∧ V.cell? ⟨b7, 5, none⟩ = some v5 ∧ V.cell? ⟨b9, 0, none⟩ = some (.int .i64 x.2.1) ∧ V.cell? ⟨b9, 1, none⟩ = some (.int .u32 x.2.2)) (fun hh => by obtain ⟨_, _, h⟩ := hh; exact h) hmix (by kernel_rfl) ?_
    refine wpAnyL_take (i := 0) (v := ?_) rfl (by kernel_rfl) (by kernel_rfl) (by kernel_rfl) (by kernel_rfl) (fun _ _ _ h => h) (Or.inl ⟨by rfl, ?_⟩) P0.cells ?_
    rotate_left
    · (intro w hSw; (try dsimp only at hSw); go_simp <;> with_reducible rfl)
    try simp only [Act.put, List.setIfInBounds_toArray, List.set_cons_zero, List.set_cons_succ]
    refine wpAnyL_take (i := 1) (v := ?_) rfl (by kernel_rfl) (by kernel_rfl) (by kernel_rfl) (by kernel_rfl) (fun _ _ _ h => h) (Or.inl ⟨by rfl, ?_⟩) P0.cells ?_
    rotate_left
    · (intro w hSw; (try dsimp only at hSw); go_simp <;> with_reducible rfl)
    try simp only [Act.put, List.setIfInBounds_toArray, List.set_cons_zero, List.set_cons_succ]
    refine wpAnyL_take (i := 2) (v := ?_) rfl (by kernel_rfl) (by kernel_rfl) (by kernel_rfl) (by kernel_rfl) (fun _ _ _ h => h) (Or.inl ⟨by rfl, ?_⟩) P0.cells ?_
    rotate_left
    · (intro w hSw; (try dsimp only at hSw); go_simp <;> with_reducible rfl)
    try simp only [Act.put, List.setIfInBounds_toArray, List.set_cons_zero, List.set_cons_succ]
    refine wpAnyL_take (i := 5) (v := ?_) rfl (by kernel_rfl) (by kernel_rfl) (by kernel_rfl) (by kernel_rfl) (fun _ _ _ h => h) (Or.inl ⟨by rfl, ?_⟩) P0.cells ?_
    rotate_left
    · (intro w hSw; (try dsimp only at hSw); go_simp <;> with_reducible rfl)
    try simp only [Act.put, List.setIfInBounds_toArray, List.set_cons_zero, List.set_cons_succ]
    refine wpAnyL_take (i := 6) (v := ?_) rfl (by kernel_rfl) (by kernel_rfl) (by kernel_rfl) (by kernel_rfl) (fun _ _ _ h => h) (Or.inl ⟨by rfl, ?_⟩) P0.cells ?_
    rotate_left
    · (intro w hSw; (try dsimp only at hSw); go_simp <;> with_reducible rfl)
    try simp only [Act.put, List.setIfInBounds_toArray, List.set_cons_zero, List.set_cons_succ]
    refine wpAnyL_take (i := 7) (v := ?_) rfl (by kernel_rfl) (by kernel_rfl) (by kernel_rfl) (by kernel_rfl) (fun _ _ _ h => h) (Or.inl ⟨by rfl, ?_⟩) P0.cells ?_
    rotate_left
    · (intro w hSw; (try dsimp only at hSw); go_simp <;> with_reducible rfl)
    try simp only [Act.put, List.setIfInBounds_toArray, List.set_cons_zero, List.set_cons_succ]
    refine wpAnyL_ready (rs := [3, 8]) (by kernel_rfl) (by simp) ?_
    refine AllL.cons rfl (fun K hK => ?_) ?_
    · go_simp
      have P1 := P0.alloc hR (.cells #[.int .u8 (x.1.val : Int)] 5)
      have T1 : Blk ((W.drew).alloc (.cells #[.int .u8 (x.1.val : Int)] 5)) (W.heap.size) 5 #[.int .u8 (x.1.val : Int)] := by have q := Blk.new (W.drew) 5 #[.int .u8 (x.1.val : Int)]; first | exact q | (rw [World.size_alloc] at q; exact q)
      refine hK.out _ _ (fun _ => P1.cells) ?_
      clear hK K
      try simp only [Act.put, List.setIfInBounds_toArray, List.set_cons_zero, List.set_cons_succ]
      refine wpAnyL_ready (rs := [4, 8]) (by kernel_rfl) (by simp) ?_
      refine AllL.cons rfl (fun K hK => ?_) ?_
      · rw [if_pos (by kernel_rfl)]
        refine wp_append_fresh _ (.tmp 20) (.tmp 22) 22 rfl wx.heap.size 5 i0 (.int .u8 0) 1 1 Tryd.underlying22 hi hz0 hz1 hz2 rfl (by decide) v4 pre.length (rowB pre) rfl P1.row4 ⟨W.heap.size, 0, none⟩ 1 1 [.int .u8 (x.1.val : Int)] rfl rfl (cell_list_blk T1) (by simp [Value.oneCell']) (by decide) (by unfold maxLen; omega) (by omega) (Nat.le_trans P1.lo_ P1.size) ?_
        intro w4 W2 ho hg hf
        obtain ⟨g4, c4, rfl⟩ := ownsRow_succ ho
        have P2 := P1.app4 hR ho hg hf
        clear ho hg hf
        refine hK.out _ _ (fun _ => P2.cells) ?_
        clear hK K
        try simp only [Act.put, List.setIfInBounds_toArray, List.set_cons_zero, List.set_cons_succ]
        refine wpAnyL_take (i := 10) (v := ?_) rfl (by kernel_rfl) (by kernel_rfl) (by kernel_rfl) (by kernel_rfl) (fun _ _ _ h => h) (Or.inl ⟨by rfl, ?_⟩) P2.cells ?_
        rotate_left
        · (intro w hSw; (try dsimp only at hSw); go_simp <;> with_reducible rfl)
        try simp only [Act.put, List.setIfInBounds_toArray, List.set_cons_zero, List.set_cons_succ]
        refine wpAnyL_ready (rs := [8]) (by kernel_rfl) (by simp) ?_
        refine AllL.cons rfl (fun K hK => ?_) ?_
        · go_simp
          have P3 := P2.alloc hR (.cells #[.int .i64 x.2.1, .int .u32 x.2.2] 35)
          have T3 : Blk ((W2).alloc (.cells #[.int .i64 x.2.1, .int .u32 x.2.2] 35)) (W2.heap.size) 35 #[.int .i64 x.2.1, .int .u32 x.2.2] := by have q := Blk.new (W2) 35 #[.int .i64 x.2.1, .int .u32 x.2.2]; first | exact q | (rw [World.size_alloc] at q; exact q)
          refine hK.out _ _ (fun _ => P3.cells) ?_
          clear hK K
          try simp only [Act.put, List.setIfInBounds_toArray, List.set_cons_zero, List.set_cons_succ]
          refine wpAnyL_ready (rs := [9]) (by kernel_rfl) (by simp) ?_
          refine AllL.cons rfl (fun K hK => ?_) ?_
          · rw [if_pos (by kernel_rfl)]
            refine wp_append_fresh _ (.tmp 25) (.tmp 27) 25 rfl wx.heap.size 35 j0 (.agg #[.int .i64 0, .int .u32 0]) 2 16 Tryd.underlying25 hj hj0 hj1 hj2 rfl (by decide) v5 pre.length (rowR pre) rfl P3.row5 ⟨W2.heap.size, 0, none⟩ 1 1 [.int .i64 x.2.1, .int .u32 x.2.2] rfl rfl (cell_list_blk T3) (by simp [Value.oneCell']) (by decide) (by unfold maxLen; omega) (by omega) (Nat.le_trans P3.lo_ P3.size) ?_
            intro w5 W4 ho hg hf
            obtain ⟨g5, c5, rfl⟩ := ownsRow_succ ho
            have P4 := P3.app5 hR ho hg hf
            clear ho hg hf
            refine hK.out _ _ (fun _ => P4.cells) ?_
            clear hK K
            try simp only [Act.put, List.setIfInBounds_toArray, List.set_cons_zero, List.set_cons_succ]
            refine wpAnyL_ready (rs := [11]) (by kernel_rfl) (by simp) ?_
            refine AllL.cons rfl (fun K hK => ?_) AllL.nil
            have f4 := P4.out.frozen 4
            have e4 := P4.out.cell 4
            simp [outC] at e4
            have l4 := P4.out.lt
            go_simp
            refine hK.out _ _ (fun h => Bool.noConfusion (show true = false from h)) ?_
            clear hK K e4 f4 l4
            try simp only [Act.put, List.setIfInBounds_toArray, List.set_cons_zero, List.set_cons_succ]
            refine wpAnyL_ready (rs := [12]) (by kernel_rfl) (by simp) ?_
            refine AllL.cons rfl (fun K hK => ?_) AllL.nil
            go_simp
            refine hK.out _ _ (fun h => Bool.noConfusion (show true = false from h)) ?_
            clear hK K
            try simp only [Act.put, List.setIfInBounds_toArray, List.set_cons_zero, List.set_cons_succ]
            refine wpAnyL_ready (rs := [13]) (by kernel_rfl) (by simp) ?_
            refine AllL.cons rfl (fun K hK => ?_) AllL.nil
            have q5 := P4.out.set_ 4 (.slice (some ⟨g4, 0, none⟩) (pre.length + 1) c4)
            have f5 := q5.frozen 5
            have e5 := q5.cell 5
            have l5 := q5.lt
            simp [outC] at e5
            clear q5
            go_simp
            refine hK.out _ _ (fun h => Bool.noConfusion (show true = false from h)) ?_
            clear hK K e5 f5 l5
            try simp only [Act.put, List.setIfInBounds_toArray, List.set_cons_zero, List.set_cons_succ]
            refine wpAnyL_done (by kernel_rfl) ?_ _
            obtain ⟨z1, z2, z3, z4, z5, z6, z7⟩ := P4.stored hR
            exact ⟨z6, z7, ⟨_, _, z1, by rw [rowB_snoc]; simpa using z2, by rw [rowR_snoc]; simpa using z3⟩, z4, z5⟩
          exact AllL.nil
        exact AllL.nil
      refine AllL.cons rfl (fun K hK => ?_) ?_
      · go_simp
        have P5 := P1.alloc hR (.cells #[.int .i64 x.2.1, .int .u32 x.2.2] 35)
        have T5 : Blk (((W.drew).alloc (.cells #[.int .u8 (x.1.val : Int)] 5)).alloc (.cells #[.int .i64 x.2.1, .int .u32 x.2.2] 35)) (W.heap.size + 1) 35 #[.int .i64 x.2.1, .int .u32 x.2.2] := by have q := Blk.new ((W.drew).alloc (.cells #[.int .u8 (x.1.val : Int)] 5)) 35 #[.int .i64 x.2.1, .int .u32 x.2.2]; first | exact q | (rw [World.size_alloc] at q; exact q)
        have U5 := T1.alloc (.cells #[.int .i64 x.2.1, .int .u32 x.2.2] 35)
        refine hK.out _ _ (fun _ => P5.cells) ?_
        clear hK K
        try simp only [Act.put, List.setIfInBounds_toArray, List.set_cons_zero, List.set_cons_succ]
        refine wpAnyL_ready (rs := [4]) (by kernel_rfl) (by simp) ?_
        refine AllL.cons rfl (fun K hK => ?_) ?_
        · rw [if_pos (by kernel_rfl)]
          refine wp_append_fresh _ (.tmp 20) (.tmp 22) 22 rfl wx.heap.size 5 i0 (.int .u8 0) 1 1 Tryd.underlying22 hi hz0 hz1 hz2 rfl (by decide) v4 pre.length (rowB pre) rfl P5.row4 ⟨W.heap.size, 0, none⟩ 1 1 [.int .u8 (x.1.val : Int)] rfl rfl (cell_list_blk U5) (by simp [Value.oneCell']) (by decide) (by unfold maxLen; omega) (by omega) (Nat.le_trans P5.lo_ P5.size) ?_
          intro w4 W6 ho hg hf
          obtain ⟨g4, c4, rfl⟩ := ownsRow_succ ho
          have P6 := P5.app4 hR ho hg hf
          have U6 := T5.grown hg (own_blk_ne P5.row4 T5 (by decide))
          clear ho hg hf
          refine hK.out _ _ (fun _ => P6.cells) ?_
          clear hK K
          try simp only [Act.put, List.setIfInBounds_toArray, List.set_cons_zero, List.set_cons_succ]
          refine wpAnyL_take (i := 10) (v := ?_) rfl (by kernel_rfl) (by kernel_rfl) (by kernel_rfl) (by kernel_rfl) (fun _ _ _ h => h) (Or.inl ⟨by rfl, ?_⟩) P6.cells ?_
          rotate_left
          · (intro w hSw; (try dsimp only at hSw); go_simp <;> with_reducible rfl)
          try simp only [Act.put, List.setIfInBounds_toArray, List.set_cons_zero, List.set_cons_succ]
          refine wpAnyL_ready (rs := [9]) (by kernel_rfl) (by simp) ?_
          refine AllL.cons rfl (fun K hK => ?_) ?_
          · rw [if_pos (by kernel_rfl)]
            refine wp_append_fresh _ (.tmp 25) (.tmp 27) 25 rfl wx.heap.size 35 j0 (.agg #[.int .i64 0, .int .u32 0]) 2 16 Tryd.underlying25 hj hj0 hj1 hj2 rfl (by decide) v5 pre.length (rowR pre) rfl P6.row5 ⟨W.heap.size + 1, 0, none⟩ 1 1 [.int .i64 x.2.1, .int .u32 x.2.2] rfl rfl (cell_list_blk U6) (by simp [Value.oneCell']) (by decide) (by unfold maxLen; omega) (by omega) (Nat.le_trans P6.lo_ P6.size) ?_
            intro w5 W7 ho hg hf
            obtain ⟨g5, c5, rfl⟩ := ownsRow_succ ho
            have P7 := P6.app5 hR ho hg hf
            clear ho hg hf
            refine hK.out _ _ (fun _ => P7.cells) ?_
            clear hK K
            try simp only [Act.put, List.setIfInBounds_toArray, List.set_cons_zero, List.set_cons_succ]
            refine wpAnyL_ready (rs := [11]) (by kernel_rfl) (by simp) ?_
            refine AllL.cons rfl (fun K hK => ?_) AllL.nil
            have f4 := P7.out.frozen 4
            have e4 := P7.out.cell 4
            simp [outC] at e4
            have l4 := P7.out.lt
            go_simp
            refine hK.out _ _ (fun h => Bool.noConfusion (show true = false from h)) ?_
            clear hK K e4 f4 l4
            try simp only [Act.put, List.setIfInBounds_toArray, List.set_cons_zero, List.set_cons_succ]
            refine wpAnyL_ready (rs := [12]) (by kernel_rfl) (by simp) ?_
            refine AllL.cons rfl (fun K hK => ?_) AllL.nil
            go_simp
            refine hK.out _ _ (fun h => Bool.noConfusion (show true = false from h)) ?_
            clear hK K
            try simp only [Act.put, List.setIfInBounds_toArray, List.set_cons_zero, List.set_cons_succ]
            refine wpAnyL_ready (rs := [13]) (by kernel_rfl) (by simp) ?_
            refine AllL.cons rfl (fun K hK => ?_) AllL.nil
            have q5 := P7.out.set_ 4 (.slice (some ⟨g4, 0, none⟩) (pre.length + 1) c4)
            have f5 := q5.frozen 5
            have e5 := q5.cell 5
            have l5 := q5.lt
            simp [outC] at e5
            clear q5
            go_simp
            refine hK.out _ _ (fun h => Bool.noConfusion (show true = false from h)) ?_
            clear hK K e5 f5 l5
            try simp only [Act.put, List.setIfInBounds_toArray, List.set_cons_zero, List.set_cons_succ]
            refine wpAnyL_done (by kernel_rfl) ?_ _
            obtain ⟨z1, z2, z3, z4, z5, z6, z7⟩ := P7.stored hR
            exact ⟨z6, z7, ⟨_, _, z1, by rw [rowB_snoc]; simpa using z2, by rw [rowR_snoc]; simpa using z3⟩, z4, z5⟩
          exact AllL.nil
        exact AllL.nil
      exact AllL.nil
    refine AllL.cons rfl (fun K hK => ?_) ?_
    · go_simp
      have P8 := P0.alloc hR (.cells #[.int .i64 x.2.1, .int .u32 x.2.2] 35)
      have T8 : Blk ((W.drew).alloc (.cells #[.int .i64 x.2.1, .int .u32 x.2.2] 35)) (W.heap.size) 35 #[.int .i64 x.2.1, .int .u32 x.2.2] := by have q := Blk.new (W.drew) 35 #[.int .i64 x.2.1, .int .u32 x.2.2]; first | exact q | (rw [World.size_alloc] at q; exact q)
      refine hK.out _ _ (fun _ => P8.cells) ?_
      clear hK K
      try simp only [Act.put, List.setIfInBounds_toArray, List.set_cons_zero, List.set_cons_succ]
      refine wpAnyL_ready (rs := [3]) (by kernel_rfl) (by simp) ?_
      refine AllL.cons rfl (fun K hK => ?_) ?_
      · go_simp
        have P9 := P8.alloc hR (.cells #[.int .u8 (x.1.val : Int)] 5)
        have T9 : Blk (((W.drew).alloc (.cells #[.int .i64 x.2.1, .int .u32 x.2.2] 35)).alloc (.cells #[.int .u8 (x.1.val : Int)] 5)) (W.heap.size + 1) 5 #[.int .u8 (x.1.val : Int)] := by have q := Blk.new ((W.drew).alloc (.cells #[.int .i64 x.2.1, .int .u32 x.2.2] 35)) 5 #[.int .u8 (x.1.val : Int)]; first | exact q | (rw [World.size_alloc] at q; exact q)
        have U9 := T8.alloc (.cells #[.int .u8 (x.1.val : Int)] 5)
        refine hK.out _ _ (fun _ => P9.cells) ?_
        clear hK K
        try simp only [Act.put, List.setIfInBounds_toArray, List.set_cons_zero, List.set_cons_succ]
        refine wpAnyL_ready (rs := [4]) (by kernel_rfl) (by simp) ?_
        refine AllL.cons rfl (fun K hK => ?_) ?_
        · rw [if_pos (by kernel_rfl)]
          refine wp_append_fresh _ (.tmp 20) (.tmp 22) 22 rfl wx.heap.size 5 i0 (.int .u8 0) 1 1 Tryd.underlying22 hi hz0 hz1 hz2 rfl (by decide) v4 pre.length (rowB pre) rfl P9.row4 ⟨W.heap.size + 1, 0, none⟩ 1 1 [.int .u8 (x.1.val : Int)] rfl rfl (cell_list_blk T9) (by simp [Value.oneCell']) (by decide) (by unfold maxLen; omega) (by omega) (Nat.le_trans P9.lo_ P9.size) ?_
          intro w4 W10 ho hg hf
          obtain ⟨g4, c4, rfl⟩ := ownsRow_succ ho
          have P10 := P9.app4 hR ho hg hf
          have U10 := U9.grown hg (own_blk_ne P9.row4 U9 (by decide))
          clear ho hg hf
          refine hK.out _ _ (fun _ => P10.cells) ?_
          clear hK K
          try simp only [Act.put, List.setIfInBounds_toArray, List.set_cons_zero, List.set_cons_succ]
          refine wpAnyL_take (i := 10) (v := ?_) rfl (by kernel_rfl) (by kernel_rfl) (by kernel_rfl) (by kernel_rfl) (fun _ _ _ h => h) (Or.inl ⟨by rfl, ?_⟩) P10.cells ?_
          rotate_left
          · (intro w hSw; (try dsimp only at hSw); go_simp <;> with_reducible rfl)
          try simp only [Act.put, List.setIfInBounds_toArray, List.set_cons_zero, List.set_cons_succ]
          refine wpAnyL_ready (rs := [9]) (by kernel_rfl) (by simp) ?_
          refine AllL.cons rfl (fun K hK => ?_) ?_
          · rw [if_pos (by kernel_rfl)]
            refine wp_append_fresh _ (.tmp 25) (.tmp 27) 25 rfl wx.heap.size 35 j0 (.agg #[.int .i64 0, .int .u32 0]) 2 16 Tryd.underlying25 hj hj0 hj1 hj2 rfl (by decide) v5 pre.length (rowR pre) rfl P10.row5 ⟨W.heap.size, 0, none⟩ 1 1 [.int .i64 x.2.1, .int .u32 x.2.2] rfl rfl (cell_list_blk U10) (by simp [Value.oneCell']) (by decide) (by unfold maxLen; omega) (by omega) (Nat.le_trans P10.lo_ P10.size) ?_
            intro w5 W11 ho hg hf
            obtain ⟨g5, c5, rfl⟩ := ownsRow_succ ho
            have P11 := P10.app5 hR ho hg hf
            clear ho hg hf
            refine hK.out _ _ (fun _ => P11.cells) ?_
            clear hK K
            try simp only [Act.put, List.setIfInBounds_toArray, List.set_cons_zero, List.set_cons_succ]
            refine wpAnyL_ready (rs := [11]) (by kernel_rfl) (by simp) ?_
            refine AllL.cons rfl (fun K hK => ?_) AllL.nil
            have f4 := P11.out.frozen 4
            have e4 := P11.out.cell 4
            simp [outC] at e4
            have l4 := P11.out.lt
            go_simp
            refine hK.out _ _ (fun h => Bool.noConfusion (show true = false from h)) ?_
            clear hK K e4 f4 l4
            try simp only [Act.put, List.setIfInBounds_toArray, List.set_cons_zero, List.set_cons_succ]
            refine wpAnyL_ready (rs := [12]) (by kernel_rfl) (by simp) ?_
            refine AllL.cons rfl (fun K hK => ?_) AllL.nil
            go_simp
            refine hK.out _ _ (fun h => Bool.noConfusion (show true = false from h)) ?_
            clear hK K
            try simp only [Act.put, List.setIfInBounds_toArray, List.set_cons_zero, List.set_cons_succ]
            refine wpAnyL_ready (rs := [13]) (by kernel_rfl) (by simp) ?_
            refine AllL.cons rfl (fun K hK => ?_) AllL.nil
            have q5 := P11.out.set_ 4 (.slice (some ⟨g4, 0, none⟩) (pre.length + 1) c4)
            have f5 := q5.frozen 5
            have e5 := q5.cell 5
            have l5 := q5.lt
            simp [outC] at e5
            clear q5
            go_simp
            refine hK.out _ _ (fun h => Bool.noConfusion (show true = false from h)) ?_
            clear hK K e5 f5 l5
            try simp only [Act.put, List.setIfInBounds_toArray, List.set_cons_zero, List.set_cons_succ]
            refine wpAnyL_done (by kernel_rfl) ?_ _
            obtain ⟨z1, z2, z3, z4, z5, z6, z7⟩ := P11.stored hR
            exact ⟨z6, z7, ⟨_, _, z1, by rw [rowB_snoc]; simpa using z2, by rw [rowR_snoc]; simpa using z3⟩, z4, z5⟩
          exact AllL.nil
        exact AllL.nil
      exact AllL.nil
    exact AllL.nil
  case done =>
    rintro D xs W hD rfl ⟨⟨v4, v5, h1, h2, h3⟩, h4, h5⟩ hk
    exact HQ.out D v4 v5 W hD h1 h2 h3 h4 h5 hk
  case stop =>
    rintro D c pre W hD hsp hx hk
    exact absurd hsp hx
end Go.Proofs.YtgjgcbemgmkncaaDoor
namespace Go.Proofs.YtgjgcbemgmkncaaDoor
open Go.RowKit Go.Shelf
set_option linter.unusedVariables false
set_option linter.unusedSimpArgs false

/-- The node that 'of' makes. -/
def ofNd (x : Nd) (f : Kids) (k : Int) : Nd := ⟨k, { data := #[] }, { data := #[] }, x.path, (kidsF f).map (·.1.val), (kidsF f).map (·.2)⟩
def refOk (r : Int × Int) : Prop := (-9223372036854775808 ≤ r.1 ∧ r.1 ≤ 9223372036854775807) ∧ 0 ≤ r.2 ∧ r.2 ≤ 4294967295
theorem kidsF_len_le (f : Kids) : (kidsF f).length ≤ 256 := by
  rw [kidsF_len]
  show cntK f ≤ 256
  rw [← bytesF_len f]
  exact bytesLo_len f 0 256
theorem mem_kidsF {f : Kids} {x : Kid} (h : x ∈ kidsF f) : f x.1.val = some x.2 := by
  unfold kidsF at h
  obtain ⟨b, _, hb⟩ := List.mem_filterMap.1 h
  cases hf : f b.val with
  | none => rw [hf] at hb; cases hb
  | some r => rw [hf] at hb; simp at hb; subst hb; exact hf
theorem ofNd_wf {x : Nd} {f : Kids} {k : Int} (hx : x.wf) (hk : -9223372036854775808 ≤ k ∧ k ≤ 9223372036854775807) (hv : ∀ b r, f b = some r → refOk r) : (ofNd x f k).wf := by
  have hl := kidsF_len_le f
  refine ⟨hk, ?_, ?_, ?_, ?_, ?_, ?_, hx.lp⟩
  · intro b hb
    obtain ⟨y, _, rfl⟩ := List.mem_map.1 hb
    exact y.1.isLt
  · intro r hr
    obtain ⟨y, hy, rfl⟩ := List.mem_map.1 hr
    exact hv _ _ (mem_kidsF hy)
  · show ((kidsF f).map _).length ≤ _; rw [List.length_map]; omega
  · show ((kidsF f).map _).length ≤ _; rw [List.length_map]; omega
  · exact Nat.zero_le _
  · exact Nat.zero_le _
theorem reads_own {W : World} {base size n c : Nat} {e : TypeId} {A : Option Addr} {xs : List Value} (h : W.ownsRow base e size (.slice A n c) n xs) : Reads W W.heap.size size A n xs := by
  refine ⟨h.1, fun hn => ?_⟩
  rcases h.2 with ⟨e1, e2⟩ | ⟨g, cap, cur, e1, _, hg, _⟩
  · omega
  · injection e1 with e1 e2 e3
    subst e1
    exact ⟨_, rfl, (Array.getElem?_eq_some_iff.1 hg).1, h.cells rfl⟩
theorem rowB_nrow (l : List Kid) : rowB l = (l.map (·.1.val)).flatMap nrow := by
  induction l with
  | nil => rfl
  | cons x l ih => simp [rowB, nrow] at ih ⊢; exact ih
theorem rowR_rrow (l : List Kid) : rowR l = (l.map (·.2)).flatMap rrow := by unfold rowR; rw [List.flatMap_map]
/-- A node that has been made: its rows lie in new blocks. -/
def NdOut (y : Nd) (w : World) (e : Ending) (w' : World) : Prop := ∃ V', e = .returned V' ∧ (y.wf ∧ ∃ Ab cb Ak ck, V' = y.v Ab cb Ak ck ∧ Reads w' w'.heap.size 1 Ab y.bytes.length (y.bytes.flatMap nrow) ∧ Reads w' w'.heap.size 2 Ak y.kids.length (y.kids.flatMap rrow) ∧ (∀ ad, Ab = some ad → w.heap.size ≤ ad.block) ∧ ∀ ad, Ak = some ad → w.heap.size ≤ ad.block) ∧ Below w.heap.size w w'
def ofR (w : World) (b6 : Nat) (W : World) : Prop := Below w.heap.size w W ∧ Blk W b6 27 #[.int .i64 0, .string { data := #[] }, .string { data := #[] }, .string { data := #[] }, .slice none 0 0, .slice none 0 0]
theorem ofR_stays {w : World} {lo b6 b7 : Nat} (hlo : w.heap.size ≤ lo) (h7 : w.heap.size ≤ b7) (h6 : b6 < lo) (hne : b6 ≠ b7) : Stays lo b7 (ofR w b6) := by
  intro W W' row h hg hr
  refine ⟨h.1.grown hg h.1.size (fun k e => by rcases hr k e with e2 | e2 <;> omega), h.2.grown hg (fun e => ?_)⟩
  rcases hr b6 e.symm with e2 | e2 <;> omega
theorem six_stores {W : World} {b : Nat} {t : TypeId} {d0 d1 d2 d3 d4 d5 : Value} (v0 v1 v2 v3 v4 v5 : Value) (h : Blk W b t #[d0, d1, d2, d3, d4, d5]) :
    ∃ V, V = (((((W.setCell ⟨b, 0, none⟩ v0).setCell ⟨b, 1, none⟩ v1).setCell ⟨b, 2, none⟩ v2).setCell ⟨b, 3, none⟩ v3).setCell ⟨b, 4, none⟩ v4).setCell ⟨b, 5, none⟩ v5 ∧ W.grownBy V (some b) ∧ Blk V b t #[v0, v1, v2, v3, v4, v5] := by
  refine ⟨_, rfl, grown_setCell (grown_setCell (grown_setCell (grown_setCell (grown_setCell (grown_setCell ⟨rfl, rfl, rfl, Nat.le_refl _, fun _ _ _ => rfl⟩ _ _) _ _) _ _) _ _) _ _) _ _, ?_⟩
  have q := (((((h.set_ 0 v0).set_ 1 v1).set_ 2 v2).set_ 3 v3).set_ 4 v4).set_ 5 v5
  simpa using q
set_option maxHeartbeats 3200000 in
set_option maxRecDepth 100000 in
theorem of_tail (x : Nd) (f : Kids) (kind : Int) (w : World) (b6 b7 D : Nat) (hwf : x.wf) (hk : -9223372036854775808 ≤ kind ∧ kind ≤ 9223372036854775807) (hv : ∀ b r, f b = some r → refOk r) (h6 : w.heap.size ≤ b6) (hne : b6 ≠ b7) {u0 u1 u2 u3 u4 u5 u8 u9 u10 u11 u12 u13 u14 u15 u16 u17 u18 u19 u20 u21 u22 u23 u24 u25 u26 u27 u28 u29 u30 u31 : Value} (lo : Nat) (hD : lo ≤ D) (hlo : w.heap.size ≤ lo) (v4 v5 : Value) (W : World)
    (q7 : Blk W b7 27 (outC kind x.path v4 v5)) (r4 : W.ownsRow lo 5 1 v4 (kidsF f).length (rowB (kidsF f))) (r5 : W.ownsRow lo 35 2 v5 (kidsF f).length (rowR (kidsF f))) (hR : ofR w b6 W) (hd : W.heap[D]? = some (.deferred (some []))) :
    Code.wp Tryd.prog (part Tryd.f23 [1, 1, 1]) (bodyPostM Fence.wide 10 Tryd.prog Tryd.f23 (NdOut (ofNd x f kind) w)) ⟨#[u0, u1, u2, u3, u4, u5, .pointer (some ⟨b6, 0, none⟩), .pointer (some ⟨b7, 0, none⟩), u8, u9, u10, u11, u12, u13, u14, u15, u16, u17, u18, u19, u20, u21, u22, u23, u24, u25, u26, u27, u28, u29, u30, u31], [{ target := .collected D, args := #[] }]⟩ W := by
  conv => arg 2; whnf
  obtain ⟨A4, c4, rfl, _, _, _⟩ := own_form r4
  obtain ⟨A5, c5, rfl, _, _, _⟩ := own_form r5
  have HS := Lib.hid (And.intro q7 (And.intro r4 (And.intro r5 (And.intro hR hd))))
  have HH := Lib.hid (And.intro hwf (And.intro hk hv))
  obtain ⟨e0, e1, e2, e3, e4, e5⟩ := cells6 q7
  obtain ⟨d0, d1, d2, d3, d4, d5⟩ := cells6 hR.2
  have f0 := hR.2.frozen 0
  have f1 := hR.2.frozen 1
  have f2 := hR.2.frozen 2
  have f3 := hR.2.frozen 3
  have f4 := hR.2.frozen 4
  have f5 := hR.2.frozen 5
  have l6 := hR.2.lt
  clear q7 r4 r5 hR hd hwf hk hv
  go_wp2
  clear e0 e1 e2 e3 e4 e5 d0 d1 d2 d3 d4 d5 f0 f1 f2 f3 f4 f5
  obtain ⟨q7, r4, r5, hR, hd⟩ := HS.out
  obtain ⟨V, hV, hg, q6⟩ := six_stores (.int .i64 kind) (.string { data := #[] }) (.string { data := #[] }) (.string x.path) (.slice A4 (kidsF f).length c4) (.slice A5 (kidsF f).length c5) hR.2
  rw [← hV]
  clear hV
  have s4 := r4.kept hg (.inr (Ne.symm (own_blk_ne r4 hR.2 (by decide))))
  have s5 := r5.kept hg (.inr (Ne.symm (own_blk_ne r5 hR.2 (by decide))))
  have hb : Below w.heap.size w V := hR.1.grown hg hR.1.size (fun k e => by injection e with e; omega)
  have hD6 : b6 ≠ D := fun e => by subst e; have := hR.2; unfold Blk at this; rw [hd] at this; cases this
  have hne6 : some D ≠ some b6 := fun e => hD6 (by injection e with e; exact e.symm)
  have hDlt : D < W.heap.size := (Array.getElem?_eq_some_iff.1 hd).1
  have hdV := hg.block D hDlt hne6
  rw [hd] at hdV
  have q6' : Blk (V.putObj D (.deferred none)) b6 27 #[.int .i64 kind, .string { data := #[] }, .string { data := #[] }, .string x.path, .slice A4 (kidsF f).length c4, .slice A5 (kidsF f).length c5] := (World.putObj_heap_other hD6).trans q6
  obtain ⟨c0, c1, c2, c3, c4', c5'⟩ := cells6 q6'
  have hown : ∀ r, (some D : Option Nat) = some r → ∃ o : Obj, V.heap[r]? = some o ∧ o.isCells = false := fun r e => by injection e with e; subst e; exact ⟨_, hdV, rfl⟩
  have t4 := ownsRow_own s4 (grownBy_putObj' V D (.deferred none)) hown
  have t5 := ownsRow_own s5 (grownBy_putObj' V D (.deferred none)) hown
  refine ⟨by simp, .inl ⟨_, _, rfl, run_takeDeferred hdV, ?_⟩⟩
  refine ⟨.agg #[.int .i64 kind, .string { data := #[] }, .string { data := #[] }, .string x.path, .slice A4 (kidsF f).length c4, .slice A5 (kidsF f).length c5], by simp [results, Tryd.results23, go_sem, c0, c1, c2, c3, c4', c5'], _, rfl, ⟨ofNd_wf HH.out.1 HH.out.2.1 HH.out.2.2, A4, c4, A5, c5, ?_, ?_, ?_, ?_, ?_⟩, hb.trans ⟨rfl, rfl, rfl, by simp [World.putObj], fun k hk => World.putObj_heap_other (by omega)⟩⟩
  · simp [Nd.v, ofNd]
  · have h := reads_own t4
    rw [rowB_nrow] at h
    simpa [ofNd] using h
  · have h := reads_own t5
    rw [rowR_rrow] at h
    simpa [ofNd] using h
  · intro ad e
    subst e
    exact Nat.le_trans hlo (r4.lt ad.block rfl).1
  · intro ad e
    subst e
    exact Nat.le_trans hlo (r5.lt ad.block rfl).1
end Go.Proofs.YtgjgcbemgmkncaaDoor
namespace Go.Proofs.YtgjgcbemgmkncaaDoor
open Go.RowKit Go.Shelf
set_option linter.unusedVariables false
set_option linter.unusedSimpArgs false

set_option maxHeartbeats 3200000 in
set_option maxRecDepth 100000 in
theorem of_few (x : Nd) (V : Value) (w : World) (h : NdAt w x V) (g : Nat) (room : Int) (f : Kids) (hrow : FewAt w g room f) (kind : Int) (hk : -9223372036854775808 ≤ kind ∧ kind ≤ 9223372036854775807) (hv : ∀ b r, f b = some r → refOk r) :
    Calls Tryd.prog 23 #[V, .iface 67 (.pointer (some ⟨g, 0, none⟩)), .int .i64 kind] w (NdOut (ofNd x f kind) w) := by
  obtain ⟨hwf, Ab, cb, Ak, ck, rfl, _, _⟩ := h
  have hme := few_All_me g
  have HH := Lib.hid (And.intro hwf (And.intro hk (And.intro hv hrow)))
  clear hwf hk hv hrow
  unfold Nd.v
  refine (callsIn_wide (n := 10)).1 (callsIn_of_wp_marks Tryd.func23 rfl trivial (wpIn_wide.2 ?_) rfl)
  simp only [Tryd.ntmps23, List.size_toArray, List.length_cons, List.length_nil, Nat.reduceAdd, Nat.reduceSub, Array.replicate_succ, Array.replicate_zero, List.push_toArray, List.append_toArray, List.nil_append, List.cons_append]
  refine wp_seq_k fun K0 hK => ?_
  have HK0 := Lib.hid hK
  clear hK
  go_wp2_with fail
  refine HK0.out _ _ ?_
  clear HK0
  refine wp_seq_k fun K1 hK => ?_
  have HK1 := Lib.hid hK
  clear hK
  go_wp2_with fail
  refine HK1.out _ _ ?_
  clear HK1
  refine wp_seq_k fun K2 hK => ?_
  have HK2 := Lib.hid hK
  clear hK
  refine wp_seq_k fun K3 hK => ?_
  have HK3 := Lib.hid hK
  clear hK
  go_wp2_with fail
  refine (All_any (some ⟨g, 0, none⟩) _).mono ?_
  rintro e w1 ⟨rfl, rfl⟩
  go_wp2_with fail
  refine HK3.out _ _ ?_
  clear HK3
  have b4 : Below w.heap.size w ((((w.alloc (.cells #[.int .i64 x.kind, .string x.code, .string x.value, .string x.path, .slice Ab x.bytes.length cb, .slice Ak x.kids.length ck] 49)).alloc (.cells #[.int .i64 0, .string { data := #[] }, .string { data := #[] }, .string { data := #[] }, .slice none 0 0, .slice none 0 0] 27)).alloc (.cells #[.int .i64 kind, .string { data := #[] }, .string { data := #[] }, .string x.path, .slice none 0 0, .slice none 0 0] 27)).alloc (.cells #[.pointer (some ⟨g, 0, none⟩)] 67)) := ((((Below.refl _ w).alloc (Nat.le_refl _) _).alloc (by simp) _).alloc (by simp; omega) _).alloc (by simp; omega) _
  have q6 : Blk ((((w.alloc (.cells #[.int .i64 x.kind, .string x.code, .string x.value, .string x.path, .slice Ab x.bytes.length cb, .slice Ak x.kids.length ck] 49)).alloc (.cells #[.int .i64 0, .string { data := #[] }, .string { data := #[] }, .string { data := #[] }, .slice none 0 0, .slice none 0 0] 27)).alloc (.cells #[.int .i64 kind, .string { data := #[] }, .string { data := #[] }, .string x.path, .slice none 0 0, .slice none 0 0] 27)).alloc (.cells #[.pointer (some ⟨g, 0, none⟩)] 67)) (w.heap.size + 1) 27 #[.int .i64 0, .string { data := #[] }, .string { data := #[] }, .string { data := #[] }, .slice none 0 0, .slice none 0 0] := by
    have q := ((Blk.new (w.alloc (.cells #[.int .i64 x.kind, .string x.code, .string x.value, .string x.path, .slice Ab x.bytes.length cb, .slice Ak x.kids.length ck] 49)) 27 #[.int .i64 0, .string { data := #[] }, .string { data := #[] }, .string { data := #[] }, .slice none 0 0, .slice none 0 0]).alloc (.cells #[.int .i64 kind, .string { data := #[] }, .string { data := #[] }, .string x.path, .slice none 0 0, .slice none 0 0] 27)).alloc (.cells #[.pointer (some ⟨g, 0, none⟩)] 67)
    rw [World.size_alloc] at q
    exact q
  have q7 : Blk ((((w.alloc (.cells #[.int .i64 x.kind, .string x.code, .string x.value, .string x.path, .slice Ab x.bytes.length cb, .slice Ak x.kids.length ck] 49)).alloc (.cells #[.int .i64 0, .string { data := #[] }, .string { data := #[] }, .string { data := #[] }, .slice none 0 0, .slice none 0 0] 27)).alloc (.cells #[.int .i64 kind, .string { data := #[] }, .string { data := #[] }, .string x.path, .slice none 0 0, .slice none 0 0] 27)).alloc (.cells #[.pointer (some ⟨g, 0, none⟩)] 67)) (w.heap.size + 2) 27 (outC kind x.path (.slice none 0 0) (.slice none 0 0)) := by
    have q := (Blk.new ((w.alloc (.cells #[.int .i64 x.kind, .string x.code, .string x.value, .string x.path, .slice Ab x.bytes.length cb, .slice Ak x.kids.length ck] 49)).alloc (.cells #[.int .i64 0, .string { data := #[] }, .string { data := #[] }, .string { data := #[] }, .slice none 0 0, .slice none 0 0] 27)) 27 #[.int .i64 kind, .string { data := #[] }, .string { data := #[] }, .string x.path, .slice none 0 0, .slice none 0 0]).alloc (.cells #[.pointer (some ⟨g, 0, none⟩)] 67)
    rw [World.size_alloc, World.size_alloc] at q
    exact q
  have e9 : ((((w.alloc (.cells #[.int .i64 x.kind, .string x.code, .string x.value, .string x.path, .slice Ab x.bytes.length cb, .slice Ak x.kids.length ck] 49)).alloc (.cells #[.int .i64 0, .string { data := #[] }, .string { data := #[] }, .string { data := #[] }, .slice none 0 0, .slice none 0 0] 27)).alloc (.cells #[.int .i64 kind, .string { data := #[] }, .string { data := #[] }, .string x.path, .slice none 0 0, .slice none 0 0] 27)).alloc (.cells #[.pointer (some ⟨g, 0, none⟩)] 67)).cell? ⟨w.heap.size + 3, 0, none⟩ = some (.pointer (some ⟨g, 0, none⟩)) := by
    have q := (Blk.new (((w.alloc (.cells #[.int .i64 x.kind, .string x.code, .string x.value, .string x.path, .slice Ab x.bytes.length cb, .slice Ak x.kids.length ck] 49)).alloc (.cells #[.int .i64 0, .string { data := #[] }, .string { data := #[] }, .string { data := #[] }, .slice none 0 0, .slice none 0 0] 27)).alloc (.cells #[.int .i64 kind, .string { data := #[] }, .string { data := #[] }, .string x.path, .slice none 0 0, .slice none 0 0] 27)) 67 #[.pointer (some ⟨g, 0, none⟩)]).cell 0
    rw [World.size_alloc, World.size_alloc, World.size_alloc] at q
    exact q
  have hrw := HH.out.2.2.2.below b4
  have hsz : ((((w.alloc (.cells #[.int .i64 x.kind, .string x.code, .string x.value, .string x.path, .slice Ab x.bytes.length cb, .slice Ak x.kids.length ck] 49)).alloc (.cells #[.int .i64 0, .string { data := #[] }, .string { data := #[] }, .string { data := #[] }, .slice none 0 0, .slice none 0 0] 27)).alloc (.cells #[.int .i64 kind, .string { data := #[] }, .string { data := #[] }, .string x.path, .slice none 0 0, .slice none 0 0] 27)).alloc (.cells #[.pointer (some ⟨g, 0, none⟩)] 67)).heap.size = w.heap.size + 4 := by simp
  generalize (((w.alloc (.cells #[.int .i64 x.kind, .string x.code, .string x.value, .string x.path, .slice Ab x.bytes.length cb, .slice Ak x.kids.length ck] 49)).alloc (.cells #[.int .i64 0, .string { data := #[] }, .string { data := #[] }, .string { data := #[] }, .slice none 0 0, .slice none 0 0] 27)).alloc (.cells #[.int .i64 kind, .string { data := #[] }, .string { data := #[] }, .string x.path, .slice none 0 0, .slice none 0 0] 27)).alloc (.cells #[.pointer (some ⟨g, 0, none⟩)] 67) = wx at b4 q6 q7 e9 hrw hsz ⊢
  have hlt : ∀ k, ofOwn (w.heap.size + 2) wx k → k < wx.heap.size := fun k hk => by
    rw [ofOwn_blk q7] at hk
    rcases hk with rfl | ⟨n, c, e⟩ | ⟨n, c, e⟩
    · omega
    · cases e
    · cases e
  refine of_loop 79 16 (w.heap.size + 2) #[.pointer (some ⟨w.heap.size + 3, 0, none⟩)] kind x.path f wx (ofR w (w.heap.size + 1)) (ofR_stays (by omega) (by omega) (by omega) (by omega)) ⟨b4, q6⟩ (by decide) (enters_of Tryd.func79 (by kernel_rfl) rfl) (all_k_stops (w.heap.size + 3) g 9 _ (ofOwn (w.heap.size + 2)) room f _ (ofOwn_owns (by omega)) hlt (by decide) e9 hrw) q7 ?_
  intro D v4 v5 W hD z1 z2 z3 z4 z5 z6
  refine HK2.out _ _ ?_
  exact of_tail x f kind w (w.heap.size + 1) (w.heap.size + 2) D HH.out.1 HH.out.2.1 HH.out.2.2.1 (by omega) (by omega) wx.heap.size hD (by omega) v4 v5 W z1 z2 z3 z4 z6
set_option maxHeartbeats 3200000 in
set_option maxRecDepth 100000 in
theorem of_many (x : Nd) (V : Value) (w : World) (h : NdAt w x V) (g gr gu n : Nat) (f : Kids) (hrow : ManyAt w g gr gu n f) (kind : Int) (hk : -9223372036854775808 ≤ kind ∧ kind ≤ 9223372036854775807) (hv : ∀ b r, f b = some r → refOk r) :
    Calls Tryd.prog 23 #[V, .iface 70 (.pointer (some ⟨g, 0, none⟩)), .int .i64 kind] w (NdOut (ofNd x f kind) w) := by
  obtain ⟨hwf, Ab, cb, Ak, ck, rfl, _, _⟩ := h
  have hme := many_All_me g
  have HH := Lib.hid (And.intro hwf (And.intro hk (And.intro hv hrow)))
  clear hwf hk hv hrow
  unfold Nd.v
  refine (callsIn_wide (n := 10)).1 (callsIn_of_wp_marks Tryd.func23 rfl trivial (wpIn_wide.2 ?_) rfl)
  simp only [Tryd.ntmps23, List.size_toArray, List.length_cons, List.length_nil, Nat.reduceAdd, Nat.reduceSub, Array.replicate_succ, Array.replicate_zero, List.push_toArray, List.append_toArray, List.nil_append, List.cons_append]
  refine wp_seq_k fun K0 hK => ?_
  have HK0 := Lib.hid hK
  clear hK
  go_wp2_with fail
  refine HK0.out _ _ ?_
  clear HK0
  refine wp_seq_k fun K1 hK => ?_
  have HK1 := Lib.hid hK
  clear hK
  go_wp2_with fail
  refine HK1.out _ _ ?_
  clear HK1
  refine wp_seq_k fun K2 hK => ?_
  have HK2 := Lib.hid hK
  clear hK
  refine wp_seq_k fun K3 hK => ?_
  have HK3 := Lib.hid hK
  clear hK
  go_wp2_with fail
  refine (All_m (some ⟨g, 0, none⟩) _).mono ?_
  rintro e w1 ⟨rfl, rfl⟩
  go_wp2_with fail
  refine HK3.out _ _ ?_
  clear HK3
  have b4 : Below w.heap.size w ((((w.alloc (.cells #[.int .i64 x.kind, .string x.code, .string x.value, .string x.path, .slice Ab x.bytes.length cb, .slice Ak x.kids.length ck] 49)).alloc (.cells #[.int .i64 0, .string { data := #[] }, .string { data := #[] }, .string { data := #[] }, .slice none 0 0, .slice none 0 0] 27)).alloc (.cells #[.int .i64 kind, .string { data := #[] }, .string { data := #[] }, .string x.path, .slice none 0 0, .slice none 0 0] 27)).alloc (.cells #[.pointer (some ⟨g, 0, none⟩)] 70)) := ((((Below.refl _ w).alloc (Nat.le_refl _) _).alloc (by simp) _).alloc (by simp; omega) _).alloc (by simp; omega) _
  have q6 : Blk ((((w.alloc (.cells #[.int .i64 x.kind, .string x.code, .string x.value, .string x.path, .slice Ab x.bytes.length cb, .slice Ak x.kids.length ck] 49)).alloc (.cells #[.int .i64 0, .string { data := #[] }, .string { data := #[] }, .string { data := #[] }, .slice none 0 0, .slice none 0 0] 27)).alloc (.cells #[.int .i64 kind, .string { data := #[] }, .string { data := #[] }, .string x.path, .slice none 0 0, .slice none 0 0] 27)).alloc (.cells #[.pointer (some ⟨g, 0, none⟩)] 70)) (w.heap.size + 1) 27 #[.int .i64 0, .string { data := #[] }, .string { data := #[] }, .string { data := #[] }, .slice none 0 0, .slice none 0 0] := by
    have q := ((Blk.new (w.alloc (.cells #[.int .i64 x.kind, .string x.code, .string x.value, .string x.path, .slice Ab x.bytes.length cb, .slice Ak x.kids.length ck] 49)) 27 #[.int .i64 0, .string { data := #[] }, .string { data := #[] }, .string { data := #[] }, .slice none 0 0, .slice none 0 0]).alloc (.cells #[.int .i64 kind, .string { data := #[] }, .string { data := #[] }, .string x.path, .slice none 0 0, .slice none 0 0] 27)).alloc (.cells #[.pointer (some ⟨g, 0, none⟩)] 70)
    rw [World.size_alloc] at q
    exact q
  have q7 : Blk ((((w.alloc (.cells #[.int .i64 x.kind, .string x.code, .string x.value, .string x.path, .slice Ab x.bytes.length cb, .slice Ak x.kids.length ck] 49)).alloc (.cells #[.int .i64 0, .string { data := #[] }, .string { data := #[] }, .string { data := #[] }, .slice none 0 0, .slice none 0 0] 27)).alloc (.cells #[.int .i64 kind, .string { data := #[] }, .string { data := #[] }, .string x.path, .slice none 0 0, .slice none 0 0] 27)).alloc (.cells #[.pointer (some ⟨g, 0, none⟩)] 70)) (w.heap.size + 2) 27 (outC kind x.path (.slice none 0 0) (.slice none 0 0)) := by
    have q := (Blk.new ((w.alloc (.cells #[.int .i64 x.kind, .string x.code, .string x.value, .string x.path, .slice Ab x.bytes.length cb, .slice Ak x.kids.length ck] 49)).alloc (.cells #[.int .i64 0, .string { data := #[] }, .string { data := #[] }, .string { data := #[] }, .slice none 0 0, .slice none 0 0] 27)) 27 #[.int .i64 kind, .string { data := #[] }, .string { data := #[] }, .string x.path, .slice none 0 0, .slice none 0 0]).alloc (.cells #[.pointer (some ⟨g, 0, none⟩)] 70)
    rw [World.size_alloc, World.size_alloc] at q
    exact q
  have e9 : ((((w.alloc (.cells #[.int .i64 x.kind, .string x.code, .string x.value, .string x.path, .slice Ab x.bytes.length cb, .slice Ak x.kids.length ck] 49)).alloc (.cells #[.int .i64 0, .string { data := #[] }, .string { data := #[] }, .string { data := #[] }, .slice none 0 0, .slice none 0 0] 27)).alloc (.cells #[.int .i64 kind, .string { data := #[] }, .string { data := #[] }, .string x.path, .slice none 0 0, .slice none 0 0] 27)).alloc (.cells #[.pointer (some ⟨g, 0, none⟩)] 70)).cell? ⟨w.heap.size + 3, 0, none⟩ = some (.pointer (some ⟨g, 0, none⟩)) := by
    have q := (Blk.new (((w.alloc (.cells #[.int .i64 x.kind, .string x.code, .string x.value, .string x.path, .slice Ab x.bytes.length cb, .slice Ak x.kids.length ck] 49)).alloc (.cells #[.int .i64 0, .string { data := #[] }, .string { data := #[] }, .string { data := #[] }, .slice none 0 0, .slice none 0 0] 27)).alloc (.cells #[.int .i64 kind, .string { data := #[] }, .string { data := #[] }, .string x.path, .slice none 0 0, .slice none 0 0] 27)) 70 #[.pointer (some ⟨g, 0, none⟩)]).cell 0
    rw [World.size_alloc, World.size_alloc, World.size_alloc] at q
    exact q
  have hrw := HH.out.2.2.2.below b4
  have hsz : ((((w.alloc (.cells #[.int .i64 x.kind, .string x.code, .string x.value, .string x.path, .slice Ab x.bytes.length cb, .slice Ak x.kids.length ck] 49)).alloc (.cells #[.int .i64 0, .string { data := #[] }, .string { data := #[] }, .string { data := #[] }, .slice none 0 0, .slice none 0 0] 27)).alloc (.cells #[.int .i64 kind, .string { data := #[] }, .string { data := #[] }, .string x.path, .slice none 0 0, .slice none 0 0] 27)).alloc (.cells #[.pointer (some ⟨g, 0, none⟩)] 70)).heap.size = w.heap.size + 4 := by simp
  generalize (((w.alloc (.cells #[.int .i64 x.kind, .string x.code, .string x.value, .string x.path, .slice Ab x.bytes.length cb, .slice Ak x.kids.length ck] 49)).alloc (.cells #[.int .i64 0, .string { data := #[] }, .string { data := #[] }, .string { data := #[] }, .slice none 0 0, .slice none 0 0] 27)).alloc (.cells #[.int .i64 kind, .string { data := #[] }, .string { data := #[] }, .string x.path, .slice none 0 0, .slice none 0 0] 27)).alloc (.cells #[.pointer (some ⟨g, 0, none⟩)] 70) = wx at b4 q6 q7 e9 hrw hsz ⊢
  have hlt : ∀ k, ofOwn (w.heap.size + 2) wx k → k < wx.heap.size := fun k hk => by
    rw [ofOwn_blk q7] at hk
    rcases hk with rfl | ⟨n, c, e⟩ | ⟨n, c, e⟩
    · omega
    · cases e
    · cases e
  refine of_loop 94 256 (w.heap.size + 2) #[.pointer (some ⟨w.heap.size + 3, 0, none⟩)] kind x.path f wx (ofR w (w.heap.size + 1)) (ofR_stays (by omega) (by omega) (by omega) (by omega)) ⟨b4, q6⟩ (by decide) (enters_of Tryd.func94 (by kernel_rfl) rfl) (all_m_stops (w.heap.size + 3) g gr gu n 9 _ (ofOwn (w.heap.size + 2)) f _ (ofOwn_owns (by omega)) hlt e9 hrw) q7 ?_
  intro D v4 v5 W hD z1 z2 z3 z4 z5 z6
  refine HK2.out _ _ ?_
  exact of_tail x f kind w (w.heap.size + 1) (w.heap.size + 2) D HH.out.1 HH.out.2.1 HH.out.2.2.1 (by omega) (by omega) wx.heap.size hD (by omega) v4 v5 W z1 z2 z3 z4 z6
theorem of_row (x : Nd) (V : Value) (w : World) (h : NdAt w x V) (iv : Value) (room : Int) (f : Kids) (bl : List Nat) (hrow : RowAt w iv room f bl) (kind : Int) (hk : -9223372036854775808 ≤ kind ∧ kind ≤ 9223372036854775807) (hv : ∀ b r, f b = some r → refOk r) :
    Calls Tryd.prog 23 #[V, iv, .int .i64 kind] w (NdOut (ofNd x f kind) w) := by
  rcases hrow with ⟨g, rfl, rfl, hf⟩ | ⟨g, gr, gu, n, rfl, rfl, rfl, hf⟩
  · exact of_few x V w h g room f hf kind hk hv
  · exact of_many x V w h g gr gu n f hf kind hk hv
end Go.Proofs.YtgjgcbemgmkncaaDoor
namespace Go.Proofs.YtgjgcbemgmkncaaDoor
open Go.RowKit Go.Shelf
set_option linter.unusedVariables false
set_option linter.unusedSimpArgs false

def zeroNd : Nd := ⟨0, { data := #[] }, { data := #[] }, { data := #[] }, [], []⟩
theorem zeroNd_at (W : World) : NdAt W zeroNd (.agg #[.int .i64 0, .string { data := #[] }, .string { data := #[] }, .string { data := #[] }, .slice none 0 0, .slice none 0 0]) :=
  ⟨⟨by simp [zeroNd], by simp [zeroNd], by simp [zeroNd], by simp [zeroNd], by simp [zeroNd], by simp [zeroNd, ByteArray.size], by simp [zeroNd, ByteArray.size], by simp [zeroNd, ByteArray.size]⟩, none, 0, none, 0, rfl, Reads.none_, Reads.none_⟩
def kindN (x : Nd) (n : Int) (keep : Bool) : Int := if keep then x.kind else (ofN n).1
def addRoom (x : Nd) (keep : Bool) : Int := roomN (max (kindN x ((x.kids.length : Int) + 1) keep) x.kind)
def Nd.row (x : Nd) (room : Int) : Kids := layK room (x.bytes.zip x.kids)
def addN (x : Nd) (b : Nat) (r : Int × Int) (keep : Bool) : Nd × Int :=
  if x.may = false ∨ kidN r = false then (zeroNd, 4)
  else if (putK (addRoom x keep) (x.row (addRoom x keep)) b r).1 = 0 then (ofNd x (putK (addRoom x keep) (x.row (addRoom x keep)) b r).2 (kindN x ((x.kids.length : Int) + 1) keep), 0)
  else (zeroNd, (putK (addRoom x keep) (x.row (addRoom x keep)) b r).1)
def cutN (x : Nd) (b : Nat) (keep : Bool) : Nd × Int :=
  if x.may = false then (zeroNd, 4)
  else if (takeK (x.row (roomN x.kind)) b).1.2 = 0 then (ofNd x (takeK (x.row (roomN x.kind)) b).2 (kindN x ((x.kids.length : Int) - 1) keep), 0)
  else (zeroNd, (takeK (x.row (roomN x.kind)) b).1.2)
theorem may_inner {x : Nd} (h : x.may = true) : x.isInner = true := by
  unfold Nd.may Nd.isRight Nd.isAnchor at h
  cases hi : x.isInner with
  | true => rfl
  | false => rw [hi] at h; simp at h
theorem inner_parts {x : Nd} (h : x.isInner = true) : 0 < roomN x.kind ∧ x.code.toList.isEmpty = true ∧ x.value.toList.isEmpty = true ∧ x.path.size ≤ 34 ∧ x.bytes.length = x.kids.length ∧ x.kids.length ≤ 256 ∧ risingN x.bytes = true ∧ x.kids.all kidN = true := by
  unfold Nd.isInner Nd.innerN Nd.bareN Nd.pairedN Nd.risingN Nd.refsN at h
  simp only [Bool.and_eq_true, decide_eq_true_eq] at h
  obtain ⟨⟨⟨⟨h1, ⟨h2, h3⟩, h4⟩, h5, h6⟩, h7⟩, h8⟩ := h
  exact ⟨h1, h2, h3, by omega, h5, h6, h7, h8⟩
theorem room_kind {k : Int} (h : 0 < roomN k) : k = 2 ∨ k = 3 ∨ k = 4 ∨ k = 5 := by
  unfold roomN at h
  by_cases h2 : k = 2
  · exact .inl h2
  · by_cases h3 : k = 3
    · exact .inr (.inl h3)
    · by_cases h4 : k = 4
      · exact .inr (.inr (.inl h4))
      · by_cases h5 : k = 5
        · exact .inr (.inr (.inr h5))
        · simp [h2, h3, h4, h5] at h
theorem roomOk_of {k : Int} (h : k = 2 ∨ k = 3 ∨ k = 4 ∨ k = 5) : roomOk (roomN k) := by
  rcases h with rfl | rfl | rfl | rfl
  · exact .inl rfl
  · exact .inr (.inl rfl)
  · exact .inr (.inr (.inl rfl))
  · exact .inr (.inr (.inr rfl))
theorem ofN_kind (n : Int) : (ofN n).1 = 0 ∨ (ofN n).1 = 2 ∨ (ofN n).1 = 3 ∨ (ofN n).1 = 4 ∨ (ofN n).1 = 5 := by
  unfold ofN
  split
  · exact .inl rfl
  · split
    · exact .inr (.inl rfl)
    · split
      · exact .inr (.inr (.inl rfl))
      · split
        · exact .inr (.inr (.inr (.inl rfl)))
        · split
          · exact .inr (.inr (.inr (.inr rfl)))
          · exact .inl rfl
theorem kindN_in (x : Nd) (n : Int) (keep : Bool) (h : 0 < roomN x.kind) : -9223372036854775808 ≤ kindN x n keep ∧ kindN x n keep ≤ 9223372036854775807 := by
  have h1 := ofN_kind n
  have h2 := room_kind h
  unfold kindN
  split <;> omega
theorem addRoom_ok (x : Nd) (keep : Bool) (h : 0 < roomN x.kind) : roomOk (addRoom x keep) := by
  have h1 := ofN_kind ((x.kids.length : Int) + 1)
  have h2 := room_kind h
  refine roomOk_of ?_
  unfold kindN
  split <;> omega
/-- Kids laid out of a node are its own. -/
theorem layK_mem (room : Int) (l : List (Nat × (Int × Int))) : ∀ b r, layK room l b = some r → ∃ p ∈ l, p.1 = b ∧ p.2 = r := by
  have h : ∀ (l : List (Nat × (Int × Int))) (f : Kids), ∀ b r, l.foldl (layStep room) f b = some r → f b = some r ∨ ∃ p ∈ l, p.1 = b ∧ p.2 = r := by
    intro l
    induction l with
    | nil => intro f b r h; exact .inl h
    | cons p l ih =>
      intro f b r h
      rcases ih _ b r h with h1 | ⟨q, hq, h2⟩
      · unfold layStep putK at h1
        split at h1
        · exact .inl h1
        · split at h1
          · exact .inl h1
          · dsimp only [setK] at h1
            split at h1
            · rename_i e
              injection h1 with h1
              exact .inr ⟨p, by simp, e.symm, h1⟩
            · exact .inl h1
      · exact .inr ⟨q, by simp [hq], h2⟩
  intro b r hb
  rcases h l noKids b r hb with h1 | h1
  · cases h1
  · exact h1
theorem row_refOk {x : Nd} (hx : x.wf) (room : Int) : ∀ b r, x.row room b = some r → refOk r := by
  intro b r h
  obtain ⟨p, hp, _, rfl⟩ := layK_mem room _ b r h
  exact hx.refs _ (List.of_mem_zip hp).2
theorem set_refOk {f : Kids} (hf : ∀ b r, f b = some r → refOk r) (c : Nat) {r : Int × Int} (hr : refOk r) : ∀ b q, setK f c (some r) b = some q → refOk q := by
  intro b q h
  unfold setK at h
  split at h
  · injection h with h; subst h; exact hr
  · exact hf b q h
theorem none_refOk {f : Kids} (hf : ∀ b r, f b = some r → refOk r) (c : Nat) : ∀ b q, setK f c none b = some q → refOk q := by
  intro b q h
  unfold setK at h
  split at h
  · cases h
  · exact hf b q h
theorem put_refOk {f : Kids} (room : Int) (hf : ∀ b r, f b = some r → refOk r) (c : Nat) {r : Int × Int} (hr : refOk r) : ∀ b q, (putK room f c r).2 b = some q → refOk q := by
  unfold putK
  split
  · exact hf
  · split
    · exact hf
    · exact set_refOk hf c hr
theorem take_refOk {f : Kids} (hf : ∀ b r, f b = some r → refOk r) (c : Nat) : ∀ b q, (takeK f c).2 b = some q → refOk q := by
  unfold takeK
  split
  · exact none_refOk hf c
  · exact hf
theorem kind_n (x : Nd) (V : Value) (n : Int) (keep : Bool) (w : World) (h : NdAt w x V) (hr : RoomsAt w) : Calls Tryd.prog 21 #[V, .int .i64 n, .bool keep] w (IntEnd (kindN x n keep) w) := by
  obtain ⟨_, Ab, cb, Ak, ck, rfl, _, _⟩ := h
  unfold Nd.v
  cases keep with
  | true =>
    go_enter Tryd.func21, Tryd.ntmps21
    go_wp2
    go_ret
    exact ⟨rfl, (Below.refl _ _).alloc (Nat.le_refl _) _⟩
  | false =>
    have HO := Lib.hid (of_n n (w.alloc (.cells #[.int .i64 x.kind, .string x.code, .string x.value, .string x.path, .slice Ab x.bytes.length cb, .slice Ak x.kids.length ck] 49)) (hr.on (below_box w _)))
    obtain ⟨p, hp⟩ : ∃ p, ofN n = p := ⟨_, rfl⟩
    rw [hp] at HO
    have HP : Hid (kindN x n false = p.1) := Lib.hid (by unfold kindN; rw [hp]; rfl)
    clear hp
    go_enter Tryd.func21, Tryd.ntmps21
    go_wp2_with fail
    refine HO.out.mono ?_
    rintro e w1 ⟨rfl, rfl⟩
    go_wp2
    go_ret
    exact ⟨ret_int HP.out.symm, (Below.refl _ _).alloc (Nat.le_refl _) _⟩
end Go.Proofs.YtgjgcbemgmkncaaDoor
