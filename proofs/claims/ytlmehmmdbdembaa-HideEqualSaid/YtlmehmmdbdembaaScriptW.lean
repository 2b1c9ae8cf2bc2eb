/-
  Walks: burgagekit's functions on scripts.
-/
import Derived.Test.YtlmehmmdbdembaaEntriesW
namespace Go.Proofs.Ytlmehmmdbdembaa
open Go.RowKit
set_option linter.unusedVariables false

/-- A script that lies in memory. -/
structure ScrIn (w : World) (A B : Option Addr) (es : List Ent) (ps : List Int) : Prop where
  e : Reads w w.heap.size 13 A es.length (es.flatMap Ent.row)
  p : Reads w w.heap.size 1 B ps.length (ps.flatMap irow)
  le : es.length ≤ 65536
  lp : ps.length ≤ 65536
theorem ScrIn.below {w w' : World} {A B : Option Addr} {es : List Ent} {ps : List Int} (h : ScrIn w A B es ps) (hb : Below w.heap.size w w') : ScrIn w' A B es ps :=
  ⟨(h.e.below hb).more hb.size, (h.p.below hb).more hb.size, h.le, h.lp⟩

/-- What LentScript comes to. -/
def LentScriptEnd (es : List Ent) (ps : List Int) (w : World) (e : Ending) (w' : World) : Prop :=
  ∃ g1 c1 g2 c2, e = .returned (.agg #[.slice (some ⟨g1, 0, none⟩) es.length c1, .slice (some ⟨g2, 0, none⟩) ps.length c2]) ∧ es.length + 12 ≤ c1 ∧ c1 ≤ maxLen ∧ ps.length + 12 ≤ c2 ∧ c2 ≤ maxLen ∧
    w'.ownsRow w.heap.size 46 13 (.slice (some ⟨g1, 0, none⟩) (es.length + 12) c1) (es.length + 12) ((es ++ marksE 12).flatMap Ent.row) ∧
    w'.ownsRow w.heap.size 3 1 (.slice (some ⟨g2, 0, none⟩) (ps.length + 12) c2) (ps.length + 12) ((ps ++ marksI 12).flatMap irow) ∧ Below w.heap.size w w'

theorem ownsRow_kept {w w' : World} {B base size n : Nat} {e : TypeId} {v : Value} {xs : List Value} (h : w.ownsRow base e size v n xs) (hb : Below w.heap.size w w') (hB : B ≤ base) : w'.ownsRow B e size v n xs :=
  ownsRow_more (ownsRow_below h hb (Nat.le_refl _)) hB

set_option maxHeartbeats 1600000 in
theorem lent_script (A B : Option Addr) (c d : Nat) (es : List Ent) (ps : List Int) (w : World) (h : ScrIn w A B es ps) :
    Calls Try.prog 18 #[.agg #[.slice A es.length c, .slice B ps.length d]] w (LentScriptEnd es ps w) := by
  have H := Lib.hid h
  clear h
  go_enter Try.func18, Try.ntmps18
  go_wp2_with fail
  have b0 := (Blk.new w 41 #[.slice A es.length c, .slice B ps.length d]).alloc (.cells #[.slice none 0 0, .slice none 0 0] 41)
  have b1 := blk_newAt (w := w.alloc (.cells #[.slice A es.length c, .slice B ps.length d] 41)) (g := w.heap.size + 1) (t := 41) (cs := #[.slice none 0 0, .slice none 0 0]) (by simp)
  have hbel : Below w.heap.size w ((w.alloc (.cells #[.slice A es.length c, .slice B ps.length d] 41)).alloc (.cells #[.slice none 0 0, .slice none 0 0] 41)) := below_alloc (below_box w _) _
  have hsz0 : w.heap.size + 2 ≤ ((w.alloc (.cells #[.slice A es.length c, .slice B ps.length d] 41)).alloc (.cells #[.slice none 0 0, .slice none 0 0] 41)).heap.size := by simp
  have hs := H.out.below hbel
  generalize (w.alloc (.cells #[.slice A es.length c, .slice B ps.length d] 41)).alloc (.cells #[.slice none 0 0, .slice none 0 0] 41) = W0 at b0 b1 hbel hs hsz0 ⊢
  refine (lent_entries es A c _ hs.le hs.e).mono ?_
  rintro e w1 ⟨g1, c1, rfl, hc1, hm1, ho1, hb1⟩
  have HC0 := And.intro hc1 hm1
  clear hc1 hm1
  have b0 := b0.below hb1 b0.lt
  have b1 := b1.below hb1 b1.lt
  have hbel := below_trans hbel hb1
  have hw1 : W0.heap.size ≤ w1.heap.size := hb1.size
  have hlt0 := b0.lt
  have hlt1 := b1.lt
  have x0 := b0.cell 0
  have x1 := b0.cell 1
  have f0 := b0.frozen 0
  simp at x0 x1
  have ho1 := ownsRow_setCell_below ho1 (a := ⟨w.heap.size, 0, none⟩) (by simp; omega) (.slice (some ⟨g1, 0, none⟩) es.length c1)
  have b1 := b1.far (p := ⟨w.heap.size, 0, none⟩) (by simp) (.slice (some ⟨g1, 0, none⟩) es.length c1)
  have b0 := b0.set_ 0 (.slice (some ⟨g1, 0, none⟩) es.length c1)
  have hbel := hbel.setCell (p := ⟨w.heap.size, 0, none⟩) (Nat.le_refl _) (.slice (some ⟨g1, 0, none⟩) es.length c1)
  have hw1 : W0.heap.size ≤ (w1.setCell ⟨w.heap.size, 0, none⟩ (.slice (some ⟨g1, 0, none⟩) es.length c1)).heap.size := by simpa using hw1
  simp at b0
  have HH := Lib.hid (And.intro ho1 (And.intro hbel (And.intro b0 b1)))
  have HC := Lib.hid HC0
  clear hb1 ho1 hbel b0 b1 HC0
  go_wp2_with fail
  clear x0 x1 f0
  generalize w1.setCell ⟨w.heap.size, 0, none⟩ (.slice (some ⟨g1, 0, none⟩) es.length c1) = W1 at HH hw1 ⊢
  obtain ⟨ho1, hbel, b0, b1⟩ := HH.out
  have hs := H.out.below hbel
  refine (lent_ints ps B d _ hs.lp hs.p).mono ?_
  rintro e w2 ⟨g2, c2, rfl, hc2, hm2, ho2, hb2⟩
  have HC1 := And.intro hc2 hm2
  clear hc2 hm2
  have b0 := b0.below hb2 b0.lt
  have b1 := b1.below hb2 b1.lt
  have hw2 : W1.heap.size ≤ w2.heap.size := hb2.size
  have hbel := below_trans hbel hb2
  have ho1 := ownsRow_below ho1 hb2 (Nat.le_refl _)
  have x0 := b0.cell 0
  have x1 := b0.cell 1
  have f0 := b0.frozen 1
  simp at x0 x1
  have y0 := b1.cell 0
  have y1 := b1.cell 1
  have e0 := b1.frozen 0
  have e1 := b1.frozen 1
  simp at y0 y1
  have ne1 : w.heap.size ≠ w.heap.size + 1 := by omega
  have ho1 := ownsRow_setCell_below ho1 (a := ⟨w.heap.size, 1, none⟩) (by simp; omega) (.slice (some ⟨g2, 0, none⟩) ps.length c2)
  have ho2 := ownsRow_setCell_below ho2 (a := ⟨w.heap.size, 1, none⟩) (by simp; omega) (.slice (some ⟨g2, 0, none⟩) ps.length c2)
  have hbel := hbel.setCell (p := ⟨w.heap.size, 1, none⟩) (Nat.le_refl _) (.slice (some ⟨g2, 0, none⟩) ps.length c2)
  have ho1 := ownsRow_setCell_below (ownsRow_setCell_below ho1 (a := ⟨w.heap.size + 1, 0, none⟩) (by simp; omega) (.slice (some ⟨g1, 0, none⟩) es.length c1)) (a := ⟨w.heap.size + 1, 1, none⟩) (by simp; omega) (.slice (some ⟨g2, 0, none⟩) ps.length c2)
  have ho2 := ownsRow_setCell_below (ownsRow_setCell_below ho2 (a := ⟨w.heap.size + 1, 0, none⟩) (by simp; omega) (.slice (some ⟨g1, 0, none⟩) es.length c1)) (a := ⟨w.heap.size + 1, 1, none⟩) (by simp; omega) (.slice (some ⟨g2, 0, none⟩) ps.length c2)
  have hbel := (hbel.setCell (p := ⟨w.heap.size + 1, 0, none⟩) (by simp) (.slice (some ⟨g1, 0, none⟩) es.length c1)).setCell (p := ⟨w.heap.size + 1, 1, none⟩) (by simp) (.slice (some ⟨g2, 0, none⟩) ps.length c2)
  have bR1 := (b1.far (p := ⟨w.heap.size, 1, none⟩) (by simp) (.slice (some ⟨g2, 0, none⟩) ps.length c2)).set_ 0 (.slice (some ⟨g1, 0, none⟩) es.length c1)
  have bR2 := bR1.set_ 1 (.slice (some ⟨g2, 0, none⟩) ps.length c2)
  have r0 := bR1.cell 0
  have r1 := bR2.cell 1
  simp at r0 r1
  have HR := Lib.hid (And.intro r0 r1)
  clear bR1 bR2 r0 r1
  have HH := Lib.hid (And.intro ho1 (And.intro ho2 hbel))
  have HC2 := Lib.hid HC1
  clear hb2 ho1 ho2 hbel b0 b1 HC1 hs
  go_wp2_with fail
  refine bodyPost_ret (v := .agg #[.slice (some ⟨g1, 0, none⟩) es.length c1, .slice (some ⟨g2, 0, none⟩) ps.length c2]) (by simp [results, Try.results18, go_sem, HR.out.1, HR.out.2]) rfl ?_
  exact ⟨g1, c1, g2, c2, rfl, HC.out.1, HC.out.2, HC2.out.1, HC2.out.2, ownsRow_more HH.out.1 (by omega), ownsRow_more HH.out.2.1 (by omega), HH.out.2.2⟩
/-- What CopyScript comes to. -/
def CopyScriptEnd (es : List Ent) (ps : List Int) (w : World) (e : Ending) (w' : World) : Prop :=
  ∃ A1 c1 A2 c2, e = .returned (.agg #[.slice A1 es.length c1, .slice A2 ps.length c2]) ∧ w'.ownsRow w.heap.size 46 13 (.slice A1 es.length c1) es.length (es.flatMap Ent.row) ∧ w'.ownsRow w.heap.size 3 1 (.slice A2 ps.length c2) ps.length (ps.flatMap irow) ∧ Below w.heap.size w w'
set_option maxHeartbeats 1600000 in
theorem copy_script (A B : Option Addr) (c d : Nat) (es : List Ent) (ps : List Int) (w : World) (h : ScrIn w A B es ps) :
    Calls Try.prog 12 #[.agg #[.slice A es.length c, .slice B ps.length d]] w (CopyScriptEnd es ps w) := by
  have H := Lib.hid h
  clear h
  go_enter Try.func12, Try.ntmps12
  go_wp2_with fail
  have b0 := (Blk.new w 41 #[.slice A es.length c, .slice B ps.length d]).alloc (.cells #[.slice none 0 0, .slice none 0 0] 41)
  have b1 := blk_newAt (w := w.alloc (.cells #[.slice A es.length c, .slice B ps.length d] 41)) (g := w.heap.size + 1) (t := 41) (cs := #[.slice none 0 0, .slice none 0 0]) (by simp)
  have hbel : Below w.heap.size w ((w.alloc (.cells #[.slice A es.length c, .slice B ps.length d] 41)).alloc (.cells #[.slice none 0 0, .slice none 0 0] 41)) := below_alloc (below_box w _) _
  have hsz0 : w.heap.size + 2 ≤ ((w.alloc (.cells #[.slice A es.length c, .slice B ps.length d] 41)).alloc (.cells #[.slice none 0 0, .slice none 0 0] 41)).heap.size := by simp
  have hs := H.out.below hbel
  generalize (w.alloc (.cells #[.slice A es.length c, .slice B ps.length d] 41)).alloc (.cells #[.slice none 0 0, .slice none 0 0] 41) = W0 at b0 b1 hbel hs hsz0 ⊢
  refine (copy_entries es A c _ hs.le hs.e).mono ?_
  rintro e w1 ⟨v1, rfl, ho1, hb1⟩
  obtain ⟨A1, c1, rfl, HC0, -, -⟩ := own_form ho1
  have b0 := b0.below hb1 b0.lt
  have b1 := b1.below hb1 b1.lt
  have hbel := below_trans hbel hb1
  have hw1 : W0.heap.size ≤ w1.heap.size := hb1.size
  have hlt0 := b0.lt
  have hlt1 := b1.lt
  have x0 := b0.cell 0
  have x1 := b0.cell 1
  have f0 := b0.frozen 0
  simp at x0 x1
  have ho1 := ownsRow_setCell_below ho1 (a := ⟨w.heap.size, 0, none⟩) (by simp; omega) (.slice A1 es.length c1)
  have b1 := b1.far (p := ⟨w.heap.size, 0, none⟩) (by simp) (.slice A1 es.length c1)
  have b0 := b0.set_ 0 (.slice A1 es.length c1)
  have hbel := hbel.setCell (p := ⟨w.heap.size, 0, none⟩) (Nat.le_refl _) (.slice A1 es.length c1)
  have hw1 : W0.heap.size ≤ (w1.setCell ⟨w.heap.size, 0, none⟩ (.slice A1 es.length c1)).heap.size := by simpa using hw1
  simp at b0
  have HH := Lib.hid (And.intro ho1 (And.intro hbel (And.intro b0 b1)))
  have HC := Lib.hid HC0
  clear hb1 ho1 hbel b0 b1 HC0
  go_wp2_with fail
  clear x0 x1 f0
  generalize w1.setCell ⟨w.heap.size, 0, none⟩ (.slice A1 es.length c1) = W1 at HH hw1 ⊢
  obtain ⟨ho1, hbel, b0, b1⟩ := HH.out
  have hs := H.out.below hbel
  refine (copy_ints ps B d _ hs.lp hs.p).mono ?_
  rintro e w2 ⟨v2, rfl, ho2, hb2⟩
  obtain ⟨A2, c2, rfl, HC1, -, -⟩ := own_form ho2
  have b0 := b0.below hb2 b0.lt
  have b1 := b1.below hb2 b1.lt
  have hw2 : W1.heap.size ≤ w2.heap.size := hb2.size
  have hbel := below_trans hbel hb2
  have ho1 := ownsRow_below ho1 hb2 (Nat.le_refl _)
  have x0 := b0.cell 0
  have x1 := b0.cell 1
  have f0 := b0.frozen 1
  simp at x0 x1
  have y0 := b1.cell 0
  have y1 := b1.cell 1
  have e0 := b1.frozen 0
  have e1 := b1.frozen 1
  simp at y0 y1
  have ne1 : w.heap.size ≠ w.heap.size + 1 := by omega
  have ho1 := ownsRow_setCell_below ho1 (a := ⟨w.heap.size, 1, none⟩) (by simp; omega) (.slice A2 ps.length c2)
  have ho2 := ownsRow_setCell_below ho2 (a := ⟨w.heap.size, 1, none⟩) (by simp; omega) (.slice A2 ps.length c2)
  have hbel := hbel.setCell (p := ⟨w.heap.size, 1, none⟩) (Nat.le_refl _) (.slice A2 ps.length c2)
  have ho1 := ownsRow_setCell_below (ownsRow_setCell_below ho1 (a := ⟨w.heap.size + 1, 0, none⟩) (by simp; omega) (.slice A1 es.length c1)) (a := ⟨w.heap.size + 1, 1, none⟩) (by simp; omega) (.slice A2 ps.length c2)
  have ho2 := ownsRow_setCell_below (ownsRow_setCell_below ho2 (a := ⟨w.heap.size + 1, 0, none⟩) (by simp; omega) (.slice A1 es.length c1)) (a := ⟨w.heap.size + 1, 1, none⟩) (by simp; omega) (.slice A2 ps.length c2)
  have hbel := (hbel.setCell (p := ⟨w.heap.size + 1, 0, none⟩) (by simp) (.slice A1 es.length c1)).setCell (p := ⟨w.heap.size + 1, 1, none⟩) (by simp) (.slice A2 ps.length c2)
  have bR1 := (b1.far (p := ⟨w.heap.size, 1, none⟩) (by simp) (.slice A2 ps.length c2)).set_ 0 (.slice A1 es.length c1)
  have bR2 := bR1.set_ 1 (.slice A2 ps.length c2)
  have r0 := bR1.cell 0
  have r1 := bR2.cell 1
  simp at r0 r1
  have HR := Lib.hid (And.intro r0 r1)
  clear bR1 bR2 r0 r1
  have HH := Lib.hid (And.intro ho1 (And.intro ho2 hbel))
  have HC2 := Lib.hid HC1
  clear hb2 ho1 ho2 hbel b0 b1 HC1 hs
  go_wp2_with fail
  refine bodyPost_ret (v := .agg #[.slice A1 es.length c1, .slice A2 ps.length c2]) (by simp [results, Try.results12, go_sem, HR.out.1, HR.out.2]) rfl ?_
  exact ⟨A1, c1, A2, c2, rfl, ownsRow_more HH.out.1 (by omega), ownsRow_more HH.out.2.1 (by omega), HH.out.2.2⟩

set_option maxHeartbeats 1600000 in
theorem same_script (A B A' B' : Option Addr) (c d c' d' : Nat) (es es' : List Ent) (ps ps' : List Int) (w : World) (h : ScrIn w A B es ps) (h' : ScrIn w A' B' es' ps') :
    Calls Try.prog 22 #[.agg #[.slice A es.length c, .slice B ps.length d], .agg #[.slice A' es'.length c', .slice B' ps'.length d']] w (BoolEnd (decide (es = es') && decide (ps = ps')) w) := by
  have H := Lib.hid (And.intro h h')
  clear h h'
  go_enter Try.func22, Try.ntmps22
  go_wp2_with fail
  have hbel : Below w.heap.size w ((w.alloc (.cells #[.slice A es.length c, .slice B ps.length d] 41)).alloc (.cells #[.slice A' es'.length c', .slice B' ps'.length d'] 41)) := below_alloc (below_box w _) _
  have b0 := (Blk.new w 41 #[.slice A es.length c, .slice B ps.length d]).alloc (.cells #[.slice A' es'.length c', .slice B' ps'.length d'] 41)
  have b1 := blk_newAt (w := w.alloc (.cells #[.slice A es.length c, .slice B ps.length d] 41)) (g := w.heap.size + 1) (t := 41) (cs := #[.slice A' es'.length c', .slice B' ps'.length d']) (by simp)
  have hs := H.out.1.below hbel
  have hs' := H.out.2.below hbel
  generalize (w.alloc (.cells #[.slice A es.length c, .slice B ps.length d] 41)).alloc (.cells #[.slice A' es'.length c', .slice B' ps'.length d'] 41) = W0 at b0 b1 hbel hs hs' ⊢
  refine (same_entries A A' c c' es es' _ _ _ hs.le hs'.le hs.e hs'.e).mono ?_
  rintro e w1 ⟨rfl, n1, hw1⟩
  have hb1 : Below W0.heap.size W0 w1 := by rw [hw1]; exact below_drewN (Below.refl _ _) n1
  have hbel := below_trans hbel hb1
  have b0 := b0.below hb1 b0.lt
  have b1 := b1.below hb1 b1.lt
  have x1 := b0.cell 1
  have y1 := b1.cell 1
  simp at x1 y1
  have HB := Lib.hid hbel
  clear hw1 hb1 hbel b0 b1 hs hs'
  by_cases he : es = es'
  · rw [decide_eq_true he]
    have HE := Lib.hid he
    clear he
    go_wp2_with fail
    have hs := H.out.1.below HB.out
    have hs' := H.out.2.below HB.out
    refine (same_ints B B' d d' ps ps' _ _ _ hs.lp hs'.lp hs.p hs'.p).mono ?_
    rintro e w2 ⟨rfl, n2, hw2⟩
    have hbel : Below w.heap.size w w2 := by rw [hw2]; exact below_drewN HB.out n2
    clear hw2 hs hs'
    go_wp2
    go_ret
    exact ⟨ret_bool (by simp [HE.out]), hbel⟩
  · rw [decide_eq_false he]
    have HE := Lib.hid he
    clear he
    go_wp2
    go_ret
    exact ⟨ret_bool (by simp [HE.out]), HB.out⟩

theorem Reads.take_ {w : World} {B size n m : Nat} {A : Option Addr} {xs ys : List Value} (h : Reads w B size A (n + m) (xs ++ ys)) (hx : xs.length = n * size) : Reads w B size A n xs := by
  refine ⟨hx, fun hn => ?_⟩
  obtain ⟨ad, e, hb, hc⟩ := h.2 (by omega)
  exact ⟨ad, e, hb, fun j u hu => hc j u (by rw [List.getElem?_append_left (List.getElem?_eq_some_iff.1 hu).1]; exact hu)⟩
theorem flat_len {α : Type} {f : α → List Value} {m : Nat} (hf : ∀ x, (f x).length = m) : ∀ l : List α, (l.flatMap f).length = l.length * m
  | [] => by simp
  | x :: l => by rw [List.flatMap_cons, List.length_append, hf, flat_len hf l, List.length_cons, Nat.add_mul]; omega
/-- A lent script as it lies in memory. -/
structure LentIn (w : World) (g1 c1 g2 c2 : Nat) (es : List Ent) (ps : List Int) : Prop where
  e : Reads w w.heap.size 13 (some ⟨g1, 0, none⟩) (es.length + 12) ((es ++ marksE 12).flatMap Ent.row)
  p : Reads w w.heap.size 1 (some ⟨g2, 0, none⟩) (ps.length + 12) ((ps ++ marksI 12).flatMap irow)
  hg1 : g1 < w.heap.size
  hg2 : g2 < w.heap.size
  hc1 : es.length + 12 ≤ c1
  hc2 : ps.length + 12 ≤ c2
  hm1 : c1 ≤ maxLen
  hm2 : c2 ≤ maxLen
theorem LentIn.below {w w' : World} {g1 c1 g2 c2 : Nat} {es : List Ent} {ps : List Int} (h : LentIn w g1 c1 g2 c2 es ps) (hb : Below w.heap.size w w') : LentIn w' g1 c1 g2 c2 es ps :=
  ⟨(h.e.below hb).more hb.size, (h.p.below hb).more hb.size, Nat.lt_of_lt_of_le h.hg1 hb.size, Nat.lt_of_lt_of_le h.hg2 hb.size, h.hc1, h.hc2, h.hm1, h.hm2⟩
theorem LentIn.scr {w : World} {g1 c1 g2 c2 : Nat} {es : List Ent} {ps : List Int} (h : LentIn w g1 c1 g2 c2 es ps) (he : es.length ≤ 65536) (hp : ps.length ≤ 65536) : ScrIn w (some ⟨g1, 0, none⟩) (some ⟨g2, 0, none⟩) es ps :=
  ⟨Reads.take_ (by have := h.e; rw [List.flatMap_append] at this; exact this) (flat_len ent_row_len es), Reads.take_ (by have := h.p; rw [List.flatMap_append] at this; exact this) (flat_len irow_len ps), he, hp⟩

set_option maxHeartbeats 1600000 in
theorem kept_script (A B : Option Addr) (c d g1 c1 g2 c2 : Nat) (es : List Ent) (ps : List Int) (w : World) (h : ScrIn w A B es ps) (hl : LentIn w g1 c1 g2 c2 es ps) :
    Calls Try.prog 25 #[.agg #[.slice (some ⟨g1, 0, none⟩) es.length c1, .slice (some ⟨g2, 0, none⟩) ps.length c2], .agg #[.slice A es.length c, .slice B ps.length d]] w (BoolEnd true w) := by
  have H := Lib.hid (And.intro h hl)
  clear h hl
  go_enter Try.func25, Try.ntmps25
  go_wp2_with fail
  have hbel : Below w.heap.size w ((w.alloc (.cells #[.slice (some ⟨g1, 0, none⟩) es.length c1, .slice (some ⟨g2, 0, none⟩) ps.length c2] 41)).alloc (.cells #[.slice A es.length c, .slice B ps.length d] 41)) := below_alloc (below_box w _) _
  have b0 := (Blk.new w 41 #[.slice (some ⟨g1, 0, none⟩) es.length c1, .slice (some ⟨g2, 0, none⟩) ps.length c2]).alloc (.cells #[.slice A es.length c, .slice B ps.length d] 41)
  have b1 := blk_newAt (w := w.alloc (.cells #[.slice (some ⟨g1, 0, none⟩) es.length c1, .slice (some ⟨g2, 0, none⟩) ps.length c2] 41)) (g := w.heap.size + 1) (t := 41) (cs := #[.slice A es.length c, .slice B ps.length d]) (by simp)
  have hs := H.out.1.below hbel
  have hl := H.out.2.below hbel
  generalize (w.alloc (.cells #[.slice (some ⟨g1, 0, none⟩) es.length c1, .slice (some ⟨g2, 0, none⟩) ps.length c2] 41)).alloc (.cells #[.slice A es.length c, .slice B ps.length d] 41) = W0 at b0 b1 hbel hs hl ⊢
  have hq := same_script (some ⟨g1, 0, none⟩) (some ⟨g2, 0, none⟩) A B c1 c2 c d es es ps ps W0 (hl.scr hs.le hs.lp) hs
  rw [show (decide (es = es) && decide (ps = ps)) = true from by simp] at hq
  refine hq.mono ?_
  clear hq
  rintro e w1 ⟨rfl, hb1⟩
  have hbel := below_trans hbel hb1
  have b0 := b0.below hb1 b0.lt
  have b1 := b1.below hb1 b1.lt
  have x0 := b0.cell 0
  have y0 := b1.cell 0
  simp at x0 y0
  have HB := Lib.hid (And.intro hbel (And.intro b0 b1))
  clear hb1 hbel b0 b1 hs hl
  go_wp2_with fail
  have hs := H.out.1.below HB.out.1
  have hl := H.out.2.below HB.out.1
  refine (kept_entries es A c g1 c1 _ hs.le hs.e hl.e hl.hg1 hl.hc1 hl.hm1).mono ?_
  rintro e w2 ⟨rfl, hb2⟩
  have hbel := below_trans HB.out.1 hb2
  have b0 := HB.out.2.1.below hb2 HB.out.2.1.lt
  have b1 := HB.out.2.2.below hb2 HB.out.2.2.lt
  have x1 := b0.cell 1
  have y1 := b1.cell 1
  simp at x1 y1
  have HB2 := Lib.hid hbel
  clear HB hb2 hbel b0 b1 hs hl x0 y0
  go_wp2_with fail
  have hs := H.out.1.below HB2.out
  have hl := H.out.2.below HB2.out
  refine (kept_ints ps B d g2 c2 _ hs.lp hs.p hl.p hl.hg2 hl.hc2 hl.hm2).mono ?_
  rintro e w3 ⟨rfl, hb3⟩
  have hbel := below_trans HB2.out hb3
  clear hs hl hb3
  go_wp2
  go_ret
  exact ⟨rfl, hbel⟩

/-- The written-over list: whatever its row. -/
theorem over_entries_own (v : Value) (n base : Nat) (xs : List Value) (w : World) (hn : n ≤ 65536) (h : w.ownsRow base 46 13 v n xs) : Calls Try.prog 47 #[v] w (OverEnd v.ownBlock w) := by
  rcases h.2 with ⟨h0, h1⟩ | ⟨g, cap, cur, hv, _, hh, hnc, hc, hs, _⟩
  · rw [h0]; exact over_entries_nil w
  · rw [hv]; exact over_entries g n cap cur w hn hh hs hnc hc
theorem over_ints_own (v : Value) (n base : Nat) (xs : List Value) (w : World) (hn : n ≤ 65536) (h : w.ownsRow base 3 1 v n xs) : Calls Try.prog 48 #[v] w (OverEnd v.ownBlock w) := by
  rcases h.2 with ⟨h0, h1⟩ | ⟨g, cap, cur, hv, _, hh, hnc, hc, hs, _⟩
  · rw [h0]; exact over_ints_nil w
  · rw [hv]; exact over_ints g n cap cur w hn hh hs hnc hc

def OverScriptEnd (B : Nat) (W : World) (e : Ending) (w' : World) : Prop := (∃ v, e = .returned v) ∧ Below B W w'
set_option maxHeartbeats 1600000 in
theorem over_script (A1 A2 : Option Addr) (n1 n2 c1 c2 B : Nat) (xs ys : List Value) (W w : World) (h1 : n1 ≤ 65536) (h2 : n2 ≤ 65536) (hB : Below B W w) (hs : B ≤ w.heap.size) (ho1 : w.ownsRow B 46 13 (.slice A1 n1 c1) n1 xs) (ho2 : w.ownsRow B 3 1 (.slice A2 n2 c2) n2 ys)
    (hne : ∀ g, (Value.slice A1 n1 c1).ownBlock = some g → (Value.slice A2 n2 c2).ownBlock ≠ some g) :
    Calls Try.prog 24 #[.agg #[.slice A1 n1 c1, .slice A2 n2 c2]] w (OverScriptEnd B W) := by
  have H := Lib.hid (And.intro ho1 (And.intro ho2 (And.intro hne hB)))
  clear ho1 ho2 hne hB
  go_enter Try.func24, Try.ntmps24
  go_wp2_with fail
  have b0 := Blk.new w 41 #[.slice A1 n1 c1, .slice A2 n2 c2]
  have ho1 := H.out.1.alloc (.cells #[.slice A1 n1 c1, .slice A2 n2 c2] 41)
  have ho2 := H.out.2.1.alloc (.cells #[.slice A1 n1 c1, .slice A2 n2 c2] 41)
  have hB := H.out.2.2.2.alloc hs (.cells #[.slice A1 n1 c1, .slice A2 n2 c2] 41)
  have hlt : ∀ g, (Value.slice A1 n1 c1).ownBlock = some g → g < w.heap.size := fun g hg => (H.out.1.lt g hg).2
  have hsz : B ≤ (w.alloc (.cells #[.slice A1 n1 c1, .slice A2 n2 c2] 41)).heap.size := by simp; omega
  generalize w.alloc (.cells #[.slice A1 n1 c1, .slice A2 n2 c2] 41) = W0 at b0 ho1 ho2 hB hsz ⊢
  refine (over_entries_own _ n1 B xs _ h1 ho1).mono ?_
  rintro e w1 ⟨⟨v1, rfl⟩, hg⟩
  have b0 := b0.grown hg (fun e => by have := hlt _ e.symm; omega)
  have hB1 : Below B W w1 := hB.grown hg hsz (fun k hk => by have := (ho1.lt k hk).1; omega)
  have ho2 := ho2.kept hg (by
    cases hv : (Value.slice A2 n2 c2).ownBlock with
    | none => exact Or.inl rfl
    | some b => exact Or.inr (fun e => H.out.2.2.1 b e.symm hv))
  have hsz1 : B ≤ w1.heap.size := Nat.le_trans hsz hg.size
  have x1 := b0.cell 1
  simp at x1
  have HH := Lib.hid (And.intro ho2 hB1)
  clear b0 ho1 ho2 hB hg hB1 hlt hsz
  go_wp2_with fail
  refine (over_ints_own _ n2 B ys _ h2 HH.out.1).mono ?_
  rintro e w2 ⟨⟨v2, rfl⟩, hg⟩
  have hB2 : Below B W w2 := HH.out.2.grown hg hsz1 (fun k hk => by have := (HH.out.1.lt k hk).1; omega)
  clear hg
  go_wp2
  go_end0
  exact ⟨⟨_, rfl⟩, hB2⟩
end Go.Proofs.Ytlmehmmdbdembaa
