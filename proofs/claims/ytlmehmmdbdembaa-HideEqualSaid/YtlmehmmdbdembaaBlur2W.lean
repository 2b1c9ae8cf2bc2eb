/-
  Walks: hide.Blur.
-/
import Derived.Test.YtlmehmmdbdembaaBlurW
namespace Go.Proofs.Ytlmehmmdbdembaa
open Go.RowKit
set_option linter.unusedVariables false

theorem blurS {w W : World} {A B : Option Addr} {n m c d : Nat} {t : Int} (h : Below w.heap.size w W) (b0 : Blk W w.heap.size 41 #[.slice A n c, .slice B m d]) (b3 : Blk W (w.heap.size + 1) 3 #[.int .i64 t]) :
    Below w.heap.size w W ∧ Blk W w.heap.size 41 #[.slice A n c, .slice B m d] ∧ Blk W (w.heap.size + 1) 3 #[.int .i64 t] ∧ W.cell? ⟨w.heap.size, 0, none⟩ = some (.slice A n c) ∧ W.cell? ⟨w.heap.size, 1, none⟩ = some (.slice B m d) ∧ W.cell? ⟨w.heap.size + 1, 0, none⟩ = some (.int .i64 t) :=
  ⟨h, b0, b3, b0.cell 0, b0.cell 1, b3.cell 0⟩

set_option maxHeartbeats 3200000 in
set_option maxRecDepth 100000 in
theorem blur_any (A B : Option Addr) (c d : Nat) (es : List Ent) (ps : List Int) (t : Int) (w : World) (h : ScrIn w A B es ps) :
    Calls Try.prog 19 #[.agg #[.slice A es.length c, .slice B ps.length d], .int .i64 t] w (CopyScriptEnd (es.map (bareE t)) ps w) := by
  have H := Lib.hid h
  have hle := h.le
  have hlp := h.lp
  clear h
  go_enter Try.func19, Try.ntmps19
  refine wp_seq_k fun K0 hK => ?_
  have HK0 := Lib.hid hK
  clear hK
  go_wp2_with fail
  refine HK0.out _ _ ?_
  clear HK0 K0
  have b0 := ((Blk.new w 41 #[.slice A es.length c, .slice B ps.length d]).alloc (.cells #[.int .i64 t] 3)).alloc (.cells #[.slice none 0 0, .slice none 0 0] 41)
  have b3 := (blk_newAt (w := w.alloc (.cells #[.slice A es.length c, .slice B ps.length d] 41)) (g := w.heap.size + 1) (t := 3) (cs := #[.int .i64 t]) (by simp)).alloc (.cells #[.slice none 0 0, .slice none 0 0] 41)
  have b4 := blk_newAt (w := (w.alloc (.cells #[.slice A es.length c, .slice B ps.length d] 41)).alloc (.cells #[.int .i64 t] 3)) (g := w.heap.size + 1 + 1) (t := 41) (cs := #[.slice none 0 0, .slice none 0 0]) (by simp)
  have hbel : Below w.heap.size w (((w.alloc (.cells #[.slice A es.length c, .slice B ps.length d] 41)).alloc (.cells #[.int .i64 t] 3)).alloc (.cells #[.slice none 0 0, .slice none 0 0] 41)) := below_alloc (below_alloc (below_box w _) _) _
  generalize ((w.alloc (.cells #[.slice A es.length c, .slice B ps.length d] 41)).alloc (.cells #[.int .i64 t] 3)).alloc (.cells #[.slice none 0 0, .slice none 0 0] 41) = W0 at b0 b3 b4 hbel ⊢
  have hB4 := Lib.hid b4
  have x0 := b0.cell 0
  have x1 := b0.cell 1
  have y0 := b3.cell 0
  simp at x0 x1 y0
  have HB := Lib.hid (And.intro hbel (And.intro b0 b3))
  have hw2 := b4.lt
  clear b0 b3 b4 hbel
  refine wp_seq_k fun K0 hK => ?_
  have HK0 := Lib.hid hK
  clear hK
  go_region_held3 (fun W => Below w.heap.size w W ∧ Blk W w.heap.size 41 #[.slice A es.length c, .slice B ps.length d] ∧ Blk W (w.heap.size + 1) 3 #[.int .i64 t] ∧ W.cell? ⟨w.heap.size, 0, none⟩ = some (.slice A es.length c) ∧ W.cell? ⟨w.heap.size, 1, none⟩ = some (.slice B ps.length d) ∧ W.cell? ⟨w.heap.size + 1, 0, none⟩ = some (.int .i64 t))
    (first
      | exact blurS HB.out.1.drew HB.out.2.1.drew HB.out.2.2.drew
      | exact hSN
      | exact blurS ((hSN.1.setCell (p := ⟨w.heap.size + 1 + 1, 0, none⟩) (by simp; omega) _).setCell (p := ⟨w.heap.size + 1 + 1, 1, none⟩) (by simp; omega) _) ((hSN.2.1.far (p := ⟨w.heap.size + 1 + 1, 0, none⟩) (by simp; omega) _).far (p := ⟨w.heap.size + 1 + 1, 1, none⟩) (by simp; omega) _) ((hSN.2.2.1.far (p := ⟨w.heap.size + 1 + 1, 0, none⟩) (by simp) _).far (p := ⟨w.heap.size + 1 + 1, 1, none⟩) (by simp) _))
    (first
      | (go_at_call 38
         have hH := ‹Below w.heap.size w _ ∧ _›
         refine (chosen_any es t A c (w.heap.size + 1) _ hle (H.out.below hH.1).e hH.2.2.2.2.2).mono ?_
         rintro e' wn ⟨v1, rfl, ho1, hb1⟩
         obtain ⟨A1, c1, rfl, -, -, -⟩ := own_form ho1
         rw [List.length_map] at ho1 ⊢
         have hSN := blurS (below_trans hH.1 hb1) (hH.2.1.below hb1 hH.2.1.lt) (hH.2.2.1.below hb1 hH.2.2.1.lt)
         have hw3 : W0.heap.size ≤ wn.heap.size := hb1.size
         have HO1 := Lib.hid ho1
         have HB4n := Lib.hid ((Blk.drew hB4.out).below hb1 (Blk.lt (Blk.drew hB4.out)))
         clear ho1 hb1)
      | (go_at_call 41
         have hH := ‹Below w.heap.size w _ ∧ _›
         refine (clone_any ps B d _ hlp (H.out.below hH.1).p).mono ?_
         rintro e' wm ⟨v2, rfl, ho2, hb2⟩
         obtain ⟨A2, c2, rfl, -, -, -⟩ := own_form ho2
         have hw4 := hb2.size
         have hSN := blurS (below_trans hH.1 hb2) (hH.2.1.below hb2 hH.2.1.lt) (hH.2.2.1.below hb2 hH.2.2.1.lt)
         have b4 := HB4n.out.below hb2 HB4n.out.lt
         have z0 := b4.cell 0
         have z1 := b4.cell 1
         have f0 := b4.frozen 0
         have f1 := b4.frozen 1
         simp at z0 z1
         have HO1 := Lib.hid (ownsRow_below HO1.out hb2 (Nat.le_refl _))
         have HO2 := Lib.hid ho2
         have HB4m := Lib.hid b4
         clear ho2 hb2 b4))
  have hw5 : w.heap.size + 1 + 1 < W0.heap.size := hw2
  have ho1 := ownsRow_setCell_below (ownsRow_setCell_below HO1.out (a := ⟨w.heap.size + 1 + 1, 0, none⟩) (by simp; omega) (.slice A1 es.length c1)) (a := ⟨w.heap.size + 1 + 1, 1, none⟩) (by simp; omega) (.slice A2 ps.length c2)
  have ho2 := ownsRow_setCell_below (ownsRow_setCell_below HO2.out (a := ⟨w.heap.size + 1 + 1, 0, none⟩) (by simp; omega) (.slice A1 es.length c1)) (a := ⟨w.heap.size + 1 + 1, 1, none⟩) (by simp; omega) (.slice A2 ps.length c2)
  have bR := (HB4m.out.set_ 0 (.slice A1 es.length c1)).set_ 1 (.slice A2 ps.length c2)
  have r0 := bR.cell 0
  have r1 := bR.cell 1
  simp at r0 r1
  have hbE := (hSN.1.setCell (p := ⟨w.heap.size + 1 + 1, 0, none⟩) (by simp; omega) (.slice A1 es.length c1)).setCell (p := ⟨w.heap.size + 1 + 1, 1, none⟩) (by simp; omega) (.slice A2 ps.length c2)
  have HR := Lib.hid (And.intro ho1 (And.intro ho2 hbE))
  clear z0 z1 f0 f1 x0 x1 y0 hw2
  go_wp2_with fail
  refine HK0.out _ _ ?_
  go_wp2_with fail
  refine bodyPost_ret (v := .agg #[.slice A1 es.length c1, .slice A2 ps.length c2]) (by simp [results, Try.results19, go_sem, r0, r1]) rfl ?_
  exact ⟨A1, c1, A2, c2, by rw [List.length_map], by rw [List.length_map]; exact ownsRow_more HR.out.1 (show _ ≤ W0.heap.size by omega), ownsRow_more HR.out.2.1 (show _ ≤ wn.heap.size by omega), HR.out.2.2⟩
end Go.Proofs.Ytlmehmmdbdembaa
