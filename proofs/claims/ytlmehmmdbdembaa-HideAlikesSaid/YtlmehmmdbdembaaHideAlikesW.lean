/-
  Walks: HideAlikes.
-/
import Derived.Test.YtlmehmmdbdembaaAlikesR
namespace Go.Proofs.Ytlmehmmdbdembaa
open Go.RowKit
set_option linter.unusedVariables false
set_option linter.unusedSimpArgs false

set_option maxHeartbeats 6400000 in
set_option maxRecDepth 100000 in
theorem hideAlikes_law (A B A' B' : Option Addr) (c d c' d' : Nat) (a b : List Ent) (pa pb : List Int) (t : Int) (w : World)
    (hE : Reads w w.heap.size 13 A a.length (a.flatMap Ent.row)) (hP : Reads w w.heap.size 1 B pa.length (pa.flatMap irow)) (le : a.length ≤ 9223372036854775807) (lp : pa.length ≤ 9223372036854775807)
    (hE' : Reads w w.heap.size 13 A' b.length (b.flatMap Ent.row)) (hP' : Reads w w.heap.size 1 B' pb.length (pb.flatMap irow)) (le' : b.length ≤ 9223372036854775807) (lp' : pb.length ≤ 9223372036854775807) :
    Calls Try.prog 6 #[.agg #[.slice A a.length c, .slice B pa.length d], .agg #[.slice A' b.length c', .slice B' pb.length d'], .int .i64 t] w (BoolEnd true w) := by
  have H := Lib.hid (And.intro hE (And.intro hP (And.intro hE' hP')))
  have HF := Lib.hid (few_any A B a.length pa.length c d)
  have HF' := Lib.hid (few_any A' B' b.length pb.length c' d')
  clear hE hP hE' hP'
  go_enter Try.func6, Try.ntmps6
  go_wp2_with fail
  have bx := (Blk.new w 41 #[.slice A a.length c, .slice B pa.length d]).alloc (.cells #[.slice A' b.length c', .slice B' pb.length d'] 41)
  have by_ := blk_newAt (w := w.alloc (.cells #[.slice A a.length c, .slice B pa.length d] 41)) (g := w.heap.size + 1) (t := 41) (cs := #[.slice A' b.length c', .slice B' pb.length d']) (by simp)
  have hbel : Below w.heap.size w ((w.alloc (.cells #[.slice A a.length c, .slice B pa.length d] 41)).alloc (.cells #[.slice A' b.length c', .slice B' pb.length d'] 41)) := below_alloc (below_box w _) _
  generalize (w.alloc (.cells #[.slice A a.length c, .slice B pa.length d] 41)).alloc (.cells #[.slice A' b.length c', .slice B' pb.length d'] 41) = W0 at bx by_ hbel ⊢
  refine (HF.out W0 le lp).mono ?_
  rintro e w1 ⟨rfl, hb1⟩
  have bx := bx.below hb1 bx.lt
  have by_ := by_.below hb1 by_.lt
  have hbel := below_trans hbel hb1
  have y0 := by_.cell 0
  have y1 := by_.cell 1
  simp at y0 y1
  have HB := Lib.hid (And.intro hbel (And.intro bx by_))
  clear hb1 bx by_ hbel HF
  cases hfb : fewB a.length pa.length with
  | false =>
    clear hfb
    go_wp2_with fail
    refine (awake_any _).mono ?_
    rintro e w2 ⟨rfl, hb2⟩
    have hbel := below_trans HB.out.1 hb2
    clear hb2
    go_wp2
    go_ret
    exact ⟨rfl, hbel⟩
  | true =>
  have hfl : a.length ≤ 30 ∧ pa.length ≤ 400 := by simpa [fewB] using hfb
  clear hfb
  go_wp2_with fail
  clear y0 y1
  refine (HF'.out w1 le' lp').mono ?_
  rintro e w2 ⟨rfl, hb1⟩
  obtain ⟨hbel, bx, by_⟩ := HB.out
  clear HB
  have bx := bx.below hb1 bx.lt
  have by_ := by_.below hb1 by_.lt
  have hbel := below_trans hbel hb1
  have HB := Lib.hid (And.intro hbel (And.intro bx by_))
  clear hb1 bx by_ hbel HF'
  cases hfb : fewB b.length pb.length with
  | false =>
    clear hfb
    go_wp2_with fail
    refine (awake_any _).mono ?_
    rintro e w3 ⟨rfl, hb2⟩
    have hbel := below_trans HB.out.1 hb2
    clear hb2
    go_wp2
    go_ret
    exact ⟨rfl, hbel⟩
  | true =>
  have hfl' : b.length ≤ 30 ∧ pb.length ≤ 400 := by simpa [fewB] using hfb
  clear hfb
  go_upto_region 3 with fail
  have HSS : Hid (ScrIn w A B a pa ∧ ScrIn w A' B' b pb) := Lib.hid ⟨⟨H.out.1, H.out.2.1, by omega, by omega⟩, ⟨H.out.2.2.1, H.out.2.2.2, by omega, by omega⟩⟩
  have HL : Hid ((a.length ≤ 65536 ∧ pa.length ≤ 65536) ∧ (b.length ≤ 65536 ∧ pb.length ≤ 65536)) := Lib.hid ⟨⟨by omega, by omega⟩, ⟨by omega, by omega⟩⟩
  clear H le lp le' lp' hfl hfl'
  rename_i K0 hK
  have HK0 := Lib.hid hK
  clear hK
  refine al_region A B A' B' c d c' d' a b pa pb w w2 HSS (fun s7 s8 s19 s20 s21 s22 W2 h2 => ?_) (fun d v c a w h => by cases d <;> exact h) HB.out
  refine HK0.out _ _ ?_
  clear HK0 K0 HB
  obtain ⟨g7, g8, p1, c1, p2, c2, q1, d1, q2, d2, rfl, rfl, hg7, hg8, hB, b7, b8, hl1, hl3⟩ := h2
  have x0 := b7.cell 0
  have x1 := b7.cell 1
  simp at x0 x1
  have H2 := Lib.hid (And.intro hB (And.intro b7 (And.intro b8 (And.intro hl1.lent hl3.lent))))
  clear hg7 hg8 hB b7 b8 hl1 hl3
  obtain ⟨m, hm⟩ : ∃ m, a.map (bareE t) = m := ⟨_, rfl⟩
  have hml : m.length ≤ 65536 := by rw [← hm, List.length_map]; exact HL.out.1.1
  have HBL := Lib.hid (And.intro (blur_any A B c d a pa t) (And.intro (rblur_any A B c d a pa t) hml))
  have hbl := blur_any (some ⟨p1, 0, none⟩) (some ⟨p2, 0, none⟩) c1 c2 a pa t W2 (H2.out.2.2.2.1.scr HL.out.1.1 HL.out.1.2)
  rw [hm] at HBL hbl
  have HB2 := Lib.hid hbl
  clear hml hm hbl
  refine wp_seq_k fun K0 hK => ?_
  have HK0 := Lib.hid hK
  clear hK
  go_wp2_with fail
  refine HB2.out.mono ?_
  clear HB2
  rintro e W3 ⟨A1, e1, A2, e2, rfl, ho1, ho2, hb3⟩
  have b9 := Blk.new W3 41 #[.slice A1 m.length e1, .slice A2 pa.length e2]
  have hb3 := below_alloc hb3 (.cells #[.slice A1 m.length e1, .slice A2 pa.length e2] 41)
  have ho1 := ho1.alloc (.cells #[.slice A1 m.length e1, .slice A2 pa.length e2] 41)
  have ho2 := ho2.alloc (.cells #[.slice A1 m.length e1, .slice A2 pa.length e2] 41)
  have H3 := Lib.hid (And.intro ho1 (And.intro ho2 (And.intro b9 hb3)))
  clear ho1 ho2 b9 hb3 x0 x1
  go_wp2_with fail
  refine HK0.out _ _ ?_
  clear HK0 K0
  generalize W3.alloc (.cells #[.slice A1 m.length e1, .slice A2 pa.length e2] 41) = W4 at H3 ⊢
  generalize W3.heap.size = g9 at H3 ⊢
  have HM : ∀ W, Below w.heap.size w W → Below W2.heap.size W2 W → Blk W g9 41 #[.slice A1 m.length e1, .slice A2 pa.length e2] → (fun W => Below w.heap.size w W ∧ Below W2.heap.size W2 W ∧ Blk W g9 41 #[.slice A1 m.length e1, .slice A2 pa.length e2] ∧ W.cell? ⟨w.heap.size, 0, none⟩ = some (.slice A a.length c) ∧ W.cell? ⟨w.heap.size, 1, none⟩ = some (.slice B pa.length d) ∧ W.cell? ⟨w.heap.size + 1, 0, none⟩ = some (.slice A' b.length c') ∧ W.cell? ⟨w.heap.size + 1, 1, none⟩ = some (.slice B' pb.length d') ∧ W.cell? ⟨g7, 0, none⟩ = some (.slice (some ⟨p1, 0, none⟩) a.length c1) ∧ W.cell? ⟨g7, 1, none⟩ = some (.slice (some ⟨p2, 0, none⟩) pa.length c2) ∧ W.cell? ⟨g8, 0, none⟩ = some (.slice (some ⟨q1, 0, none⟩) b.length d1) ∧ W.cell? ⟨g8, 1, none⟩ = some (.slice (some ⟨q2, 0, none⟩) pb.length d2) ∧ W.cell? ⟨g9, 0, none⟩ = some (.slice A1 m.length e1) ∧ W.cell? ⟨g9, 1, none⟩ = some (.slice A2 pa.length e2)) W := by
    intro W h1 h2 h3
    have k1 := H2.out.1.2.1.below h2 H2.out.1.2.1.lt
    have k2 := H2.out.1.2.2.below h2 H2.out.1.2.2.lt
    have k3 := H2.out.2.1.below h2 H2.out.2.1.lt
    have k4 := H2.out.2.2.1.below h2 H2.out.2.2.1.lt
    exact ⟨h1, h2, h3, by simpa using k1.cell 0, by simpa using k1.cell 1, by simpa using k2.cell 0, by simpa using k2.cell 1, by simpa using k3.cell 0, by simpa using k3.cell 1, by simpa using k4.cell 0, by simpa using k4.cell 1, by simpa using h3.cell 0, by simpa using h3.cell 1⟩
  obtain ⟨vb, hvb⟩ : ∃ vb, alikeB a b pa pb t = vb := ⟨_, rfl⟩
  have ha1 := fun W h h' => alike_any (some ⟨p1, 0, none⟩) (some ⟨p2, 0, none⟩) (some ⟨q1, 0, none⟩) (some ⟨q2, 0, none⟩) c1 c2 d1 d2 a b pa pb t W h h'
  have ha2 := fun W h h' => ralike_any A B A' B' c d c' d' a b pa pb t W h h'
  rw [hvb] at ha1 ha2
  have HA := Lib.hid (And.intro ha1 ha2)
  clear ha1 ha2 hvb
  refine wp_seq_k fun K0 hK => ?_
  have HK0 := Lib.hid hK
  clear hK
  refine wp_seq_k fun K1 hK => ?_
  have HK1 := Lib.hid hK
  clear hK
  refine wp_region_held_drew (S := (fun W => Below w.heap.size w W ∧ Below W2.heap.size W2 W ∧ Blk W g9 41 #[.slice A1 m.length e1, .slice A2 pa.length e2] ∧ W.cell? ⟨w.heap.size, 0, none⟩ = some (.slice A a.length c) ∧ W.cell? ⟨w.heap.size, 1, none⟩ = some (.slice B pa.length d) ∧ W.cell? ⟨w.heap.size + 1, 0, none⟩ = some (.slice A' b.length c') ∧ W.cell? ⟨w.heap.size + 1, 1, none⟩ = some (.slice B' pb.length d') ∧ W.cell? ⟨g7, 0, none⟩ = some (.slice (some ⟨p1, 0, none⟩) a.length c1) ∧ W.cell? ⟨g7, 1, none⟩ = some (.slice (some ⟨p2, 0, none⟩) pa.length c2) ∧ W.cell? ⟨g8, 0, none⟩ = some (.slice (some ⟨q1, 0, none⟩) b.length d1) ∧ W.cell? ⟨g8, 1, none⟩ = some (.slice (some ⟨q2, 0, none⟩) pb.length d2) ∧ W.cell? ⟨g9, 0, none⟩ = some (.slice A1 m.length e1) ∧ W.cell? ⟨g9, 1, none⟩ = some (.slice A2 pa.length e2))) (by kernel_rfl) ?_ (fun hHeld0 => ?_)
  · exact HM _ (below_trans H2.out.1.1 H3.out.2.2.2).drew H3.out.2.2.2.drew H3.out.2.2.1.drew
  have HO := Lib.hid (And.intro H3.out.1.drew H3.out.2.1.drew)
  clear H3
  generalize W4.drew = V0 at hHeld0 HO ⊢
  refine wpAnyH_take (i := 0) (v := ?_) rfl (by kernel_rfl) (by kernel_rfl) (by kernel_rfl) (fun _ _ _ h => h) (Or.inl ⟨by kernel_rfl, ?_⟩) hHeld0 ?_
  rotate_left
  · (intro w hSw; (try dsimp only at hSw); go_simp <;> with_reducible rfl)
  try simp only [Act.put, List.setIfInBounds_toArray, List.set_cons_zero, List.set_cons_succ]
  refine wpAnyH_take (i := 1) (v := ?_) rfl (by kernel_rfl) (by kernel_rfl) (by kernel_rfl) (fun _ _ _ h => h) (Or.inl ⟨by kernel_rfl, ?_⟩) hHeld0 ?_
  rotate_left
  · (intro w hSw; (try dsimp only at hSw); go_simp <;> with_reducible rfl)
  try simp only [Act.put, List.setIfInBounds_toArray, List.set_cons_zero, List.set_cons_succ]
  refine wpAnyH_take (i := 2) (v := ?_) rfl (by kernel_rfl) (by kernel_rfl) (by kernel_rfl) (fun _ _ _ h => h) (Or.inl ⟨by kernel_rfl, ?_⟩) hHeld0 ?_
  rotate_left
  · (intro w hSw; (try dsimp only at hSw); go_simp <;> with_reducible rfl)
  try simp only [Act.put, List.setIfInBounds_toArray, List.set_cons_zero, List.set_cons_succ]
  refine wpAnyH_take (i := 4) (v := ?_) rfl (by kernel_rfl) (by kernel_rfl) (by kernel_rfl) (fun _ _ _ h => h) (Or.inl ⟨by kernel_rfl, ?_⟩) hHeld0 ?_
  rotate_left
  · (intro w hSw; (try dsimp only at hSw); go_simp <;> with_reducible rfl)
  try simp only [Act.put, List.setIfInBounds_toArray, List.set_cons_zero, List.set_cons_succ]
  refine wpAnyH_take (i := 5) (v := ?_) rfl (by kernel_rfl) (by kernel_rfl) (by kernel_rfl) (fun _ _ _ h => h) (Or.inl ⟨by kernel_rfl, ?_⟩) hHeld0 ?_
  rotate_left
  · (intro w hSw; (try dsimp only at hSw); go_simp <;> with_reducible rfl)
  try simp only [Act.put, List.setIfInBounds_toArray, List.set_cons_zero, List.set_cons_succ]
  refine wpAnyH_take (i := 6) (v := ?_) rfl (by kernel_rfl) (by kernel_rfl) (by kernel_rfl) (fun _ _ _ h => h) (Or.inl ⟨by kernel_rfl, ?_⟩) hHeld0 ?_
  rotate_left
  · (intro w hSw; (try dsimp only at hSw); go_simp <;> with_reducible rfl)
  try simp only [Act.put, List.setIfInBounds_toArray, List.set_cons_zero, List.set_cons_succ]
  refine wpAnyH_ready (rs := [3]) (by kernel_rfl) (by simp) ?_
  refine AllReadyH.cons rfl (fun K hK => ?_) AllReadyH.nil
  go_simp
  go_at_call 20
  refine (HA.out.1 _ ((H2.out.2.2.2.1.below hHeld0.2.1).scr HL.out.1.1 HL.out.1.2) ((H2.out.2.2.2.2.below hHeld0.2.1).scr HL.out.2.1 HL.out.2.2)).mono ?_
  rintro e V1 ⟨rfl, hbm⟩
  have hN := HM V1 (below_trans hHeld0.1 hbm) (below_trans hHeld0.2.1 hbm) (hHeld0.2.2.1.below hbm hHeld0.2.2.1.lt)
  have HN := Lib.hid hN
  clear hN
  have ho1 := ownsRow_below HO.out.1 hbm (Nat.le_refl _)
  have ho2 := ownsRow_below HO.out.2 hbm (Nat.le_refl _)
  have HO := Lib.hid (And.intro ho1 ho2)
  clear ho1 ho2 hbm
  go_wp2_with fail
  refine hK.out _ _ ?_ (fun hHeld1 => ?_)
  · exact HN.out
  clear hK K HN hHeld0
  try simp only [Act.put, List.setIfInBounds_toArray, List.set_cons_zero, List.set_cons_succ]
  refine wpAnyH_ready (rs := [7]) (by kernel_rfl) (by simp) ?_
  refine AllReadyH.cons rfl (fun K hK => ?_) AllReadyH.nil
  go_simp
  go_at_call 21
  refine (HA.out.2 _ (HSS.out.1.below hHeld1.1) (HSS.out.2.below hHeld1.1)).mono ?_
  rintro e V2 ⟨rfl, hbm⟩
  have hN := HM V2 (below_trans hHeld1.1 hbm) (below_trans hHeld1.2.1 hbm) (hHeld1.2.2.1.below hbm hHeld1.2.2.1.lt)
  have HN := Lib.hid hN
  clear hN
  have ho1 := ownsRow_below HO.out.1 hbm (Nat.le_refl _)
  have ho2 := ownsRow_below HO.out.2 hbm (Nat.le_refl _)
  have HO := Lib.hid (And.intro ho1 ho2)
  clear ho1 ho2 hbm
  go_wp2_with fail
  refine hK.out _ _ ?_ (fun hHeld2 => ?_)
  · exact HN.out
  clear hK K HN hHeld1
  try simp only [Act.put, List.setIfInBounds_toArray, List.set_cons_zero, List.set_cons_succ]
  refine wpAnyH_take (i := 8) (v := .bool false) rfl (by kernel_rfl) (by kernel_rfl) (by kernel_rfl) (fun _ _ _ h => h) (Or.inl ⟨by kernel_rfl, ?_⟩) hHeld2 ?_
  · (intro w hSw; clear hSw; cases vb <;> go_simp <;> with_reducible rfl)
  try simp only [Act.put, List.setIfInBounds_toArray, List.set_cons_zero, List.set_cons_succ]
  refine wpAnyH_take (i := 9) (v := ?_) rfl (by kernel_rfl) (by kernel_rfl) (by kernel_rfl) (fun _ _ _ h => h) (Or.inl ⟨by kernel_rfl, ?_⟩) hHeld2 ?_
  rotate_left
  · (intro w hSw; (try dsimp only at hSw); go_simp <;> with_reducible rfl)
  try simp only [Act.put, List.setIfInBounds_toArray, List.set_cons_zero, List.set_cons_succ]
  refine wpAnyH_take (i := 10) (v := ?_) rfl (by kernel_rfl) (by kernel_rfl) (by kernel_rfl) (fun _ _ _ h => h) (Or.inl ⟨by kernel_rfl, ?_⟩) hHeld2 ?_
  rotate_left
  · (intro w hSw; (try dsimp only at hSw); go_simp <;> with_reducible rfl)
  try simp only [Act.put, List.setIfInBounds_toArray, List.set_cons_zero, List.set_cons_succ]
  refine wpAnyH_take (i := 11) (v := ?_) rfl (by kernel_rfl) (by kernel_rfl) (by kernel_rfl) (fun _ _ _ h => h) (Or.inl ⟨by kernel_rfl, ?_⟩) hHeld2 ?_
  rotate_left
  · (intro w hSw; (try dsimp only at hSw); go_simp <;> with_reducible rfl)
  try simp only [Act.put, List.setIfInBounds_toArray, List.set_cons_zero, List.set_cons_succ]
  refine wpAnyH_take (i := 12) (v := ?_) rfl (by kernel_rfl) (by kernel_rfl) (by kernel_rfl) (fun _ _ _ h => h) (Or.inl ⟨by kernel_rfl, ?_⟩) hHeld2 ?_
  rotate_left
  · (intro w hSw; (try dsimp only at hSw); go_simp <;> with_reducible rfl)
  try simp only [Act.put, List.setIfInBounds_toArray, List.set_cons_zero, List.set_cons_succ]
  refine wpAnyH_ready (rs := [13]) (by kernel_rfl) (by simp) ?_
  refine AllReadyH.cons rfl (fun K hK => ?_) AllReadyH.nil
  go_simp
  go_at_call 23
  refine (HBL.out.2.1 _ (HSS.out.1.below hHeld2.1)).mono ?_
  rintro e V3 ⟨A3, e3, A4, e4, rfl, ho3, ho4, hbm⟩
  have hN := HM V3 (below_trans hHeld2.1 hbm) (below_trans hHeld2.2.1 hbm) (hHeld2.2.2.1.below hbm hHeld2.2.2.1.lt)
  have HN := Lib.hid hN
  clear hN
  have hr3 := Reads.of_own ho3
  have hr4 := Reads.of_own ho4
  have HR := Lib.hid (And.intro hr3 hr4)
  clear ho3 ho4 hr3 hr4
  have ho1 := ownsRow_below HO.out.1 hbm (Nat.le_refl _)
  have ho2 := ownsRow_below HO.out.2 hbm (Nat.le_refl _)
  have HO := Lib.hid (And.intro ho1 ho2)
  clear ho1 ho2 hbm
  go_wp2_with fail
  refine hK.out _ _ ?_ (fun hHeld3 => ?_)
  · exact HN.out
  clear hK K HN hHeld2
  try simp only [Act.put, List.setIfInBounds_toArray, List.set_cons_zero, List.set_cons_succ]
  refine wpAnyH_ready (rs := [14]) (by kernel_rfl) (by simp) ?_
  refine AllReadyH.cons rfl (fun K hK => ?_) AllReadyH.nil
  go_simp
  go_at_call 22
  refine (same_script A1 A2 A3 A4 e1 e2 e3 e4 m m pa pa _ ⟨Reads.of_own HO.out.1, Reads.of_own HO.out.2, HBL.out.2.2, HL.out.1.2⟩ ⟨HR.out.1, HR.out.2, HBL.out.2.2, HL.out.1.2⟩).mono ?_
  rintro e V4 ⟨rfl, hbm⟩
  have hN := HM V4 (below_trans hHeld3.1 hbm) (below_trans hHeld3.2.1 hbm) (hHeld3.2.2.1.below hbm hHeld3.2.2.1.lt)
  have HN := Lib.hid hN
  clear hN
  have ho1 := ownsRow_below HO.out.1 hbm (Nat.le_refl _)
  have ho2 := ownsRow_below HO.out.2 hbm (Nat.le_refl _)
  have HO := Lib.hid (And.intro ho1 ho2)
  clear ho1 ho2 hbm
  rw [decide_eq_true (rfl : m = m), decide_eq_true (rfl : pa = pa)]
  go_wp2_with fail
  refine hK.out _ _ ?_ (fun hHeld4 => ?_)
  · exact HN.out
  clear hK K HN hHeld3
  try simp only [Act.put, List.setIfInBounds_toArray, List.set_cons_zero, List.set_cons_succ]
  refine wpAnyH_take (i := 15) (v := ?_) rfl (by kernel_rfl) (by kernel_rfl) (by kernel_rfl) (fun _ _ _ h => h) (Or.inl ⟨by kernel_rfl, ?_⟩) hHeld4 ?_
  rotate_left
  · (intro w hSw; (try dsimp only at hSw); go_simp <;> with_reducible rfl)
  try simp only [Act.put, List.setIfInBounds_toArray, List.set_cons_zero, List.set_cons_succ]
  refine wpAnyH_take (i := 16) (v := ?_) rfl (by kernel_rfl) (by kernel_rfl) (by kernel_rfl) (fun _ _ _ h => h) (Or.inl ⟨by kernel_rfl, ?_⟩) hHeld4 ?_
  rotate_left
  · (intro w hSw; (try dsimp only at hSw); go_simp <;> with_reducible rfl)
  try simp only [Act.put, List.setIfInBounds_toArray, List.set_cons_zero, List.set_cons_succ]
  simp only [Act.put, List.getElem_toArray, List.getElem_cons_succ, List.getElem_cons_zero, List.setIfInBounds_toArray, List.set_cons_zero, List.set_cons_succ]
  refine wpAnyH_done (by kernel_rfl) ?_ _
  refine HK1.out _ _ ?_
  clear HK1 K1
  clear HM HA
  go_wp2_with fail
  refine HK0.out _ _ ?_
  clear HK0 K0
  have y0 := hHeld4.2.2.1.cell 0
  have y1 := hHeld4.2.2.1.cell 1
  simp at y0 y1
  have H4 := Lib.hid hHeld4
  clear hHeld4
  go_wp2_with fail
  refine (over_script A1 A2 m.length pa.length e1 e2 W2.heap.size _ _ W2 V4 HBL.out.2.2 HL.out.1.2 H4.out.2.1 H4.out.2.1.size HO.out.1 HO.out.2 (own_own_ne HO.out.1 HO.out.2 (by decide))).mono ?_
  rintro e V5 ⟨⟨v, rfl⟩, hb5⟩
  clear H4 HO HBL y0 y1
  have k1 := H2.out.1.2.1.below hb5 H2.out.1.2.1.lt
  have k3 := H2.out.2.1.below hb5 H2.out.2.1.lt
  have x0 := k1.cell 0
  have x1 := k1.cell 1
  have y0 := k3.cell 0
  have y1 := k3.cell 1
  simp at x0 x1 y0 y1
  have H5 := Lib.hid hb5
  clear k1 k3 hb5
  go_wp2_with fail
  clear x0 x1 y0 y1
  refine (kept_script A B c d p1 c1 p2 c2 a pa _ (HSS.out.1.below (below_trans H2.out.1.1 H5.out)) (H2.out.2.2.2.1.below H5.out)).mono ?_
  rintro e V6 ⟨rfl, hb6⟩
  have hb6 := below_trans H5.out hb6
  clear H5
  have k1 := H2.out.1.2.2.below hb6 H2.out.1.2.2.lt
  have k3 := H2.out.2.2.1.below hb6 H2.out.2.2.1.lt
  have x0 := k1.cell 0
  have x1 := k1.cell 1
  have y0 := k3.cell 0
  have y1 := k3.cell 1
  simp at x0 x1 y0 y1
  have H6 := Lib.hid hb6
  clear k1 k3 hb6
  go_wp2_with fail
  clear x0 x1 y0 y1
  refine (kept_script A' B' c' d' q1 d1 q2 d2 b pb _ (HSS.out.2.below (below_trans H2.out.1.1 H6.out)) (H2.out.2.2.2.2.below H6.out)).mono ?_
  rintro e V7 ⟨rfl, hb7⟩
  have H7 := Lib.hid (below_trans H6.out hb7)
  clear hb7 H6
  go_wp2_with fail
  refine (awake_any _).mono ?_
  rintro e V8 ⟨rfl, hb8⟩
  have hbel := below_trans H2.out.1.1 (below_trans H7.out hb8)
  clear hb8 H7 H2 HSS HL
  go_wp2
  go_ret
  exact ⟨rfl, hbel⟩
end Go.Proofs.Ytlmehmmdbdembaa
