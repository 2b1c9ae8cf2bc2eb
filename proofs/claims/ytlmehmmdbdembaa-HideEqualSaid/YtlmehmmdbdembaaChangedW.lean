/-
  Walks: Changed.
-/
import Derived.Test.YtlmehmmdbdembaaHideOnlyW
namespace Go.Proofs.Ytlmehmmdbdembaa
open Go.RowKit
set_option linter.unusedVariables false
set_option linter.unusedSimpArgs false

/-- What Changed comes to. -/
def ChangedEnd (es : List Ent) (ps : List Int) (t : Int) (w : World) (e : Ending) (w' : World) : Prop :=
  ∃ (xs : List Ent) (A1 A2 : Option Addr) (c1 c2 : Nat), e = .returned (.agg #[.slice A1 xs.length c1, .slice A2 ps.length c2]) ∧ w'.ownsRow w.heap.size 46 13 (.slice A1 xs.length c1) xs.length (xs.flatMap Ent.row) ∧ w'.ownsRow w.heap.size 3 1 (.slice A2 ps.length c2) ps.length (ps.flatMap irow) ∧ Below w.heap.size w w' ∧ xs.length = es.length ∧ xs.map (bareE t) = es.map (bareE t)

def wordsC : Array Value := #[.string ⟨#[97]⟩, .string ⟨#[]⟩, .string ⟨#[97, 98]⟩, .string ⟨#[113]⟩, .string ⟨#[0, 0]⟩, .string ⟨#[97, 98, 99, 100, 101, 102, 103, 104]⟩, .string ⟨#[97, 32, 119, 111, 114, 100, 32, 116, 104, 97, 116, 32, 105, 115, 32, 116, 111, 111, 32, 108, 111, 110, 103, 32, 102, 111, 114, 32, 97, 32, 107, 101, 121]⟩, .string ⟨#[98]⟩, .string ⟨#[97, 98, 99]⟩, .string ⟨#[120]⟩]
theorem word_cell {W : World} {g : Nat} {t : TypeId} (h : Blk W g t wordsC) (j : Nat) (hj : j < 10) : ∃ s : ByteArray, W.cell? ⟨g, j, none⟩ = some (.string s) := by
  have hc : ∀ i, i < 10 → ∃ s : ByteArray, wordsC[i]? = some (.string s) := by
    intro i hi
    have : i = 0 ∨ i = 1 ∨ i = 2 ∨ i = 3 ∨ i = 4 ∨ i = 5 ∨ i = 6 ∨ i = 7 ∨ i = 8 ∨ i = 9 := by omega
    rcases this with rfl | rfl | rfl | rfl | rfl | rfl | rfl | rfl | rfl | rfl <;> exact ⟨_, rfl⟩
  obtain ⟨s, hs⟩ := hc j hj
  exact ⟨s, (h.cell j).trans hs⟩
theorem set_bare {t : Int} {l : List Ent} {k : Nat} {e y : Ent} (hk : l[k]? = some e) (h : bareE t y = bareE t e) : (l.set k y).map (bareE t) = l.map (bareE t) := by
  obtain ⟨hlt, he⟩ := List.getElem?_eq_some_iff.1 hk
  apply List.ext_getElem?
  intro i
  rw [List.getElem?_map, List.getElem?_map, List.getElem?_set]
  by_cases hi : k = i
  · subst hi
    rw [if_pos rfl, if_pos hlt, hk]
    simp [h]
  · rw [if_neg hi]
/-- What holds in Changed's loop. -/
structure ChgS (w : World) (g6 g7 gw ge : Nat) (v4 : Value) (n c3 : Nat) (ps : List Int) (X : List Value) (W : World) : Prop where
  o3 : W.ownsRow w.heap.size 46 13 (.slice (some ⟨ge, 0, none⟩) n c3) n X
  o4 : W.ownsRow w.heap.size 3 1 v4 ps.length (ps.flatMap irow)
  b6 : Blk W g6 41 #[.slice none 0 0, .slice none 0 0]
  b7 : Blk W g7 41 #[.slice (some ⟨ge, 0, none⟩) n c3, v4]
  bw : Blk W gw 9 wordsC
  bel : Below w.heap.size w W
theorem ChgS.ge {w W : World} {g6 g7 gw ge n c3 : Nat} {v4 : Value} {ps : List Int} {X : List Value} (h : ChgS w g6 g7 gw ge v4 n c3 ps X W) : w.heap.size ≤ ge := (h.o3.lt ge rfl).1
theorem ChgS.nw {w W : World} {g6 g7 gw ge n c3 : Nat} {v4 : Value} {ps : List Int} {X : List Value} (h : ChgS w g6 g7 gw ge v4 n c3 ps X W) : gw ≠ ge := fun e => own_blk_ne h.o3 h.bw (by decide) (by rw [e]; rfl)
theorem ChgS.set {w W : World} {g6 g7 gw ge n c3 : Nat} {v4 : Value} {ps : List Int} {X : List Value} (h : ChgS w g6 g7 gw ge v4 n c3 ps X W) (p : Nat) (u : Value) (hp : p < n * 13) :
    ChgS w g6 g7 gw ge v4 n c3 ps (X.set p u) (W.setCell ⟨ge, p, none⟩ u) := by
  have hg := h.ge
  have n6 : g6 ≠ ge := fun e => own_blk_ne h.o3 h.b6 (by decide) (by rw [e]; rfl)
  have n7 : g7 ≠ ge := fun e => own_blk_ne h.o3 h.b7 (by decide) (by rw [e]; rfl)
  have n4 := own_own_ne h.o3 h.o4 (by decide) ge rfl
  exact ⟨own_set h.o3 hp, own_far h.o4 n4 p u, h.b6.far (p := ⟨ge, p, none⟩) n6 u, h.b7.far (p := ⟨ge, p, none⟩) n7 u, h.bw.far (p := ⟨ge, p, none⟩) h.nw u, h.bel.setCell (p := ⟨ge, p, none⟩) hg u⟩
theorem ChgS.drew {w W : World} {g6 g7 gw ge n c3 : Nat} {v4 : Value} {ps : List Int} {X : List Value} (h : ChgS w g6 g7 gw ge v4 n c3 ps X W) : ChgS w g6 g7 gw ge v4 n c3 ps X W.drew :=
  ⟨h.o3, h.o4, h.b6, h.b7, h.bw, h.bel.drew⟩

set_option maxHeartbeats 6400000 in
set_option maxRecDepth 100000 in
theorem changed_any (A B C : Option Addr) (c d capc : Nat) (es : List Ent) (ps bs : List Int) (t : Int) (w : World) (h : ScrIn w A B es ps) (he : 1 ≤ es.length) (hC : Reads w w.heap.size 1 C bs.length (bs.flatMap brow)) (hbs : ∀ b ∈ bs, 0 ≤ b ∧ b ≤ 255) (hlc : bs.length ≤ 9223372036854775807) :
    Calls Try.prog 26 #[.agg #[.slice A es.length c, .slice B ps.length d], .int .i64 t, .slice C bs.length capc] w (ChangedEnd es ps t w) := by
  have H := Lib.hid h
  have HC := Lib.hid hC
  have HBS := Lib.hid hbs
  have hle : es.length ≤ 65536 := h.le
  clear h hC hbs
  go_enter Try.func26, Try.ntmps26
  refine wp_seq_k fun K0 hK0 => ?_
  have HK0 := Lib.hid hK0
  clear hK0
  go_wp2_with fail
  refine HK0.out _ _ ?_
  clear HK0 K0
  have b6 := blk_newAt (w := w.alloc (.cells #[.slice A es.length c, .slice B ps.length d] 41)) (g := w.heap.size + 1) (t := 41) (cs := #[.slice none 0 0, .slice none 0 0]) (by simp)
  have b0 := (Blk.new w 41 #[.slice A es.length c, .slice B ps.length d]).alloc (.cells #[.slice none 0 0, .slice none 0 0] 41)
  have hbel : Below w.heap.size w ((w.alloc (.cells #[.slice A es.length c, .slice B ps.length d] 41)).alloc (.cells #[.slice none 0 0, .slice none 0 0] 41)) := below_alloc (below_box w _) _
  generalize (w.alloc (.cells #[.slice A es.length c, .slice B ps.length d] 41)).alloc (.cells #[.slice none 0 0, .slice none 0 0] 41) = W0 at b0 b6 hbel ⊢
  have x0 := b0.cell 0
  have x1 := b0.cell 1
  simp at x0 x1
  have HB := Lib.hid (And.intro hbel b6)
  clear b0 b6 hbel
  refine wp_seq_k fun K0 hK => ?_
  have HK0 := Lib.hid hK
  clear hK
  go_wp2_with fail
  refine (copy_script A B c d es ps _ (H.out.below HB.out.1)).mono ?_
  rintro e w1 ⟨A3, c3, A4, c4, rfl, ho3, ho4, hb1⟩
  obtain ⟨ge, cap', hv, hge1, hge2⟩ := ho3.form (by omega)
  simp only [Value.slice.injEq] at hv
  obtain ⟨rfl, -, rfl⟩ := hv
  have hsz := HB.out.1.size
  have H1 := Lib.hid (And.intro ((HB.out.2.below hb1 HB.out.2.lt).alloc (.cells #[.slice (some ⟨ge, 0, none⟩) es.length c3, .slice A4 ps.length c4] 41)) (And.intro (Blk.new w1 41 #[.slice (some ⟨ge, 0, none⟩) es.length c3, .slice A4 ps.length c4])
    (And.intro ((ownsRow_more ho3 hsz).alloc (.cells #[.slice (some ⟨ge, 0, none⟩) es.length c3, .slice A4 ps.length c4] 41)) (And.intro ((ownsRow_more ho4 hsz).alloc (.cells #[.slice (some ⟨ge, 0, none⟩) es.length c3, .slice A4 ps.length c4] 41))
    (below_alloc (below_trans HB.out.1 hb1) (.cells #[.slice (some ⟨ge, 0, none⟩) es.length c3, .slice A4 ps.length c4] 41))))))
  clear ho3 ho4 hb1 HB hge1 hge2 hsz x0 x1
  go_wp2_with fail
  refine HK0.out _ _ ?_
  clear HK0 K0
  generalize w1.alloc (.cells #[.slice (some ⟨ge, 0, none⟩) es.length c3, .slice A4 ps.length c4] 41) = W1 at H1 ⊢
  generalize w1.heap.size = g7 at *
  clear w1 W0
  refine wp_seq_k fun K0 hK => ?_
  have HK0 := Lib.hid hK
  clear hK
  have HS := Lib.hid (show ChgS w (w.heap.size + 1) g7 W1.heap.size ge (.slice A4 ps.length c4) es.length c3 ps (es.flatMap Ent.row) (W1.alloc (.cells wordsC 9)) from ⟨H1.out.2.2.1.alloc _, H1.out.2.2.2.1.alloc _, H1.out.1.alloc _, H1.out.2.1.alloc _, Blk.new _ _ _, below_alloc H1.out.2.2.2.2 _⟩)
  unfold wordsC at HS
  clear H1
  go_wp2_with fail
  refine HK0.out _ _ ?_
  clear HK0 K0
  generalize W1.alloc (.cells #[.string ⟨#[97]⟩, .string ⟨#[]⟩, .string ⟨#[97, 98]⟩, .string ⟨#[113]⟩, .string ⟨#[0, 0]⟩, .string ⟨#[97, 98, 99, 100, 101, 102, 103, 104]⟩, .string ⟨#[97, 32, 119, 111, 114, 100, 32, 116, 104, 97, 116, 32, 105, 115, 32, 116, 111, 111, 32, 108, 111, 110, 103, 32, 102, 111, 114, 32, 97, 32, 107, 101, 121]⟩, .string ⟨#[98]⟩, .string ⟨#[97, 98, 99]⟩, .string ⟨#[120]⟩] 9) = W2 at HS ⊢
  generalize W1.heap.size = gw at *
  clear W1
  refine wp_seq_k fun K1 hK => ?_
  have HK1 := Lib.hid hK
  clear hK
  have x0 := HS.out.b7.cell 0
  simp at x0
  go_wp2_with fail
  clear x0
  go_loopw [18] (fun i wr => ∃ (k : Nat) (xs : List Ent), k ≤ es.length ∧ i = .int .i64 k ∧ Hid (ChgS w (w.heap.size + 1) g7 gw ge (.slice A4 ps.length c4) es.length c3 ps (xs.flatMap Ent.row) wr ∧ xs.length = es.length ∧ xs.map (bareE t) = es.map (bareE t))) (fun i _ => es.length - (intOf i).toNat)
  case atStart => exact ⟨0, es, Nat.zero_le _, rfl, Lib.hid ⟨HS.out, rfl, rfl⟩⟩
  case round =>
    obtain ⟨k, xs, hk, rfl, HW⟩ := hrel
    by_cases hlt : k < es.length
    · have hkx : k < xs.length := by rw [HW.out.2.1]; exact hlt
      have hxk : xs[k]? = some xs[k] := List.getElem?_eq_getElem hkx
      generalize xs[k] = e at hxk
      have HX := Lib.hid hxk
      have i1 : (0 : Int) ≤ (k : Int) := by omega
      have i2 : (k : Int) < (es.length : Int) := by omega
      have x0 := HW.out.1.b7.cell 0
      simp at x0
      obtain ⟨p0, p1, p2, p3, p4, p5, p6, p7, p8, p9, p10, p11, p12⟩ := own_cells HW.out.1.o3 HW.out.2.1.symm hxk
      clear hxk p0 p3 p4 p8 p9 p10 p11 p12
      by_cases hs1 : e.r.deed < 1
      · go_wp2_with fail
        go_roundw
        case rel => exact ⟨k + 1, xs, by omega, by go_num, HW⟩
        case measure => simp [intOf]; omega
      by_cases hs2 : 5 < e.r.deed
      · have hs1' : 1 ≤ e.r.deed := by omega
        go_wp2_with fail
        go_roundw
        case rel => exact ⟨k + 1, xs, by omega, by go_num, HW⟩
        case measure => simp [intOf]; omega
      have hs1' : 1 ≤ e.r.deed := by omega
      have hs2' : e.r.deed ≤ 5 := by omega
      clear hs1 hs2
      by_cases hs3 : e.r.ten = t
      · have hb3 : (e.r.ten == t) = true := beq_iff_eq.2 hs3
        clear hs3
        go_wp2_with fail
        go_roundw
        case rel => exact ⟨k + 1, xs, by omega, by go_num, HW⟩
        case measure => simp [intOf]; omega
      have hb3 : (e.r.ten == t) = false := beq_eq_false_iff_ne.2 hs3
      have HN3 := Lib.hid hs3
      clear hs3
      by_cases hs4 : bs.length ≤ k
      · have hb4 : (bs.length : Int) ≤ (k : Int) := by omega
        go_wp2_with fail
        go_roundw
        case rel => exact ⟨k + 1, xs, by omega, by go_num, HW⟩
        case measure => simp [intOf]; omega
      have hkb : k < bs.length := by omega
      have hb4 : (k : Int) < (bs.length : Int) := by omega
      clear hs4
      obtain ⟨ad, rfl, hab, hcc⟩ := row_cells brow_len HC.out rfl hkb
      have d0 : wr.cell? (ad.add k) = some (.int .u8 bs[k]) := by
        have h := (HW.out.1.bel.cell (p := ((ad.add (k * 1)).add 0)) (by rw [block_of_add, block_of_add]; exact hab)).trans (hcc 0 _ rfl)
        rwa [add_of_add, Nat.mul_one] at h
      have hbk := HBS.out _ (List.getElem_mem hkb)
      generalize bs[k] = b at d0 hbk
      obtain ⟨hb0, hb255⟩ := hbk
      clear hcc
      go_upto_region 9 with fail
      clear d0 p1 p2 x0
      have y5 := own_frozen HW.out.1.o3 (k * 13 + 5)
      have y6 := own_frozen HW.out.1.o3 (k * 13 + 6)
      have y7 := own_frozen HW.out.1.o3 (k * 13 + 7)
      have hnw := HW.out.1.nw
      obtain ⟨j1, hj1⟩ : ∃ j : Nat, b % 10 = j := ⟨(b % 10).toNat, by omega⟩
      obtain ⟨q3, hq3⟩ : ∃ q : Int, b / 3 = q := ⟨_, rfl⟩
      obtain ⟨j2, hj2⟩ : ∃ j : Nat, q3 % 10 = j := ⟨(q3 % 10).toNat, by omega⟩
      obtain ⟨q7, hq7⟩ : ∃ q : Int, b / 7 = q := ⟨_, rfl⟩
      obtain ⟨j3, hj3⟩ : ∃ j : Nat, q7 % 10 = j := ⟨(q7 % 10).toNat, by omega⟩
      have a1 : (0 : Int) ≤ (j1 : Int) := by omega
      have a2 : (j1 : Int) < 10 := by omega
      have a3 : (0 : Int) ≤ (j2 : Int) := by omega
      have a4 : (j2 : Int) < 10 := by omega
      have a5 : (0 : Int) ≤ (j3 : Int) := by omega
      have a6 : (j3 : Int) < 10 := by omega
      have a7 : 0 ≤ q3 := by omega
      have a8 : q3 ≤ 85 := by omega
      have a9 : 0 ≤ q7 := by omega
      have a10 : q7 ≤ 85 := by omega
      obtain ⟨s1, hs1⟩ := word_cell HW.out.1.bw j1 (by omega)
      obtain ⟨s2, hs2⟩ := word_cell HW.out.1.bw j2 (by omega)
      obtain ⟨s3, hs3⟩ := word_cell HW.out.1.bw j3 (by omega)
      have HS1 := Lib.hid hs1
      go_region
      go_wp2_with fail
      go_roundw
      case rel =>
        obtain ⟨hS, hxl, hxm⟩ := HW.out
        have h5 := hS.set (k * 13 + 5) (.string s1) (by omega)
        rw [flat_setf (y := ⟨e.ses, ⟨e.r.deed, e.r.ten, e.r.gen, e.r.rig, s1, e.r.val, e.r.old, e.r.lim, e.r.tenant, e.r.qk, e.r.qb, e.r.rights⟩⟩) HX.out (by decide) rfl] at h5
        have h6 := h5.set (k * 13 + 6) (.string s2) (by omega)
        rw [flat_setf (y := ⟨e.ses, ⟨e.r.deed, e.r.ten, e.r.gen, e.r.rig, s1, s2, e.r.old, e.r.lim, e.r.tenant, e.r.qk, e.r.qb, e.r.rights⟩⟩) (List.getElem?_set_self hkx) (by decide) rfl, List.set_set] at h6
        have h7 := h6.set (k * 13 + 7) (.string s3) (by omega)
        rw [flat_setf (y := ⟨e.ses, ⟨e.r.deed, e.r.ten, e.r.gen, e.r.rig, s1, s2, s3, e.r.lim, e.r.tenant, e.r.qk, e.r.qb, e.r.rights⟩⟩) (List.getElem?_set_self hkx) (by decide) rfl, List.set_set] at h7
        refine ⟨k + 1, xs.set k ⟨e.ses, ⟨e.r.deed, e.r.ten, e.r.gen, e.r.rig, s1, s2, s3, e.r.lim, e.r.tenant, e.r.qk, e.r.qb, e.r.rights⟩⟩, by omega, by go_num, Lib.hid ⟨?_, by rw [List.length_set]; exact hxl, ?_⟩⟩
        · exact h7.drew
        · rw [← hxm]
          refine set_bare HX.out ?_
          have hsec : secB e.r t = true := by unfold secB; exact decide_eq_true ⟨hs1', hs2', HN3.out⟩
          unfold bareE bareR
          rw [if_pos hsec, if_pos (by exact hsec)]
      case measure => simp [intOf]; omega
    · obtain rfl : k = es.length := by omega
      clear hk hlt
      go_wp2_with fail
      refine HK1.out _ _ ?_
      clear HK1
      obtain ⟨hS, hxl, hxm⟩ := HW.out
      have x0 := hS.b7.cell 0
      have x1 := hS.b7.cell 1
      have y0 := hS.b6.cell 0
      have y1 := hS.b6.cell 1
      have f0 := hS.b6.frozen 0
      have f1 := hS.b6.frozen 1
      simp at x0 x1 y0 y1
      have n3 := own_blk_ne hS.o3 hS.b6 (by decide)
      have n4 := own_blk_ne hS.o4 hS.b6 (by decide)
      have r6 := (hS.b6.set_ 0 (.slice (some ⟨ge, 0, none⟩) es.length c3)).set_ 1 (.slice A4 ps.length c4)
      have z0 := r6.cell 0
      have z1 := r6.cell 1
      simp at z0 z1
      have l6 := hS.b6.lt
      have l7 := hS.b7.lt
      have HF := Lib.hid (show ChangedEnd es ps t w (.returned (.agg #[.slice (some ⟨ge, 0, none⟩) es.length c3, .slice A4 ps.length c4])) ((wr.setCell ⟨w.heap.size + 1, 0, none⟩ (.slice (some ⟨ge, 0, none⟩) es.length c3)).setCell ⟨w.heap.size + 1, 1, none⟩ (.slice A4 ps.length c4)) from
        ⟨xs, some ⟨ge, 0, none⟩, A4, c3, c4, by rw [hxl], by rw [hxl]; exact own_far (own_far hS.o3 n3 0 _) n3 1 _, own_far (own_far hS.o4 n4 0 _) n4 1 _, (hS.bel.setCell (p := ⟨w.heap.size + 1, 0, none⟩) (by simp) _).setCell (p := ⟨w.heap.size + 1, 1, none⟩) (by simp) _, hxl, hxm⟩)
      clear hS n3 n4 r6 hxl hxm HW HS
      go_wp2_with fail
      refine bodyPost_ret (v := .agg #[.slice (some ⟨ge, 0, none⟩) es.length c3, .slice A4 ps.length c4]) (by simp [results, Try.results26, go_sem, *]) rfl HF.out
end Go.Proofs.Ytlmehmmdbdembaa
