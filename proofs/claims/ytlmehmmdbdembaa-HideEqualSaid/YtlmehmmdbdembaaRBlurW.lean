/-
  Walks: the reference's Blur.
-/
import Derived.Test.YtlmehmmdbdembaaBlur2W
import Derived.Test.YtlmehmmdbdembaaEqualW
namespace Go.Proofs.Ytlmehmmdbdembaa
open Go.RowKit
set_option linter.unusedVariables false

theorem own_set {w : World} {base size n g c p : Nat} {e : TypeId} {u : Value} {xs : List Value} (h : w.ownsRow base e size (.slice (some ⟨g, 0, none⟩) n c) n xs) (hp : p < n * size) :
    (w.setCell ⟨g, p, none⟩ u).ownsRow base e size (.slice (some ⟨g, 0, none⟩) n c) n (xs.set p u) := by
  refine ⟨by rw [List.length_set]; exact h.1, ?_⟩
  rcases h.2 with ⟨h0, _⟩ | ⟨g', cap, cur, hv, hb, hh, hnc, hc, hs, hx⟩
  · cases h0
  · simp only [Value.slice.injEq, Option.some.injEq, Addr.mk.injEq] at hv
    obtain ⟨⟨rfl, _, _⟩, _, rfl⟩ := hv
    refine Or.inr ⟨g, c, cur.setIfInBounds p u, rfl, hb, Blk.set_ (t := e) hh p u, hnc, hc, by simpa using hs, ?_⟩
    rw [Array.toList_setIfInBounds]
    first | rw [List.take_set, hx] | rw [← List.set_take, hx]
theorem own_far {w : World} {base size n g : Nat} {e : TypeId} {v : Value} {xs : List Value} (h : w.ownsRow base e size v n xs) (hg : v.ownBlock ≠ some g) (p : Nat) (u : Value) : (w.setCell ⟨g, p, none⟩ u).ownsRow base e size v n xs := by
  refine ⟨h.1, ?_⟩
  rcases h.2 with h0 | ⟨g', cap, cur, hv, hb, hh, rest⟩
  · exact Or.inl h0
  · refine Or.inr ⟨g', cap, cur, hv, hb, ?_, rest⟩
    refine (Below.heap_setCell w ⟨g, p, none⟩ u g' ?_).trans hh
    intro e
    simp only at e
    exact hg (by rw [hv, e]; rfl)
/-- Two owned rows of other element types lie apart. -/
theorem own_own_ne {w : World} {base base' size size' n n' : Nat} {e e' : TypeId} {v v' : Value} {xs xs' : List Value} (h : w.ownsRow base e size v n xs) (h' : w.ownsRow base' e' size' v' n' xs') (hne : e ≠ e') : ∀ g, v.ownBlock = some g → v'.ownBlock ≠ some g := by
  intro g hg hg'
  rcases h.2 with ⟨h0, _⟩ | ⟨g1, cap, cur, hv, _, hh, _⟩
  · rw [h0] at hg; cases hg
  · rw [hv] at hg
    simp only [Value.ownBlock, Option.some.injEq] at hg
    subst hg
    exact own_blk_ne h' (t := e) hh (Ne.symm hne) hg'
theorem flat_set1 {A R B : List Value} {m i : Nat} {u : Value} (hA : A.length = m) (hi : i < R.length) : (A ++ (R ++ B)).set (m + i) u = A ++ (R.set i u ++ B) := by
  subst hA
  rw [List.set_append_right _ _ (by omega), Nat.add_sub_cancel_left, List.set_append_left _ _ hi]
/-- An entry's request is set. -/
theorem flat_set12 {l : List Ent} {k : Nat} {e : Ent} {q : Req} (hk : l[k]? = some e) : (((((((((((((l.flatMap Ent.row)).set (k * 13 + 1) (.int .i64 q.deed)).set (k * 13 + 2) (.int .i64 q.ten)).set (k * 13 + 3) (.int .u32 q.gen)).set (k * 13 + 4) (.int .u8 q.rig)).set (k * 13 + 5) (.string q.key)).set (k * 13 + 6) (.string q.val)).set (k * 13 + 7) (.string q.old)).set (k * 13 + 8) (.int .i64 q.lim)).set (k * 13 + 9) (.int .i64 q.tenant)).set (k * 13 + 10) (.int .u64 q.qk)).set (k * 13 + 11) (.int .u64 q.qb)).set (k * 13 + 12) (.int .u8 q.rights) = (l.set k ⟨e.ses, q⟩).flatMap Ent.row := by
  obtain ⟨hlt, he⟩ := List.getElem?_eq_some_iff.1 hk
  have h1 : l = l.take k ++ (e :: l.drop (k + 1)) := by rw [← he, ← List.drop_eq_getElem_cons hlt, List.take_append_drop]
  have hA : ((l.take k).flatMap Ent.row).length = k * 13 := by rw [flat_len ent_row_len, List.length_take, Nat.min_eq_left (by omega)]
  have h2 : l.flatMap Ent.row = (l.take k).flatMap Ent.row ++ (e.row ++ (l.drop (k + 1)).flatMap Ent.row) := by
    conv => lhs; rw [h1]
    rw [List.flatMap_append, List.flatMap_cons]
  have h3 : (l.set k ⟨e.ses, q⟩).flatMap Ent.row = (l.take k).flatMap Ent.row ++ (Ent.row ⟨e.ses, q⟩ ++ (l.drop (k + 1)).flatMap Ent.row) := by
    rw [List.set_eq_take_append_cons_drop, if_pos hlt, List.flatMap_append, List.flatMap_cons]
  rw [h3, h2]
  repeat rw [flat_set1 hA (by simp [Ent.row, Req.row])]
  rfl
theorem own_cells {W : World} {base n g c k : Nat} {t : TypeId} {l : List Ent} {e : Ent} (h : W.ownsRow base t 13 (.slice (some ⟨g, 0, none⟩) n c) n (l.flatMap Ent.row)) (hn : n = l.length) (hk : l[k]? = some e) : W.cell? ⟨g, k * 13, none⟩ = some (.int .i64 e.ses) ∧ W.cell? ⟨g, k * 13 + 1, none⟩ = some (.int .i64 e.r.deed) ∧ W.cell? ⟨g, k * 13 + 2, none⟩ = some (.int .i64 e.r.ten) ∧ W.cell? ⟨g, k * 13 + 3, none⟩ = some (.int .u32 e.r.gen) ∧ W.cell? ⟨g, k * 13 + 4, none⟩ = some (.int .u8 e.r.rig) ∧ W.cell? ⟨g, k * 13 + 5, none⟩ = some (.string e.r.key) ∧ W.cell? ⟨g, k * 13 + 6, none⟩ = some (.string e.r.val) ∧ W.cell? ⟨g, k * 13 + 7, none⟩ = some (.string e.r.old) ∧ W.cell? ⟨g, k * 13 + 8, none⟩ = some (.int .i64 e.r.lim) ∧ W.cell? ⟨g, k * 13 + 9, none⟩ = some (.int .i64 e.r.tenant) ∧ W.cell? ⟨g, k * 13 + 10, none⟩ = some (.int .u64 e.r.qk) ∧ W.cell? ⟨g, k * 13 + 11, none⟩ = some (.int .u64 e.r.qb) ∧ W.cell? ⟨g, k * 13 + 12, none⟩ = some (.int .u8 e.r.rights) := by
  obtain ⟨hlt, he⟩ := List.getElem?_eq_some_iff.1 hk
  obtain ⟨ad, ha, _, hc⟩ := row_cells ent_row_len (Reads.of_own h) hn hlt
  injection ha with ha
  subst ha
  rw [he] at hc
  have hx : ∀ j u, (Ent.row e)[j]? = some u → W.cell? ⟨g, k * 13 + j, none⟩ = some u := by
    intro j u hu
    have := hc j u hu
    rw [add_of_add] at this
    have e2 : Addr.add ⟨g, 0, none⟩ (k * 13 + j) = ⟨g, k * 13 + j, none⟩ := by unfold Addr.add; split <;> simp_all
    rw [e2] at this
    exact this
  exact ⟨hx 0 _ rfl, hx 1 _ rfl, hx 2 _ rfl, hx 3 _ rfl, hx 4 _ rfl, hx 5 _ rfl, hx 6 _ rfl, hx 7 _ rfl, hx 8 _ rfl, hx 9 _ rfl, hx 10 _ rfl, hx 11 _ rfl, hx 12 _ rfl⟩
theorem own_frozen {W : World} {base size n g c : Nat} {t : TypeId} {xs : List Value} (h : W.ownsRow base t size (.slice (some ⟨g, 0, none⟩) n c) n xs) (p : Nat) : W.frozen? ⟨g, p, none⟩ = false := by
  rcases h.2 with ⟨h0, _⟩ | ⟨g', cap, cur, hv, hb, hh, _⟩
  · cases h0
  · simp only [Value.slice.injEq, Option.some.injEq, Addr.mk.injEq] at hv
    obtain ⟨⟨rfl, _, _⟩, _, rfl⟩ := hv
    exact Blk.frozen (t := t) hh p
theorem take_step (t : Int) {es : List Ent} {k : Nat} (hk : k < es.length) : (((es.take k).map (bareE t)) ++ es.drop k)[k]? = some es[k] ∧ (((es.take k).map (bareE t)) ++ es.drop k).set k (bareE t es[k]) = ((es.take (k + 1)).map (bareE t)) ++ es.drop (k + 1) ∧ (((es.take k).map (bareE t)) ++ es.drop k).length = es.length := by
  have hl : ((es.take k).map (bareE t)).length = k := by simp; omega
  have hd := List.drop_eq_getElem_cons hk
  refine ⟨?_, ?_, by simp; omega⟩
  · rw [List.getElem?_append_right (by omega), hl, Nat.sub_self, hd]; rfl
  · rw [List.set_append_right _ _ (by omega), hl, Nat.sub_self, hd, List.set_cons_zero, List.take_succ_eq_append_getElem hk, List.map_append, List.append_assoc]; rfl

set_option maxHeartbeats 6400000 in
set_option maxRecDepth 100000 in
theorem rblur_any (A B : Option Addr) (c d : Nat) (es : List Ent) (ps : List Int) (t : Int) (w : World) (h : ScrIn w A B es ps) :
    Calls Try.prog 23 #[.agg #[.slice A es.length c, .slice B ps.length d], .int .i64 t] w (CopyScriptEnd (es.map (bareE t)) ps w) := by
  have H := Lib.hid h
  have hle : (es.length : Int) ≤ 65536 := by have := h.le; omega
  clear h
  go_enter Try.func23, Try.ntmps23
  refine wp_seq_k fun K0 hK => ?_
  have HK0 := Lib.hid hK
  clear hK
  go_wp2_with fail
  refine HK0.out _ _ ?_
  clear HK0 K0
  have b4 := blk_newAt (w := w.alloc (.cells #[.slice A es.length c, .slice B ps.length d] 41)) (g := w.heap.size + 1) (t := 41) (cs := #[.slice none 0 0, .slice none 0 0]) (by simp)
  have b0 := (Blk.new w 41 #[.slice A es.length c, .slice B ps.length d]).alloc (.cells #[.slice none 0 0, .slice none 0 0] 41)
  have hbel : Below w.heap.size w ((w.alloc (.cells #[.slice A es.length c, .slice B ps.length d] 41)).alloc (.cells #[.slice none 0 0, .slice none 0 0] 41)) := below_alloc (below_box w _) _
  generalize (w.alloc (.cells #[.slice A es.length c, .slice B ps.length d] 41)).alloc (.cells #[.slice none 0 0, .slice none 0 0] 41) = W0 at b0 b4 hbel ⊢
  have x0 := b0.cell 0
  have x1 := b0.cell 1
  simp at x0 x1
  have h4lt := b4.lt
  have HB := Lib.hid (And.intro hbel b4)
  clear b0 b4 hbel
  refine wp_seq_k fun K0 hK => ?_
  have HK0 := Lib.hid hK
  clear hK
  go_wp2_with fail
  refine (copy_script A B c d es ps _ (H.out.below HB.out.1)).mono ?_
  rintro e w1 ⟨A1, c1, A2, c2, rfl, ho1, ho2, hb1⟩
  have hw1 := hb1.size
  have b4 := (HB.out.2.below hb1 HB.out.2.lt).alloc (.cells #[.slice A1 es.length c1, .slice A2 ps.length c2] 41)
  have b5 := Blk.new w1 41 #[.slice A1 es.length c1, .slice A2 ps.length c2]
  have ho1 := ho1.alloc (.cells #[.slice A1 es.length c1, .slice A2 ps.length c2] 41)
  have ho2 := ho2.alloc (.cells #[.slice A1 es.length c1, .slice A2 ps.length c2] 41)
  have hbel := below_alloc (below_trans HB.out.1 hb1) (.cells #[.slice A1 es.length c1, .slice A2 ps.length c2] 41)
  have HW := Lib.hid (And.intro ho1 (And.intro ho2 (And.intro b5 (And.intro b4 hbel))))
  clear x0 x1 hb1 ho1 ho2 b4 b5 hbel HB
  go_wp2_with fail
  refine HK0.out _ _ ?_
  clear HK0 K0
  generalize w1.alloc (.cells #[.slice A1 es.length c1, .slice A2 ps.length c2] 41) = W2 at HW ⊢
  obtain ⟨g5, hg5⟩ : ∃ g5, w1.heap.size = g5 := ⟨_, rfl⟩
  rw [hg5] at HW hw1 ⊢
  clear hg5
  refine wp_seq_k fun K0 hK => ?_
  have HK0 := Lib.hid hK
  clear hK
  go_wp2_with fail
  go_loopw [6] (fun i wr => ∃ k : Nat, k ≤ es.length ∧ i = .int .i64 k ∧ Hid (wr.ownsRow W0.heap.size 46 13 (.slice A1 es.length c1) es.length ((((es.take k).map (bareE t)) ++ es.drop k).flatMap Ent.row) ∧ wr.ownsRow W0.heap.size 3 1 (.slice A2 ps.length c2) ps.length (ps.flatMap irow) ∧ Blk wr g5 41 #[.slice A1 es.length c1, .slice A2 ps.length c2] ∧ Blk wr (w.heap.size + 1) 41 #[.slice none 0 0, .slice none 0 0] ∧ Below w.heap.size w wr)) (fun i _ => es.length - (intOf i).toNat)
  case atStart => exact ⟨0, Nat.zero_le _, rfl, Lib.hid (by simpa using HW.out)⟩
  case round =>
    obtain ⟨k, hk, rfl, hid⟩ := hrel
    have x0 := hid.out.2.2.1.cell 0
    simp at x0
    by_cases hlt : k < es.length
    · obtain ⟨ge, cap, hv, hgb, hgl⟩ := hid.out.1.form (by omega)
      simp only [Value.slice.injEq] at hv
      obtain ⟨rfl, -, rfl⟩ := hv
      obtain ⟨hs1, hs2, hs3⟩ := take_step t hlt
      generalize es[k] = e at hs1 hs2
      obtain ⟨q0, q1, q2, q3, q4, q5, q6, q7, q8, q9, q10, q11, q12⟩ := own_cells hid.out.1 hs3.symm hs1
      have i1 : (0 : Int) ≤ (k : Int) := by omega
      have i2 : (k : Int) < (es.length : Int) := by omega
      have HS := Lib.hid (And.intro hs1 (And.intro hs2 hs3))
      have g5lt := hid.out.2.2.1.lt
      have ho2w : (Value.slice A2 ps.length c2).ownBlock ≠ some wr.heap.size := fun e => by have := (hid.out.2.1.lt wr.heap.size e).2; omega
      have h4wr := hid.out.2.2.2.1.lt
      have hw0 : w.heap.size < W0.heap.size := by omega
      have ne5 : g5 ≠ ge := fun e => own_blk_ne hid.out.1 (t := 41) hid.out.2.2.1 (by decide) (by rw [e]; rfl)
      clear hs1 hs2 hs3
      have br := req_box e.r wr 31
      have hw3 : wr.heap.size < (wr.alloc (.cells #[.int .i64 e.r.deed, .int .i64 e.r.ten, .int .u32 e.r.gen, .int .u8 e.r.rig, .string e.r.key, .string e.r.val, .string e.r.old, .int .i64 e.r.lim, .int .i64 e.r.tenant, .int .u64 e.r.qk, .int .u64 e.r.qb, .int .u8 e.r.rights] 31)).heap.size := by simp
      have HBR := Lib.hid (And.intro br (And.intro (hid.out.1.alloc (.cells #[.int .i64 e.r.deed, .int .i64 e.r.ten, .int .u32 e.r.gen, .int .u8 e.r.rig, .string e.r.key, .string e.r.val, .string e.r.old, .int .i64 e.r.lim, .int .i64 e.r.tenant, .int .u64 e.r.qk, .int .u64 e.r.qb, .int .u8 e.r.rights] 31)) (And.intro (hid.out.2.1.alloc (.cells #[.int .i64 e.r.deed, .int .i64 e.r.ten, .int .u32 e.r.gen, .int .u8 e.r.rig, .string e.r.key, .string e.r.val, .string e.r.old, .int .i64 e.r.lim, .int .i64 e.r.tenant, .int .u64 e.r.qk, .int .u64 e.r.qb, .int .u8 e.r.rights] 31)) (And.intro (hid.out.2.2.1.alloc (.cells #[.int .i64 e.r.deed, .int .i64 e.r.ten, .int .u32 e.r.gen, .int .u8 e.r.rig, .string e.r.key, .string e.r.val, .string e.r.old, .int .i64 e.r.lim, .int .i64 e.r.tenant, .int .u64 e.r.qk, .int .u64 e.r.qb, .int .u8 e.r.rights] 31)) (And.intro (hid.out.2.2.2.1.alloc (.cells #[.int .i64 e.r.deed, .int .i64 e.r.ten, .int .u32 e.r.gen, .int .u8 e.r.rig, .string e.r.key, .string e.r.val, .string e.r.old, .int .i64 e.r.lim, .int .i64 e.r.tenant, .int .u64 e.r.qk, .int .u64 e.r.qb, .int .u8 e.r.rights] 31)) (below_alloc hid.out.2.2.2.2 (.cells #[.int .i64 e.r.deed, .int .i64 e.r.ten, .int .u32 e.r.gen, .int .u8 e.r.rig, .string e.r.key, .string e.r.val, .string e.r.old, .int .i64 e.r.lim, .int .i64 e.r.tenant, .int .u64 e.r.qk, .int .u64 e.r.qb, .int .u8 e.r.rights] 31)))))))
      clear br
      go_upto_region 6 with fail
      clear q0 q1 q2 q3 q4 q5 q6 q7 q8 q9 q10 q11 q12 x0
      generalize wr.alloc (.cells #[.int .i64 e.r.deed, .int .i64 e.r.ten, .int .u32 e.r.gen, .int .u8 e.r.rig, .string e.r.key, .string e.r.val, .string e.r.old, .int .i64 e.r.lim, .int .i64 e.r.tenant, .int .u64 e.r.qk, .int .u64 e.r.qb, .int .u8 e.r.rights] 31) = W3 at HBR hw3 ⊢
      generalize wr.heap.size = gr at *
      obtain ⟨h0, h1, h2, h3, h4, h5, h6, h7, h8, h9, h10, h11⟩ := req_cells HBR.out.1
      have z4 := HBR.out.1.frozen 4
      have z5 := HBR.out.1.frozen 5
      have z6 := HBR.out.1.frozen 6
      have hge : ge < gr := hgl
      have hgr5 : g5 < gr := g5lt
      have h4g : w.heap.size + 1 < gr := h4wr
      have ho2b : (Value.slice A2 ps.length c2).ownBlock ≠ some gr := ho2w
      have hge2 := own_own_ne hid.out.1 hid.out.2.1 (by decide) ge rfl
      go_wp2_with fail
      refine (secret_any e.r t _).mono ?_
      rintro e' w' ⟨rfl, hb2⟩
      obtain ⟨br, hown, ho2, b5, b4, hbel⟩ := HBR.out
      have br := br.below hb2 br.lt
      have hown := ownsRow_below hown hb2 (Nat.le_refl _)
      have ho2 := ownsRow_below ho2 hb2 (Nat.le_refl _)
      have b5 := b5.below hb2 b5.lt
      have b4 := b4.below hb2 b4.lt
      have hbel := below_trans hbel hb2
      clear h0 h1 h2 h3 h4 h5 h6 h7 h8 h9 h10 h11 z4 z5 z6 hb2 HBR hgl g5lt hid
      obtain ⟨sb, hsb⟩ : ∃ sb, secB e.r t = sb := ⟨_, rfl⟩
      rw [hsb]
      cases sb with
      | true =>
        have hq : bareR e.r t = ⟨e.r.deed, e.r.ten, e.r.gen, e.r.rig, ⟨#[]⟩, ⟨#[]⟩, ⟨#[]⟩, e.r.lim, e.r.tenant, e.r.qk, e.r.qb, e.r.rights⟩ := by unfold bareR; rw [if_pos hsb]
        obtain ⟨h0, h1, h2, h3, h4, h5, h6, h7, h8, h9, h10, h11⟩ := req_cells br
        have z4 := br.frozen 4
        have z5 := br.frozen 5
        have z6 := br.frozen 6
        have bq : Blk (((w'.setCell ⟨gr, 4, none⟩ (.string ⟨#[]⟩)).setCell ⟨gr, 5, none⟩ (.string ⟨#[]⟩)).setCell ⟨gr, 6, none⟩ (.string ⟨#[]⟩)) gr 31 (bareR e.r t).row.toArray := by rw [hq]; exact ((br.set_ 4 (.string ⟨#[]⟩)).set_ 5 (.string ⟨#[]⟩)).set_ 6 (.string ⟨#[]⟩)
        have hown := own_far (own_far (own_far hown (g := gr) (by simp [Value.ownBlock]; omega) 4 (.string ⟨#[]⟩)) (g := gr) (by simp [Value.ownBlock]; omega) 5 (.string ⟨#[]⟩)) (g := gr) (by simp [Value.ownBlock]; omega) 6 (.string ⟨#[]⟩)
        have ho2 := own_far (own_far (own_far ho2 ho2b 4 (.string ⟨#[]⟩)) ho2b 5 (.string ⟨#[]⟩)) ho2b 6 (.string ⟨#[]⟩)
        have b5 := ((b5.far (p := ⟨gr, 4, none⟩) (by simp; omega) (.string ⟨#[]⟩)).far (p := ⟨gr, 5, none⟩) (by simp; omega) (.string ⟨#[]⟩)).far (p := ⟨gr, 6, none⟩) (by simp; omega) (.string ⟨#[]⟩)
        have b4 := ((b4.far (p := ⟨gr, 4, none⟩) (by simp; omega) (.string ⟨#[]⟩)).far (p := ⟨gr, 5, none⟩) (by simp; omega) (.string ⟨#[]⟩)).far (p := ⟨gr, 6, none⟩) (by simp; omega) (.string ⟨#[]⟩)
        have hbel := ((hbel.setCell (p := ⟨gr, 4, none⟩) (by simp; omega) (.string ⟨#[]⟩)).setCell (p := ⟨gr, 5, none⟩) (by simp; omega) (.string ⟨#[]⟩)).setCell (p := ⟨gr, 6, none⟩) (by simp; omega) (.string ⟨#[]⟩)
        have HBR := Lib.hid (And.intro bq (And.intro hown (And.intro ho2 (And.intro b5 (And.intro b4 hbel)))))
        clear hq hsb br bq hown ho2 b5 b4 hbel
        go_upto_region 10 with fail
        clear h0 h1 h2 h3 h4 h5 h6 h7 h8 h9 h10 h11 z4 z5 z6
        generalize ((w'.setCell ⟨gr, 4, none⟩ (.string ⟨#[]⟩)).setCell ⟨gr, 5, none⟩ (.string ⟨#[]⟩)).setCell ⟨gr, 6, none⟩ (.string ⟨#[]⟩) = W4 at HBR ⊢
        obtain ⟨bq, hown, ho2, b5, b4, hbel⟩ := HBR.out
        obtain ⟨q, hqq⟩ : ∃ q, bareR e.r t = q := ⟨_, rfl⟩
        rw [hqq] at bq
        have HQQ := Lib.hid hqq
        obtain ⟨h0, h1, h2, h3, h4, h5, h6, h7, h8, h9, h10, h11⟩ := req_cells bq
        obtain ⟨q0, q1, q2, q3, q4, q5, q6, q7, q8, q9, q10, q11, q12⟩ := own_cells hown HS.out.2.2.symm HS.out.1
        have y1 := own_frozen hown (k * 13 + 1)
        have y2 := own_frozen hown (k * 13 + 2)
        have y3 := own_frozen hown (k * 13 + 3)
        have y4 := own_frozen hown (k * 13 + 4)
        have y5 := own_frozen hown (k * 13 + 5)
        have y6 := own_frozen hown (k * 13 + 6)
        have y7 := own_frozen hown (k * 13 + 7)
        have y8 := own_frozen hown (k * 13 + 8)
        have y9 := own_frozen hown (k * 13 + 9)
        have y10 := own_frozen hown (k * 13 + 10)
        have y11 := own_frozen hown (k * 13 + 11)
        have y12 := own_frozen hown (k * 13 + 12)
        have x0 := b5.cell 0
        simp at x0
        obtain ⟨l, hl⟩ : ∃ l, ((es.take k).map (bareE t)) ++ es.drop k = l := ⟨_, rfl⟩
        rw [hl] at hown
        have ho1n := own_set (own_set (own_set (own_set (own_set (own_set (own_set (own_set (own_set (own_set (own_set (own_set (hown) (p := k * 13 + 1) (u := .int .i64 q.deed) (by omega)) (p := k * 13 + 2) (u := .int .i64 q.ten) (by omega)) (p := k * 13 + 3) (u := .int .u32 q.gen) (by omega)) (p := k * 13 + 4) (u := .int .u8 q.rig) (by omega)) (p := k * 13 + 5) (u := .string q.key) (by omega)) (p := k * 13 + 6) (u := .string q.val) (by omega)) (p := k * 13 + 7) (u := .string q.old) (by omega)) (p := k * 13 + 8) (u := .int .i64 q.lim) (by omega)) (p := k * 13 + 9) (u := .int .i64 q.tenant) (by omega)) (p := k * 13 + 10) (u := .int .u64 q.qk) (by omega)) (p := k * 13 + 11) (u := .int .u64 q.qb) (by omega)) (p := k * 13 + 12) (u := .int .u8 q.rights) (by omega)
        rw [flat_set12 (by rw [← hl]; exact HS.out.1), ← hl] at ho1n
        have hes : (⟨e.ses, q⟩ : Ent) = bareE t e := by rw [← hqq]; rfl
        rw [hes, HS.out.2.1] at ho1n
        have ho2n := own_far (own_far (own_far (own_far (own_far (own_far (own_far (own_far (own_far (own_far (own_far (own_far (ho2) hge2 (k * 13 + 1) (.int .i64 q.deed)) hge2 (k * 13 + 2) (.int .i64 q.ten)) hge2 (k * 13 + 3) (.int .u32 q.gen)) hge2 (k * 13 + 4) (.int .u8 q.rig)) hge2 (k * 13 + 5) (.string q.key)) hge2 (k * 13 + 6) (.string q.val)) hge2 (k * 13 + 7) (.string q.old)) hge2 (k * 13 + 8) (.int .i64 q.lim)) hge2 (k * 13 + 9) (.int .i64 q.tenant)) hge2 (k * 13 + 10) (.int .u64 q.qk)) hge2 (k * 13 + 11) (.int .u64 q.qb)) hge2 (k * 13 + 12) (.int .u8 q.rights)
        have b5n := ((((((((((((b5).far (p := ⟨ge, k * 13 + 1, none⟩) (by simp; omega) (.int .i64 q.deed)).far (p := ⟨ge, k * 13 + 2, none⟩) (by simp; omega) (.int .i64 q.ten)).far (p := ⟨ge, k * 13 + 3, none⟩) (by simp; omega) (.int .u32 q.gen)).far (p := ⟨ge, k * 13 + 4, none⟩) (by simp; omega) (.int .u8 q.rig)).far (p := ⟨ge, k * 13 + 5, none⟩) (by simp; omega) (.string q.key)).far (p := ⟨ge, k * 13 + 6, none⟩) (by simp; omega) (.string q.val)).far (p := ⟨ge, k * 13 + 7, none⟩) (by simp; omega) (.string q.old)).far (p := ⟨ge, k * 13 + 8, none⟩) (by simp; omega) (.int .i64 q.lim)).far (p := ⟨ge, k * 13 + 9, none⟩) (by simp; omega) (.int .i64 q.tenant)).far (p := ⟨ge, k * 13 + 10, none⟩) (by simp; omega) (.int .u64 q.qk)).far (p := ⟨ge, k * 13 + 11, none⟩) (by simp; omega) (.int .u64 q.qb)).far (p := ⟨ge, k * 13 + 12, none⟩) (by simp; omega) (.int .u8 q.rights)
        have b4n := ((((((((((((b4).far (p := ⟨ge, k * 13 + 1, none⟩) (by simp; omega) (.int .i64 q.deed)).far (p := ⟨ge, k * 13 + 2, none⟩) (by simp; omega) (.int .i64 q.ten)).far (p := ⟨ge, k * 13 + 3, none⟩) (by simp; omega) (.int .u32 q.gen)).far (p := ⟨ge, k * 13 + 4, none⟩) (by simp; omega) (.int .u8 q.rig)).far (p := ⟨ge, k * 13 + 5, none⟩) (by simp; omega) (.string q.key)).far (p := ⟨ge, k * 13 + 6, none⟩) (by simp; omega) (.string q.val)).far (p := ⟨ge, k * 13 + 7, none⟩) (by simp; omega) (.string q.old)).far (p := ⟨ge, k * 13 + 8, none⟩) (by simp; omega) (.int .i64 q.lim)).far (p := ⟨ge, k * 13 + 9, none⟩) (by simp; omega) (.int .i64 q.tenant)).far (p := ⟨ge, k * 13 + 10, none⟩) (by simp; omega) (.int .u64 q.qk)).far (p := ⟨ge, k * 13 + 11, none⟩) (by simp; omega) (.int .u64 q.qb)).far (p := ⟨ge, k * 13 + 12, none⟩) (by simp; omega) (.int .u8 q.rights)
        have hbeln := ((((((((((((hbel).setCell (p := ⟨ge, k * 13 + 1, none⟩) (by simp; omega) (.int .i64 q.deed)).setCell (p := ⟨ge, k * 13 + 2, none⟩) (by simp; omega) (.int .i64 q.ten)).setCell (p := ⟨ge, k * 13 + 3, none⟩) (by simp; omega) (.int .u32 q.gen)).setCell (p := ⟨ge, k * 13 + 4, none⟩) (by simp; omega) (.int .u8 q.rig)).setCell (p := ⟨ge, k * 13 + 5, none⟩) (by simp; omega) (.string q.key)).setCell (p := ⟨ge, k * 13 + 6, none⟩) (by simp; omega) (.string q.val)).setCell (p := ⟨ge, k * 13 + 7, none⟩) (by simp; omega) (.string q.old)).setCell (p := ⟨ge, k * 13 + 8, none⟩) (by simp; omega) (.int .i64 q.lim)).setCell (p := ⟨ge, k * 13 + 9, none⟩) (by simp; omega) (.int .i64 q.tenant)).setCell (p := ⟨ge, k * 13 + 10, none⟩) (by simp; omega) (.int .u64 q.qk)).setCell (p := ⟨ge, k * 13 + 11, none⟩) (by simp; omega) (.int .u64 q.qb)).setCell (p := ⟨ge, k * 13 + 12, none⟩) (by simp; omega) (.int .u8 q.rights)
        have HN := Lib.hid (And.intro ho1n (And.intro ho2n (And.intro b5n (And.intro b4n hbeln))))
        clear bq hown ho2 b5 b4 hbel hqq hl ho1n ho2n b5n b4n hbeln hes HBR
        go_wp2_with fail
        go_roundw
        case rel => exact ⟨k + 1, by omega, by go_num, Lib.hid HN.out⟩
        case measure => simp [intOf]; omega
      | false =>
        have hq : bareR e.r t = e.r := by unfold bareR; rw [if_neg (by rw [hsb]; simp)]
        have bq : Blk w' gr 31 (bareR e.r t).row.toArray := by rw [hq]; exact br
        have HBR := Lib.hid (And.intro bq (And.intro hown (And.intro ho2 (And.intro b5 (And.intro b4 hbel)))))
        clear hq hsb br bq hown ho2 b5 b4 hbel
        go_upto_region 10 with fail
        obtain ⟨W4, rfl⟩ : ∃ W4 : World, W4 = w' := ⟨_, rfl⟩
        obtain ⟨bq, hown, ho2, b5, b4, hbel⟩ := HBR.out
        obtain ⟨q, hqq⟩ : ∃ q, bareR e.r t = q := ⟨_, rfl⟩
        rw [hqq] at bq
        have HQQ := Lib.hid hqq
        obtain ⟨h0, h1, h2, h3, h4, h5, h6, h7, h8, h9, h10, h11⟩ := req_cells bq
        obtain ⟨q0, q1, q2, q3, q4, q5, q6, q7, q8, q9, q10, q11, q12⟩ := own_cells hown HS.out.2.2.symm HS.out.1
        have y1 := own_frozen hown (k * 13 + 1)
        have y2 := own_frozen hown (k * 13 + 2)
        have y3 := own_frozen hown (k * 13 + 3)
        have y4 := own_frozen hown (k * 13 + 4)
        have y5 := own_frozen hown (k * 13 + 5)
        have y6 := own_frozen hown (k * 13 + 6)
        have y7 := own_frozen hown (k * 13 + 7)
        have y8 := own_frozen hown (k * 13 + 8)
        have y9 := own_frozen hown (k * 13 + 9)
        have y10 := own_frozen hown (k * 13 + 10)
        have y11 := own_frozen hown (k * 13 + 11)
        have y12 := own_frozen hown (k * 13 + 12)
        have x0 := b5.cell 0
        simp at x0
        obtain ⟨l, hl⟩ : ∃ l, ((es.take k).map (bareE t)) ++ es.drop k = l := ⟨_, rfl⟩
        rw [hl] at hown
        have ho1n := own_set (own_set (own_set (own_set (own_set (own_set (own_set (own_set (own_set (own_set (own_set (own_set (hown) (p := k * 13 + 1) (u := .int .i64 q.deed) (by omega)) (p := k * 13 + 2) (u := .int .i64 q.ten) (by omega)) (p := k * 13 + 3) (u := .int .u32 q.gen) (by omega)) (p := k * 13 + 4) (u := .int .u8 q.rig) (by omega)) (p := k * 13 + 5) (u := .string q.key) (by omega)) (p := k * 13 + 6) (u := .string q.val) (by omega)) (p := k * 13 + 7) (u := .string q.old) (by omega)) (p := k * 13 + 8) (u := .int .i64 q.lim) (by omega)) (p := k * 13 + 9) (u := .int .i64 q.tenant) (by omega)) (p := k * 13 + 10) (u := .int .u64 q.qk) (by omega)) (p := k * 13 + 11) (u := .int .u64 q.qb) (by omega)) (p := k * 13 + 12) (u := .int .u8 q.rights) (by omega)
        rw [flat_set12 (by rw [← hl]; exact HS.out.1), ← hl] at ho1n
        have hes : (⟨e.ses, q⟩ : Ent) = bareE t e := by rw [← hqq]; rfl
        rw [hes, HS.out.2.1] at ho1n
        have ho2n := own_far (own_far (own_far (own_far (own_far (own_far (own_far (own_far (own_far (own_far (own_far (own_far (ho2) hge2 (k * 13 + 1) (.int .i64 q.deed)) hge2 (k * 13 + 2) (.int .i64 q.ten)) hge2 (k * 13 + 3) (.int .u32 q.gen)) hge2 (k * 13 + 4) (.int .u8 q.rig)) hge2 (k * 13 + 5) (.string q.key)) hge2 (k * 13 + 6) (.string q.val)) hge2 (k * 13 + 7) (.string q.old)) hge2 (k * 13 + 8) (.int .i64 q.lim)) hge2 (k * 13 + 9) (.int .i64 q.tenant)) hge2 (k * 13 + 10) (.int .u64 q.qk)) hge2 (k * 13 + 11) (.int .u64 q.qb)) hge2 (k * 13 + 12) (.int .u8 q.rights)
        have b5n := ((((((((((((b5).far (p := ⟨ge, k * 13 + 1, none⟩) (by simp; omega) (.int .i64 q.deed)).far (p := ⟨ge, k * 13 + 2, none⟩) (by simp; omega) (.int .i64 q.ten)).far (p := ⟨ge, k * 13 + 3, none⟩) (by simp; omega) (.int .u32 q.gen)).far (p := ⟨ge, k * 13 + 4, none⟩) (by simp; omega) (.int .u8 q.rig)).far (p := ⟨ge, k * 13 + 5, none⟩) (by simp; omega) (.string q.key)).far (p := ⟨ge, k * 13 + 6, none⟩) (by simp; omega) (.string q.val)).far (p := ⟨ge, k * 13 + 7, none⟩) (by simp; omega) (.string q.old)).far (p := ⟨ge, k * 13 + 8, none⟩) (by simp; omega) (.int .i64 q.lim)).far (p := ⟨ge, k * 13 + 9, none⟩) (by simp; omega) (.int .i64 q.tenant)).far (p := ⟨ge, k * 13 + 10, none⟩) (by simp; omega) (.int .u64 q.qk)).far (p := ⟨ge, k * 13 + 11, none⟩) (by simp; omega) (.int .u64 q.qb)).far (p := ⟨ge, k * 13 + 12, none⟩) (by simp; omega) (.int .u8 q.rights)
        have b4n := ((((((((((((b4).far (p := ⟨ge, k * 13 + 1, none⟩) (by simp; omega) (.int .i64 q.deed)).far (p := ⟨ge, k * 13 + 2, none⟩) (by simp; omega) (.int .i64 q.ten)).far (p := ⟨ge, k * 13 + 3, none⟩) (by simp; omega) (.int .u32 q.gen)).far (p := ⟨ge, k * 13 + 4, none⟩) (by simp; omega) (.int .u8 q.rig)).far (p := ⟨ge, k * 13 + 5, none⟩) (by simp; omega) (.string q.key)).far (p := ⟨ge, k * 13 + 6, none⟩) (by simp; omega) (.string q.val)).far (p := ⟨ge, k * 13 + 7, none⟩) (by simp; omega) (.string q.old)).far (p := ⟨ge, k * 13 + 8, none⟩) (by simp; omega) (.int .i64 q.lim)).far (p := ⟨ge, k * 13 + 9, none⟩) (by simp; omega) (.int .i64 q.tenant)).far (p := ⟨ge, k * 13 + 10, none⟩) (by simp; omega) (.int .u64 q.qk)).far (p := ⟨ge, k * 13 + 11, none⟩) (by simp; omega) (.int .u64 q.qb)).far (p := ⟨ge, k * 13 + 12, none⟩) (by simp; omega) (.int .u8 q.rights)
        have hbeln := ((((((((((((hbel).setCell (p := ⟨ge, k * 13 + 1, none⟩) (by simp; omega) (.int .i64 q.deed)).setCell (p := ⟨ge, k * 13 + 2, none⟩) (by simp; omega) (.int .i64 q.ten)).setCell (p := ⟨ge, k * 13 + 3, none⟩) (by simp; omega) (.int .u32 q.gen)).setCell (p := ⟨ge, k * 13 + 4, none⟩) (by simp; omega) (.int .u8 q.rig)).setCell (p := ⟨ge, k * 13 + 5, none⟩) (by simp; omega) (.string q.key)).setCell (p := ⟨ge, k * 13 + 6, none⟩) (by simp; omega) (.string q.val)).setCell (p := ⟨ge, k * 13 + 7, none⟩) (by simp; omega) (.string q.old)).setCell (p := ⟨ge, k * 13 + 8, none⟩) (by simp; omega) (.int .i64 q.lim)).setCell (p := ⟨ge, k * 13 + 9, none⟩) (by simp; omega) (.int .i64 q.tenant)).setCell (p := ⟨ge, k * 13 + 10, none⟩) (by simp; omega) (.int .u64 q.qk)).setCell (p := ⟨ge, k * 13 + 11, none⟩) (by simp; omega) (.int .u64 q.qb)).setCell (p := ⟨ge, k * 13 + 12, none⟩) (by simp; omega) (.int .u8 q.rights)
        have HN := Lib.hid (And.intro ho1n (And.intro ho2n (And.intro b5n (And.intro b4n hbeln))))
        clear bq hown ho2 b5 b4 hbel hqq hl ho1n ho2n b5n b4n hbeln hes HBR
        go_wp2_with fail
        go_roundw
        case rel => exact ⟨k + 1, by omega, by go_num, Lib.hid HN.out⟩
        case measure => simp [intOf]; omega
    · obtain rfl : k = es.length := by omega
      obtain ⟨ho1, ho2, b5, b4, hbel⟩ := hid.out
      rw [List.take_length, List.drop_length, List.append_nil] at ho1
      have x1 := b5.cell 1
      have y0 := b4.cell 0
      have y1 := b4.cell 1
      have f0 := b4.frozen 0
      have f1 := b4.frozen 1
      simp at x1 y0 y1
      have ho1 := ownsRow_setCell_below (ownsRow_setCell_below ho1 (a := ⟨w.heap.size + 1, 0, none⟩) (by simp; omega) (.slice A1 es.length c1)) (a := ⟨w.heap.size + 1, 1, none⟩) (by simp; omega) (.slice A2 ps.length c2)
      have ho2 := ownsRow_setCell_below (ownsRow_setCell_below ho2 (a := ⟨w.heap.size + 1, 0, none⟩) (by simp; omega) (.slice A1 es.length c1)) (a := ⟨w.heap.size + 1, 1, none⟩) (by simp; omega) (.slice A2 ps.length c2)
      have hbel := (hbel.setCell (p := ⟨w.heap.size + 1, 0, none⟩) (by simp) (.slice A1 es.length c1)).setCell (p := ⟨w.heap.size + 1, 1, none⟩) (by simp) (.slice A2 ps.length c2)
      have bR := (b4.set_ 0 (.slice A1 es.length c1)).set_ 1 (.slice A2 ps.length c2)
      have r0 := bR.cell 0
      have r1 := bR.cell 1
      simp at r0 r1
      have HE := Lib.hid (And.intro ho1 (And.intro ho2 (And.intro hbel (And.intro r0 r1))))
      clear ho1 ho2 b5 b4 hbel bR r0 r1 hid
      go_wp2_with fail
      refine HK0.out _ _ ?_
      go_wp2_with fail
      refine bodyPost_ret (v := .agg #[.slice A1 es.length c1, .slice A2 ps.length c2]) (by simp [results, Try.results23, go_sem, HE.out.2.2.2.1, HE.out.2.2.2.2]) rfl ?_
      exact ⟨A1, c1, A2, c2, by rw [List.length_map], by rw [List.length_map]; exact ownsRow_more HE.out.1 (show _ ≤ W0.heap.size by omega), ownsRow_more HE.out.2.1 (show _ ≤ W0.heap.size by omega), HE.out.2.2.1⟩
end Go.Proofs.Ytlmehmmdbdembaa
