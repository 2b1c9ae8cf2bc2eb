/-
  burgagekit on nodes: OverNode.
  The law of layer 9: the world in which turns works (no walk).
  The reference of layer 9: Cut.
  The reference of layer 9: Add.
  The reference of layer 9: Turn.
  The law of layer 9: turns is true of every node that is not too large.
  The law of layer 9: NodeTells, walked.
  NodeEnds: its worlds (no walk).
  NodeEnds: the three questions of a round.
-/
import Derived.Test.YtgjgcbemgmkncaaGreatDoorPh
import Derived.Test.YtgjgcbemgmkncaaGreatDoorPe
import Derived.Test.YtgjgcbemgmkncaaGreatDoorPg
import Derived.Test.YtgjgcbemgmkncaaGreatDoorPf
namespace Go.Proofs.YtgjgcbemgmkncaaGreatDoor
open Go.RowKit Go.Shelf
set_option linter.unusedVariables false
set_option linter.unusedSimpArgs false

section
variable {B : Nat} {W W' : World} {x : Nd} {g1 c1 g2 c2 : Nat}
theorem LentNd.blk1 (h : LentNd B W x g1 c1 g2 c2) : ∃ cs, Blk W g1 5 cs ∧ cs.size = c1 * 1 := by
  rcases h.own1.2 with ⟨h0, _⟩ | ⟨g, cap, cur, hv, _, hh, hnc, hc, hs, _⟩
  · cases h0
  · injection hv with e1 _ e3
    injection e1 with e1
    injection e1 with e1 _ _
    subst e1 e3
    exact ⟨cur, hh, hs⟩
theorem LentNd.blk2 (h : LentNd B W x g1 c1 g2 c2) : ∃ cs, Blk W g2 29 cs ∧ cs.size = c2 * 2 := by
  obtain ⟨B2, _, h2⟩ := h.own2
  rcases h2.2 with ⟨h0, _⟩ | ⟨g, cap, cur, hv, _, hh, hnc, hc, hs, _⟩
  · cases h0
  · injection hv with e1 _ e3
    injection e1 with e1
    injection e1 with e1 _ _
    subst e1 e3
    exact ⟨cur, hh, hs⟩
end
/-- What lies outside the lent node's two rows is kept. -/
def OverNodeEnd (g1 g2 : Nat) (w : World) (e : Ending) (w' : World) : Prop := (∃ v, e = .returned v) ∧ ∃ wa wb, Below w.heap.size w wa ∧ wa.grownBy wb (some g1) ∧ wb.grownBy w' (some g2)
set_option maxHeartbeats 3200000 in
set_option maxRecDepth 100000 in
theorem OverNode_n (x : Nd) (B g1 c1 g2 c2 : Nat) (w : World) (hL : LentNd B w x g1 c1 g2 c2) (hl1 : x.bytes.length ≤ 65536) (hl2 : x.kids.length ≤ 65536) : Calls Tryz.prog 37 #[x.v (some ⟨g1, 0, none⟩) c1 (some ⟨g2, 0, none⟩) c2] w (OverNodeEnd g1 g2 w) := by
  have b1 := below_box w (.cells (x.c (some ⟨g1, 0, none⟩) c1 (some ⟨g2, 0, none⟩) c2) 26)
  have q1 := Blk.new w 26 (x.c (some ⟨g1, 0, none⟩) c1 (some ⟨g2, 0, none⟩) c2)
  have H0 := Lib.hid (And.intro b1 (And.intro q1 (And.intro (hL.below b1) hL)))
  clear b1 q1 hL
  unfold Nd.c at H0
  unfold Nd.v
  go_enter Tryz.func37, Tryz.ntmps37
  refine wp_seq_k fun K0 hK => ?_
  have HK0 := Lib.hid hK
  clear hK
  go_wp2_with fail
  refine HK0.out _ _ ?_
  clear HK0
  generalize w.alloc _ = w0 at H0 ⊢
  obtain ⟨cs1, hb1, hs1⟩ := H0.out.2.2.1.blk1
  have HO := Lib.hid (over_bytes g1 x.bytes.length c1 cs1 w0 hl1 hb1 hs1 (by have := H0.out.2.2.1.le1; omega) H0.out.2.2.1.m1)
  clear hb1 hs1
  refine wp_seq_k fun K1 hK => ?_
  have HK1 := Lib.hid hK
  clear hK
  obtain ⟨e0, e1, e2, e3, e4, e5⟩ := cells6 H0.out.2.1
  go_wp2_with fail
  refine HO.out.mono ?_
  rintro e w1 ⟨⟨v1, rfl⟩, hg⟩
  have hlt1 := H0.out.2.2.2.lt1
  have hlt2 := H0.out.2.2.2.lt2
  obtain ⟨cs2, hb2, hs2⟩ := H0.out.2.2.1.blk2
  have hne := H0.out.2.2.1.ne
  have hb2' := hb2.grown hg (fun e => by injection e with e; exact hne e.symm)
  have hbx := H0.out.2.1.grown hg (fun e => by injection e with e; omega)
  have HO2 := Lib.hid (over_refs g2 x.kids.length c2 cs2 w1 hl2 hb2' hs2 (by have := H0.out.2.2.1.le2; omega) H0.out.2.2.1.m2)
  have H1 := Lib.hid (And.intro H0.out.1 (And.intro hg hbx))
  clear H0 HO hg hlt1 hlt2 hb2 hs2 hne hb2' hbx e0 e1 e2 e3 e4 e5
  go_wp2_with fail
  refine HK1.out _ _ ?_
  clear HK1
  obtain ⟨e0, e1, e2, e3, e4, e5⟩ := cells6 H1.out.2.2
  go_wp2_with fail
  refine HO2.out.mono ?_
  rintro e w2 ⟨⟨v2, rfl⟩, hg2⟩
  have HF := Lib.hid (And.intro H1.out.1 (And.intro H1.out.2.1 hg2))
  clear H1 HO2 hg2 e0 e1 e2 e3 e4 e5
  go_wp2
  go_end0
  exact ⟨⟨_, rfl⟩, w0, w1, HF.out.1, HF.out.2.1, HF.out.2.2⟩
end Go.Proofs.YtgjgcbemgmkncaaGreatDoor
namespace Go.Proofs.YtgjgcbemgmkncaaGreatDoor
open Go.RowKit Go.Shelf
set_option linter.unusedVariables false
set_option linter.unusedSimpArgs false

/-- The boxes of turns: the node, the Ref, the node that was lent, and those of what was made. -/
structure TuW (w : World) (x : Nd) (Ab : Option Addr) (cb : Nat) (Ak : Option Addr) (ck : Nat) (r : Int × Int) (b0 b1 b2 g1 c1 g2 c2 : Nat) (bs : List NB) (W : World) : Prop where
  ctx : Ctx w bs W
  boxn : Blk W b0 26 #[.int .i64 x.kind, .string x.code, .string x.value, .string x.path, .slice Ab x.bytes.length cb, .slice Ak x.kids.length ck]
  boxr : Blk W b1 29 #[.int .i64 r.1, .int .u32 r.2]
  boxi : Blk W b2 26 #[.int .i64 x.kind, .string x.code, .string x.value, .string x.path, .slice (some ⟨g1, 0, none⟩) x.bytes.length c1, .slice (some ⟨g2, 0, none⟩) x.kids.length c2]
  lent : LentNd w.heap.size W x g1 c1 g2 c2
  apart : ∀ b ∈ bs, b.g ≠ g1 ∧ b.g ≠ g2 ∧ g1 ∉ b.rows ∧ g2 ∉ b.rows
section
variable {w W W' : World} {x : Nd} {Ab Ak : Option Addr} {cb ck : Nat} {r : Int × Int} {b0 b1 b2 g1 c1 g2 c2 : Nat} {bs : List NB}
theorem TuW.on (h : TuW w x Ab cb Ak ck r b0 b1 b2 g1 c1 g2 c2 bs W) (hb : Below W.heap.size W W') : TuW w x Ab cb Ak ck r b0 b1 b2 g1 c1 g2 c2 bs W' :=
  ⟨h.ctx.on hb, h.boxn.below hb h.boxn.lt, h.boxr.below hb h.boxr.lt, h.boxi.below hb h.boxi.lt, h.lent.below hb, h.apart⟩
theorem TuW.push (h : TuW w x Ab cb Ak ck r b0 b1 b2 g1 c1 g2 c2 bs W) (hb : Below W.heap.size W W') {y : Nd} {A A' : Option Addr} {c c' : Nat} (hy : NdAt W' y (.agg #[.int .i64 y.kind, .string y.code, .string y.value, .string y.path, .slice A y.bytes.length c, .slice A' y.kids.length c'])) (hr : ∀ g ∈ rowsOf (.agg #[.int .i64 y.kind, .string y.code, .string y.value, .string y.path, .slice A y.bytes.length c, .slice A' y.kids.length c']), W.heap.size ≤ g) :
    TuW w x Ab cb Ak ck r b0 b1 b2 g1 c1 g2 c2 (⟨W'.heap.size, y, A, c, A', c'⟩ :: bs) (W'.alloc (.cells #[.int .i64 y.kind, .string y.code, .string y.value, .string y.path, .slice A y.bytes.length c, .slice A' y.kids.length c'] 26)) := by
  have h2 := h.on hb
  have h3 := h2.on (below_box W' (.cells #[.int .i64 y.kind, .string y.code, .string y.value, .string y.path, .slice A y.bytes.length c, .slice A' y.kids.length c'] 26))
  refine ⟨h2.ctx.new hy, h3.boxn, h3.boxr, h3.boxi, h3.lent, fun b hm => ?_⟩
  rcases List.mem_cons.1 hm with rfl | hm
  · have l1 := h.lent.lt1
    have l2 := h.lent.lt2
    have hs := hb.size
    refine ⟨by dsimp only; omega, by dsimp only; omega, fun hg => ?_, fun hg => ?_⟩
    · have := hr g1 hg; omega
    · have := hr g2 hg; omega
  · exact h.apart b hm
/-- Behind OverNode: what was made stands. -/
theorem TuW.over (h : TuW w x Ab cb Ak ck r b0 b1 b2 g1 c1 g2 c2 bs W) (hr0 : RoomsAt w) {wa wb : World} (ha : Below W.heap.size W wa) (hb : wa.grownBy wb (some g1)) (hc : wb.grownBy W' (some g2)) : Ctx w bs W' := by
  have l1 : w.heap.size ≤ g1 := by
    obtain ⟨g, cap, hv, hgb, _⟩ := h.lent.own1.form (by omega)
    injection hv with e1 _ _
    injection e1 with e1
    injection e1 with e1 _ _
    omega
  have l2 : w.heap.size ≤ g2 := by
    obtain ⟨B2, hB2, h2⟩ := h.lent.own2
    obtain ⟨g, cap, hv, hgb, _⟩ := h2.form (by omega)
    injection hv with e1 _ _
    injection e1 with e1
    injection e1 with e1 _ _
    omega
  have k1 := (h.ctx.on ha).off hr0 hb l1 (fun b hm => ⟨(h.apart b hm).1, (h.apart b hm).2.2.1⟩)
  exact k1.off hr0 hc l2 (fun b hm => ⟨(h.apart b hm).2.1, (h.apart b hm).2.2.2⟩)
theorem Ctx.b5 {q0 q1 q2 q3 q4 : NB} {g : Nat} (h : Ctx w (q0 :: q1 :: q2 :: q3 :: q4 :: ⟨g, x, Ab, cb, Ak, ck⟩ :: bs) W) : BoxAt W g x Ab cb Ak ck := (h.box ⟨g, x, Ab, cb, Ak, ck⟩ (by simp)).2
end
end Go.Proofs.YtgjgcbemgmkncaaGreatDoor
namespace Go.Proofs.YtgjgcbemgmkncaaGreatDoor
open Go.RowKit Go.Shelf
set_option linter.unusedVariables false
set_option linter.unusedSimpArgs false

theorem zero_out {w W W' : World} {go : Nat} {c : Int} (hbel : Below w.heap.size w W) (hg : W.grownBy W' (some go)) (hgo : w.heap.size ≤ go) :
    NdPair zeroNd c w (.returned (.tuple #[.agg #[.int .i64 0, .string { data := #[] }, .string { data := #[] }, .string { data := #[] }, .slice none 0 0, .slice none 0 0], .int .i64 c])) W' :=
  ⟨_, rfl, zeroNd_at W', hbel.grown hg hbel.size (fun k e => by injection e with e; omega), rowsOf_zero⟩
/-- The pairs that Cut keeps of the first k. -/
def cutTo (x : Nd) (b k : Nat) : List (Nat × (Int × Int)) := ((x.bytes.zip x.kids).take k).filter (fun p => decide (p.1 ≠ b))
theorem zip_take {x : Nd} {k : Nat} (h1 : k < x.bytes.length) (h2 : k < x.kids.length) : (x.bytes.zip x.kids).take (k + 1) = (x.bytes.zip x.kids).take k ++ [(x.bytes[k], x.kids[k])] := by
  have h3 : k < (x.bytes.zip x.kids).length := by rw [List.length_zip]; omega
  rw [List.take_succ_eq_append_getElem h3, List.getElem_zip]
theorem cutTo_hit {x : Nd} {b k : Nat} (h1 : k < x.bytes.length) (h2 : k < x.kids.length) (e : x.bytes[k] = b) : cutTo x b (k + 1) = cutTo x b k := by
  unfold cutTo
  rw [zip_take h1 h2, List.filter_append]
  simp [e]
theorem cutTo_miss {x : Nd} {b k : Nat} (h1 : k < x.bytes.length) (h2 : k < x.kids.length) (e : x.bytes[k] ≠ b) : cutTo x b (k + 1) = cutTo x b k ++ [(x.bytes[k], x.kids[k])] := by
  unfold cutTo
  rw [zip_take h1 h2, List.filter_append]
  simp [e]
theorem cutTo_all {x : Nd} {b : Nat} (h : x.bytes.length = x.kids.length) : cutTo x b x.bytes.length = cutL x b := by
  unfold cutTo cutL
  rw [List.take_of_length_le (by rw [List.length_zip]; omega)]
theorem cutTo_len (x : Nd) (b k : Nat) : (cutTo x b k).length ≤ k := by
  unfold cutTo
  exact Nat.le_trans (List.length_filter_le _ _) (List.length_take_le _ _)
theorem cutL_mem {x : Nd} {b : Nat} (hx : x.wf) : (∀ c ∈ (cutL x b).map (·.1), c < 256) ∧ ∀ r ∈ (cutL x b).map (·.2), refOk r := by
  unfold cutL
  refine ⟨fun c hc => ?_, fun r hr => ?_⟩
  · obtain ⟨p, hp, rfl⟩ := List.mem_map.1 hc
    have hm := (List.mem_filter.1 hp).1
    exact hx.bytes _ (List.of_mem_zip hm).1
  · obtain ⟨p, hp, rfl⟩ := List.mem_map.1 hr
    have hm := (List.mem_filter.1 hp).1
    exact hx.refs _ (List.of_mem_zip hm).2
/-- The boxes of Cut. -/
def cuB (w : World) (x : Nd) (Ab : Option Addr) (cb : Nat) (Ak : Option Addr) (ck : Nat) : List (Nat × TypeId × Array Value) := [(w.heap.size + 1, 26, #[.int .i64 0, .string { data := #[] }, .string { data := #[] }, .string { data := #[] }, .slice none 0 0, .slice none 0 0]), (w.heap.size, 26, #[.int .i64 x.kind, .string x.code, .string x.value, .string x.path, .slice Ab x.bytes.length cb, .slice Ak x.kids.length ck])]
theorem box_cu {w W : World} {x : Nd} {Ab Ak : Option Addr} {cb ck lo : Nat} (h : MkW w lo (cuB w x Ab cb Ak ck) W) : Blk W w.heap.size 26 #[.int .i64 x.kind, .string x.code, .string x.value, .string x.path, .slice Ab x.bytes.length cb, .slice Ak x.kids.length ck] := (h.blk (w.heap.size, 26, #[.int .i64 x.kind, .string x.code, .string x.value, .string x.path, .slice Ab x.bytes.length cb, .slice Ak x.kids.length ck]) (by simp [cuB])).2
theorem out_cu {w W : World} {x : Nd} {Ab Ak : Option Addr} {cb ck lo : Nat} (h : MkW w lo (cuB w x Ab cb Ak ck) W) : Blk W (w.heap.size + 1) 26 #[.int .i64 0, .string { data := #[] }, .string { data := #[] }, .string { data := #[] }, .slice none 0 0, .slice none 0 0] := (h.blk (w.heap.size + 1, 26, #[.int .i64 0, .string { data := #[] }, .string { data := #[] }, .string { data := #[] }, .slice none 0 0, .slice none 0 0]) (by simp [cuB])).2

set_option maxHeartbeats 6400000 in
set_option maxRecDepth 100000 in
theorem Cut_r (x : Nd) (V : Value) (b : Nat) (keep : Bool) (w : World) (h : NdAt w x V) (hb256 : b < 256) : Calls Tryz.prog 32 #[V, .int .u8 (b : Int), .bool keep] w (fun e w' => NdPair (cutR x b keep).1 (cutR x b keep).2 w e w') := by
  obtain ⟨hwf, Ab, cb, Ak, ck, rfl, hb0, hk0⟩ := h
  have hnd : NdAt w x (x.v Ab cb Ak ck) := ⟨hwf, Ab, cb, Ak, ck, rfl, hb0, hk0⟩
  have h0 : MkW w (w.heap.size + 1 + 1) (cuB w x Ab cb Ak ck) ((w.alloc (.cells #[.int .i64 x.kind, .string x.code, .string x.value, .string x.path, .slice Ab x.bytes.length cb, .slice Ak x.kids.length ck] 26)).alloc (.cells #[.int .i64 0, .string { data := #[] }, .string { data := #[] }, .string { data := #[] }, .slice none 0 0, .slice none 0 0] 26)) := ((MkW.start w).push rfl 26 #[.int .i64 x.kind, .string x.code, .string x.value, .string x.path, .slice Ab x.bytes.length cb, .slice Ak x.kids.length ck]).push (by simp) 26 #[.int .i64 0, .string { data := #[] }, .string { data := #[] }, .string { data := #[] }, .slice none 0 0, .slice none 0 0]
  have H0 := Lib.hid h0
  have HN := Lib.hid hnd
  have HR := Lib.hid (And.intro hb0 (And.intro hk0 hwf))
  obtain ⟨y, hy⟩ : ∃ y, y = cutR x b keep := ⟨_, rfl⟩
  rw [← hy]
  have HY := Lib.hid hy
  clear hwf hb0 hk0 hnd h0 hy
  unfold Nd.v at HN ⊢
  go_enter Tryz.func32, Tryz.ntmps32
  refine wp_seq_k fun K0 hK => ?_
  have HK0 := Lib.hid hK
  clear hK
  go_wp2_with fail
  refine HK0.out _ _ ?_
  clear HK0
  generalize (w.alloc _).alloc _ = w0 at H0 ⊢
  refine wp_seq_k fun K1 hK => ?_
  have HK1 := Lib.hid hK
  clear hK
  obtain ⟨e0, e1, e2, e3, e4, e5⟩ := cells6 (box_cu H0.out)
  have HM := Lib.hid (may_r x _ w0 (HN.out.below H0.out.below))
  cases hm : x.may with
  | false =>
    rw [hm] at HM
    have E : Hid (y = (zeroNd, 4)) := Lib.hid (by rw [HY.out]; unfold cutR; rw [if_pos hm])
    clear hm
    go_wp2_with fail
    refine HM.out.mono ?_
    rintro e w1 ⟨rfl, hb⟩
    have S1 := Lib.hid (H0.out.on hb)
    clear hb HM H0 e0 e1 e2 e3 e4 e5
    have q5 := out_cu S1.out
    obtain ⟨d0, d1, d2, d3, d4, d5⟩ := cells6 q5
    have fz0 := q5.frozen 0
    have fz1 := q5.frozen 1
    have fz2 := q5.frozen 2
    have fz3 := q5.frozen 3
    have fz4 := q5.frozen 4
    have fz5 := q5.frozen 5
    have l6 := q5.lt
    obtain ⟨VV, hV, hg, q6⟩ := six_stores (.int .i64 0) (.string { data := #[] }) (.string { data := #[] }) (.string { data := #[] }) (.slice none 0 0) (.slice none 0 0) q5
    have HF := Lib.hid (zero_out (c := 4) S1.out.below hg (by omega))
    clear hg q5
    go_wp2
    rw [← hV]
    clear hV d0 d1 d2 d3 d4 d5 fz0 fz1 fz2 fz3 fz4 fz5
    obtain ⟨c0, c1, c2, c3, c4, c5⟩ := cells6 q6
    exact bodyPost_ret (v := .tuple #[.agg #[.int .i64 0, .string { data := #[] }, .string { data := #[] }, .string { data := #[] }, .slice none 0 0, .slice none 0 0], .int .i64 4]) (by simp [results, Tryz.results32, go_sem, c0, c1, c2, c3, c4, c5]) rfl (by rw [E.out]; exact HF.out)
  | true =>
    rw [hm] at HM
    have hlk0 : x.bytes.length = x.kids.length := (inner_parts (may_inner hm)).2.2.2.2.1
    have hlk1 : x.bytes.length ≤ x.kids.length := by omega
    have hlk2 : x.kids.length ≤ x.bytes.length := by omega
    clear hlk0
    have hl256 : x.kids.length ≤ 256 := (inner_parts (may_inner hm)).2.2.2.2.2.1
    have E0 : Hid (y = if (findN x b).isSome = false then (zeroNd, 5) else (madeN x ((cutL x b).map (·.1)) ((cutL x b).map (·.2)) keep, 0)) := Lib.hid (by rw [HY.out]; unfold cutR; rw [if_neg (by rw [hm]; simp)])
    clear hm
    go_wp2_with fail
    refine HM.out.mono ?_
    rintro e w1 ⟨rfl, hb⟩
    have S1 := Lib.hid (H0.out.on hb)
    clear hb HM H0 e0 e1 e2 e3 e4 e5
    go_wp2_with fail
    refine HK1.out _ _ ?_
    clear HK1
    refine wp_seq_k fun K2 hK => ?_
    have HK2 := Lib.hid hK
    clear hK
    obtain ⟨e0, e1, e2, e3, e4, e5⟩ := cells6 (box_cu S1.out)
    have hf := Find_r x _ b w1 (HN.out.below S1.out.below) hb256
    obtain ⟨q, hq⟩ : ∃ q, q = findN x b := ⟨_, rfl⟩
    rw [← hq] at hf E0
    clear hq
    unfold optV refV at hf
    have HF0 := Lib.hid hf
    clear hf
    go_wp2_with fail
    refine HF0.out.mono ?_
    rintro e w2 ⟨rfl, hb⟩
    have S2 := Lib.hid ((S1.out.on hb).on (below_box w2 (.cells #[.int .i64 (q.getD (0, 0)).1, .int .u32 (q.getD (0, 0)).2] 29)))
    clear hb S1 HF0 e0 e1 e2 e3 e4 e5
    go_wp2_with fail
    refine HK2.out _ _ ?_
    clear HK2
    generalize w2.alloc _ = w3 at S2 ⊢
    refine wp_seq_k fun K3 hK => ?_
    have HK3 := Lib.hid hK
    clear hK
    cases q with
    | none =>
      have E : Hid (y = (zeroNd, 5)) := Lib.hid (by rw [E0.out]; rfl)
      simp only [Option.isSome_none, Option.getD_none]
      have q5 := out_cu S2.out
      obtain ⟨d0, d1, d2, d3, d4, d5⟩ := cells6 q5
      have fz0 := q5.frozen 0
      have fz1 := q5.frozen 1
      have fz2 := q5.frozen 2
      have fz3 := q5.frozen 3
      have fz4 := q5.frozen 4
      have fz5 := q5.frozen 5
      have l6 := q5.lt
      obtain ⟨VV, hV, hg, q6⟩ := six_stores (.int .i64 0) (.string { data := #[] }) (.string { data := #[] }) (.string { data := #[] }) (.slice none 0 0) (.slice none 0 0) q5
      have HF := Lib.hid (zero_out (c := 5) S2.out.below hg (by omega))
      clear hg q5
      go_wp2
      rw [← hV]
      clear hV d0 d1 d2 d3 d4 d5 fz0 fz1 fz2 fz3 fz4 fz5
      obtain ⟨c0, c1, c2, c3, c4, c5⟩ := cells6 q6
      exact bodyPost_ret (v := .tuple #[.agg #[.int .i64 0, .string { data := #[] }, .string { data := #[] }, .string { data := #[] }, .slice none 0 0, .slice none 0 0], .int .i64 5]) (by simp [results, Tryz.results32, go_sem, c0, c1, c2, c3, c4, c5]) rfl (by rw [E.out]; exact HF.out)
    | some q0 =>
      have E : Hid (y = (madeN x ((cutL x b).map (·.1)) ((cutL x b).map (·.2)) keep, 0)) := Lib.hid (by rw [E0.out]; rfl)
      clear E0
      simp only [Option.isSome_some, Option.getD_some]
      go_wp2_with fail
      refine HK3.out _ _ ?_
      clear HK3
      refine wp_seq_k fun K4 hK => ?_
      have HK4 := Lib.hid hK
      clear hK
      go_wp2_with fail
      refine HK4.out _ _ ?_
      clear HK4
      refine wp_seq_k fun K5 hK => ?_
      have HK5 := Lib.hid hK
      clear hK
      go_wp2_with fail
      refine HK5.out _ _ ?_
      clear HK5
      refine wp_seq_k fun K6 hK => ?_
      have HK6 := Lib.hid hK
      clear hK
      have H3 : Hid (MkR w (w.heap.size + 1 + 1) (cuB w x Ab cb Ak ck) (.slice none 0 0) (.slice none 0 0) ((cutTo x b 0).map (·.1)) ((cutTo x b 0).map (·.2)) w3) := Lib.hid (MkR.start S2.out)
      clear S2
      obtain ⟨i0, hi0, iz0, iz1, iz2⟩ := info_parts infoBytes
      obtain ⟨j0, hj0, jz0, jz1, jz2⟩ := info_parts infoRefs
      have HI := Lib.hid (And.intro hi0 (And.intro iz0 (And.intro iz1 (And.intro iz2 (And.intro hj0 (And.intro jz0 (And.intro jz1 jz2)))))))
      clear hi0 iz0 iz1 iz2 hj0 jz0 jz1 jz2
      go_wp2_with fail
      go_loopw [10, 11, 12] (fun v4 v5 i wr => ∃ k : Nat, k ≤ x.bytes.length ∧ i = .int .i64 k ∧ Hid (MkR w (w.heap.size + 1 + 1) (cuB w x Ab cb Ak ck) v4 v5 ((cutTo x b k).map (·.1)) ((cutTo x b k).map (·.2)) wr)) (fun _ _ i _ => x.bytes.length - (intOf i).toNat)
      case atStart => exact ⟨0, Nat.zero_le _, rfl, H3⟩
      case round =>
        clear H3
        obtain ⟨k, hk, rfl, HW⟩ := hrel
        obtain ⟨e0, e1, e2, e3, e4, e5⟩ := cells6 (box_cu HW.out.base)
        by_cases hlt : k < x.bytes.length
        · have j1 : (0 : Int) ≤ (k : Int) := by omega
          have j2 : (k : Int) < (x.bytes.length : Int) := by omega
          have hltk : k < x.kids.length := by omega
          have j3 : (k : Int) < (x.kids.length : Int) := by omega
          obtain ⟨ad, rfl, hab, hby⟩ := byte_at HR.out.1 hlt
          obtain ⟨kd, rfl, hkb, c0, c0a, c0b, c0c, c0d⟩ := ref_at2 HR.out.2.1 hltk
          have hby' := (HW.out.base.below.cell (p := ad.add k) (by rw [block_of_add]; exact hab)).trans hby
          by_cases hq : x.bytes[k] = b
          · have hne : ((x.bytes[k] : Int) != (b : Int)) = false := by simp [hq]
            have HC := Lib.hid (cutTo_hit hlt hltk hq)
            clear c0 c0a c0b c0c c0d hby hq
            generalize x.bytes[k] = p at hby' hne
            go_wp2
            go_roundw
            case rel => exact ⟨k + 1, by omega, by go_num, by rw [HC.out]; exact HW⟩
            case measure => simp [intOf]; omega
          · have hne : ((x.bytes[k] : Int) != (b : Int)) = true := by simp; omega
            have HC := Lib.hid (cutTo_miss hlt hltk hq)
            have hll := cutTo_len x b k
            have hl4 : ((cutTo x b k).map (·.1)).length ≤ 256 := by rw [List.length_map]; omega
            have hl5 : ((cutTo x b k).map (·.2)).length ≤ 256 := by rw [List.length_map]; omega
            generalize cutTo x b k = L at HC hl4 hl5 HW
            generalize x.bytes[k] = p at hby hby' hne HC
            generalize x.kids[k] = q at c0 c0a c0b c0c c0d HC
            clear c0a c0b c0c hq hll
            obtain ⟨q1, q2⟩ := q
            dsimp only at c0 c0d
            have HD := Lib.hid (And.intro hby (And.intro c0 c0d))
            clear hby c0 c0d
            obtain ⟨hi0, iz0, iz1, iz2, hj0, jz0, jz1, jz2⟩ := HI.out
            go_wp2_with (first
              | (at_builtin
                 refine wpList_append_any _ rfl (.tmp 40) (.tmp 46) _ rfl (w.heap.size + 1 + 1) 5 i0 _ 1 1 Tryz.underlying23 hi0 iz0 iz1 iz2 rfl (by omega) u10 (L.map (·.1)).length ((L.map (·.1)).flatMap nrow) rfl
                   (HW.out.alloc _).row4 _ (some ⟨wr.heap.size, 0, none⟩) 1 1 (nrow p) rfl (reads_of_blk (blk_newAt rfl) rfl rfl) (nrow_one _) (by unfold maxLen; omega) (by omega) (HW.out.alloc _).base.size ?_
                 intro v4 w4 hown hg hat
                 have S4 := Lib.hid ((HW.out.alloc _).app4 hown hg)
                 clear hown hg hat
                 obtain ⟨f0, f1, f2, f3, f4, f5⟩ := cells6 (box_cu S4.out.base)
                 have g0 := (S4.out.base.below.cell (p := kd.add (k * 2)) (by rw [block_of_add]; exact hkb)).trans HD.out.2.1
                 have g1 := (S4.out.base.below.cell (p := ⟨(kd.add (k * 2)).block, (kd.add (k * 2)).off + 1, none⟩) (by rw [block_of_add]; exact hkb)).trans HD.out.2.2
                 clear e0 e1 e2 e3 e4 e5 hby' HW)
              | (at_builtin
                 refine wpList_append_any _ rfl (.tmp 48) (.tmp 54) _ rfl (w.heap.size + 1 + 1) 29 j0 _ 2 16 Tryz.underlying24 hj0 jz0 jz1 jz2 rfl (by omega) u11 (L.map (·.2)).length ((L.map (·.2)).flatMap rrow) rfl
                   (S4.out.alloc _).row5 _ (some ⟨w4.heap.size, 0, none⟩) 1 1 (rrow (q1, q2)) rfl (reads_of_blk (blk_newAt rfl) rfl rfl) (rrow_one _) (by unfold maxLen; omega) (by omega) (S4.out.alloc _).base.size ?_
                 intro v5 w5 hown hg hat
                 have S5 := Lib.hid ((S4.out.alloc _).app5 hown hg)
                 clear hown hg hat
                 skip))
            go_roundw
            case rel => exact ⟨k + 1, by omega, by go_num, Lib.hid (by rw [HC.out, List.map_append, List.map_append]; exact S5.out)⟩
            case measure => simp [intOf]; omega
        · obtain rfl : k = x.bytes.length := by omega
          have i1 : ¬ ((x.bytes.length : Int) < (x.bytes.length : Int)) := by omega
          have HC := cutTo_all (x := x) (b := b) (by omega)
          rw [HC] at HW
          have hmem := cutL_mem (b := b) HR.out.2.2
          generalize (cutL x b).map (·.1) = l4 at HW E hmem
          generalize (cutL x b).map (·.2) = l5 at HW E hmem
          have HMEM := Lib.hid hmem
          clear HC hmem hk
          obtain ⟨A1, c1, A2, c2, rfl, rfl, a1, a2, -, -, n1, n2⟩ := HW.out.form
          have HA := Lib.hid (And.intro a1 (And.intro a2 (And.intro n1 n2)))
          clear a1 a2 n1 n2
          go_wp2_with fail
          refine HK6.out _ _ ?_
          clear HK6
          have hmd := made_r x _ l4 l5 A1 A2 c1 c2 keep wr (HN.out.below HW.out.base.below)
          unfold Nd.v at hmd
          have HMD := Lib.hid hmd
          clear hmd
          go_wp2_with fail
          refine HMD.out.mono ?_
          rintro e w5 ⟨rfl, hb⟩
          have S5 := Lib.hid (HW.out.on hb)
          clear hb HMD HW e0 e1 e2 e3 e4 e5
          have q5 := out_cu S5.out.base
          obtain ⟨d0, d1, d2, d3, d4, d5⟩ := cells6 q5
          have fz0 := q5.frozen 0
          have fz1 := q5.frozen 1
          have fz2 := q5.frozen 2
          have fz3 := q5.frozen 3
          have fz4 := q5.frozen 4
          have fz5 := q5.frozen 5
          have l6 := q5.lt
          obtain ⟨m, hm⟩ : ∃ m, m = madeN x l4 l5 keep := ⟨_, rfl⟩
          rw [← hm] at E
          have hm1 : m.bytes.length = l4.length := by rw [hm]; rfl
          have hm2 : m.kids.length = l5.length := by rw [hm]; rfl
          rw [← hm]
          obtain ⟨VV, hV, hg, q6⟩ := six_stores (.int .i64 m.kind) (.string m.code) (.string m.value) (.string m.path) (.slice A1 m.bytes.length c1) (.slice A2 m.kids.length c2) q5
          have HF : Hid (NdPair m 0 w (.returned (.tuple #[m.v A1 c1 A2 c2, .int .i64 0])) VV) := Lib.hid (by
            obtain ⟨B1, e1, B2, e2, h1, h2, -, -, r1, r2, -, -⟩ := S5.out.form
            injection h1 with h1a h1b h1c
            injection h2 with h2a h2b h2c
            subst h1a h1c h2a h2c
            rw [hm]
            exact made_out HR.out.2.2 keep HMEM.out.1 HMEM.out.2 HA.out.2.2.1 HA.out.2.2.2 r1 r2 (fun ad e => by have := HA.out.1 ad e; omega) (fun ad e => by have := HA.out.2.1 ad e; omega) hg (by omega) S5.out.base.below)
          have HMM := Lib.hid (And.intro hm1 hm2)
          clear hg q5 hm hm1 hm2 S5
          go_wp2
          rw [← hV]
          clear hV d0 d1 d2 d3 d4 d5 fz0 fz1 fz2 fz3 fz4 fz5
          obtain ⟨c0, c1', c2', c3, c4, c5⟩ := cells6 q6
          exact bodyPost_ret (v := .tuple #[.agg #[.int .i64 m.kind, .string m.code, .string m.value, .string m.path, .slice A1 m.bytes.length c1, .slice A2 m.kids.length c2], .int .i64 0]) (by simp [results, Tryz.results32, go_sem, c0, c1', c2', c3, c4, c5]) rfl (by rw [E.out]; exact HF.out)
end Go.Proofs.YtgjgcbemgmkncaaGreatDoor
namespace Go.Proofs.YtgjgcbemgmkncaaGreatDoor
open Go.RowKit Go.Shelf
set_option linter.unusedVariables false
set_option linter.unusedSimpArgs false

/-- The boxes of Add and Turn. -/
def adB (w : World) (x : Nd) (Ab : Option Addr) (cb : Nat) (Ak : Option Addr) (ck : Nat) (r : Int × Int) : List (Nat × TypeId × Array Value) := [(w.heap.size + 1 + 1, 26, #[.int .i64 0, .string { data := #[] }, .string { data := #[] }, .string { data := #[] }, .slice none 0 0, .slice none 0 0]), (w.heap.size + 1, 29, #[.int .i64 r.1, .int .u32 r.2]), (w.heap.size, 26, #[.int .i64 x.kind, .string x.code, .string x.value, .string x.path, .slice Ab x.bytes.length cb, .slice Ak x.kids.length ck])]
section
variable {w W : World} {x : Nd} {Ab Ak : Option Addr} {cb ck lo : Nat} {r : Int × Int}
theorem box_ad (h : MkW w lo (adB w x Ab cb Ak ck r) W) : Blk W w.heap.size 26 #[.int .i64 x.kind, .string x.code, .string x.value, .string x.path, .slice Ab x.bytes.length cb, .slice Ak x.kids.length ck] := (h.blk (w.heap.size, 26, #[.int .i64 x.kind, .string x.code, .string x.value, .string x.path, .slice Ab x.bytes.length cb, .slice Ak x.kids.length ck]) (by simp [adB])).2
theorem ref_ad (h : MkW w lo (adB w x Ab cb Ak ck r) W) : Blk W (w.heap.size + 1) 29 #[.int .i64 r.1, .int .u32 r.2] := (h.blk (w.heap.size + 1, 29, #[.int .i64 r.1, .int .u32 r.2]) (by simp [adB])).2
theorem out_ad (h : MkW w lo (adB w x Ab cb Ak ck r) W) : Blk W (w.heap.size + 1 + 1) 26 #[.int .i64 0, .string { data := #[] }, .string { data := #[] }, .string { data := #[] }, .slice none 0 0, .slice none 0 0] := (h.blk (w.heap.size + 1 + 1, 26, #[.int .i64 0, .string { data := #[] }, .string { data := #[] }, .string { data := #[] }, .slice none 0 0, .slice none 0 0]) (by simp [adB])).2
theorem ref_cells (h : MkW w lo (adB w x Ab cb Ak ck r) W) : W.cell? ⟨w.heap.size + 1, 0, none⟩ = some (.int .i64 r.1) ∧ W.cell? ⟨w.heap.size + 1, 1, none⟩ = some (.int .u32 r.2) := ⟨(ref_ad h).cell 0, (ref_ad h).cell 1⟩
end
theorem addL_mem {x : Nd} {b : Nat} {r : Int × Int} (hx : x.wf) (hb : b < 256) (hr : refOk r) : (∀ c ∈ (addL x b r).map (·.1), c < 256) ∧ ∀ q ∈ (addL x b r).map (·.2), refOk q := by
  have key : ∀ (l : List (Nat × (Int × Int))), (∀ p ∈ l, p.1 < 256 ∧ refOk p.2) → ∀ s : List (Nat × (Int × Int)) × Bool, (∀ p ∈ s.1, p.1 < 256 ∧ refOk p.2) → ∀ p ∈ (l.foldl (insStep b r) s).1, p.1 < 256 ∧ refOk p.2 := by
    intro l
    induction l with
    | nil => intro _ s hs; exact hs
    | cons p l ih =>
      intro hl s hs
      rw [List.foldl_cons]
      refine ih (fun q hq => hl q (by simp [hq])) _ ?_
      intro q hq
      unfold insStep at hq
      split at hq
      · simp only [List.mem_append, List.mem_singleton] at hq
        rcases hq with (hq | rfl) | rfl
        · exact hs q hq
        · exact ⟨hb, hr⟩
        · exact hl _ (by simp)
      · simp only [List.mem_append, List.mem_singleton] at hq
        rcases hq with hq | rfl
        · exact hs q hq
        · exact hl _ (by simp)
  have h0 : ∀ p ∈ (insTo (x.bytes.zip x.kids) b r (x.bytes.zip x.kids).length).1, p.1 < 256 ∧ refOk p.2 := by
    unfold insTo
    exact key _ (fun p hp => by
      have hm := List.mem_of_mem_take hp
      exact ⟨hx.bytes _ (List.of_mem_zip hm).1, hx.refs _ (List.of_mem_zip hm).2⟩) _ (fun p hp => by cases hp)
  have h1 : ∀ p ∈ addL x b r, p.1 < 256 ∧ refOk p.2 := by
    unfold addL putInL
    intro p hp
    split at hp
    · exact h0 p hp
    · simp only [List.mem_append, List.mem_singleton] at hp
      rcases hp with hp | rfl
      · exact h0 p hp
      · exact ⟨hb, hr⟩
  refine ⟨fun c hc => ?_, fun q hq => ?_⟩
  · obtain ⟨p, hp, rfl⟩ := List.mem_map.1 hc
    exact (h1 p hp).1
  · obtain ⟨p, hp, rfl⟩ := List.mem_map.1 hq
    exact (h1 p hp).2

set_option maxHeartbeats 6400000 in
set_option maxRecDepth 100000 in
theorem add3 {u0 u2 u5 u7 u9 u10 u11 u14 u15 u16 u17 u18 u19 u20 u21 u22 u23 u24 u25 u26 u27 u28 u29 u30 u31 u32 u33 u34 u35 u36 u37 u38 u39 u40 u41 u42 u43 u44 u45 u46 u47 u48 u49 u50 u51 u52 u53 u54 u55 u56 u57 u58 u59 u60 u61 u62 u63 u64 u65 u66 u67 u68 u69 u70 u71 u72 u73 u74 u75 u76 u77 u78 u79 u80 u81 u82 u83 u84 u85 u86 u87 u88 u89 u90 u91 u92 u93 u94 u95 u96 u97 u98 u99 u100 u101 v4 v5 : Value} (x : Nd) (b : Nat) (r : Int × Int) (keep : Bool) (l4 : List Nat) (l5 : List (Int × Int)) (w W : World) (Ab : Option Addr) (cb : Nat) (Ak : Option Addr) (ck : Nat) (hn : NdAt w x (.agg #[.int .i64 x.kind, .string x.code, .string x.value, .string x.path, .slice Ab x.bytes.length cb, .slice Ak x.kids.length ck])) (hmem : (∀ c ∈ l4, c < 256) ∧ ∀ q ∈ l5, refOk q)
    (h : MkR w (w.heap.size + 1 + 1 + 1) (adB w x Ab cb Ak ck r) v4 v5 l4 l5 W) :
    Code.wp Tryz.prog (bodyTail Tryz.f31 10) (bodyPost Tryz.prog Tryz.f31 (fun e w' => NdPair (madeN x l4 l5 keep) 0 w e w')) ⟨#[u0, .int .u8 (b : Int), u2, .bool keep, .pointer (some ⟨w.heap.size, 0, none⟩), u5, .pointer (some ⟨w.heap.size + 1, 0, none⟩), u7, .pointer (some ⟨w.heap.size + 1 + 1, 0, none⟩), u9, u10, u11, v4, v5, u14, u15, u16, u17, u18, u19, u20, u21, u22, u23, u24, u25, u26, u27, u28, u29, u30, u31, u32, u33, u34, u35, u36, u37, u38, u39, u40, u41, u42, u43, u44, u45, u46, u47, u48, u49, u50, u51, u52, u53, u54, u55, u56, u57, u58, u59, u60, u61, u62, u63, u64, u65, u66, u67, u68, u69, u70, u71, u72, u73, u74, u75, u76, u77, u78, u79, u80, u81, u82, u83, u84, u85, u86, u87, u88, u89, u90, u91, u92, u93, u94, u95, u96, u97, u98, u99, u100, u101], []⟩ W := by
  conv => arg 2; whnf
  have HW := Lib.hid h
  have HN := Lib.hid hn
  have HMEM := Lib.hid hmem
  clear h hn hmem
  obtain ⟨e0, e1, e2, e3, e4, e5⟩ := cells6 (box_ad HW.out.base)
  obtain ⟨A1, c1, A2, c2, rfl, rfl, a1, a2, -, -, n1, n2⟩ := HW.out.form
  have HA := Lib.hid (And.intro a1 (And.intro a2 (And.intro n1 n2)))
  clear a1 a2 n1 n2
  have hmd := made_r x _ l4 l5 A1 A2 c1 c2 keep W (HN.out.below HW.out.base.below)
  unfold Nd.v at hmd
  have HMD := Lib.hid hmd
  clear hmd
  go_wp2_with fail
  refine HMD.out.mono ?_
  rintro e w5 ⟨rfl, hb⟩
  have S5 := Lib.hid (HW.out.on hb)
  clear hb HMD HW e0 e1 e2 e3 e4 e5
  have q5 := out_ad S5.out.base
  obtain ⟨d0, d1, d2, d3, d4, d5⟩ := cells6 q5
  have fz0 := q5.frozen 0
  have fz1 := q5.frozen 1
  have fz2 := q5.frozen 2
  have fz3 := q5.frozen 3
  have fz4 := q5.frozen 4
  have fz5 := q5.frozen 5
  have l6 := q5.lt
  obtain ⟨m, hm⟩ : ∃ m, m = madeN x l4 l5 keep := ⟨_, rfl⟩
  have hm1 : m.bytes.length = l4.length := by rw [hm]; rfl
  have hm2 : m.kids.length = l5.length := by rw [hm]; rfl
  rw [← hm]
  obtain ⟨VV, hV, hg, q6⟩ := six_stores (.int .i64 m.kind) (.string m.code) (.string m.value) (.string m.path) (.slice A1 m.bytes.length c1) (.slice A2 m.kids.length c2) q5
  have HF : Hid (NdPair m 0 w (.returned (.tuple #[m.v A1 c1 A2 c2, .int .i64 0])) VV) := Lib.hid (by
    obtain ⟨B1, e1, B2, e2, h1, h2, -, -, r1, r2, -, -⟩ := S5.out.form
    injection h1 with h1a h1b h1c
    injection h2 with h2a h2b h2c
    subst h1a h1c h2a h2c
    rw [hm]
    exact made_out HN.out.1 keep HMEM.out.1 HMEM.out.2 HA.out.2.2.1 HA.out.2.2.2 r1 r2 (fun ad e => by have := HA.out.1 ad e; omega) (fun ad e => by have := HA.out.2.1 ad e; omega) hg (by omega) S5.out.base.below)
  have HMM := Lib.hid hm
  clear hg q5 hm hm1 hm2 S5
  go_wp2
  rw [← hV]
  clear hV d0 d1 d2 d3 d4 d5 fz0 fz1 fz2 fz3 fz4 fz5
  obtain ⟨c0, c1', c2', c3, c4, c5⟩ := cells6 q6
  exact bodyPost_ret (v := .tuple #[.agg #[.int .i64 m.kind, .string m.code, .string m.value, .string m.path, .slice A1 m.bytes.length c1, .slice A2 m.kids.length c2], .int .i64 0]) (by simp [results, Tryz.results31, go_sem, c0, c1', c2', c3, c4, c5]) rfl (by rw [← HMM.out]; exact HF.out)

set_option maxHeartbeats 12800000 in
set_option maxRecDepth 100000 in
theorem add2 {u0 u2 u5 u7 u9 u10 u11 u12 u13 u14 u15 u16 u17 u18 u19 u20 u21 u22 u23 u24 u25 u26 u27 u28 u29 u30 u31 u32 u33 u34 u35 u36 u37 u38 u39 u40 u41 u42 u43 u44 u45 u46 u47 u48 u49 u50 u51 u52 u53 u54 u55 u56 u57 u58 u59 u60 u61 u62 u63 u64 u65 u66 u67 u68 u69 u70 u71 u72 u73 u74 u75 u76 u77 u78 u79 u80 u81 u82 u83 u84 u85 u86 u87 u88 u89 u90 u91 u92 u93 u94 u95 u96 u97 u98 u99 u100 u101 : Value} (x : Nd) (b : Nat) (r : Int × Int) (keep : Bool) (w W : World) (Ab : Option Addr) (cb : Nat) (Ak : Option Addr) (ck : Nat) (hn : NdAt w x (.agg #[.int .i64 x.kind, .string x.code, .string x.value, .string x.path, .slice Ab x.bytes.length cb, .slice Ak x.kids.length ck])) (hb0 : Reads w w.heap.size 1 Ab x.bytes.length (x.bytes.flatMap nrow)) (hk0 : Reads w w.heap.size 2 Ak x.kids.length (x.kids.flatMap rrow)) (hb256 : b < 256) (hrok : refOk r) (hm : x.may = true)
    (h : MkW w (w.heap.size + 1 + 1 + 1) (adB w x Ab cb Ak ck r) W) :
    Code.wp Tryz.prog (bodyTail Tryz.f31 5) (bodyPost Tryz.prog Tryz.f31 (fun e w' => NdPair (madeN x ((addL x b r).map (·.1)) ((addL x b r).map (·.2)) keep) 0 w e w')) ⟨#[u0, .int .u8 (b : Int), u2, .bool keep, .pointer (some ⟨w.heap.size, 0, none⟩), u5, .pointer (some ⟨w.heap.size + 1, 0, none⟩), u7, .pointer (some ⟨w.heap.size + 1 + 1, 0, none⟩), u9, u10, u11, u12, u13, u14, u15, u16, u17, u18, u19, u20, u21, u22, u23, u24, u25, u26, u27, u28, u29, u30, u31, u32, u33, u34, u35, u36, u37, u38, u39, u40, u41, u42, u43, u44, u45, u46, u47, u48, u49, u50, u51, u52, u53, u54, u55, u56, u57, u58, u59, u60, u61, u62, u63, u64, u65, u66, u67, u68, u69, u70, u71, u72, u73, u74, u75, u76, u77, u78, u79, u80, u81, u82, u83, u84, u85, u86, u87, u88, u89, u90, u91, u92, u93, u94, u95, u96, u97, u98, u99, u100, u101], []⟩ W := by
  conv => arg 2; whnf
  have hlk0 : x.bytes.length = x.kids.length := (inner_parts (may_inner hm)).2.2.2.2.1
  have hlk1 : x.bytes.length ≤ x.kids.length := by omega
  have hlk2 : x.kids.length ≤ x.bytes.length := by omega
  clear hlk0
  have hl256 : x.kids.length ≤ 256 := (inner_parts (may_inner hm)).2.2.2.2.2.1
  have hzl : (x.bytes.zip x.kids).length = x.bytes.length := by rw [List.length_zip]; omega
  have HZ := Lib.hid hzl
  have HR := Lib.hid (And.intro hb0 hk0)
  have HMEM := Lib.hid (addL_mem (b := b) (r := r) hn.1 hb256 hrok)
  have HN := Lib.hid hn
  have H3 : Hid (MkR w (w.heap.size + 1 + 1 + 1) (adB w x Ab cb Ak ck r) (.slice none 0 0) (.slice none 0 0) ((insTo (x.bytes.zip x.kids) b r 0).1.map (·.1)) ((insTo (x.bytes.zip x.kids) b r 0).1.map (·.2)) W) := Lib.hid (MkR.start h)
  clear hm hb0 hk0 hn h hzl hrok
  refine wp_seq_k fun K0 hK => ?_
  have HK0 := Lib.hid hK
  clear hK
  go_wp2_with fail
  refine HK0.out _ _ ?_
  clear HK0
  refine wp_seq_k fun K1 hK => ?_
  have HK1 := Lib.hid hK
  clear hK
  go_wp2_with fail
  refine HK1.out _ _ ?_
  clear HK1
  refine wp_seq_k fun K2 hK => ?_
  have HK2 := Lib.hid hK
  clear hK
  go_wp2_with fail
  refine HK2.out _ _ ?_
  clear HK2
  refine wp_seq_k fun K6 hK => ?_
  have HK6 := Lib.hid hK
  clear hK
  obtain ⟨i0, hi0, iz0, iz1, iz2⟩ := info_parts infoBytes
  obtain ⟨j0, hj0, jz0, jz1, jz2⟩ := info_parts infoRefs
  have HI := Lib.hid (And.intro hi0 (And.intro iz0 (And.intro iz1 (And.intro iz2 (And.intro hj0 (And.intro jz0 (And.intro jz1 jz2)))))))
  clear hi0 iz0 iz1 iz2 hj0 jz0 jz1 jz2
  go_wp2_with fail
  go_loopw [12, 13, 14, 15] (fun v4 v5 d i wr => ∃ (k : Nat) (t : Bool), k ≤ x.bytes.length ∧ d = .bool t ∧ i = .int .i64 k ∧ Hid (t = (insTo (x.bytes.zip x.kids) b r k).2 ∧ MkR w (w.heap.size + 1 + 1 + 1) (adB w x Ab cb Ak ck r) v4 v5 ((insTo (x.bytes.zip x.kids) b r k).1.map (·.1)) ((insTo (x.bytes.zip x.kids) b r k).1.map (·.2)) wr)) (fun _ _ _ i _ => x.bytes.length - (intOf i).toNat)
  case atStart => exact ⟨0, false, Nat.zero_le _, rfl, rfl, Lib.hid ⟨rfl, H3.out⟩⟩
  case round =>
    clear H3
    obtain ⟨k, t, hk, rfl, rfl, HW⟩ := hrel
    obtain ⟨z0, z1, z2, z3, z4, z5⟩ := cells6 (box_ad HW.out.2.base)
    by_cases hlt : k < x.bytes.length
    · clear z0 z1 z2 z3 z4 z5
      have j1 : (0 : Int) ≤ (k : Int) := by omega
      have j2 : (k : Int) < (x.bytes.length : Int) := by omega
      have hltk : k < x.kids.length := by omega
      have j3 : (k : Int) < (x.kids.length : Int) := by omega
      obtain ⟨ad, rfl, hab, hby⟩ := byte_at HR.out.1 hlt
      obtain ⟨kd, rfl, hkb, c0, c0a, c0b, c0c, c0d⟩ := ref_at2 HR.out.2 hltk
      have hst := insTo_succ (l := x.bytes.zip x.kids) (b := b) (r := r) (k := k) (by rw [HZ.out]; exact hlt)
      rw [List.getElem_zip] at hst
      have hll := insTo_len (l := x.bytes.zip x.kids) (b := b) (r := r) k (by rw [HZ.out]; omega)
      have hl0 : (insTo (x.bytes.zip x.kids) b r k).1.length ≤ 256 := by rw [hll]; split <;> omega
      have HC := Lib.hid hst
      clear hst hll
      generalize insTo (x.bytes.zip x.kids) b r k = L at HC hl0 HW
      obtain ⟨L, t'⟩ := L
      obtain rfl : t = t' := HW.out.1
      have S0 := Lib.hid HW.out.2
      clear HW
      dsimp only at hl0 S0
      have hl4 : (L.map (·.1)).length ≤ 256 := by rw [List.length_map]; omega
      have hl5 : (L.map (·.2)).length ≤ 256 := by rw [List.length_map]; omega
      generalize x.bytes[k] = p at hby HC
      generalize x.kids[k] = q at c0 c0a c0b c0c c0d HC
      clear c0a c0b c0c
      obtain ⟨q1, q2⟩ := q
      dsimp only at c0 c0d
      have HD := Lib.hid (And.intro hby (And.intro c0 c0d))
      clear hby c0 c0d
      obtain ⟨hi0, iz0, iz1, iz2, hj0, jz0, jz1, jz2⟩ := HI.out
      obtain ⟨e0, e1, e2, e3, e4, e5⟩ := cells6 (box_ad S0.out.base)
      obtain ⟨e6, e7⟩ := ref_cells S0.out.base
      have e8 := (S0.out.base.below.cell (p := ad.add k) (by rw [block_of_add]; exact hab)).trans HD.out.1
      have e9 := (S0.out.base.below.cell (p := kd.add (k * 2)) (by rw [block_of_add]; exact hkb)).trans HD.out.2.1
      have ex := (S0.out.base.below.cell (p := ⟨(kd.add (k * 2)).block, (kd.add (k * 2)).off + 1, none⟩) (by rw [block_of_add]; exact hkb)).trans HD.out.2.2
      cases t with
      | true =>
        have HC2 : Hid (insTo (x.bytes.zip x.kids) b r (k + 1) = (L ++ [(p, (q1, q2))], true)) := Lib.hid (by rw [HC.out]; unfold insStep; rw [if_neg (fun h => by cases h.1)])
        go_wp2_with (first
          | (at_builtin
             refine wpList_append_any _ rfl (.tmp 71) (.tmp 77) _ rfl (w.heap.size + 1 + 1 + 1) 5 i0 _ 1 1 Tryz.underlying23 hi0 iz0 iz1 iz2 rfl (by omega) u12 (L.map (·.1)).length ((L.map (·.1)).flatMap nrow) rfl
               (S0.out.alloc _).row4 _ (some ⟨wr.heap.size, 0, none⟩) 1 1 (nrow p) rfl (reads_of_blk (blk_newAt rfl) rfl rfl) (nrow_one _) (by unfold maxLen; omega) (by omega) (S0.out.alloc _).base.size ?_
             intro v6 w6 hown hg hat
             have S6 := Lib.hid ((S0.out.alloc _).app4 hown hg)
             clear hown hg hat
             obtain ⟨g0, g1, g2, g3, g4, g5⟩ := cells6 (box_ad S6.out.base)
             obtain ⟨g6, g7⟩ := ref_cells S6.out.base
             have g8 := (S6.out.base.below.cell (p := ad.add k) (by rw [block_of_add]; exact hab)).trans HD.out.1
             have g9 := (S6.out.base.below.cell (p := kd.add (k * 2)) (by rw [block_of_add]; exact hkb)).trans HD.out.2.1
             have gx := (S6.out.base.below.cell (p := ⟨(kd.add (k * 2)).block, (kd.add (k * 2)).off + 1, none⟩) (by rw [block_of_add]; exact hkb)).trans HD.out.2.2
             clear e0 e1 e2 e3 e4 e5 e6 e7 e8 e9 ex)
          | (at_builtin
             refine wpList_append_any _ rfl (.tmp 79) (.tmp 85) _ rfl (w.heap.size + 1 + 1 + 1) 29 j0 _ 2 16 Tryz.underlying24 hj0 jz0 jz1 jz2 rfl (by omega) u13 (L.map (·.2)).length ((L.map (·.2)).flatMap rrow) rfl
               (S6.out.alloc _).row5 _ (some ⟨w6.heap.size, 0, none⟩) 1 1 (rrow (q1, q2)) rfl (reads_of_blk (blk_newAt rfl) rfl rfl) (rrow_one _) (by unfold maxLen; omega) (by omega) (S6.out.alloc _).base.size ?_
             intro v7 w7 hown hg hat
             have S7 := Lib.hid ((S6.out.alloc _).app5 hown hg)
             clear hown hg hat
             skip))
        go_roundw
        case rel => exact ⟨k + 1, true, by omega, rfl, by go_num, Lib.hid (by rw [HC2.out]; refine ⟨rfl, ?_⟩; rw [List.map_append, List.map_append]; exact S7.out)⟩
        case measure => simp [intOf]; omega
      | false =>
        by_cases hpb : b < p
        · have HC2 : Hid (insTo (x.bytes.zip x.kids) b r (k + 1) = (L ++ [(b, r)] ++ [(p, (q1, q2))], true)) := Lib.hid (by rw [HC.out]; unfold insStep; rw [if_pos ⟨rfl, hpb⟩])
          have hgt : (p : Int) > (b : Int) := by omega
          have hm4 : (L.map (·.1) ++ [b]).length ≤ 257 := by rw [List.length_append]; simp only [List.length_cons, List.length_nil]; omega
          have hm5 : (L.map (·.2) ++ [r]).length ≤ 257 := by rw [List.length_append]; simp only [List.length_cons, List.length_nil]; omega
          go_wp2_with (first
            | (at_builtin
               refine wpList_append_any _ rfl (.tmp 63) (.tmp 65) _ rfl (w.heap.size + 1 + 1 + 1) 5 i0 _ 1 1 Tryz.underlying23 hi0 iz0 iz1 iz2 rfl (by omega) u12 (L.map (·.1)).length ((L.map (·.1)).flatMap nrow) rfl
                 (S0.out.alloc _).row4 _ (some ⟨wr.heap.size, 0, none⟩) 1 1 (nrow b) rfl (reads_of_blk (blk_newAt rfl) rfl rfl) (nrow_one _) (by unfold maxLen; omega) (by omega) (S0.out.alloc _).base.size ?_
               intro v4 w4 hown hg hat
               have S4 := Lib.hid ((S0.out.alloc _).app4 hown hg)
               clear hown hg hat
               obtain ⟨f0, f1, f2, f3, f4, f5⟩ := cells6 (box_ad S4.out.base)
               obtain ⟨f6, f7⟩ := ref_cells S4.out.base
               have f8 := (S4.out.base.below.cell (p := ad.add k) (by rw [block_of_add]; exact hab)).trans HD.out.1
               have f9 := (S4.out.base.below.cell (p := kd.add (k * 2)) (by rw [block_of_add]; exact hkb)).trans HD.out.2.1
               have fx := (S4.out.base.below.cell (p := ⟨(kd.add (k * 2)).block, (kd.add (k * 2)).off + 1, none⟩) (by rw [block_of_add]; exact hkb)).trans HD.out.2.2
               clear e0 e1 e2 e3 e4 e5 e6 e7 e8 e9 ex)
            | (at_builtin
               refine wpList_append_any _ rfl (.tmp 67) (.tmp 69) _ rfl (w.heap.size + 1 + 1 + 1) 29 j0 _ 2 16 Tryz.underlying24 hj0 jz0 jz1 jz2 rfl (by omega) u13 (L.map (·.2)).length ((L.map (·.2)).flatMap rrow) rfl
                 (S4.out.alloc _).row5 _ (some ⟨w4.heap.size, 0, none⟩) 1 1 (rrow (r.1, r.2)) rfl (reads_of_blk (blk_newAt rfl) rfl rfl) (rrow_one _) (by unfold maxLen; omega) (by omega) (S4.out.alloc _).base.size ?_
               intro v5 w5 hown hg hat
               have S5 := Lib.hid ((S4.out.alloc _).app5 hown hg)
               clear hown hg hat
               obtain ⟨h0, h1, h2, h3, h4, h5⟩ := cells6 (box_ad S5.out.base)
               obtain ⟨h6, h7⟩ := ref_cells S5.out.base
               have h8 := (S5.out.base.below.cell (p := ad.add k) (by rw [block_of_add]; exact hab)).trans HD.out.1
               have h9 := (S5.out.base.below.cell (p := kd.add (k * 2)) (by rw [block_of_add]; exact hkb)).trans HD.out.2.1
               have hx := (S5.out.base.below.cell (p := ⟨(kd.add (k * 2)).block, (kd.add (k * 2)).off + 1, none⟩) (by rw [block_of_add]; exact hkb)).trans HD.out.2.2
               clear f0 f1 f2 f3 f4 f5 f6 f7 f8 f9 fx)
            | (at_builtin
               refine wpList_append_any _ rfl (.tmp 71) (.tmp 77) _ rfl (w.heap.size + 1 + 1 + 1) 5 i0 _ 1 1 Tryz.underlying23 hi0 iz0 iz1 iz2 rfl (by omega) v4 (L.map (·.1) ++ [b]).length ((L.map (·.1) ++ [b]).flatMap nrow) rfl
                 (S5.out.alloc _).row4 _ (some ⟨w5.heap.size, 0, none⟩) 1 1 (nrow p) rfl (reads_of_blk (blk_newAt rfl) rfl rfl) (nrow_one _) (by unfold maxLen; omega) (by omega) (S5.out.alloc _).base.size ?_
               intro v6 w6 hown hg hat
               have S6 := Lib.hid ((S5.out.alloc _).app4 hown hg)
               clear hown hg hat
               obtain ⟨g0, g1, g2, g3, g4, g5⟩ := cells6 (box_ad S6.out.base)
               obtain ⟨g6, g7⟩ := ref_cells S6.out.base
               have g8 := (S6.out.base.below.cell (p := ad.add k) (by rw [block_of_add]; exact hab)).trans HD.out.1
               have g9 := (S6.out.base.below.cell (p := kd.add (k * 2)) (by rw [block_of_add]; exact hkb)).trans HD.out.2.1
               have gx := (S6.out.base.below.cell (p := ⟨(kd.add (k * 2)).block, (kd.add (k * 2)).off + 1, none⟩) (by rw [block_of_add]; exact hkb)).trans HD.out.2.2
               clear h0 h1 h2 h3 h4 h5 h6 h7 h8 h9 hx)
            | (at_builtin
               refine wpList_append_any _ rfl (.tmp 79) (.tmp 85) _ rfl (w.heap.size + 1 + 1 + 1) 29 j0 _ 2 16 Tryz.underlying24 hj0 jz0 jz1 jz2 rfl (by omega) v5 (L.map (·.2) ++ [r]).length ((L.map (·.2) ++ [r]).flatMap rrow) rfl
                 (S6.out.alloc _).row5 _ (some ⟨w6.heap.size, 0, none⟩) 1 1 (rrow (q1, q2)) rfl (reads_of_blk (blk_newAt rfl) rfl rfl) (rrow_one _) (by unfold maxLen; omega) (by omega) (S6.out.alloc _).base.size ?_
               intro v7 w7 hown hg hat
               have S7 := Lib.hid ((S6.out.alloc _).app5 hown hg)
               clear hown hg hat
               skip))
          go_roundw
          case rel => exact ⟨k + 1, true, by omega, rfl, by go_num, Lib.hid (by rw [HC2.out]; refine ⟨rfl, ?_⟩; rw [List.map_append, List.map_append, List.map_append, List.map_append]; exact S7.out)⟩
          case measure => simp [intOf]; omega
        · have HC2 : Hid (insTo (x.bytes.zip x.kids) b r (k + 1) = (L ++ [(p, (q1, q2))], false)) := Lib.hid (by rw [HC.out]; unfold insStep; rw [if_neg (fun h => hpb h.2)])
          have hgt : ¬ ((p : Int) > (b : Int)) := by omega
          go_wp2_with (first
            | (at_builtin
               refine wpList_append_any _ rfl (.tmp 71) (.tmp 77) _ rfl (w.heap.size + 1 + 1 + 1) 5 i0 _ 1 1 Tryz.underlying23 hi0 iz0 iz1 iz2 rfl (by omega) u12 (L.map (·.1)).length ((L.map (·.1)).flatMap nrow) rfl
                 (S0.out.alloc _).row4 _ (some ⟨wr.heap.size, 0, none⟩) 1 1 (nrow p) rfl (reads_of_blk (blk_newAt rfl) rfl rfl) (nrow_one _) (by unfold maxLen; omega) (by omega) (S0.out.alloc _).base.size ?_
               intro v6 w6 hown hg hat
               have S6 := Lib.hid ((S0.out.alloc _).app4 hown hg)
               clear hown hg hat
               obtain ⟨g0, g1, g2, g3, g4, g5⟩ := cells6 (box_ad S6.out.base)
               obtain ⟨g6, g7⟩ := ref_cells S6.out.base
               have g8 := (S6.out.base.below.cell (p := ad.add k) (by rw [block_of_add]; exact hab)).trans HD.out.1
               have g9 := (S6.out.base.below.cell (p := kd.add (k * 2)) (by rw [block_of_add]; exact hkb)).trans HD.out.2.1
               have gx := (S6.out.base.below.cell (p := ⟨(kd.add (k * 2)).block, (kd.add (k * 2)).off + 1, none⟩) (by rw [block_of_add]; exact hkb)).trans HD.out.2.2
               clear e0 e1 e2 e3 e4 e5 e6 e7 e8 e9 ex)
            | (at_builtin
               refine wpList_append_any _ rfl (.tmp 79) (.tmp 85) _ rfl (w.heap.size + 1 + 1 + 1) 29 j0 _ 2 16 Tryz.underlying24 hj0 jz0 jz1 jz2 rfl (by omega) u13 (L.map (·.2)).length ((L.map (·.2)).flatMap rrow) rfl
                 (S6.out.alloc _).row5 _ (some ⟨w6.heap.size, 0, none⟩) 1 1 (rrow (q1, q2)) rfl (reads_of_blk (blk_newAt rfl) rfl rfl) (rrow_one _) (by unfold maxLen; omega) (by omega) (S6.out.alloc _).base.size ?_
               intro v7 w7 hown hg hat
               have S7 := Lib.hid ((S6.out.alloc _).app5 hown hg)
               clear hown hg hat
               skip))
          go_roundw
          case rel => exact ⟨k + 1, false, by omega, rfl, by go_num, Lib.hid (by rw [HC2.out]; refine ⟨rfl, ?_⟩; rw [List.map_append, List.map_append]; exact S7.out)⟩
          case measure => simp [intOf]; omega
    · obtain rfl : k = x.bytes.length := by omega
      have i1 : ¬ ((x.bytes.length : Int) < (x.bytes.length : Int)) := by omega
      have hL : addL x b r = if t = true then (insTo (x.bytes.zip x.kids) b r x.bytes.length).1 else (insTo (x.bytes.zip x.kids) b r x.bytes.length).1 ++ [(b, r)] := by
        unfold addL putInL
        rw [HZ.out, ← HW.out.1]
      have hll := insTo_len (l := x.bytes.zip x.kids) (b := b) (r := r) x.bytes.length (by rw [HZ.out]; omega)
      have hl0 : (insTo (x.bytes.zip x.kids) b r x.bytes.length).1.length ≤ 257 := by rw [hll]; split <;> omega
      have S0 := Lib.hid HW.out.2
      have HL := Lib.hid hL
      clear HW hL hll
      generalize (insTo (x.bytes.zip x.kids) b r x.bytes.length).1 = L at S0 HL hl0
      have hl4 : (L.map (·.1)).length ≤ 257 := by rw [List.length_map]; omega
      have hl5 : (L.map (·.2)).length ≤ 257 := by rw [List.length_map]; omega
      go_wp2_with fail
      refine HK6.out _ _ ?_
      clear HK6 z0 z1 z2 z3 z4 z5 hk i1
      refine wp_seq_k fun K7 hK => ?_
      have HK7 := Lib.hid hK
      clear hK
      cases t with
      | true =>
        go_wp2_with fail
        refine HK7.out _ _ ?_
        have hLL : addL x b r = L := by rw [HL.out]; rfl
        rw [hLL] at HMEM ⊢
        exact add3 x b r keep _ _ w wr Ab cb Ak ck HN.out HMEM.out S0.out
      | false =>
        obtain ⟨hi0, iz0, iz1, iz2, hj0, jz0, jz1, jz2⟩ := HI.out
        go_wp2_with (first
          | (at_builtin
             refine wpList_append_any _ rfl (.tmp 89) (.tmp 91) _ rfl (w.heap.size + 1 + 1 + 1) 5 i0 _ 1 1 Tryz.underlying23 hi0 iz0 iz1 iz2 rfl (by omega) u12 (L.map (·.1)).length ((L.map (·.1)).flatMap nrow) rfl
               (S0.out.alloc _).row4 _ (some ⟨wr.heap.size, 0, none⟩) 1 1 (nrow b) rfl (reads_of_blk (blk_newAt rfl) rfl rfl) (nrow_one _) (by unfold maxLen; omega) (by omega) (S0.out.alloc _).base.size ?_
             intro v4 w4 hown hg hat
             have S4 := Lib.hid ((S0.out.alloc _).app4 hown hg)
             clear hown hg hat
             obtain ⟨r6, r7⟩ := ref_cells S4.out.base)
          | (at_builtin
             refine wpList_append_any _ rfl (.tmp 93) (.tmp 95) _ rfl (w.heap.size + 1 + 1 + 1) 29 j0 _ 2 16 Tryz.underlying24 hj0 jz0 jz1 jz2 rfl (by omega) u13 (L.map (·.2)).length ((L.map (·.2)).flatMap rrow) rfl
               (S4.out.alloc _).row5 _ (some ⟨w4.heap.size, 0, none⟩) 1 1 (rrow (r.1, r.2)) rfl (reads_of_blk (blk_newAt rfl) rfl rfl) (rrow_one _) (by unfold maxLen; omega) (by omega) (S4.out.alloc _).base.size ?_
             intro v5 w5 hown hg hat
             have S5 := Lib.hid ((S4.out.alloc _).app5 hown hg)
             clear hown hg hat
             skip))
        refine HK7.out _ _ ?_
        have hLL : addL x b r = L ++ [(b, r)] := by rw [HL.out]; rfl
        rw [hLL, List.map_append, List.map_append] at HMEM ⊢
        exact add3 x b r keep _ _ w w5 Ab cb Ak ck HN.out HMEM.out S5.out

set_option maxHeartbeats 6400000 in
set_option maxRecDepth 100000 in
theorem Add_r (x : Nd) (V : Value) (b : Nat) (r : Int × Int) (keep : Bool) (w : World) (h : NdAt w x V) (hb256 : b < 256) (hrok : refOk r) : Calls Tryz.prog 31 #[V, .int .u8 (b : Int), .agg #[.int .i64 r.1, .int .u32 r.2], .bool keep] w (fun e w' => NdPair (addR x b r keep).1 (addR x b r keep).2 w e w') := by
  obtain ⟨hwf, Ab, cb, Ak, ck, rfl, hb0, hk0⟩ := h
  have hnd : NdAt w x (x.v Ab cb Ak ck) := ⟨hwf, Ab, cb, Ak, ck, rfl, hb0, hk0⟩
  have h0 : MkW w (w.heap.size + 1 + 1 + 1) (adB w x Ab cb Ak ck r) (((w.alloc (.cells #[.int .i64 x.kind, .string x.code, .string x.value, .string x.path, .slice Ab x.bytes.length cb, .slice Ak x.kids.length ck] 26)).alloc (.cells #[.int .i64 r.1, .int .u32 r.2] 29)).alloc (.cells #[.int .i64 0, .string { data := #[] }, .string { data := #[] }, .string { data := #[] }, .slice none 0 0, .slice none 0 0] 26)) := (((MkW.start w).push rfl 26 #[.int .i64 x.kind, .string x.code, .string x.value, .string x.path, .slice Ab x.bytes.length cb, .slice Ak x.kids.length ck]).push (by simp) 29 #[.int .i64 r.1, .int .u32 r.2]).push (by simp) 26 #[.int .i64 0, .string { data := #[] }, .string { data := #[] }, .string { data := #[] }, .slice none 0 0, .slice none 0 0]
  have H0 := Lib.hid h0
  have HN := Lib.hid hnd
  have HR := Lib.hid (And.intro hb0 (And.intro hk0 (And.intro hwf hrok)))
  obtain ⟨y, hy⟩ : ∃ y, y = addR x b r keep := ⟨_, rfl⟩
  rw [← hy]
  have HY := Lib.hid hy
  clear hwf hb0 hk0 hnd h0 hy hrok
  unfold Nd.v at HN ⊢
  go_enter Tryz.func31, Tryz.ntmps31
  refine wp_seq_k fun K0 hK => ?_
  have HK0 := Lib.hid hK
  clear hK
  go_wp2_with fail
  refine HK0.out _ _ ?_
  clear HK0
  generalize ((w.alloc _).alloc _).alloc _ = w0 at H0 ⊢
  refine wp_seq_k fun K1 hK => ?_
  have HK1 := Lib.hid hK
  clear hK
  obtain ⟨e0, e1, e2, e3, e4, e5⟩ := cells6 (box_ad H0.out)
  have HM := Lib.hid (may_r x _ w0 (HN.out.below H0.out.below))
  cases hm : x.may with
  | false =>
    rw [hm] at HM
    have E : Hid (y = (zeroNd, 4)) := Lib.hid (by rw [HY.out]; unfold addR; rw [if_pos (.inl hm)])
    clear hm
    go_wp2_with fail
    refine HM.out.mono ?_
    rintro e w1 ⟨rfl, hb⟩
    have S1 := Lib.hid (H0.out.on hb)
    clear hb HM H0 e0 e1 e2 e3 e4 e5
    have q5 := out_ad S1.out
    obtain ⟨d0, d1, d2, d3, d4, d5⟩ := cells6 q5
    have fz0 := q5.frozen 0
    have fz1 := q5.frozen 1
    have fz2 := q5.frozen 2
    have fz3 := q5.frozen 3
    have fz4 := q5.frozen 4
    have fz5 := q5.frozen 5
    have l6 := q5.lt
    obtain ⟨VV, hV, hg, q6⟩ := six_stores (.int .i64 0) (.string { data := #[] }) (.string { data := #[] }) (.string { data := #[] }) (.slice none 0 0) (.slice none 0 0) q5
    have HF := Lib.hid (zero_out (c := 4) S1.out.below hg (by omega))
    clear hg q5
    go_wp2
    rw [← hV]
    clear hV d0 d1 d2 d3 d4 d5 fz0 fz1 fz2 fz3 fz4 fz5
    obtain ⟨c0, c1, c2, c3, c4, c5⟩ := cells6 q6
    exact bodyPost_ret (v := .tuple #[.agg #[.int .i64 0, .string { data := #[] }, .string { data := #[] }, .string { data := #[] }, .slice none 0 0, .slice none 0 0], .int .i64 4]) (by simp [results, Tryz.results31, go_sem, c0, c1, c2, c3, c4, c5]) rfl (by rw [E.out]; exact HF.out)
  | true =>
    rw [hm] at HM
    have HMAY := Lib.hid hm
    clear hm
    go_wp2_with fail
    refine HM.out.mono ?_
    rintro e w1 ⟨rfl, hb⟩
    have S1 := Lib.hid (H0.out.on hb)
    clear hb HM H0 e0 e1 e2 e3 e4 e5
    obtain ⟨r6, r7⟩ := ref_cells S1.out
    have hkd := kid_r r w1
    unfold refV at hkd
    have HKD := Lib.hid hkd
    clear hkd
    cases hkr : kidN r with
    | false =>
      rw [hkr] at HKD
      have E : Hid (y = (zeroNd, 4)) := Lib.hid (by rw [HY.out]; unfold addR; rw [if_pos (.inr hkr)])
      clear hkr
      go_wp2_with fail
      refine HKD.out.mono ?_
      rintro e w2 ⟨rfl, hb⟩
      have S2 := Lib.hid (S1.out.on hb)
      clear hb HKD S1 r6 r7
      have q5 := out_ad S2.out
      obtain ⟨d0, d1, d2, d3, d4, d5⟩ := cells6 q5
      have fz0 := q5.frozen 0
      have fz1 := q5.frozen 1
      have fz2 := q5.frozen 2
      have fz3 := q5.frozen 3
      have fz4 := q5.frozen 4
      have fz5 := q5.frozen 5
      have l6 := q5.lt
      obtain ⟨VV, hV, hg, q6⟩ := six_stores (.int .i64 0) (.string { data := #[] }) (.string { data := #[] }) (.string { data := #[] }) (.slice none 0 0) (.slice none 0 0) q5
      have HF := Lib.hid (zero_out (c := 4) S2.out.below hg (by omega))
      clear hg q5
      go_wp2
      rw [← hV]
      clear hV d0 d1 d2 d3 d4 d5 fz0 fz1 fz2 fz3 fz4 fz5
      obtain ⟨c0, c1, c2, c3, c4, c5⟩ := cells6 q6
      exact bodyPost_ret (v := .tuple #[.agg #[.int .i64 0, .string { data := #[] }, .string { data := #[] }, .string { data := #[] }, .slice none 0 0, .slice none 0 0], .int .i64 4]) (by simp [results, Tryz.results31, go_sem, c0, c1, c2, c3, c4, c5]) rfl (by rw [E.out]; exact HF.out)
    | true =>
      rw [hkr] at HKD
      have E0 : Hid (y = if (findN x b).isSome = true then (zeroNd, 8) else if x.kids.length = 256 ∨ (keep = true ∧ x.full = true) then (zeroNd, 14) else (madeN x ((addL x b r).map (·.1)) ((addL x b r).map (·.2)) keep, 0)) := Lib.hid (by rw [HY.out]; unfold addR; rw [if_neg (by rw [HMAY.out, hkr]; simp)])
      clear hkr
      go_wp2_with fail
      refine HKD.out.mono ?_
      rintro e w2 ⟨rfl, hb⟩
      have S2 := Lib.hid (S1.out.on hb)
      clear hb HKD S1 r6 r7
      go_wp2_with fail
      refine HK1.out _ _ ?_
      clear HK1
      refine wp_seq_k fun K2 hK => ?_
      have HK2 := Lib.hid hK
      clear hK
      obtain ⟨e0, e1, e2, e3, e4, e5⟩ := cells6 (box_ad S2.out)
      have hf := Find_r x _ b w2 (HN.out.below S2.out.below) hb256
      obtain ⟨q, hq⟩ : ∃ q, q = findN x b := ⟨_, rfl⟩
      rw [← hq] at hf E0
      clear hq
      unfold optV refV at hf
      have HF0 := Lib.hid hf
      clear hf
      go_wp2_with fail
      refine HF0.out.mono ?_
      rintro e w3 ⟨rfl, hb⟩
      have S3 := Lib.hid ((S2.out.on hb).on (below_box w3 (.cells #[.int .i64 (q.getD (0, 0)).1, .int .u32 (q.getD (0, 0)).2] 29)))
      clear hb S2 HF0 e0 e1 e2 e3 e4 e5
      go_wp2_with fail
      refine HK2.out _ _ ?_
      clear HK2
      generalize w3.alloc _ = w4 at S3 ⊢
      refine wp_seq_k fun K3 hK => ?_
      have HK3 := Lib.hid hK
      clear hK
      cases q with
      | some q0 =>
        have E : Hid (y = (zeroNd, 8)) := Lib.hid (by rw [E0.out]; rfl)
        simp only [Option.isSome_some, Option.getD_some]
        have q5 := out_ad S3.out
        obtain ⟨d0, d1, d2, d3, d4, d5⟩ := cells6 q5
        have fz0 := q5.frozen 0
        have fz1 := q5.frozen 1
        have fz2 := q5.frozen 2
        have fz3 := q5.frozen 3
        have fz4 := q5.frozen 4
        have fz5 := q5.frozen 5
        have l6 := q5.lt
        obtain ⟨VV, hV, hg, q6⟩ := six_stores (.int .i64 0) (.string { data := #[] }) (.string { data := #[] }) (.string { data := #[] }) (.slice none 0 0) (.slice none 0 0) q5
        have HF := Lib.hid (zero_out (c := 8) S3.out.below hg (by omega))
        clear hg q5
        go_wp2
        rw [← hV]
        clear hV d0 d1 d2 d3 d4 d5 fz0 fz1 fz2 fz3 fz4 fz5
        obtain ⟨c0, c1, c2, c3, c4, c5⟩ := cells6 q6
        exact bodyPost_ret (v := .tuple #[.agg #[.int .i64 0, .string { data := #[] }, .string { data := #[] }, .string { data := #[] }, .slice none 0 0, .slice none 0 0], .int .i64 8]) (by simp [results, Tryz.results31, go_sem, c0, c1, c2, c3, c4, c5]) rfl (by rw [E.out]; exact HF.out)
      | none =>
        have E1 : Hid (y = if x.kids.length = 256 ∨ (keep = true ∧ x.full = true) then (zeroNd, 14) else (madeN x ((addL x b r).map (·.1)) ((addL x b r).map (·.2)) keep, 0)) := Lib.hid (by rw [E0.out]; rfl)
        clear E0
        simp only [Option.isSome_none, Option.getD_none]
        go_wp2_with fail
        refine HK3.out _ _ ?_
        clear HK3
        refine wp_seq_k fun K4 hK => ?_
        have HK4 := Lib.hid hK
        clear hK
        obtain ⟨e0, e1, e2, e3, e4, e5⟩ := cells6 (box_ad S3.out)
        by_cases h256 : x.kids.length = 256
        · have E : Hid (y = (zeroNd, 14)) := Lib.hid (by rw [E1.out, if_pos (.inl h256)])
          have h2 : ((x.kids.length : Int) == 256) = true := by simp; omega
          clear h256
          clear e0 e1 e2 e3 e4
          have q5 := out_ad S3.out
          obtain ⟨d0, d1, d2, d3, d4, d5⟩ := cells6 q5
          have fz0 := q5.frozen 0
          have fz1 := q5.frozen 1
          have fz2 := q5.frozen 2
          have fz3 := q5.frozen 3
          have fz4 := q5.frozen 4
          have fz5 := q5.frozen 5
          have l6 := q5.lt
          obtain ⟨VV, hV, hg, q6⟩ := six_stores (.int .i64 0) (.string { data := #[] }) (.string { data := #[] }) (.string { data := #[] }) (.slice none 0 0) (.slice none 0 0) q5
          have HF := Lib.hid (zero_out (c := 14) S3.out.below hg (by omega))
          clear hg q5
          go_wp2
          rw [← hV]
          clear hV d0 d1 d2 d3 d4 d5 fz0 fz1 fz2 fz3 fz4 fz5
          obtain ⟨c0, c1, c2, c3, c4, c5⟩ := cells6 q6
          exact bodyPost_ret (v := .tuple #[.agg #[.int .i64 0, .string { data := #[] }, .string { data := #[] }, .string { data := #[] }, .slice none 0 0, .slice none 0 0], .int .i64 14]) (by simp [results, Tryz.results31, go_sem, c0, c1, c2, c3, c4, c5]) rfl (by rw [E.out]; exact HF.out)
        · have h2 : ((x.kids.length : Int) == 256) = false := by simp; omega
          cases keep with
          | false =>
            have E : Hid (y = (madeN x ((addL x b r).map (·.1)) ((addL x b r).map (·.2)) false, 0)) := Lib.hid (by rw [E1.out, if_neg (by simp [h256])])
            clear h256
            go_wp2_with fail
            refine HK4.out _ _ ?_
            rw [E.out]
            exact add2 x b r false w w4 Ab cb Ak ck HN.out HR.out.1 HR.out.2.1 hb256 HR.out.2.2.2 HMAY.out S3.out
          | true =>
            have HFU := Lib.hid (Full_r x _ w4 (HN.out.below S3.out.below))
            cases hfu : x.full with
            | true =>
              rw [hfu] at HFU
              have E : Hid (y = (zeroNd, 14)) := Lib.hid (by rw [E1.out, if_pos (.inr ⟨rfl, hfu⟩)])
              clear h256 hfu
              go_wp2_with fail
              refine HFU.out.mono ?_
              rintro e w5 ⟨rfl, hb⟩
              have S5 := Lib.hid (S3.out.on hb)
              clear hb HFU S3 e0 e1 e2 e3 e4 e5
              have q5 := out_ad S5.out
              obtain ⟨d0, d1, d2, d3, d4, d5⟩ := cells6 q5
              have fz0 := q5.frozen 0
              have fz1 := q5.frozen 1
              have fz2 := q5.frozen 2
              have fz3 := q5.frozen 3
              have fz4 := q5.frozen 4
              have fz5 := q5.frozen 5
              have l6 := q5.lt
              obtain ⟨VV, hV, hg, q6⟩ := six_stores (.int .i64 0) (.string { data := #[] }) (.string { data := #[] }) (.string { data := #[] }) (.slice none 0 0) (.slice none 0 0) q5
              have HF := Lib.hid (zero_out (c := 14) S5.out.below hg (by omega))
              clear hg q5
              go_wp2
              rw [← hV]
              clear hV d0 d1 d2 d3 d4 d5 fz0 fz1 fz2 fz3 fz4 fz5
              obtain ⟨c0, c1, c2, c3, c4, c5⟩ := cells6 q6
              exact bodyPost_ret (v := .tuple #[.agg #[.int .i64 0, .string { data := #[] }, .string { data := #[] }, .string { data := #[] }, .slice none 0 0, .slice none 0 0], .int .i64 14]) (by simp [results, Tryz.results31, go_sem, c0, c1, c2, c3, c4, c5]) rfl (by rw [E.out]; exact HF.out)
            | false =>
              rw [hfu] at HFU
              have E : Hid (y = (madeN x ((addL x b r).map (·.1)) ((addL x b r).map (·.2)) true, 0)) := Lib.hid (by rw [E1.out, if_neg (by simp [h256, hfu])])
              clear h256 hfu
              go_wp2_with fail
              refine HFU.out.mono ?_
              rintro e w5 ⟨rfl, hb⟩
              have S5 := Lib.hid (S3.out.on hb)
              clear hb HFU S3 e0 e1 e2 e3 e4 e5
              go_wp2_with fail
              refine HK4.out _ _ ?_
              rw [E.out]
              exact add2 x b r true w w5 Ab cb Ak ck HN.out HR.out.1 HR.out.2.1 hb256 HR.out.2.2.2 HMAY.out S5.out
end Go.Proofs.YtgjgcbemgmkncaaGreatDoor
namespace Go.Proofs.YtgjgcbemgmkncaaGreatDoor
open Go.RowKit Go.Shelf
set_option linter.unusedVariables false
set_option linter.unusedSimpArgs false

/-- The kids of which the first k have been looked at. -/
def turnTo (x : Nd) (b : Nat) (r : Int × Int) (k : Nat) : List (Int × Int) := x.kids.mapIdx (fun i q => if i < k ∧ x.bytes.getD i 256 = b then r else q)
theorem turnTo_len (x : Nd) (b : Nat) (r : Int × Int) (k : Nat) : (turnTo x b r k).length = x.kids.length := by unfold turnTo; simp
theorem turnTo_zero (x : Nd) (b : Nat) (r : Int × Int) : turnTo x b r 0 = x.kids := by
  unfold turnTo
  apply List.ext_getElem
  · simp
  · intro i h1 h2
    simp
theorem turnTo_hit {x : Nd} {b k : Nat} {r : Int × Int} (h1 : k < x.bytes.length) (e : x.bytes[k] = b) : turnTo x b r (k + 1) = (turnTo x b r k).set k r := by
  unfold turnTo
  apply List.ext_getElem
  · simp
  · intro i h2 h3
    rw [List.getElem_set]
    simp only [List.getElem_mapIdx]
    by_cases hk : k = i
    · subst hk
      rw [if_pos rfl, if_pos]
      refine ⟨by omega, ?_⟩
      rw [List.getD_eq_getElem?_getD, List.getElem?_eq_getElem h1]
      exact e
    · rw [if_neg hk]
      by_cases hlt : i < k
      · simp [hlt, Nat.lt_succ_of_lt hlt]
      · have : ¬ i < k + 1 := by omega
        simp [hlt, this]
theorem turnTo_miss {x : Nd} {b k : Nat} {r : Int × Int} (h1 : k < x.bytes.length) (e : x.bytes[k] ≠ b) : turnTo x b r (k + 1) = turnTo x b r k := by
  unfold turnTo
  apply List.ext_getElem
  · simp
  · intro i h2 h3
    simp only [List.getElem_mapIdx]
    by_cases hk : k = i
    · subst hk
      have e2 : ¬ (x.bytes.getD k 256 = b) := by
        rw [List.getD_eq_getElem?_getD, List.getElem?_eq_getElem h1]
        exact e
      rw [if_neg (fun h => e2 h.2), if_neg (fun h => e2 h.2)]
    · by_cases hlt : i < k
      · simp [hlt, Nat.lt_succ_of_lt hlt]
      · have : ¬ i < k + 1 := by omega
        simp [hlt, this]
theorem turnTo_all {x : Nd} {b : Nat} {r : Int × Int} (h1 : x.bytes.length = x.kids.length) : turnTo x b r x.bytes.length = turnL x b r := by
  unfold turnTo turnL
  apply List.ext_getElem
  · simp [h1]
  · intro i h2 h3
    have hi : i < x.kids.length := by simpa using h2
    simp only [List.getElem_mapIdx, List.getElem_map, List.getElem_zip]
    rw [List.getD_eq_getElem?_getD, List.getElem?_eq_getElem (by omega : i < x.bytes.length)]
    have : i < x.bytes.length := by omega
    simp [this]
theorem turnTo_mem {x : Nd} {b k : Nat} {r : Int × Int} (hx : x.wf) (hr : refOk r) : ∀ q ∈ turnTo x b r k, refOk q := by
  intro q hq
  unfold turnTo at hq
  obtain ⟨i, hi, rfl⟩ := List.getElem_of_mem hq
  have hi2 : i < x.kids.length := by simpa using hi
  simp only [List.getElem_mapIdx]
  split
  · exact hr
  · exact hx.refs _ (List.getElem_mem hi2)
theorem own_set {w : World} {base size n g c p : Nat} {e : TypeId} {u : Value} {xs : List Value} (h : w.ownsRow base e size (.slice (some ⟨g, 0, none⟩) n c) n xs) (hp : p < n * size) :
    (w.setCell ⟨g, p, none⟩ u).ownsRow base e size (.slice (some ⟨g, 0, none⟩) n c) n (xs.set p u) := by
  refine ⟨by rw [List.length_set]; exact h.1, ?_⟩
  rcases h.2 with ⟨h0, _⟩ | ⟨g', cap, cur, hv, hb, hh, hnc, hc, hs, hx⟩
  · cases h0
  · simp only [Value.slice.injEq, Option.some.injEq, Addr.mk.injEq] at hv
    obtain ⟨⟨rfl, _, _⟩, _, rfl⟩ := hv
    refine Or.inr ⟨g, c, cur.setIfInBounds p u, rfl, hb, Blk.set_ (t := e) hh p u, hnc, hc, by simpa using hs, ?_⟩
    rw [Array.toList_setIfInBounds]
    first | rw [List.take_set, hx] | rw [← List.set_take, hx]
theorem flat_set2 : ∀ (l : List (Int × Int)) (i : Nat) (r : Int × Int), i < l.length → ((l.flatMap rrow).set (i * 2) (.int .i64 r.1)).set (i * 2 + 1) (.int .u32 r.2) = (l.set i r).flatMap rrow
  | q :: l, 0, r, _ => by simp [rrow]
  | q :: l, i + 1, r, h => by
    have ih := flat_set2 l i r (by simpa using h)
    rw [List.set_cons_succ, List.flatMap_cons, List.flatMap_cons, ← ih, show (i + 1) * 2 = i * 2 + 1 + 1 by omega]
    simp [rrow]
theorem MkR.set5 {w W : World} {lo g n c i : Nat} {bs : List (Nat × TypeId × Array Value)} {l5 : List (Int × Int)} (h : MkR w lo bs (.slice none 0 0) (.slice (some ⟨g, 0, none⟩) n c) [] l5 W) (hn : l5.length = n) (hi : i < n) (r : Int × Int) :
    MkR w lo bs (.slice none 0 0) (.slice (some ⟨g, 0, none⟩) n c) [] (l5.set i r) ((W.setCell ⟨g, i * 2, none⟩ (.int .i64 r.1)).setCell ⟨g, i * 2 + 1, none⟩ (.int .u32 r.2)) := by
  subst hn
  have hg : W.grownBy ((W.setCell ⟨g, i * 2, none⟩ (.int .i64 r.1)).setCell ⟨g, i * 2 + 1, none⟩ (.int .u32 r.2)) (some g) := grown_setCell (grown_setCell ⟨rfl, rfl, rfl, Nat.le_refl _, fun _ _ _ => rfl⟩ _ _) _ _
  have k1 := own_set (p := i * 2) (u := .int .i64 r.1) h.row5 (by omega)
  have k2 := own_set (p := i * 2 + 1) (u := .int .u32 r.2) k1 (by omega)
  rw [flat_set2 _ _ _ hi] at k2
  refine ⟨h.base.grown hg (fun k e => by injection e with e; subst e; exact (h.row5.lt g rfl).1), World.ownsRow_nil _ _ _ _, ?_⟩
  rw [List.length_set]
  exact k2
theorem MkR.cells5 {w W : World} {lo g n c i : Nat} {bs : List (Nat × TypeId × Array Value)} {v4 : Value} {l4 : List Nat} {l5 : List (Int × Int)} (h : MkR w lo bs v4 (.slice (some ⟨g, 0, none⟩) n c) l4 l5 W) (hn : l5.length = n) (hi : i < n) :
    (∃ u, W.cell? ⟨g, i * 2, none⟩ = some u) ∧ (∃ u, W.cell? ⟨g, i * 2 + 1, none⟩ = some u) ∧ W.frozen? ⟨g, i * 2, none⟩ = false ∧ W.frozen? ⟨g, i * 2 + 1, none⟩ = false := by
  subst hn
  rcases h.row5.2 with ⟨h0, _⟩ | ⟨g', cap, cur, hv, hb, hh, hnc, hc, hs, hx⟩
  · cases h0
  · simp only [Value.slice.injEq, Option.some.injEq, Addr.mk.injEq] at hv
    obtain ⟨⟨rfl, _, _⟩, _, rfl⟩ := hv
    have hB : Blk W g 29 cur := hh
    have h1 : i * 2 + 1 < cur.size := by rw [hs]; omega
    exact ⟨⟨_, (hB.cell _).trans (Array.getElem?_eq_getElem (by omega))⟩, ⟨_, (hB.cell _).trans (Array.getElem?_eq_getElem h1)⟩, hB.frozen _, hB.frozen _⟩
theorem MkR.many4 {w W W' : World} {lo : Nat} {bs : List (Nat × TypeId × Array Value)} {v5 v : Value} {l5 : List (Int × Int)} (h : MkR w lo bs (.slice none 0 0) v5 [] l5 W) (hv : W.ownsRow lo 5 1 v 0 []) {v4' : Value} {l : List Nat} (ho : W'.ownsRow lo 5 1 v4' (0 + l.length) ([] ++ l.flatMap nrow)) (hg : W.grownBy W' v.ownBlock) : MkR w lo bs v4' v5 l l5 W' := by
  rw [Nat.zero_add, List.nil_append] at ho
  exact ⟨h.base.grown hg (fun g e => (hv.lt g e).1), ho, h.row5.kept hg (own_two h.row5 hv (by decide))⟩
theorem MkR.many5 {w W W' : World} {lo : Nat} {bs : List (Nat × TypeId × Array Value)} {v : Value} (h : MkW w lo bs W) (hv : W.ownsRow lo 29 2 v 0 []) {v5' : Value} {l : List (Int × Int)} (ho : W'.ownsRow lo 29 2 v5' (0 + l.length) ([] ++ l.flatMap rrow)) (hg : W.grownBy W' v.ownBlock) : MkR w lo bs (.slice none 0 0) v5' [] l W' := by
  rw [Nat.zero_add, List.nil_append] at ho
  exact ⟨h.grown hg (fun g e => (hv.lt g e).1), World.ownsRow_nil _ _ _ _, ho⟩

set_option maxHeartbeats 12800000 in
set_option maxRecDepth 100000 in
theorem turn3 {u0 u2 u4 u7 u8 u9 u11 u12 u13 u14 u15 u16 u17 u18 u19 u20 u21 u22 u23 u24 u25 u26 u27 u28 u29 u30 u31 u32 u33 u34 u35 u36 u37 u38 u39 u40 u41 u42 u43 u44 u45 u46 u47 u48 u49 u50 u51 u52 u53 u54 u55 u56 u57 u58 : Value} (x : Nd) (b : Nat) (r : Int × Int) (A2 : Option Addr) (c2 : Nat) (l5 : List (Int × Int)) (w W : World) (Ab : Option Addr) (cb : Nat) (Ak : Option Addr) (ck : Nat) (hn : NdAt w x (.agg #[.int .i64 x.kind, .string x.code, .string x.value, .string x.path, .slice Ab x.bytes.length cb, .slice Ak x.kids.length ck])) (hb0 : Reads w w.heap.size 1 Ab x.bytes.length (x.bytes.flatMap nrow)) (hlen : x.bytes.length ≤ 256) (hmem : ∀ q ∈ l5, refOk q)
    (h : MkR w (w.heap.size + 1 + 1 + 1) (adB w x Ab cb Ak ck r) (.slice none 0 0) (.slice A2 l5.length c2) [] l5 W) :
    Code.wp Tryz.prog (bodyTail Tryz.f34 6) (bodyPost Tryz.prog Tryz.f34 (fun e w' => NdPair (madeN x x.bytes l5 true) 0 w e w')) ⟨#[u0, .int .u8 (b : Int), u2, .pointer (some ⟨w.heap.size, 0, none⟩), u4, .pointer (some ⟨w.heap.size + 1, 0, none⟩), .pointer (some ⟨w.heap.size + 1 + 1, 0, none⟩), u7, u8, u9, .slice A2 l5.length c2, u11, u12, u13, u14, u15, u16, u17, u18, u19, u20, u21, u22, u23, u24, u25, u26, u27, u28, u29, u30, u31, u32, u33, u34, u35, u36, u37, u38, u39, u40, u41, u42, u43, u44, u45, u46, u47, u48, u49, u50, u51, u52, u53, u54, u55, u56, u57, u58], []⟩ W := by
  conv => arg 2; whnf
  have HW := Lib.hid h
  have HN := Lib.hid hn
  have HR := Lib.hid hb0
  have HMEM := Lib.hid hmem
  obtain ⟨i0, hi0, iz0, iz1, iz2⟩ := info_parts infoBytes
  have HI := Lib.hid (And.intro hi0 (And.intro iz0 (And.intro iz1 iz2)))
  have HL := Lib.hid hlen
  clear h hn hmem hb0 hi0 iz0 iz1 iz2
  refine wp_seq_k fun K9 hK => ?_
  have HK9 := Lib.hid hK
  clear hK
  have S0 := HW.out.base
  refine wp_region_noPanic ?_
  have HS : Hid (∀ V : World, MkW w (w.heap.size + 1 + 1 + 1) (adB w x Ab cb Ak ck r) V ∨ (∃ V0, MkW w (w.heap.size + 1 + 1 + 1) (adB w x Ab cb Ak ck r) V0 ∧ V0.grownBy V (some (w.heap.size + 1 + 1))) → (fun V : World => V.cell? ⟨w.heap.size, 0, none⟩ = some (.int .i64 x.kind) ∧ V.cell? ⟨w.heap.size, 1, none⟩ = some (.string x.code) ∧ V.cell? ⟨w.heap.size, 2, none⟩ = some (.string x.value) ∧ V.cell? ⟨w.heap.size, 3, none⟩ = some (.string x.path) ∧ V.cell? ⟨w.heap.size, 4, none⟩ = some (.slice Ab x.bytes.length cb) ∧ V.cell? ⟨w.heap.size, 5, none⟩ = some (.slice Ak x.kids.length ck)) V) := Lib.hid (fun V hb => by
    rcases hb with hb | ⟨V0, hb, hg⟩
    · exact cells6 (box_ad hb)
    · exact cells6 ((box_ad hb).grown hg (fun e => by injection e with e; omega)))
  clear S0
  refine wp_region_held_drew (S := (fun V : World => V.cell? ⟨w.heap.size, 0, none⟩ = some (.int .i64 x.kind) ∧ V.cell? ⟨w.heap.size, 1, none⟩ = some (.string x.code) ∧ V.cell? ⟨w.heap.size, 2, none⟩ = some (.string x.value) ∧ V.cell? ⟨w.heap.size, 3, none⟩ = some (.string x.path) ∧ V.cell? ⟨w.heap.size, 4, none⟩ = some (.slice Ab x.bytes.length cb) ∧ V.cell? ⟨w.heap.size, 5, none⟩ = some (.slice Ak x.kids.length ck))) (by kernel_rfl) ?_ (fun hHeld0 => ?_)
  · exact HS.out _ (.inl HW.out.drew.base)
  refine wpAnyH_take (i := 0) (v := ?_) rfl (by kernel_rfl) (by kernel_rfl) (by kernel_rfl) (fun _ _ _ h => h) (Or.inl ⟨by rfl, ?_⟩) hHeld0 ?_
  rotate_left
  · (intro w hSw; (try dsimp only at hSw); go_simp <;> with_reducible rfl)
  try simp only [Act.put, List.setIfInBounds_toArray, List.set_cons_zero, List.set_cons_succ]
  refine wpAnyH_take (i := 2) (v := ?_) rfl (by kernel_rfl) (by kernel_rfl) (by kernel_rfl) (fun _ _ _ h => h) (Or.inl ⟨by rfl, ?_⟩) hHeld0 ?_
  rotate_left
  · (intro w hSw; (try dsimp only at hSw); go_simp <;> with_reducible rfl)
  try simp only [Act.put, List.setIfInBounds_toArray, List.set_cons_zero, List.set_cons_succ]
  refine wpAnyH_take (i := 3) (v := ?_) rfl (by kernel_rfl) (by kernel_rfl) (by kernel_rfl) (fun _ _ _ h => h) (Or.inl ⟨by rfl, ?_⟩) hHeld0 ?_
  rotate_left
  · (intro w hSw; (try dsimp only at hSw); go_simp <;> with_reducible rfl)
  try simp only [Act.put, List.setIfInBounds_toArray, List.set_cons_zero, List.set_cons_succ]
  refine wpAnyH_take (i := 5) (v := ?_) rfl (by kernel_rfl) (by kernel_rfl) (by kernel_rfl) (fun _ _ _ h => h) (Or.inl ⟨by rfl, ?_⟩) hHeld0 ?_
  rotate_left
  · (intro w hSw; (try dsimp only at hSw); go_simp <;> with_reducible rfl)
  try simp only [Act.put, List.setIfInBounds_toArray, List.set_cons_zero, List.set_cons_succ]
  refine wpAnyH_ready (rs := [1]) (by kernel_rfl) (by simp) ?_
  refine AllReadyH.cons rfl (fun K hK => ?_) ?_
  · go_simp
    have k1 : (W.drew.alloc (.cells #[] 5)).ownsRow (w.heap.size + 1 + 1 + 1) 5 1 (.slice (some ⟨W.heap.size, 0, none⟩) 0 0) 0 [] := World.ownsRow_made W.drew #[] 0 HW.out.base.size (by unfold maxLen; omega) rfl
    have HK1 := Lib.hid (And.intro (HW.out.drew.alloc (.cells #[] 5)) k1)
    clear k1
    refine hK.out _ _ ?_ (fun hHeld1 => ?_)
    · exact HS.out _ (.inl HK1.out.1.base)
    clear hK K hHeld0
    try simp only [Act.put, List.setIfInBounds_toArray, List.set_cons_zero, List.set_cons_succ]
    refine wpAnyH_ready (rs := [4]) (by kernel_rfl) (by simp) ?_
    refine AllReadyH.cons rfl (fun K hK => ?_) ?_
    · refine wp_append_any _ (.tmp 53) (.tmp 55) 23 rfl (w.heap.size + 1 + 1 + 1) 5 i0 _ 1 1 Tryz.underlying23 HI.out.1 HI.out.2.1 HI.out.2.2.1 HI.out.2.2.2 rfl (by omega) (.slice (some ⟨W.heap.size, 0, none⟩) 0 0) 0 [] rfl HK1.out.2 w.heap.size Ab x.bytes.length cb (x.bytes.flatMap nrow) rfl (HR.out.below HK1.out.1.base.below) (flat_one nrow_one _) (by unfold maxLen; omega) (by omega) HK1.out.1.base.size ?_
      intro v4 W2 hown hg hat
      have HW2 := Lib.hid (HK1.out.1.many4 HK1.out.2 hown hg)
      clear hown hg hat
      refine hK.out _ _ ?_ (fun hHeld2 => ?_)
      · exact HS.out _ (.inl HW2.out.base)
      clear hK K hHeld1
      try simp only [Act.put, List.setIfInBounds_toArray, List.set_cons_zero, List.set_cons_succ]
      try simp only [Act.put, List.getElem_toArray, List.getElem_cons_succ, List.getElem_cons_zero, List.setIfInBounds_toArray, List.set_cons_zero, List.set_cons_succ]
      refine wpAnyH_ready (rs := [6]) (by kernel_rfl) (by simp) ?_
      refine AllReadyH.cons rfl (fun K hK => ?_) ?_
      · obtain ⟨A1, c1, A3, c3, h4, h5, a1, a2, -, -, n1, n2⟩ := HW2.out.form
        have HA := Lib.hid (And.intro a1 (And.intro a2 (And.intro n1 n2)))
        clear a1 a2 n1 n2
        subst h4
        injection h5 with h5a h5b h5c
        obtain rfl := h5a
        obtain rfl := h5c
        clear h5b
        have hmd := made_r x _ x.bytes l5 A1 A2 c1 c2 true W2 (HN.out.below HW2.out.base.below)
        unfold Nd.v at hmd
        have HMD := Lib.hid hmd
        clear hmd
        go_simp
        refine HMD.out.mono ?_
        rintro e w5 ⟨rfl, hb⟩
        have S5 := Lib.hid (HW2.out.on hb)
        clear hb HMD
        refine hK.out _ _ ?_ (fun hHeld3 => ?_)
        · exact HS.out _ (.inl S5.out.base)
        clear hK K hHeld2
        try simp only [Act.put, List.setIfInBounds_toArray, List.set_cons_zero, List.set_cons_succ]
        try simp only [Act.put, List.getElem_toArray, List.getElem_cons_succ, List.getElem_cons_zero, List.setIfInBounds_toArray, List.set_cons_zero, List.set_cons_succ]
        refine wpAnyH_ready (rs := [7]) (by kernel_rfl) (by simp) ?_
        refine AllReadyH.cons rfl (fun K hK => ?_) ?_
        · have q5 := out_ad S5.out.base
          obtain ⟨d0, d1, d2, d3, d4, d5⟩ := cells6 q5
          have fz0 := q5.frozen 0
          have fz1 := q5.frozen 1
          have fz2 := q5.frozen 2
          have fz3 := q5.frozen 3
          have fz4 := q5.frozen 4
          have fz5 := q5.frozen 5
          have l6 := q5.lt
          obtain ⟨m, hm⟩ : ∃ m, m = madeN x x.bytes l5 true := ⟨_, rfl⟩
          have hm1 : m.bytes.length = x.bytes.length := by rw [hm]; rfl
          have hm2 : m.kids.length = l5.length := by rw [hm]; rfl
          rw [← hm]
          obtain ⟨VV, hV, hg, q6⟩ := six_stores (.int .i64 m.kind) (.string m.code) (.string m.value) (.string m.path) (.slice A1 m.bytes.length c1) (.slice A2 m.kids.length c2) q5
          have HF : Hid (NdPair m 0 w (.returned (.tuple #[m.v A1 c1 A2 c2, .int .i64 0])) VV) := Lib.hid (by
            obtain ⟨B1, e1, B2, e2, h1, h2, -, -, r1, r2, -, -⟩ := S5.out.form
            injection h1 with h1a h1b h1c
            injection h2 with h2a h2b h2c
            subst h1a h1c h2a h2c
            rw [hm]
            exact made_out HN.out.1 true HN.out.1.bytes HMEM.out HA.out.2.2.1 HA.out.2.2.2 r1 r2 (fun ad e => by have := HA.out.1 ad e; omega) (fun ad e => by have := HA.out.2.1 ad e; omega) hg (by omega) S5.out.base.below)
          have HMM := Lib.hid hm
          have hkeep := HS.out _ (.inr ⟨_, S5.out.base, hg⟩)
          clear hg q5 hm hm1 hm2
          go_simp
          rw [← hV]
          clear hV d0 d1 d2 d3 d4 d5 fz0 fz1 fz2 fz3 fz4 fz5
          refine hK.out _ _ ?_ (fun hHeld4 => ?_)
          · exact hkeep
          clear hK K hHeld3
          try simp only [Act.put, List.setIfInBounds_toArray, List.set_cons_zero, List.set_cons_succ]
          refine wpAnyH_take (i := 8) (v := ?_) rfl (by kernel_rfl) (by kernel_rfl) (by kernel_rfl) (fun _ _ _ h => h) (Or.inl ⟨by rfl, ?_⟩) hHeld4 ?_
          rotate_left
          · (intro w hSw; (try dsimp only at hSw); go_simp <;> with_reducible rfl)
          try simp only [Act.put, List.setIfInBounds_toArray, List.set_cons_zero, List.set_cons_succ]
          try simp only [Act.put, List.getElem_toArray, List.getElem_cons_succ, List.getElem_cons_zero, List.setIfInBounds_toArray, List.set_cons_zero, List.set_cons_succ]
          refine wpAnyH_done (by kernel_rfl) ?_ _
          refine NoPanic.normal ?_
          refine HK9.out _ _ ?_
          go_wp2
          obtain ⟨c0, c1', c2', c3, c4, c5⟩ := cells6 q6
          exact bodyPost_ret (v := .tuple #[.agg #[.int .i64 m.kind, .string m.code, .string m.value, .string m.path, .slice A1 m.bytes.length c1, .slice A2 m.kids.length c2], .int .i64 0]) (by simp [results, Tryz.results34, go_sem, c0, c1', c2', c3, c4, c5]) rfl (by rw [← HMM.out]; exact HF.out)
        exact AllReadyH.nil
      exact AllReadyH.nil
    exact AllReadyH.nil
  exact AllReadyH.nil

set_option maxHeartbeats 12800000 in
set_option maxRecDepth 100000 in
theorem turn2 {u0 u2 u4 u7 u8 u9 u10 u11 u12 u13 u14 u15 u16 u17 u18 u19 u20 u21 u22 u23 u24 u25 u26 u27 u28 u29 u30 u31 u32 u33 u34 u35 u36 u37 u38 u39 u40 u41 u42 u43 u44 u45 u46 u47 u48 u49 u50 u51 u52 u53 u54 u55 u56 u57 u58 : Value} (x : Nd) (b : Nat) (r : Int × Int) (w W : World) (Ab : Option Addr) (cb : Nat) (Ak : Option Addr) (ck : Nat) (hn : NdAt w x (.agg #[.int .i64 x.kind, .string x.code, .string x.value, .string x.path, .slice Ab x.bytes.length cb, .slice Ak x.kids.length ck])) (hb0 : Reads w w.heap.size 1 Ab x.bytes.length (x.bytes.flatMap nrow)) (hk0 : Reads w w.heap.size 2 Ak x.kids.length (x.kids.flatMap rrow)) (hrok : refOk r) (hm : x.may = true) (hpos : 0 < x.kids.length)
    (h : MkW w (w.heap.size + 1 + 1 + 1) (adB w x Ab cb Ak ck r) W) :
    Code.wp Tryz.prog (bodyTail Tryz.f34 4) (bodyPost Tryz.prog Tryz.f34 (fun e w' => NdPair (madeN x x.bytes (turnL x b r) true) 0 w e w')) ⟨#[u0, .int .u8 (b : Int), u2, .pointer (some ⟨w.heap.size, 0, none⟩), u4, .pointer (some ⟨w.heap.size + 1, 0, none⟩), .pointer (some ⟨w.heap.size + 1 + 1, 0, none⟩), u7, u8, u9, u10, u11, u12, u13, u14, u15, u16, u17, u18, u19, u20, u21, u22, u23, u24, u25, u26, u27, u28, u29, u30, u31, u32, u33, u34, u35, u36, u37, u38, u39, u40, u41, u42, u43, u44, u45, u46, u47, u48, u49, u50, u51, u52, u53, u54, u55, u56, u57, u58], []⟩ W := by
  conv => arg 2; whnf
  have hlk0 : x.bytes.length = x.kids.length := (inner_parts (may_inner hm)).2.2.2.2.1
  have hlk1 : x.bytes.length ≤ x.kids.length := by omega
  have hlk2 : x.kids.length ≤ x.bytes.length := by omega
  clear hlk0
  have hl256 : x.kids.length ≤ 256 := (inner_parts (may_inner hm)).2.2.2.2.2.1
  have HR := Lib.hid (And.intro hb0 hk0)
  have HN := Lib.hid hn
  have HRO := Lib.hid hrok
  have k1 : (W.alloc (.cells #[] 29)).ownsRow (w.heap.size + 1 + 1 + 1) 29 2 (.slice (some ⟨W.heap.size, 0, none⟩) 0 0) 0 [] := World.ownsRow_made W #[] 0 h.size (by unfold maxLen; omega) rfl
  have HK1 := Lib.hid (And.intro (h.alloc (.cells #[] 29)) k1)
  clear hm hb0 hk0 hn hrok k1
  obtain ⟨j0, hj0, jz0, jz1, jz2⟩ := info_parts infoRefs
  refine wp_seq_k fun K0 hK => ?_
  have HK0 := Lib.hid hK
  clear hK
  obtain ⟨e0, e1, e2, e3, e4, e5⟩ := cells6 (box_ad h)
  have lw := (box_ad h).lt
  have HH := Lib.hid h
  clear h
  go_wp2_with (first
    | (at_builtin
       refine wpList_append_any _ rfl (.tmp 30) (.tmp 32) _ rfl (w.heap.size + 1 + 1 + 1) 29 j0 _ 2 16 Tryz.underlying24 hj0 jz0 jz1 jz2 rfl (by omega) (.slice (some ⟨W.heap.size, 0, none⟩) 0 0) 0 [] rfl HK1.out.2 w.heap.size Ak x.kids.length ck (x.kids.flatMap rrow) rfl (HR.out.2.below HK1.out.1.below) (flat_one rrow_one _) (by unfold maxLen; omega) (by omega) HK1.out.1.size ?_
       intro v5 W2 hown hg hat
       have HW := Lib.hid (MkR.many5 HK1.out.1 HK1.out.2 hown hg)
       clear hown hg hat))
  refine HK0.out _ _ ?_
  clear HK0 lw e0 e1 e2 e3 e4 e5 HH HK1 hj0 jz0 jz1 jz2
  obtain ⟨g, c2, rfl, -, -⟩ := HW.out.row5.form hpos
  refine wp_seq_k fun K6 hK => ?_
  have HK6 := Lib.hid hK
  clear hK
  have H3 : Hid (MkR w (w.heap.size + 1 + 1 + 1) (adB w x Ab cb Ak ck r) (.slice none 0 0) (.slice (some ⟨g, 0, none⟩) x.kids.length c2) [] (turnTo x b r 0) W2) := Lib.hid (by rw [turnTo_zero]; exact HW.out)
  clear HW
  go_wp2_with fail
  go_loopw [11] (fun i wr => ∃ k : Nat, k ≤ x.bytes.length ∧ i = .int .i64 k ∧ Hid (MkR w (w.heap.size + 1 + 1 + 1) (adB w x Ab cb Ak ck r) (.slice none 0 0) (.slice (some ⟨g, 0, none⟩) x.kids.length c2) [] (turnTo x b r k) wr)) (fun i _ => x.bytes.length - (intOf i).toNat)
  case atStart => exact ⟨0, Nat.zero_le _, rfl, H3⟩
  case round =>
    clear H3
    obtain ⟨k, hk, rfl, HW⟩ := hrel
    obtain ⟨z0, z1, z2, z3, z4, z5⟩ := cells6 (box_ad HW.out.base)
    by_cases hlt : k < x.bytes.length
    · have j1 : (0 : Int) ≤ (k : Int) := by omega
      have j2 : (k : Int) < (x.bytes.length : Int) := by omega
      have hltk : k < x.kids.length := by omega
      have j3 : (k : Int) < (x.kids.length : Int) := by omega
      obtain ⟨ad, rfl, hab, hby⟩ := byte_at HR.out.1 hlt
      have hby' := (HW.out.base.below.cell (p := ad.add k) (by rw [block_of_add]; exact hab)).trans hby
      by_cases hq : x.bytes[k] = b
      · have hne : ((x.bytes[k] : Int) == (b : Int)) = true := by simp [hq]
        have HC := Lib.hid (turnTo_hit (r := r) hlt hq)
        obtain ⟨⟨o0, y0⟩, ⟨o1, y1⟩, y2, y3⟩ := HW.out.cells5 (turnTo_len x b r k) hltk
        obtain ⟨r6, r7⟩ := ref_cells HW.out.base
        have HW3 := Lib.hid (HW.out.set5 (turnTo_len x b r k) hltk r)
        have lg := (HW.out.row5.lt g rfl).2
        have HG := Lib.hid lg
        clear hby hq lg
        generalize x.bytes[k] = p at hby' hne
        go_wp2
        go_roundw
        case rel => exact ⟨k + 1, by omega, by go_num, by rw [HC.out]; exact HW3⟩
        case measure => simp [intOf]; omega
      · have hne : ((x.bytes[k] : Int) == (b : Int)) = false := by simp; omega
        have HC := Lib.hid (turnTo_miss (r := r) hlt hq)
        clear hby hq
        generalize x.bytes[k] = p at hby' hne
        go_wp2
        go_roundw
        case rel => exact ⟨k + 1, by omega, by go_num, by rw [HC.out]; exact HW⟩
        case measure => simp [intOf]; omega
    · obtain rfl : k = x.bytes.length := by omega
      have i1 : ¬ ((x.bytes.length : Int) < (x.bytes.length : Int)) := by omega
      have hmem := turnTo_mem (b := b) (k := x.bytes.length) HN.out.1 HRO.out
      have hl := turnTo_len x b r x.bytes.length
      have HC := turnTo_all (x := x) (b := b) (r := r) (by omega)
      rw [HC] at HW hmem hl
      have HF := Lib.hid (And.intro hmem (And.intro hl HW.out))
      clear HC hmem hl HW
      go_wp2_with fail
      refine HK6.out _ _ ?_
      obtain ⟨hmem, hl, hw⟩ := HF.out
      rw [← hl] at hw ⊢
      exact turn3 x b r _ _ _ w wr Ab cb Ak ck HN.out HR.out.1 (by omega) hmem hw

set_option maxHeartbeats 6400000 in
set_option maxRecDepth 100000 in
theorem Turn_r (x : Nd) (V : Value) (b : Nat) (r : Int × Int) (w : World) (h : NdAt w x V) (hb256 : b < 256) (hrok : refOk r) : Calls Tryz.prog 34 #[V, .int .u8 (b : Int), .agg #[.int .i64 r.1, .int .u32 r.2]] w (fun e w' => NdPair (turnR x b r).1 (turnR x b r).2 w e w') := by
  obtain ⟨hwf, Ab, cb, Ak, ck, rfl, hb0, hk0⟩ := h
  have hnd : NdAt w x (x.v Ab cb Ak ck) := ⟨hwf, Ab, cb, Ak, ck, rfl, hb0, hk0⟩
  have h0 : MkW w (w.heap.size + 1 + 1 + 1) (adB w x Ab cb Ak ck r) (((w.alloc (.cells #[.int .i64 x.kind, .string x.code, .string x.value, .string x.path, .slice Ab x.bytes.length cb, .slice Ak x.kids.length ck] 26)).alloc (.cells #[.int .i64 r.1, .int .u32 r.2] 29)).alloc (.cells #[.int .i64 0, .string { data := #[] }, .string { data := #[] }, .string { data := #[] }, .slice none 0 0, .slice none 0 0] 26)) := (((MkW.start w).push rfl 26 #[.int .i64 x.kind, .string x.code, .string x.value, .string x.path, .slice Ab x.bytes.length cb, .slice Ak x.kids.length ck]).push (by simp) 29 #[.int .i64 r.1, .int .u32 r.2]).push (by simp) 26 #[.int .i64 0, .string { data := #[] }, .string { data := #[] }, .string { data := #[] }, .slice none 0 0, .slice none 0 0]
  have H0 := Lib.hid h0
  have HN := Lib.hid hnd
  have HR := Lib.hid (And.intro hb0 (And.intro hk0 (And.intro hwf hrok)))
  obtain ⟨y, hy⟩ : ∃ y, y = turnR x b r := ⟨_, rfl⟩
  rw [← hy]
  have HY := Lib.hid hy
  clear hwf hb0 hk0 hnd h0 hy hrok
  unfold Nd.v at HN ⊢
  go_enter Tryz.func34, Tryz.ntmps34
  refine wp_seq_k fun K0 hK => ?_
  have HK0 := Lib.hid hK
  clear hK
  go_wp2_with fail
  refine HK0.out _ _ ?_
  clear HK0
  generalize ((w.alloc _).alloc _).alloc _ = w0 at H0 ⊢
  refine wp_seq_k fun K1 hK => ?_
  have HK1 := Lib.hid hK
  clear hK
  obtain ⟨e0, e1, e2, e3, e4, e5⟩ := cells6 (box_ad H0.out)
  have HM := Lib.hid (may_r x _ w0 (HN.out.below H0.out.below))
  cases hm : x.may with
  | false =>
    rw [hm] at HM
    have E : Hid (y = (zeroNd, 4)) := Lib.hid (by rw [HY.out]; unfold turnR; rw [if_pos (.inl hm)])
    clear hm
    go_wp2_with fail
    refine HM.out.mono ?_
    rintro e w1 ⟨rfl, hb⟩
    have S1 := Lib.hid (H0.out.on hb)
    clear hb HM H0 e0 e1 e2 e3 e4 e5
    have q5 := out_ad S1.out
    obtain ⟨d0, d1, d2, d3, d4, d5⟩ := cells6 q5
    have fz0 := q5.frozen 0
    have fz1 := q5.frozen 1
    have fz2 := q5.frozen 2
    have fz3 := q5.frozen 3
    have fz4 := q5.frozen 4
    have fz5 := q5.frozen 5
    have l6 := q5.lt
    obtain ⟨VV, hV, hg, q6⟩ := six_stores (.int .i64 0) (.string { data := #[] }) (.string { data := #[] }) (.string { data := #[] }) (.slice none 0 0) (.slice none 0 0) q5
    have HF := Lib.hid (zero_out (c := 4) S1.out.below hg (by omega))
    clear hg q5
    go_wp2
    rw [← hV]
    clear hV d0 d1 d2 d3 d4 d5 fz0 fz1 fz2 fz3 fz4 fz5
    obtain ⟨c0, c1, c2, c3, c4, c5⟩ := cells6 q6
    exact bodyPost_ret (v := .tuple #[.agg #[.int .i64 0, .string { data := #[] }, .string { data := #[] }, .string { data := #[] }, .slice none 0 0, .slice none 0 0], .int .i64 4]) (by simp [results, Tryz.results34, go_sem, c0, c1, c2, c3, c4, c5]) rfl (by rw [E.out]; exact HF.out)
  | true =>
    rw [hm] at HM
    have HMAY := Lib.hid hm
    clear hm
    go_wp2_with fail
    refine HM.out.mono ?_
    rintro e w1 ⟨rfl, hb⟩
    have S1 := Lib.hid (H0.out.on hb)
    clear hb HM H0 e0 e1 e2 e3 e4 e5
    obtain ⟨r6, r7⟩ := ref_cells S1.out
    have hkd := kid_r r w1
    unfold refV at hkd
    have HKD := Lib.hid hkd
    clear hkd
    cases hkr : kidN r with
    | false =>
      rw [hkr] at HKD
      have E : Hid (y = (zeroNd, 4)) := Lib.hid (by rw [HY.out]; unfold turnR; rw [if_pos (.inr hkr)])
      clear hkr
      go_wp2_with fail
      refine HKD.out.mono ?_
      rintro e w2 ⟨rfl, hb⟩
      have S2 := Lib.hid (S1.out.on hb)
      clear hb HKD S1 r6 r7
      have q5 := out_ad S2.out
      obtain ⟨d0, d1, d2, d3, d4, d5⟩ := cells6 q5
      have fz0 := q5.frozen 0
      have fz1 := q5.frozen 1
      have fz2 := q5.frozen 2
      have fz3 := q5.frozen 3
      have fz4 := q5.frozen 4
      have fz5 := q5.frozen 5
      have l6 := q5.lt
      obtain ⟨VV, hV, hg, q6⟩ := six_stores (.int .i64 0) (.string { data := #[] }) (.string { data := #[] }) (.string { data := #[] }) (.slice none 0 0) (.slice none 0 0) q5
      have HF := Lib.hid (zero_out (c := 4) S2.out.below hg (by omega))
      clear hg q5
      go_wp2
      rw [← hV]
      clear hV d0 d1 d2 d3 d4 d5 fz0 fz1 fz2 fz3 fz4 fz5
      obtain ⟨c0, c1, c2, c3, c4, c5⟩ := cells6 q6
      exact bodyPost_ret (v := .tuple #[.agg #[.int .i64 0, .string { data := #[] }, .string { data := #[] }, .string { data := #[] }, .slice none 0 0, .slice none 0 0], .int .i64 4]) (by simp [results, Tryz.results34, go_sem, c0, c1, c2, c3, c4, c5]) rfl (by rw [E.out]; exact HF.out)
    | true =>
      rw [hkr] at HKD
      have E0 : Hid (y = if (findN x b).isSome = false then (zeroNd, 5) else (madeN x x.bytes (turnL x b r) true, 0)) := Lib.hid (by rw [HY.out]; unfold turnR; rw [if_neg (by rw [HMAY.out, hkr]; simp)])
      clear hkr
      go_wp2_with fail
      refine HKD.out.mono ?_
      rintro e w2 ⟨rfl, hb⟩
      have S2 := Lib.hid (S1.out.on hb)
      clear hb HKD S1 r6 r7
      go_wp2_with fail
      refine HK1.out _ _ ?_
      clear HK1
      refine wp_seq_k fun K2 hK => ?_
      have HK2 := Lib.hid hK
      clear hK
      obtain ⟨e0, e1, e2, e3, e4, e5⟩ := cells6 (box_ad S2.out)
      have hf := Find_r x _ b w2 (HN.out.below S2.out.below) hb256
      obtain ⟨q, hq⟩ : ∃ q, q = findN x b := ⟨_, rfl⟩
      have HQ := Lib.hid hq
      rw [← hq] at hf E0
      clear hq
      unfold optV refV at hf
      have HF0 := Lib.hid hf
      clear hf
      go_wp2_with fail
      refine HF0.out.mono ?_
      rintro e w3 ⟨rfl, hb⟩
      have S3 := Lib.hid ((S2.out.on hb).on (below_box w3 (.cells #[.int .i64 (q.getD (0, 0)).1, .int .u32 (q.getD (0, 0)).2] 29)))
      clear hb S2 HF0 e0 e1 e2 e3 e4 e5
      go_wp2_with fail
      refine HK2.out _ _ ?_
      clear HK2
      generalize w3.alloc _ = w4 at S3 ⊢
      refine wp_seq_k fun K3 hK => ?_
      have HK3 := Lib.hid hK
      clear hK
      cases q with
      | none =>
        have E : Hid (y = (zeroNd, 5)) := Lib.hid (by rw [E0.out]; rfl)
        simp only [Option.isSome_none, Option.getD_none]
        have q5 := out_ad S3.out
        obtain ⟨d0, d1, d2, d3, d4, d5⟩ := cells6 q5
        have fz0 := q5.frozen 0
        have fz1 := q5.frozen 1
        have fz2 := q5.frozen 2
        have fz3 := q5.frozen 3
        have fz4 := q5.frozen 4
        have fz5 := q5.frozen 5
        have l6 := q5.lt
        obtain ⟨VV, hV, hg, q6⟩ := six_stores (.int .i64 0) (.string { data := #[] }) (.string { data := #[] }) (.string { data := #[] }) (.slice none 0 0) (.slice none 0 0) q5
        have HF := Lib.hid (zero_out (c := 5) S3.out.below hg (by omega))
        clear hg q5
        go_wp2
        rw [← hV]
        clear hV d0 d1 d2 d3 d4 d5 fz0 fz1 fz2 fz3 fz4 fz5
        obtain ⟨c0, c1, c2, c3, c4, c5⟩ := cells6 q6
        exact bodyPost_ret (v := .tuple #[.agg #[.int .i64 0, .string { data := #[] }, .string { data := #[] }, .string { data := #[] }, .slice none 0 0, .slice none 0 0], .int .i64 5]) (by simp [results, Tryz.results34, go_sem, c0, c1, c2, c3, c4, c5]) rfl (by rw [E.out]; exact HF.out)
      | some q0 =>
        have E : Hid (y = (madeN x x.bytes (turnL x b r) true, 0)) := Lib.hid (by rw [E0.out]; rfl)
        have HPOS : Hid (0 < x.kids.length) := Lib.hid (by
          rcases Nat.eq_zero_or_pos x.kids.length with h0 | h0
          · exfalso
            have hl := (inner_parts (may_inner HMAY.out)).2.2.2.2.1
            have := find_miss (x := x) (b := b) HR.out.2.2.1 hb256 (fun j h => by omega)
            rw [← HQ.out] at this
            cases this
          · exact h0)
        clear E0
        simp only [Option.isSome_some, Option.getD_some]
        go_wp2_with fail
        refine HK3.out _ _ ?_
        clear HK3
        rw [E.out]
        exact turn2 x b r w w4 Ab cb Ak ck HN.out HR.out.1 HR.out.2.1 HR.out.2.2.2 HMAY.out HPOS.out S3.out
end Go.Proofs.YtgjgcbemgmkncaaGreatDoor
namespace Go.Proofs.YtgjgcbemgmkncaaGreatDoor
open Go.RowKit Go.Shelf
set_option linter.unusedVariables false
set_option linter.unusedSimpArgs false

set_option maxHeartbeats 12800000 in
set_option maxRecDepth 100000 in
theorem turns_n (x : Nd) (V : Value) (b : Nat) (r : Int × Int) (keep : Bool) (w : World) (h : NdAt w x V) (hr : RoomsAt w) (hb256 : b < 256) (hrok : refOk r) (hl1 : x.bytes.length ≤ 65536) (hl2 : x.kids.length ≤ 65536) : Calls Tryz.prog 10 #[V, .int .u8 (b : Int), refV r, .bool keep] w (BoolEnd true w) := by
  obtain ⟨hwf, Ab, cb, Ak, ck, rfl, hb0, hk0⟩ := h
  have hnd : NdAt w x (x.v Ab cb Ak ck) := ⟨hwf, Ab, cb, Ak, ck, rfl, hb0, hk0⟩
  have hle := fun W hW => LentNode_n x (x.v Ab cb Ak ck) W hW hl1 hl2
  have hov := fun (W : World) (B g1 c1 g2 c2 : Nat) hL => OverNode_n x B g1 c1 g2 c2 W hL hl1 hl2
  have hke := fun (W : World) (B g1 c1 g2 c2 : Nat) hL (hn : NdAt W x (x.v Ab cb Ak ck)) => KeptNode_n x B g1 c1 g2 c2 _ W hL hn hl1 hl2
  have h0 : Ctx w [] ((w.alloc (.cells #[.int .i64 x.kind, .string x.code, .string x.value, .string x.path, .slice Ab x.bytes.length cb, .slice Ak x.kids.length ck] 26)).alloc (.cells #[.int .i64 r.1, .int .u32 r.2] 29)) ∧ Blk ((w.alloc (.cells #[.int .i64 x.kind, .string x.code, .string x.value, .string x.path, .slice Ab x.bytes.length cb, .slice Ak x.kids.length ck] 26)).alloc (.cells #[.int .i64 r.1, .int .u32 r.2] 29)) w.heap.size 26 #[.int .i64 x.kind, .string x.code, .string x.value, .string x.path, .slice Ab x.bytes.length cb, .slice Ak x.kids.length ck] ∧ Blk ((w.alloc (.cells #[.int .i64 x.kind, .string x.code, .string x.value, .string x.path, .slice Ab x.bytes.length cb, .slice Ak x.kids.length ck] 26)).alloc (.cells #[.int .i64 r.1, .int .u32 r.2] 29)) (w.heap.size + 1) 29 #[.int .i64 r.1, .int .u32 r.2] := by
    have m := ((MkW.start w).push rfl 26 #[.int .i64 x.kind, .string x.code, .string x.value, .string x.path, .slice Ab x.bytes.length cb, .slice Ak x.kids.length ck]).push (by simp) 29 #[.int .i64 r.1, .int .u32 r.2]
    exact ⟨(Ctx.start hr).on m.below, (m.blk (w.heap.size, 26, #[.int .i64 x.kind, .string x.code, .string x.value, .string x.path, .slice Ab x.bytes.length cb, .slice Ak x.kids.length ck]) (by simp)).2, (m.blk (w.heap.size + 1, 29, #[.int .i64 r.1, .int .u32 r.2]) (by simp)).2⟩
  unfold Nd.v at hnd hle hov hke ⊢
  have HN : Hid (∀ W, Below w.heap.size w W → NdAt W x (.agg #[.int .i64 x.kind, .string x.code, .string x.value, .string x.path, .slice Ab x.bytes.length cb, .slice Ak x.kids.length ck])) := Lib.hid (fun W hb => hnd.below hb)
  have HLE := Lib.hid hle
  have HOV := Lib.hid hov
  have HKE := Lib.hid hke
  have HR := Lib.hid (And.intro hr (And.intro hwf hrok))
  have H0 := Lib.hid h0
  unfold refV
  clear h0 hwf hb0 hk0 hnd hle hov hke hr hrok
  go_enter Tryz.func10, Tryz.ntmps10
  refine wp_seq_k fun K0 hK => ?_
  have HK0 := Lib.hid hK
  clear hK
  go_wp2_with fail
  refine HK0.out _ _ ?_
  clear HK0
  generalize (w.alloc _).alloc _ = w0 at H0 ⊢
  generalize hG : w.heap.size = B0 at H0 ⊢
  generalize B0 + 1 = B1 at H0 ⊢
  clear hG
  refine wp_seq_k fun K1 hK => ?_
  have HK1 := Lib.hid hK
  clear hK
  obtain ⟨e0, e1, e2, e3, e4, e5⟩ := cells6 H0.out.2.1
  have hc := HLE.out w0 (HN.out w0 H0.out.1.below)
  have HX := Lib.hid hc
  clear hc HLE
  go_wp2_with fail
  refine HX.out.mono ?_
  rintro e w1 ⟨g1, c1, g2, c2, rfl, hL, hb⟩
  have H1 : Hid (TuW w x Ab cb Ak ck r B0 B1 w1.heap.size g1 c1 g2 c2 [] (w1.alloc (.cells #[.int .i64 x.kind, .string x.code, .string x.value, .string x.path, .slice (some ⟨g1, 0, none⟩) x.bytes.length c1, .slice (some ⟨g2, 0, none⟩) x.kids.length c2] 26))) := Lib.hid (by
    have k1 := H0.out.1.on hb
    have k2 := below_box w1 (.cells #[.int .i64 x.kind, .string x.code, .string x.value, .string x.path, .slice (some ⟨g1, 0, none⟩) x.bytes.length c1, .slice (some ⟨g2, 0, none⟩) x.kids.length c2] 26)
    have k3 := hb.trans (k2.mono hb.size)
    have hL1 : LentNd w.heap.size w1 x g1 c1 g2 c2 := { hL with
      own1 := ownsRow_more hL.own1 H0.out.1.below.size
      own2 := by obtain ⟨B2, hB, ho⟩ := hL.own2; exact ⟨B2, Nat.le_trans H0.out.1.below.size hB, ho⟩ }
    exact ⟨k1.on k2, H0.out.2.1.below k3 H0.out.2.1.lt, H0.out.2.2.below k3 H0.out.2.2.lt, Blk.new _ _ _, hL1.below k2, fun b hm => by cases hm⟩)
  clear hb hL HX H0 e0 e1 e2 e3 e4 e5
  unfold Nd.v
  go_wp2_with fail
  refine HK1.out _ _ ?_
  clear HK1
  generalize w1.alloc _ = W1 at H1 ⊢
  generalize w1.heap.size = B2 at H1 ⊢
  refine wp_seq_k fun K2 hK => ?_
  have HK2 := Lib.hid hK
  clear hK
  obtain ⟨e0, e1, e2, e3, e4, e5⟩ := cells6 H1.out.boxi
  obtain ⟨r0, r1⟩ : W1.cell? ⟨B1, 0, none⟩ = some (.int .i64 r.1) ∧ W1.cell? ⟨B1, 1, none⟩ = some (.int .u32 r.2) := ⟨H1.out.boxr.cell 0, H1.out.boxr.cell 1⟩
  have hc : Calls Tryz.prog 16 #[.agg #[.int .i64 x.kind, .string x.code, .string x.value, .string x.path, .slice (some ⟨g1, 0, none⟩) x.bytes.length c1, .slice (some ⟨g2, 0, none⟩) x.kids.length c2], .int .u8 (b : Int), .agg #[.int .i64 r.1, .int .u32 r.2], .bool keep] W1 (NdPair (addN x b r keep).1 (addN x b r keep).2 W1) := Add_n x _ b r keep _ (H1.out.lent.node HR.out.2.1) H1.out.ctx.rooms hb256 HR.out.2.2
  have HX := Lib.hid hc
  clear hc
  obtain ⟨p1, hp1⟩ : ∃ p, p = (addN x b r keep).1 := ⟨_, rfl⟩
  obtain ⟨k1, hk1⟩ : ∃ p, p = (addN x b r keep).2 := ⟨_, rfl⟩
  have HP1 := Lib.hid (And.intro hp1 hk1)
  clear hp1 hk1
  rw [← HP1.out.1, ← HP1.out.2] at HX
  go_wp2_with fail
  refine HX.out.mono ?_
  rintro e v1 ⟨VV, rfl, hnd, hb, hrow⟩
  obtain ⟨P1, d1, Q1, f1, rfl, hnd⟩ := open_nd hnd
  unfold Nd.v at hnd hrow ⊢
  have H2 := Lib.hid (H1.out.push hb hnd hrow)
  clear hb hnd hrow HX H1 e0 e1 e2 e3 e4 e5 r0 r1
  go_wp2_with fail
  refine HK2.out _ _ ?_
  clear HK2
  generalize v1.alloc _ = W2 at H2 ⊢
  generalize v1.heap.size = G1 at H2 ⊢
  refine wp_seq_k fun K2 hK => ?_
  have HK2 := Lib.hid hK
  clear hK
  obtain ⟨e0, e1, e2, e3, e4, e5⟩ := cells6 H2.out.boxn
  obtain ⟨r0, r1⟩ : W2.cell? ⟨B1, 0, none⟩ = some (.int .i64 r.1) ∧ W2.cell? ⟨B1, 1, none⟩ = some (.int .u32 r.2) := ⟨H2.out.boxr.cell 0, H2.out.boxr.cell 1⟩
  have hc : Calls Tryz.prog 31 #[.agg #[.int .i64 x.kind, .string x.code, .string x.value, .string x.path, .slice Ab x.bytes.length cb, .slice Ak x.kids.length ck], .int .u8 (b : Int), .agg #[.int .i64 r.1, .int .u32 r.2], .bool keep] W2 (NdPair (addN x b r keep).1 (addN x b r keep).2 W2) := by rw [← addR_eq HR.out.2.1 hb256 r keep]; exact Add_r x _ b r keep _ (HN.out _ H2.out.ctx.below) hb256 HR.out.2.2
  have HX := Lib.hid hc
  clear hc
  rw [← HP1.out.1, ← HP1.out.2] at HX
  go_wp2_with fail
  refine HX.out.mono ?_
  rintro e v1 ⟨VV, rfl, hnd, hb, hrow⟩
  obtain ⟨P2, d2, Q2, f2, rfl, hnd⟩ := open_nd hnd
  unfold Nd.v at hnd hrow ⊢
  have H3 := Lib.hid (H2.out.push hb hnd hrow)
  clear hb hnd hrow HX H2 e0 e1 e2 e3 e4 e5 r0 r1
  go_wp2_with fail
  refine HK2.out _ _ ?_
  clear HK2
  generalize v1.alloc _ = W3 at H3 ⊢
  generalize v1.heap.size = G2 at H3 ⊢
  refine wp_seq_k fun K2 hK => ?_
  have HK2 := Lib.hid hK
  clear hK
  obtain ⟨e0, e1, e2, e3, e4, e5⟩ := cells6 H3.out.boxi
  obtain ⟨r0, r1⟩ : W3.cell? ⟨B1, 0, none⟩ = some (.int .i64 r.1) ∧ W3.cell? ⟨B1, 1, none⟩ = some (.int .u32 r.2) := ⟨H3.out.boxr.cell 0, H3.out.boxr.cell 1⟩
  have hc : Calls Tryz.prog 17 #[.agg #[.int .i64 x.kind, .string x.code, .string x.value, .string x.path, .slice (some ⟨g1, 0, none⟩) x.bytes.length c1, .slice (some ⟨g2, 0, none⟩) x.kids.length c2], .int .u8 (b : Int), .bool keep] W3 (NdPair (cutN x b keep).1 (cutN x b keep).2 W3) := Cut_n x _ b keep _ (H3.out.lent.node HR.out.2.1) H3.out.ctx.rooms hb256
  have HX := Lib.hid hc
  clear hc
  obtain ⟨p2, hp2⟩ : ∃ p, p = (cutN x b keep).1 := ⟨_, rfl⟩
  obtain ⟨k2, hk2⟩ : ∃ p, p = (cutN x b keep).2 := ⟨_, rfl⟩
  have HP2 := Lib.hid (And.intro hp2 hk2)
  clear hp2 hk2
  rw [← HP2.out.1, ← HP2.out.2] at HX
  go_wp2_with fail
  refine HX.out.mono ?_
  rintro e v1 ⟨VV, rfl, hnd, hb, hrow⟩
  obtain ⟨P3, d3, Q3, f3, rfl, hnd⟩ := open_nd hnd
  unfold Nd.v at hnd hrow ⊢
  have H4 := Lib.hid (H3.out.push hb hnd hrow)
  clear hb hnd hrow HX H3 e0 e1 e2 e3 e4 e5 r0 r1
  go_wp2_with fail
  refine HK2.out _ _ ?_
  clear HK2
  generalize v1.alloc _ = W4 at H4 ⊢
  generalize v1.heap.size = G3 at H4 ⊢
  refine wp_seq_k fun K2 hK => ?_
  have HK2 := Lib.hid hK
  clear hK
  obtain ⟨e0, e1, e2, e3, e4, e5⟩ := cells6 H4.out.boxn
  obtain ⟨r0, r1⟩ : W4.cell? ⟨B1, 0, none⟩ = some (.int .i64 r.1) ∧ W4.cell? ⟨B1, 1, none⟩ = some (.int .u32 r.2) := ⟨H4.out.boxr.cell 0, H4.out.boxr.cell 1⟩
  have hc : Calls Tryz.prog 32 #[.agg #[.int .i64 x.kind, .string x.code, .string x.value, .string x.path, .slice Ab x.bytes.length cb, .slice Ak x.kids.length ck], .int .u8 (b : Int), .bool keep] W4 (NdPair (cutN x b keep).1 (cutN x b keep).2 W4) := by rw [← cutR_eq HR.out.2.1 hb256 keep]; exact Cut_r x _ b keep _ (HN.out _ H4.out.ctx.below) hb256
  have HX := Lib.hid hc
  clear hc
  rw [← HP2.out.1, ← HP2.out.2] at HX
  go_wp2_with fail
  refine HX.out.mono ?_
  rintro e v1 ⟨VV, rfl, hnd, hb, hrow⟩
  obtain ⟨P4, d4, Q4, f4, rfl, hnd⟩ := open_nd hnd
  unfold Nd.v at hnd hrow ⊢
  have H5 := Lib.hid (H4.out.push hb hnd hrow)
  clear hb hnd hrow HX H4 e0 e1 e2 e3 e4 e5 r0 r1
  go_wp2_with fail
  refine HK2.out _ _ ?_
  clear HK2
  generalize v1.alloc _ = W5 at H5 ⊢
  generalize v1.heap.size = G4 at H5 ⊢
  refine wp_seq_k fun K2 hK => ?_
  have HK2 := Lib.hid hK
  clear hK
  obtain ⟨e0, e1, e2, e3, e4, e5⟩ := cells6 H5.out.boxi
  obtain ⟨r0, r1⟩ : W5.cell? ⟨B1, 0, none⟩ = some (.int .i64 r.1) ∧ W5.cell? ⟨B1, 1, none⟩ = some (.int .u32 r.2) := ⟨H5.out.boxr.cell 0, H5.out.boxr.cell 1⟩
  have hc : Calls Tryz.prog 33 #[.agg #[.int .i64 x.kind, .string x.code, .string x.value, .string x.path, .slice (some ⟨g1, 0, none⟩) x.bytes.length c1, .slice (some ⟨g2, 0, none⟩) x.kids.length c2], .int .u8 (b : Int), .agg #[.int .i64 r.1, .int .u32 r.2]] W5 (NdPair (turnN x b r).1 (turnN x b r).2 W5) := Turn_n x _ b r _ (H5.out.lent.node HR.out.2.1) H5.out.ctx.rooms hb256 HR.out.2.2
  have HX := Lib.hid hc
  clear hc
  obtain ⟨p3, hp3⟩ : ∃ p, p = (turnN x b r).1 := ⟨_, rfl⟩
  obtain ⟨k3, hk3⟩ : ∃ p, p = (turnN x b r).2 := ⟨_, rfl⟩
  have HP3 := Lib.hid (And.intro hp3 hk3)
  clear hp3 hk3
  rw [← HP3.out.1, ← HP3.out.2] at HX
  go_wp2_with fail
  refine HX.out.mono ?_
  rintro e v1 ⟨VV, rfl, hnd, hb, hrow⟩
  obtain ⟨P5, d5, Q5, f5, rfl, hnd⟩ := open_nd hnd
  unfold Nd.v at hnd hrow ⊢
  have H6 := Lib.hid (H5.out.push hb hnd hrow)
  clear hb hnd hrow HX H5 e0 e1 e2 e3 e4 e5 r0 r1
  go_wp2_with fail
  refine HK2.out _ _ ?_
  clear HK2
  generalize v1.alloc _ = W6 at H6 ⊢
  generalize v1.heap.size = G5 at H6 ⊢
  refine wp_seq_k fun K2 hK => ?_
  have HK2 := Lib.hid hK
  clear hK
  obtain ⟨e0, e1, e2, e3, e4, e5⟩ := cells6 H6.out.boxn
  obtain ⟨r0, r1⟩ : W6.cell? ⟨B1, 0, none⟩ = some (.int .i64 r.1) ∧ W6.cell? ⟨B1, 1, none⟩ = some (.int .u32 r.2) := ⟨H6.out.boxr.cell 0, H6.out.boxr.cell 1⟩
  have hc : Calls Tryz.prog 34 #[.agg #[.int .i64 x.kind, .string x.code, .string x.value, .string x.path, .slice Ab x.bytes.length cb, .slice Ak x.kids.length ck], .int .u8 (b : Int), .agg #[.int .i64 r.1, .int .u32 r.2]] W6 (NdPair (turnN x b r).1 (turnN x b r).2 W6) := by rw [← turnR_eq HR.out.2.1 hb256 r]; exact Turn_r x _ b r _ (HN.out _ H6.out.ctx.below) hb256 HR.out.2.2
  have HX := Lib.hid hc
  clear hc
  rw [← HP3.out.1, ← HP3.out.2] at HX
  go_wp2_with fail
  refine HX.out.mono ?_
  rintro e v1 ⟨VV, rfl, hnd, hb, hrow⟩
  obtain ⟨P6, d6, Q6, f6, rfl, hnd⟩ := open_nd hnd
  unfold Nd.v at hnd hrow ⊢
  have H7 := Lib.hid (H6.out.push hb hnd hrow)
  clear hb hnd hrow HX H6 e0 e1 e2 e3 e4 e5 r0 r1
  go_wp2_with fail
  refine HK2.out _ _ ?_
  clear HK2
  generalize v1.alloc _ = W7 at H7 ⊢
  generalize v1.heap.size = G6 at H7 ⊢
  refine wp_seq_k fun KB hK => ?_
  have HKB := Lib.hid hK
  clear hK
  refine wp_seq_k fun K3 hK => ?_
  have HK3 := Lib.hid hK
  clear hK
  have n1 : (k1 != k1) = false := by simp
  have n2 : (k2 != k2) = false := by simp
  have n3 : (k3 != k3) = false := by simp
  obtain ⟨e0, e1, e2, e3, e4, e5⟩ := cells6 H7.out.boxn
  obtain ⟨i0, i1, i2, i3, i4, i5⟩ := cells6 H7.out.boxi
  have hc := HKE.out W7 w.heap.size g1 c1 g2 c2 H7.out.lent (HN.out _ H7.out.ctx.below)
  have HX := Lib.hid hc
  clear hc
  go_wp2_with fail
  refine HX.out.mono ?_
  rintro e V1 ⟨rfl, hb⟩
  have J1 := Lib.hid (H7.out.on hb)
  clear hb HX e0 e1 e2 e3 e4 e5 i0 i1 i2 i3 i4 i5 n1 n2 n3 H7 HKE
  obtain ⟨a10, a11, a12, a13, a14, a15⟩ := cells6 J1.out.ctx.b5.blk
  obtain ⟨a20, a21, a22, a23, a24, a25⟩ := cells6 J1.out.ctx.b4.blk
  have hc := SameNode_n p1 p1 _ _ V1 J1.out.ctx.b5.node J1.out.ctx.b4.node
  unfold Nd.v at hc
  have HX := Lib.hid hc
  clear hc
  go_wp2_with fail
  refine HX.out.mono ?_
  rintro e V2 ⟨rfl, hb⟩
  rw [sameN_refl]
  have J2 := Lib.hid (J1.out.on hb)
  clear hb HX J1 a10 a11 a12 a13 a14 a15 a20 a21 a22 a23 a24 a25
  obtain ⟨a30, a31, a32, a33, a34, a35⟩ := cells6 J2.out.ctx.b3.blk
  obtain ⟨a40, a41, a42, a43, a44, a45⟩ := cells6 J2.out.ctx.b2.blk
  have hc := SameNode_n p2 p2 _ _ V2 J2.out.ctx.b3.node J2.out.ctx.b2.node
  unfold Nd.v at hc
  have HX := Lib.hid hc
  clear hc
  go_wp2_with fail
  refine HX.out.mono ?_
  rintro e V3 ⟨rfl, hb⟩
  rw [sameN_refl]
  have J3 := Lib.hid (J2.out.on hb)
  clear hb HX J2 a30 a31 a32 a33 a34 a35 a40 a41 a42 a43 a44 a45
  obtain ⟨a50, a51, a52, a53, a54, a55⟩ := cells6 J3.out.ctx.b1.blk
  obtain ⟨a60, a61, a62, a63, a64, a65⟩ := cells6 J3.out.ctx.b0.blk
  have hc := SameNode_n p3 p3 _ _ V3 J3.out.ctx.b1.node J3.out.ctx.b0.node
  unfold Nd.v at hc
  have HX := Lib.hid hc
  clear hc
  go_wp2_with fail
  refine HX.out.mono ?_
  rintro e V4 ⟨rfl, hb⟩
  rw [sameN_refl]
  have J4 := Lib.hid (J3.out.on hb)
  clear hb HX J3 a50 a51 a52 a53 a54 a55 a60 a61 a62 a63 a64 a65
  go_wp2_with fail
  refine HK3.out _ _ ?_
  clear HK3
  go_wp2_with fail
  refine HKB.out _ _ ?_
  clear HKB
  refine wp_seq_k fun K4 hK => ?_
  have HK4 := Lib.hid hK
  clear hK
  obtain ⟨i0, i1, i2, i3, i4, i5⟩ := cells6 J4.out.boxi
  have hc := HOV.out V4 w.heap.size g1 c1 g2 c2 J4.out.lent
  have HX := Lib.hid hc
  clear hc
  go_wp2_with fail
  refine HX.out.mono ?_
  rintro e X1 ⟨⟨vv, rfl⟩, wa, wb, ha, hb, hc⟩
  have L1 := Lib.hid (J4.out.over HR.out.1 ha hb hc)
  clear ha hb hc HX J4 i0 i1 i2 i3 i4 i5 HOV
  go_wp2_with fail
  refine HK4.out _ _ ?_
  clear HK4
  obtain ⟨a10, a11, a12, a13, a14, a15⟩ := cells6 L1.out.b5.blk
  obtain ⟨a20, a21, a22, a23, a24, a25⟩ := cells6 L1.out.b4.blk
  have hc := SameNode_n p1 p1 _ _ X1 L1.out.b5.node L1.out.b4.node
  unfold Nd.v at hc
  have HX := Lib.hid hc
  clear hc
  go_wp2_with fail
  refine HX.out.mono ?_
  rintro e X2 ⟨rfl, hb⟩
  rw [sameN_refl]
  have L2 := Lib.hid (L1.out.on hb)
  clear hb HX L1 a10 a11 a12 a13 a14 a15 a20 a21 a22 a23 a24 a25
  obtain ⟨a30, a31, a32, a33, a34, a35⟩ := cells6 L2.out.b3.blk
  obtain ⟨a40, a41, a42, a43, a44, a45⟩ := cells6 L2.out.b2.blk
  have hc := SameNode_n p2 p2 _ _ X2 L2.out.b3.node L2.out.b2.node
  unfold Nd.v at hc
  have HX := Lib.hid hc
  clear hc
  go_wp2_with fail
  refine HX.out.mono ?_
  rintro e X3 ⟨rfl, hb⟩
  rw [sameN_refl]
  have L3 := Lib.hid (L2.out.on hb)
  clear hb HX L2 a30 a31 a32 a33 a34 a35 a40 a41 a42 a43 a44 a45
  obtain ⟨a50, a51, a52, a53, a54, a55⟩ := cells6 L3.out.b1.blk
  obtain ⟨a60, a61, a62, a63, a64, a65⟩ := cells6 L3.out.b0.blk
  have hc := SameNode_n p3 p3 _ _ X3 L3.out.b1.node L3.out.b0.node
  unfold Nd.v at hc
  have HX := Lib.hid hc
  clear hc
  go_wp2_with fail
  refine HX.out.mono ?_
  rintro e X4 ⟨rfl, hb⟩
  rw [sameN_refl]
  have L4 := Lib.hid (L3.out.on hb)
  clear hb HX L3 a50 a51 a52 a53 a54 a55 a60 a61 a62 a63 a64 a65
  go_wp2
  go_ret
  exact ⟨rfl, L4.out.below⟩
end Go.Proofs.YtgjgcbemgmkncaaGreatDoor
namespace Go.Proofs.YtgjgcbemgmkncaaGreatDoor
open Go.RowKit Go.Shelf
set_option linter.unusedVariables false
set_option linter.unusedSimpArgs false

set_option maxHeartbeats 6400000 in
set_option maxRecDepth 100000 in
theorem nodeTells_n (x : Nd) (V : Value) (b : Nat) (c : Int) (r : Int × Int) (keep : Bool) (w : World) (h : NdAt w x V) (hr : RoomsAt w) (hb256 : b < 256) (hrok : refOk r) : Calls Tryz.prog 3 #[V, .int .u8 (b : Int), .int .i64 c, .agg #[.int .i64 r.1, .int .u32 r.2], .bool keep] w (BoolEnd true w) := by
  obtain ⟨hwf, Ab, cb, Ak, ck, rfl, hb0, hk0⟩ := h
  have hnd : NdAt w x (x.v Ab cb Ak ck) := ⟨hwf, Ab, cb, Ak, ck, rfl, hb0, hk0⟩
  have h0 : MkW w (w.heap.size + 1 + 1) [(w.heap.size + 1, 29, #[.int .i64 r.1, .int .u32 r.2]), (w.heap.size, 26, #[.int .i64 x.kind, .string x.code, .string x.value, .string x.path, .slice Ab x.bytes.length cb, .slice Ak x.kids.length ck])] ((w.alloc (.cells #[.int .i64 x.kind, .string x.code, .string x.value, .string x.path, .slice Ab x.bytes.length cb, .slice Ak x.kids.length ck] 26)).alloc (.cells #[.int .i64 r.1, .int .u32 r.2] 29)) := ((MkW.start w).push rfl 26 #[.int .i64 x.kind, .string x.code, .string x.value, .string x.path, .slice Ab x.bytes.length cb, .slice Ak x.kids.length ck]).push (by simp) 29 #[.int .i64 r.1, .int .u32 r.2]
  have H0 := Lib.hid h0
  unfold Nd.v at hnd ⊢
  have HN : Hid (∀ W, Below w.heap.size w W → NdAt W x (.agg #[.int .i64 x.kind, .string x.code, .string x.value, .string x.path, .slice Ab x.bytes.length cb, .slice Ak x.kids.length ck]) ∧ RoomsAt W) := Lib.hid (fun W hb => ⟨hnd.below hb, hr.on hb⟩)
  have HRO := Lib.hid hrok
  clear hwf hb0 hk0 hnd h0 hr hrok
  go_enter Tryz.func3, Tryz.ntmps3
  refine wp_seq_k fun K0 hK => ?_
  have HK0 := Lib.hid hK
  clear hK
  go_wp2_with fail
  refine HK0.out _ _ ?_
  clear HK0
  generalize (w.alloc _).alloc _ = w0 at H0 ⊢
  generalize hG : w.heap.size = B0 at H0 ⊢
  generalize B0 + 1 = B1 at H0 ⊢
  clear hG
  refine wp_seq_k fun K1 hK => ?_
  have HK1 := Lib.hid hK
  clear hK
  obtain ⟨e0, e1, e2, e3, e4, e5⟩ := cells6 (H0.out.get (g := B0) (t := 26) (cs := #[.int .i64 x.kind, .string x.code, .string x.value, .string x.path, .slice Ab x.bytes.length cb, .slice Ak x.kids.length ck]) (by simp))
  have hg := great_n x _ w0 (HN.out _ H0.out.below).1
  cases hgr : greatN x with
  | true =>
    rw [hgr] at hg
    have HG := Lib.hid hg
    clear hg hgr
    go_wp2_with fail
    refine HG.out.mono ?_
    rintro e w1 ⟨rfl, hb⟩
    have H1 := Lib.hid (H0.out.on hb)
    clear hb HG H0 e0 e1 e2 e3 e4 e5
    have hx := awake_n w1 (HN.out _ H1.out.below).2
    have HX := Lib.hid hx
    clear hx
    go_wp2_with fail
    refine HX.out.mono ?_
    rintro e w2 ⟨rfl, hb⟩
    have H2 := Lib.hid (H1.out.on hb)
    clear hb HX H1
    go_wp2
    go_ret
    exact ⟨rfl, H2.out.below⟩
  | false =>
    rw [hgr] at hg
    have HG := Lib.hid hg
    have HL : Hid (x.bytes.length ≤ 65536 ∧ x.kids.length ≤ 65536) := Lib.hid (by
      unfold greatN at hgr
      simp only [Bool.or_eq_false_iff, decide_eq_false_iff_not] at hgr
      omega)
    clear hg hgr
    go_wp2_with fail
    refine HG.out.mono ?_
    rintro e w1 ⟨rfl, hb⟩
    have H1 := Lib.hid (H0.out.on hb)
    clear hb HG H0 e0 e1 e2 e3 e4 e5
    go_wp2_with fail
    refine HK1.out _ _ ?_
    clear HK1
    refine wp_seq_k fun K2 hK => ?_
    have HK2 := Lib.hid hK
    clear hK
    obtain ⟨o, ho⟩ : ∃ o, o = ofN c := ⟨_, rfl⟩
    have ho1 := of_n c w1 (HN.out _ H1.out.below).2
    have HO2 : Hid (∀ W, Calls Tryz.prog 8 #[.int .i64 c] W (TwoEnd (.int .i64 o.1) (.bool o.2) W)) := Lib.hid (fun W => by rw [ho]; exact Of_r c W)
    rw [← ho] at ho1
    clear ho
    have HX := Lib.hid ho1
    clear ho1
    go_wp2_with fail
    refine HX.out.mono ?_
    rintro e w2 ⟨rfl, rfl⟩
    clear HX
    go_wp2_with fail
    refine HK2.out _ _ ?_
    clear HK2
    refine wp_seq_k fun K3 hK => ?_
    have HK3 := Lib.hid hK
    clear hK
    go_wp2_with fail
    refine (HO2.out _).mono ?_
    rintro e w3 ⟨rfl, hb⟩
    have H2 := Lib.hid (H1.out.on hb)
    clear hb H1 HO2
    go_wp2_with fail
    refine HK3.out _ _ ?_
    clear HK3
    refine wp_seq_k fun K4 hK => ?_
    have HK4 := Lib.hid hK
    clear hK
    obtain ⟨e0, e1, e2, e3, e4, e5⟩ := cells6 (H2.out.get (g := B0) (t := 26) (cs := #[.int .i64 x.kind, .string x.code, .string x.value, .string x.path, .slice Ab x.bytes.length cb, .slice Ak x.kids.length ck]) (by simp))
    have hx := tells_n x _ b c w3 (HN.out _ H2.out.below).1 (HN.out _ H2.out.below).2 hb256
    have HX := Lib.hid hx
    clear hx
    go_wp2_with fail
    refine HX.out.mono ?_
    rintro e w4 ⟨rfl, hb⟩
    have H3 := Lib.hid (H2.out.on hb)
    clear hb H2 HX e0 e1 e2 e3 e4 e5
    obtain ⟨e0, e1, e2, e3, e4, e5⟩ := cells6 (H3.out.get (g := B0) (t := 26) (cs := #[.int .i64 x.kind, .string x.code, .string x.value, .string x.path, .slice Ab x.bytes.length cb, .slice Ak x.kids.length ck]) (by simp))
    have r0 := (H3.out.get (g := B1) (t := 29) (cs := #[.int .i64 r.1, .int .u32 r.2]) (by simp)).cell 0
    have r1 := (H3.out.get (g := B1) (t := 29) (cs := #[.int .i64 r.1, .int .u32 r.2]) (by simp)).cell 1
    simp only [List.getElem?_toArray, List.getElem?_cons_zero, List.getElem?_cons_succ] at r0 r1
    have hx := turns_n x _ b r keep w4 (HN.out _ H3.out.below).1 (HN.out _ H3.out.below).2 hb256 HRO.out HL.out.1 HL.out.2
    unfold refV at hx
    have HX := Lib.hid hx
    clear hx
    go_wp2_with fail
    refine HX.out.mono ?_
    rintro e w5 ⟨rfl, hb⟩
    have H4 := Lib.hid (H3.out.on hb)
    clear hb H3 HX e0 e1 e2 e3 e4 e5 r0 r1
    obtain ⟨o1, o2⟩ := o
    have n1 : (o1 == o1) = true := by simp
    have n2 : (o2 == o2) = true := by simp
    have n3 : (roomN c == roomN c) = true := by simp
    have hx := room_n c w5 (HN.out _ H4.out.below).2
    have HX := Lib.hid hx
    clear hx
    go_wp2_with fail
    refine HX.out.mono ?_
    rintro e w6 ⟨rfl, rfl⟩
    clear HX
    have hx := Room_r c w6
    have HX := Lib.hid hx
    clear hx
    go_wp2_with fail
    refine HX.out.mono ?_
    rintro e w7 ⟨rfl, hb⟩
    have H5 := Lib.hid (H4.out.on hb)
    clear hb H4 HX
    have hx := awake_n w7 (HN.out _ H5.out.below).2
    have HX := Lib.hid hx
    clear hx
    go_wp2_with fail
    refine HX.out.mono ?_
    rintro e w8 ⟨rfl, hb⟩
    have H6 := Lib.hid (H5.out.on hb)
    clear hb H5 HX
    go_wp2
    refine HK4.out _ _ ?_
    go_wp2
    go_ret
    exact ⟨rfl, H6.out.below⟩
end Go.Proofs.YtgjgcbemgmkncaaGreatDoor
namespace Go.Proofs.YtgjgcbemgmkncaaGreatDoor
open Go.RowKit Go.Shelf
set_option linter.unusedVariables false
set_option linter.unusedSimpArgs false

/-- Blocks of constants, and boxes with nodes. -/
structure EnW (w : World) (cs : List (Nat × TypeId × Array Value)) (bs : List NB) (W : World) : Prop where
  ctx : Ctx w bs W
  blk : ∀ p ∈ cs, w.heap.size ≤ p.1 ∧ Blk W p.1 p.2.1 p.2.2
section
variable {w W W' : World} {cs : List (Nat × TypeId × Array Value)} {bs : List NB}
theorem EnW.start (hr : RoomsAt w) : EnW w [] [] w := ⟨Ctx.start hr, fun p hp => by cases hp⟩
theorem EnW.on (h : EnW w cs bs W) (hb : Below W.heap.size W W') : EnW w cs bs W' :=
  ⟨h.ctx.on hb, fun p hp => ⟨(h.blk p hp).1, (h.blk p hp).2.below hb (h.blk p hp).2.lt⟩⟩
theorem EnW.const (h : EnW w cs bs W) (t : TypeId) (c : Array Value) : EnW w ((W.heap.size, t, c) :: cs) bs (W.alloc (.cells c t)) :=
  ⟨h.ctx.on (below_box W _), fun p hp => by
    rcases List.mem_cons.1 hp with rfl | hp
    · exact ⟨h.ctx.below.size, Blk.new _ _ _⟩
    · exact (h.on (below_box W _)).blk p hp⟩
theorem EnW.get (h : EnW w cs bs W) {g : Nat} {t : TypeId} {c : Array Value} (hm : (g, t, c) ∈ cs) : Blk W g t c := (h.blk _ hm).2
theorem EnW.drop (h : EnW w cs bs W) : EnW w cs [] W := ⟨⟨h.ctx.below, h.ctx.rooms, fun b hb => by cases hb⟩, h.blk⟩
theorem EnW.fewer (h : EnW w cs bs W) {cs' : List (Nat × TypeId × Array Value)} (hc : ∀ p ∈ cs', p ∈ cs) : EnW w cs' bs W := ⟨h.ctx, fun p hp => h.blk p (hc p hp)⟩
/-- A node's box is new. -/
theorem EnW.new (h : EnW w cs bs W) {y : Nd} {A A' : Option Addr} {c c' : Nat} (hy : NdAt W y (y.v A c A' c')) : EnW w cs (⟨W.heap.size, y, A, c, A', c'⟩ :: bs) (W.alloc (.cells (y.c A c A' c') 26)) :=
  ⟨h.ctx.new hy, (h.on (below_box W _)).blk⟩
/-- A store into the box of a node: another node stands there. -/
theorem EnW.turn {g : Nat} {x : Nd} {A A' : Option Addr} {c c' : Nat} (h : EnW w cs (⟨g, x, A, c, A', c'⟩ :: bs) W) (hr0 : RoomsAt w) {y : Nd} {D D' : Option Addr} {d d' : Nat} (hg : W.grownBy W' (some g)) (hblk : Blk W' g 26 (y.c D d D' d')) (hy : NdAt W y (y.v D d D' d')) (hgy : g ∉ rowsOf (y.v D d D' d'))
    (hcs : ∀ p ∈ cs, p.1 ≠ g) (hn : ∀ b ∈ bs, b.g ≠ g ∧ g ∉ b.rows) : EnW w cs (⟨g, y, D, d, D', d'⟩ :: bs) W' := by
  have h1 : Ctx w bs W := ⟨h.ctx.below, h.ctx.rooms, fun b hb => h.ctx.box b (by simp [hb])⟩
  have h2 := h1.off hr0 hg h.ctx.g0 hn
  refine ⟨⟨h2.below, h2.rooms, fun b hb => ?_⟩, fun p hp => ⟨(h.blk p hp).1, (h.blk p hp).2.grown hg (fun e => hcs p hp (by injection e))⟩⟩
  rcases List.mem_cons.1 hb with rfl | hb
  · exact ⟨h.ctx.g0, hblk, hy.off hg hgy⟩
  · exact h2.box b hb
end
/-- The kinds of numbers that a made node holds. -/
theorem innerNd_lens (k : Int) (p : ByteArray) (l : List Nat) : (innerNd k p l).bytes.length = l.length ∧ (innerNd k p l).kids.length = l.length := ⟨rfl, by simp [innerNd]⟩
/-- A node with another value, another code. -/
def Nd.withV (x : Nd) (v : ByteArray) : Nd := ⟨x.kind, x.code, v, x.path, x.bytes, x.kids⟩
def Nd.withC (x : Nd) (v : ByteArray) : Nd := ⟨x.kind, v, x.value, x.path, x.bytes, x.kids⟩
def Nd.withP (x : Nd) (v : ByteArray) : Nd := ⟨x.kind, x.code, x.value, v, x.bytes, x.kids⟩
theorem NdAt.withV {W : World} {x : Nd} {A A' : Option Addr} {c c' : Nat} (h : NdAt W x (x.v A c A' c')) {v : ByteArray} (hv : v.size ≤ 9223372036854775807) : NdAt W (x.withV v) ((x.withV v).v A c A' c') := by
  obtain ⟨h0, h1, h2⟩ := node_reads h
  exact ⟨⟨h0.kind, h0.bytes, h0.refs, h0.lb, h0.lk, h0.lc, hv, h0.lp⟩, A, c, A', c', rfl, h1, h2⟩
theorem NdAt.withC {W : World} {x : Nd} {A A' : Option Addr} {c c' : Nat} (h : NdAt W x (x.v A c A' c')) {v : ByteArray} (hv : v.size ≤ 9223372036854775807) : NdAt W (x.withC v) ((x.withC v).v A c A' c') := by
  obtain ⟨h0, h1, h2⟩ := node_reads h
  exact ⟨⟨h0.kind, h0.bytes, h0.refs, h0.lb, h0.lk, hv, h0.lv, h0.lp⟩, A, c, A', c', rfl, h1, h2⟩
theorem NdAt.withP {W : World} {x : Nd} {A A' : Option Addr} {c c' : Nat} (h : NdAt W x (x.v A c A' c')) {v : ByteArray} (hv : v.size ≤ 9223372036854775807) : NdAt W (x.withP v) ((x.withP v).v A c A' c') := by
  obtain ⟨h0, h1, h2⟩ := node_reads h
  exact ⟨⟨h0.kind, h0.bytes, h0.refs, h0.lb, h0.lk, h0.lc, h0.lv, hv⟩, A, c, A', c', rfl, h1, h2⟩
/-- The counts of NodeEnds. -/
def cntE (i : Nat) : Nat := [0, 1, 2, 3, 4, 5, 15, 16, 17, 47, 48, 49, 255, 256, 257].getD i 0
def cntC : Array Value := #[.int .i64 0, .int .i64 1, .int .i64 2, .int .i64 3, .int .i64 4, .int .i64 5, .int .i64 15, .int .i64 16, .int .i64 17, .int .i64 47, .int .i64 48, .int .i64 49, .int .i64 255, .int .i64 256, .int .i64 257]
theorem below15 {P : Nat → Prop} (h : P 0 ∧ P 1 ∧ P 2 ∧ P 3 ∧ P 4 ∧ P 5 ∧ P 6 ∧ P 7 ∧ P 8 ∧ P 9 ∧ P 10 ∧ P 11 ∧ P 12 ∧ P 13 ∧ P 14) : ∀ i, i < 15 → P i := by
  intro i hi
  obtain ⟨h0, h1, h2, h3, h4, h5, h6, h7, h8, h9, h10, h11, h12, h13, h14⟩ := h
  obtain rfl | rfl | rfl | rfl | rfl | rfl | rfl | rfl | rfl | rfl | rfl | rfl | rfl | rfl | rfl : i = 0 ∨ i = 1 ∨ i = 2 ∨ i = 3 ∨ i = 4 ∨ i = 5 ∨ i = 6 ∨ i = 7 ∨ i = 8 ∨ i = 9 ∨ i = 10 ∨ i = 11 ∨ i = 12 ∨ i = 13 ∨ i = 14 := by omega
  all_goals assumption
theorem cntE_le : ∀ i, i < 15 → cntE i ≤ 257 := below15 (by decide)
theorem cnt_cell {W : World} {g : Nat} (h : Blk W g 3 cntC) : ∀ i, i < 15 → W.cell? ⟨g, i, none⟩ = some (.int .i64 (cntE i : Int)) :=
  below15 ⟨h.cell 0, h.cell 1, h.cell 2, h.cell 3, h.cell 4, h.cell 5, h.cell 6, h.cell 7, h.cell 8, h.cell 9, h.cell 10, h.cell 11, h.cell 12, h.cell 13, h.cell 14⟩
/-- The paths of NodeEnds. -/
def pathE (i : Nat) : ByteArray := [({ data := #[] } : ByteArray), { data := #[97] }, { data := #[97, 98, 99, 100, 101, 102, 103, 104, 105, 106, 107, 108, 109, 110, 111, 112, 113, 114, 115, 116, 117, 118, 119, 120, 121, 122, 48, 49, 50, 51, 52, 53, 54, 55] }, { data := #[97, 98, 99, 100, 101, 102, 103, 104, 105, 106, 107, 108, 109, 110, 111, 112, 113, 114, 115, 116, 117, 118, 119, 120, 121, 122, 48, 49, 50, 51, 52, 53, 54, 55, 56] }].getD i { data := #[] }
def pathC : Array Value := #[.string { data := #[] }, .string { data := #[97] }, .string { data := #[97, 98, 99, 100, 101, 102, 103, 104, 105, 106, 107, 108, 109, 110, 111, 112, 113, 114, 115, 116, 117, 118, 119, 120, 121, 122, 48, 49, 50, 51, 52, 53, 54, 55] }, .string { data := #[97, 98, 99, 100, 101, 102, 103, 104, 105, 106, 107, 108, 109, 110, 111, 112, 113, 114, 115, 116, 117, 118, 119, 120, 121, 122, 48, 49, 50, 51, 52, 53, 54, 55, 56] }]
theorem below4 {P : Nat → Prop} (h : P 0 ∧ P 1 ∧ P 2 ∧ P 3) : ∀ i, i < 4 → P i := by
  intro i hi
  obtain ⟨h0, h1, h2, h3⟩ := h
  obtain rfl | rfl | rfl | rfl : i = 0 ∨ i = 1 ∨ i = 2 ∨ i = 3 := by omega
  all_goals assumption
theorem pathE_le : ∀ i, i < 4 → (pathE i).size ≤ 9223372036854775807 := below4 (by decide +kernel)
theorem path_cell {W : World} {g : Nat} (h : Blk W g 9 pathC) : ∀ i, i < 4 → W.cell? ⟨g, i, none⟩ = some (.string (pathE i)) :=
  below4 ⟨h.cell 0, h.cell 1, h.cell 2, h.cell 3⟩
end Go.Proofs.YtgjgcbemgmkncaaGreatDoor
namespace Go.Proofs.YtgjgcbemgmkncaaGreatDoor
open Go.RowKit Go.Shelf
set_option linter.unusedVariables false
set_option linter.unusedSimpArgs false
set_option maxRecDepth 20000

/-- What a node that stands may be asked. -/
theorem asked {w W : World} {cs : List (Nat × TypeId × Array Value)} {bs : List NB} {g : Nat} {x : Nd} {A A' : Option Addr} {ca ca' : Nat} (h : EnW w cs bs W) (hm : (⟨g, x, A, ca, A', ca'⟩ : NB) ∈ bs) : ∀ V, Below W.heap.size W V →
    (∀ (b : Nat) (c : Int) (r : Int × Int) (keep : Bool), b < 256 → refOk r → Calls Tryz.prog 3 #[.agg #[.int .i64 x.kind, .string x.code, .string x.value, .string x.path, .slice A x.bytes.length ca, .slice A' x.kids.length ca'], .int .u8 (b : Int), .int .i64 c, .agg #[.int .i64 r.1, .int .u32 r.2], .bool keep] V (BoolEnd true V)) ∧
    (∀ (b : Nat) (c : Int), b < 256 → Calls Tryz.prog 9 #[.agg #[.int .i64 x.kind, .string x.code, .string x.value, .string x.path, .slice A x.bytes.length ca, .slice A' x.kids.length ca'], .int .u8 (b : Int), .int .i64 c] V (BoolEnd true V)) := by
  intro V hb
  have h1 := h.on hb
  have hn : NdAt V x (.agg #[.int .i64 x.kind, .string x.code, .string x.value, .string x.path, .slice A x.bytes.length ca, .slice A' x.kids.length ca']) := (h1.ctx.box _ hm).2.node
  exact ⟨fun b c r keep h2 h3 => nodeTells_n x _ b c r keep V hn h1.ctx.rooms h2 h3, fun b c h2 => tells_n x _ b c V hn h1.ctx.rooms h2⟩
theorem refOk_one {n : Int} (h : -9223372036854775808 ≤ n ∧ n ≤ 9223372036854775807) : refOk (n, 1) := ⟨h, by dsimp only; omega, by dsimp only; omega⟩

set_option maxHeartbeats 12800000 in
set_option maxRecDepth 100000 in
theorem en16 {u0 u2 u5 u6 u9 u10 u11 u12 u13 u14 u15 u16 u17 u18 u19 u20 u21 u22 u23 u24 u25 u26 u27 u28 u29 u30 u31 u32 u33 u34 u35 u36 u37 u38 u39 u40 u41 u42 u43 u44 u45 u46 u47 u48 u49 u50 u51 u52 u53 u54 u55 u56 u57 u58 u59 u60 u61 u62 u63 u64 u65 u66 u67 u68 u69 u70 u71 u72 u73 u74 u75 u76 u77 u78 u79 u80 u81 u82 u83 u84 u85 u86 u87 u88 u89 u90 u91 u92 u93 u94 u95 : Value} {ds : List Deferred} {Q : Exit → Act → World → Prop} (gn gm gc k i : Nat) (x y : Nd) (A A' D D' : Option Addr) (ca ca' cd cd' : Nat) (cs : List (Nat × TypeId × Array Value)) (bs : List NB) (w w0 : World) (h : EnW w cs bs w0) (hx : (⟨gn, x, A, ca, A', ca'⟩ : NB) ∈ bs) (hy : (⟨gm, y, D, cd, D', cd'⟩ : NB) ∈ bs) (hc : (gc, 3, cntC) ∈ cs) (hk : k < 7) (hi : i < 15)
    (hQ : ∀ (z47 z48 z49 z50 z51 z52 z53 z54 z55 z56 z57 z58 z59 z60 z61 z62 z63 z64 z65 z66 z67 z68 z69 z70 z71 z72 z73 z74 z75 z76 z77 z78 z79 z80 z81 z82 : Value) (V : World), Below w0.heap.size w0 V → Q .normal ⟨#[u0, .slice (some ⟨gc, 0, none⟩) 15 15, u2, .int .i64 (k : Int), .int .i64 (i : Int), u5, u6, .pointer (some ⟨gn, 0, none⟩), .pointer (some ⟨gm, 0, none⟩), u9, u10, u11, u12, u13, u14, u15, u16, u17, u18, u19, u20, u21, u22, u23, u24, u25, u26, u27, u28, u29, u30, u31, u32, u33, u34, u35, u36, u37, u38, u39, u40, u41, u42, u43, u44, u45, u46, z47, z48, z49, z50, z51, z52, z53, z54, z55, z56, z57, z58, z59, z60, z61, z62, z63, z64, z65, z66, z67, z68, z69, z70, z71, z72, z73, z74, z75, z76, z77, z78, z79, z80, z81, z82, .bool false, u84, u85, u86, u87, u88, u89, u90, u91, u92, u93, u94, u95], ds⟩ V) :
    Code.wp Tryz.prog (part Tryz.f4 [1, 1, 1, 0, 1, 2, 2, 1, 0, 2, 1, 2, 2, 1, 0, 2, 1, 1, 1, 1, 0, 0]) Q ⟨#[u0, .slice (some ⟨gc, 0, none⟩) 15 15, u2, .int .i64 (k : Int), .int .i64 (i : Int), u5, u6, .pointer (some ⟨gn, 0, none⟩), .pointer (some ⟨gm, 0, none⟩), u9, u10, u11, u12, u13, u14, u15, u16, u17, u18, u19, u20, u21, u22, u23, u24, u25, u26, u27, u28, u29, u30, u31, u32, u33, u34, u35, u36, u37, u38, u39, u40, u41, u42, u43, u44, u45, u46, u47, u48, u49, u50, u51, u52, u53, u54, u55, u56, u57, u58, u59, u60, u61, u62, u63, u64, u65, u66, u67, u68, u69, u70, u71, u72, u73, u74, u75, u76, u77, u78, u79, u80, u81, u82, u83, u84, u85, u86, u87, u88, u89, u90, u91, u92, u93, u94, u95], ds⟩ w0 := by
  conv => arg 2; whnf
  have HQ := Lib.hid hQ
  have HS : Hid (∀ V : World, Below w0.heap.size w0 V → (fun V : World => (V.cell? ⟨gn, 0, none⟩ = some (.int .i64 x.kind) ∧ V.cell? ⟨gn, 1, none⟩ = some (.string x.code) ∧ V.cell? ⟨gn, 2, none⟩ = some (.string x.value) ∧ V.cell? ⟨gn, 3, none⟩ = some (.string x.path) ∧ V.cell? ⟨gn, 4, none⟩ = some (.slice A x.bytes.length ca) ∧ V.cell? ⟨gn, 5, none⟩ = some (.slice A' x.kids.length ca')) ∧ (V.cell? ⟨gm, 0, none⟩ = some (.int .i64 y.kind) ∧ V.cell? ⟨gm, 1, none⟩ = some (.string y.code) ∧ V.cell? ⟨gm, 2, none⟩ = some (.string y.value) ∧ V.cell? ⟨gm, 3, none⟩ = some (.string y.path) ∧ V.cell? ⟨gm, 4, none⟩ = some (.slice D y.bytes.length cd) ∧ V.cell? ⟨gm, 5, none⟩ = some (.slice D' y.kids.length cd')) ∧ V.cell? ⟨gc, i, none⟩ = some (.int .i64 (cntE i : Int))) V) := Lib.hid (fun V hb => ⟨cells6 ((h.on hb).ctx.box _ hx).2.blk, cells6 ((h.on hb).ctx.box _ hy).2.blk, cnt_cell ((h.on hb).get hc) i hi⟩)
  have HX := Lib.hid (asked h hx)
  have HY := Lib.hid (asked h hy)
  have HB0 : Hid (Below w0.heap.size w0 w0.drew) := Lib.hid (Below.refl _ _).drew
  have hcn := cntE_le i hi
  clear hQ h hx hy hc
  generalize cntE i = n at HS hcn
  have s1 : IntKind.u8.wrap (i : Int) = (i : Int) := IntWalk.u8_in _ (by omega)
  have s2 : ∃ q : Nat, q < 256 ∧ IntKind.u8.wrap (n : Int) = (q : Int) := ⟨n % 256, by omega, by rw [IntKind.wrap_u8]; omega⟩
  obtain ⟨q, hq, s2⟩ := s2
  have i1 : (0 : Int) ≤ (i : Int) := by omega
  have i2 : (i : Int) < 15 := by omega
  have i3 : i < 15 := hi
  refine wp_region_noPanic ?_
  refine wp_region_held_drew (S := (fun V : World => (V.cell? ⟨gn, 0, none⟩ = some (.int .i64 x.kind) ∧ V.cell? ⟨gn, 1, none⟩ = some (.string x.code) ∧ V.cell? ⟨gn, 2, none⟩ = some (.string x.value) ∧ V.cell? ⟨gn, 3, none⟩ = some (.string x.path) ∧ V.cell? ⟨gn, 4, none⟩ = some (.slice A x.bytes.length ca) ∧ V.cell? ⟨gn, 5, none⟩ = some (.slice A' x.kids.length ca')) ∧ (V.cell? ⟨gm, 0, none⟩ = some (.int .i64 y.kind) ∧ V.cell? ⟨gm, 1, none⟩ = some (.string y.code) ∧ V.cell? ⟨gm, 2, none⟩ = some (.string y.value) ∧ V.cell? ⟨gm, 3, none⟩ = some (.string y.path) ∧ V.cell? ⟨gm, 4, none⟩ = some (.slice D y.bytes.length cd) ∧ V.cell? ⟨gm, 5, none⟩ = some (.slice D' y.kids.length cd')) ∧ V.cell? ⟨gc, i, none⟩ = some (.int .i64 (n : Int)))) (by kernel_rfl) ?_ (fun hHeld0 => ?_)
  · exact HS.out _ HB0.out
  refine wpAnyH_take (i := 0) (v := ?_) rfl (by kernel_rfl) (by kernel_rfl) (by kernel_rfl) (fun _ _ _ h => h) (Or.inl ⟨by rfl, ?_⟩) hHeld0 ?_
  rotate_left
  · (intro w hSw; (try dsimp only at hSw); go_simp <;> with_reducible rfl)
  try simp only [Act.put, List.setIfInBounds_toArray, List.set_cons_zero, List.set_cons_succ]
  refine wpAnyH_take (i := 1) (v := ?_) rfl (by kernel_rfl) (by kernel_rfl) (by kernel_rfl) (fun _ _ _ h => h) (Or.inl ⟨by rfl, ?_⟩) hHeld0 ?_
  rotate_left
  · (intro w hSw; (try dsimp only at hSw); go_simp <;> with_reducible rfl)
  try simp only [Act.put, List.setIfInBounds_toArray, List.set_cons_zero, List.set_cons_succ]
  refine wpAnyH_take (i := 2) (v := ?_) rfl (by kernel_rfl) (by kernel_rfl) (by kernel_rfl) (fun _ _ _ h => h) (Or.inl ⟨by rfl, ?_⟩) hHeld0 ?_
  rotate_left
  · (intro w hSw; (try dsimp only at hSw); go_simp <;> with_reducible rfl)
  try simp only [Act.put, List.setIfInBounds_toArray, List.set_cons_zero, List.set_cons_succ]
  refine wpAnyH_take (i := 3) (v := ?_) rfl (by kernel_rfl) (by kernel_rfl) (by kernel_rfl) (fun _ _ _ h => h) (Or.inl ⟨by rfl, ?_⟩) hHeld0 ?_
  rotate_left
  · (intro w hSw; (try dsimp only at hSw); go_simp <;> with_reducible rfl)
  try simp only [Act.put, List.setIfInBounds_toArray, List.set_cons_zero, List.set_cons_succ]
  refine wpAnyH_take (i := 4) (v := ?_) rfl (by kernel_rfl) (by kernel_rfl) (by kernel_rfl) (fun _ _ _ h => h) (Or.inl ⟨by rfl, ?_⟩) hHeld0 ?_
  rotate_left
  · (intro w hSw; (try dsimp only at hSw); go_simp <;> with_reducible rfl)
  try simp only [Act.put, List.setIfInBounds_toArray, List.set_cons_zero, List.set_cons_succ]
  refine wpAnyH_take (i := 5) (v := ?_) rfl (by kernel_rfl) (by kernel_rfl) (by kernel_rfl) (fun _ _ _ h => h) (Or.inl ⟨by rfl, ?_⟩) hHeld0 ?_
  rotate_left
  · (intro w hSw; (try dsimp only at hSw); go_simp <;> with_reducible rfl)
  try simp only [Act.put, List.setIfInBounds_toArray, List.set_cons_zero, List.set_cons_succ]
  refine wpAnyH_take (i := 6) (v := ?_) rfl (by kernel_rfl) (by kernel_rfl) (by kernel_rfl) (fun _ _ _ h => h) (Or.inl ⟨by rfl, ?_⟩) hHeld0 ?_
  rotate_left
  · (intro w hSw; (try dsimp only at hSw); go_simp <;> with_reducible rfl)
  try simp only [Act.put, List.setIfInBounds_toArray, List.set_cons_zero, List.set_cons_succ]
  refine wpAnyH_take (i := 7) (v := ?_) rfl (by kernel_rfl) (by kernel_rfl) (by kernel_rfl) (fun _ _ _ h => h) (Or.inl ⟨by rfl, ?_⟩) hHeld0 ?_
  rotate_left
  · (intro w hSw; (try dsimp only at hSw); go_simp <;> with_reducible rfl)
  try simp only [Act.put, List.setIfInBounds_toArray, List.set_cons_zero, List.set_cons_succ]
  refine wpAnyH_take (i := 9) (v := ?_) rfl (by kernel_rfl) (by kernel_rfl) (by kernel_rfl) (fun _ _ _ h => h) (Or.inl ⟨by rfl, ?_⟩) hHeld0 ?_
  rotate_left
  · (intro w hSw; (try dsimp only at hSw); go_simp <;> with_reducible rfl)
  try simp only [Act.put, List.setIfInBounds_toArray, List.set_cons_zero, List.set_cons_succ]
  refine wpAnyH_take (i := 10) (v := ?_) rfl (by kernel_rfl) (by kernel_rfl) (by kernel_rfl) (fun _ _ _ h => h) (Or.inl ⟨by rfl, ?_⟩) hHeld0 ?_
  rotate_left
  · (intro w hSw; (try dsimp only at hSw); go_simp <;> with_reducible rfl)
  try simp only [Act.put, List.setIfInBounds_toArray, List.set_cons_zero, List.set_cons_succ]
  refine wpAnyH_take (i := 11) (v := ?_) rfl (by kernel_rfl) (by kernel_rfl) (by kernel_rfl) (fun _ _ _ h => h) (Or.inl ⟨by rfl, ?_⟩) hHeld0 ?_
  rotate_left
  · (intro w hSw; (try dsimp only at hSw); go_simp <;> with_reducible rfl)
  try simp only [Act.put, List.setIfInBounds_toArray, List.set_cons_zero, List.set_cons_succ]
  refine wpAnyH_ready (rs := [8]) (by kernel_rfl) (by simp) ?_
  refine AllReadyH.cons rfl (fun K hK => ?_) ?_
  · go_simp
    refine (ref_n (i : Int) _).mono ?_
    rintro e w1 ⟨rfl, hb⟩
    have HB1 := Lib.hid (HB0.out.trans (hb.mono HB0.out.size))
    clear hb
    unfold refV
    refine hK.out _ _ ?_ (fun hHeld1 => ?_)
    · exact HS.out _ HB1.out
    clear hK K hHeld0
    try simp only [Act.put, List.setIfInBounds_toArray, List.set_cons_zero, List.set_cons_succ]
    refine wpAnyH_ready (rs := [12]) (by kernel_rfl) (by simp) ?_
    refine AllReadyH.cons rfl (fun K hK => ?_) ?_
    · go_simp
      refine ((HX.out _ HB1.out).1 i _ ((i : Int), 1) _ (by omega) (refOk_one (by omega))).mono ?_
      rintro e w2 ⟨rfl, hb⟩
      have HB2 := Lib.hid (HB1.out.trans (hb.mono HB1.out.size))
      clear hb
      refine hK.out _ _ ?_ (fun hHeld2 => ?_)
      · exact HS.out _ HB2.out
      clear hK K hHeld1
      try simp only [Act.put, List.setIfInBounds_toArray, List.set_cons_zero, List.set_cons_succ]
      refine wpAnyH_take (i := 13) (v := ?_) rfl (by kernel_rfl) (by kernel_rfl) (by kernel_rfl) (fun _ _ _ h => h) (Or.inl ⟨by rfl, ?_⟩) hHeld2 ?_
      rotate_left
      · (intro w hSw; (try dsimp only at hSw); go_simp <;> with_reducible rfl)
      try simp only [Act.put, List.setIfInBounds_toArray, List.set_cons_zero, List.set_cons_succ]
      refine wpAnyH_take (i := 14) (v := ?_) rfl (by kernel_rfl) (by kernel_rfl) (by kernel_rfl) (fun _ _ _ h => h) (Or.inl ⟨by rfl, ?_⟩) hHeld2 ?_
      rotate_left
      · (intro w hSw; (try dsimp only at hSw); go_simp <;> with_reducible rfl)
      try simp only [Act.put, List.setIfInBounds_toArray, List.set_cons_zero, List.set_cons_succ]
      refine wpAnyH_take (i := 15) (v := ?_) rfl (by kernel_rfl) (by kernel_rfl) (by kernel_rfl) (fun _ _ _ h => h) (Or.inl ⟨by kernel_rfl, ?_⟩) hHeld2 ?_
      rotate_left
      · (intro w hSw; (try dsimp only at hSw); go_simp <;> with_reducible rfl)
      try simp only [Act.put, List.setIfInBounds_toArray, List.set_cons_zero, List.set_cons_succ]
      refine wpAnyH_take (i := 16) (v := ?_) rfl (by kernel_rfl) (by kernel_rfl) (by kernel_rfl) (fun _ _ _ h => h) (Or.inl ⟨by kernel_rfl, ?_⟩) hHeld2 ?_
      rotate_left
      · (intro w hSw; (try dsimp only at hSw); go_simp <;> with_reducible rfl)
      try simp only [Act.put, List.setIfInBounds_toArray, List.set_cons_zero, List.set_cons_succ]
      refine wpAnyH_take (i := 17) (v := ?_) rfl (by kernel_rfl) (by kernel_rfl) (by kernel_rfl) (fun _ _ _ h => h) (Or.inl ⟨by kernel_rfl, ?_⟩) hHeld2 ?_
      rotate_left
      · (intro w hSw; (try dsimp only at hSw); go_simp <;> with_reducible rfl)
      try simp only [Act.put, List.setIfInBounds_toArray, List.set_cons_zero, List.set_cons_succ]
      refine wpAnyH_take (i := 18) (v := ?_) rfl (by kernel_rfl) (by kernel_rfl) (by kernel_rfl) (fun _ _ _ h => h) (Or.inl ⟨by kernel_rfl, ?_⟩) hHeld2 ?_
      rotate_left
      · (intro w hSw; (try dsimp only at hSw); go_simp <;> with_reducible rfl)
      try simp only [Act.put, List.setIfInBounds_toArray, List.set_cons_zero, List.set_cons_succ]
      refine wpAnyH_take (i := 19) (v := ?_) rfl (by kernel_rfl) (by kernel_rfl) (by kernel_rfl) (fun _ _ _ h => h) (Or.inl ⟨by kernel_rfl, ?_⟩) hHeld2 ?_
      rotate_left
      · (intro w hSw; (try dsimp only at hSw); go_simp <;> with_reducible rfl)
      try simp only [Act.put, List.setIfInBounds_toArray, List.set_cons_zero, List.set_cons_succ]
      refine wpAnyH_take (i := 20) (v := ?_) rfl (by kernel_rfl) (by kernel_rfl) (by kernel_rfl) (fun _ _ _ h => h) (Or.inl ⟨by kernel_rfl, ?_⟩) hHeld2 ?_
      rotate_left
      · (intro w hSw; (try dsimp only at hSw); go_simp <;> with_reducible rfl)
      try simp only [Act.put, List.setIfInBounds_toArray, List.set_cons_zero, List.set_cons_succ]
      refine wpAnyH_take (i := 21) (v := ?_) rfl (by kernel_rfl) (by kernel_rfl) (by kernel_rfl) (fun _ _ _ h => h) (Or.inl ⟨by kernel_rfl, ?_⟩) hHeld2 ?_
      rotate_left
      · (intro w hSw; (try dsimp only at hSw); go_simp <;> with_reducible rfl)
      try simp only [Act.put, List.setIfInBounds_toArray, List.set_cons_zero, List.set_cons_succ]
      refine wpAnyH_take (i := 22) (v := ?_) rfl (by kernel_rfl) (by kernel_rfl) (by kernel_rfl) (fun _ _ _ h => h) (Or.inl ⟨by kernel_rfl, ?_⟩) hHeld2 ?_
      rotate_left
      · (intro w hSw; (try dsimp only at hSw); go_simp <;> with_reducible rfl)
      try simp only [Act.put, List.setIfInBounds_toArray, List.set_cons_zero, List.set_cons_succ]
      refine wpAnyH_take (i := 23) (v := ?_) rfl (by kernel_rfl) (by kernel_rfl) (by kernel_rfl) (fun _ _ _ h => h) (Or.inl ⟨by kernel_rfl, ?_⟩) hHeld2 ?_
      rotate_left
      · (intro w hSw; (try dsimp only at hSw); go_simp <;> with_reducible rfl)
      try simp only [Act.put, List.setIfInBounds_toArray, List.set_cons_zero, List.set_cons_succ]
      refine wpAnyH_take (i := 25) (v := ?_) rfl (by kernel_rfl) (by kernel_rfl) (by kernel_rfl) (fun _ _ _ h => h) (Or.inl ⟨by kernel_rfl, ?_⟩) hHeld2 ?_
      rotate_left
      · (intro w hSw; (try dsimp only at hSw); go_simp <;> with_reducible rfl)
      try simp only [Act.put, List.setIfInBounds_toArray, List.set_cons_zero, List.set_cons_succ]
      refine wpAnyH_take (i := 26) (v := ?_) rfl (by kernel_rfl) (by kernel_rfl) (by kernel_rfl) (fun _ _ _ h => h) (Or.inl ⟨by kernel_rfl, ?_⟩) hHeld2 ?_
      rotate_left
      · (intro w hSw; (try dsimp only at hSw); go_simp <;> with_reducible rfl)
      try simp only [Act.put, List.setIfInBounds_toArray, List.set_cons_zero, List.set_cons_succ]
      refine wpAnyH_take (i := 27) (v := ?_) rfl (by kernel_rfl) (by kernel_rfl) (by kernel_rfl) (fun _ _ _ h => h) (Or.inl ⟨by kernel_rfl, ?_⟩) hHeld2 ?_
      rotate_left
      · (intro w hSw; (try dsimp only at hSw); go_simp <;> with_reducible rfl)
      try simp only [Act.put, List.setIfInBounds_toArray, List.set_cons_zero, List.set_cons_succ]
      refine wpAnyH_ready (rs := [24]) (by kernel_rfl) (by simp) ?_
      refine AllReadyH.cons (Array.getElem?_eq_getElem (by decide)) (fun K hK => ?_) ?_
      · simp only [List.getElem_toArray, List.getElem_cons_succ, List.getElem_cons_zero]
        rw [if_pos (by kernel_rfl)]
        go_simp
        refine (ref_n (k : Int) _).mono ?_
        rintro e w3 ⟨rfl, hb⟩
        have HB3 := Lib.hid (HB2.out.trans (hb.mono HB2.out.size))
        clear hb
        unfold refV
        refine hK.out _ _ ?_ (fun hHeld3 => ?_)
        · exact HS.out _ HB3.out
        clear hK K hHeld2
        try simp only [Act.put, List.setIfInBounds_toArray, List.set_cons_zero, List.set_cons_succ]
        refine wpAnyH_ready (rs := [28]) (by kernel_rfl) (by simp) ?_
        refine AllReadyH.cons (Array.getElem?_eq_getElem (by decide)) (fun K hK => ?_) ?_
        · simp only [List.getElem_toArray, List.getElem_cons_succ, List.getElem_cons_zero]
          rw [if_pos (by kernel_rfl)]
          go_simp
          refine ((HY.out _ HB3.out).1 q _ ((k : Int), 1) _ (by omega) (refOk_one (by omega))).mono ?_
          rintro e w4 ⟨rfl, hb⟩
          have HB4 := Lib.hid (HB3.out.trans (hb.mono HB3.out.size))
          clear hb
          refine hK.out _ _ ?_ (fun hHeld4 => ?_)
          · exact HS.out _ HB4.out
          clear hK K hHeld3
          try simp only [Act.put, List.setIfInBounds_toArray, List.set_cons_zero, List.set_cons_succ]
          refine wpAnyH_take (i := 29) (v := ?_) rfl (by kernel_rfl) (by kernel_rfl) (by kernel_rfl) (fun _ _ _ h => h) (Or.inl ⟨by kernel_rfl, ?_⟩) hHeld4 ?_
          rotate_left
          · (intro w hSw; (try dsimp only at hSw); go_simp <;> with_reducible rfl)
          try simp only [Act.put, List.setIfInBounds_toArray, List.set_cons_zero, List.set_cons_succ]
          refine wpAnyH_take (i := 30) (v := ?_) rfl (by kernel_rfl) (by kernel_rfl) (by kernel_rfl) (fun _ _ _ h => h) (Or.inl ⟨by rfl, ?_⟩) hHeld4 ?_
          rotate_left
          · (intro w hSw; (try dsimp only at hSw); go_simp <;> with_reducible rfl)
          try simp only [Act.put, List.setIfInBounds_toArray, List.set_cons_zero, List.set_cons_succ]
          refine wpAnyH_take (i := 31) (v := ?_) rfl (by kernel_rfl) (by kernel_rfl) (by kernel_rfl) (fun _ _ _ h => h) (Or.inl ⟨by rfl, ?_⟩) hHeld4 ?_
          rotate_left
          · (intro w hSw; (try dsimp only at hSw); go_simp <;> with_reducible rfl)
          try simp only [Act.put, List.setIfInBounds_toArray, List.set_cons_zero, List.set_cons_succ]
          refine wpAnyH_take (i := 32) (v := ?_) rfl (by kernel_rfl) (by kernel_rfl) (by kernel_rfl) (fun _ _ _ h => h) (Or.inl ⟨by kernel_rfl, ?_⟩) hHeld4 ?_
          rotate_left
          · (intro w hSw; (try dsimp only at hSw); go_simp <;> with_reducible rfl)
          try simp only [Act.put, List.setIfInBounds_toArray, List.set_cons_zero, List.set_cons_succ]
          refine wpAnyH_ready (rs := [33]) (by kernel_rfl) (by simp) ?_
          refine AllReadyH.cons (Array.getElem?_eq_getElem (by decide)) (fun K hK => ?_) ?_
          · simp only [List.getElem_toArray, List.getElem_cons_succ, List.getElem_cons_zero]
            rw [if_pos (by kernel_rfl)]
            go_simp
            refine (ref_n 4095 _).mono ?_
            rintro e w5 ⟨rfl, hb⟩
            have HB5 := Lib.hid (HB4.out.trans (hb.mono HB4.out.size))
            clear hb
            unfold refV
            refine hK.out _ _ ?_ (fun hHeld5 => ?_)
            · exact HS.out _ HB5.out
            clear hK K hHeld4
            try simp only [Act.put, List.setIfInBounds_toArray, List.set_cons_zero, List.set_cons_succ]
            refine wpAnyH_ready (rs := [34]) (by kernel_rfl) (by simp) ?_
            refine AllReadyH.cons (Array.getElem?_eq_getElem (by decide)) (fun K hK => ?_) ?_
            · simp only [List.getElem_toArray, List.getElem_cons_succ, List.getElem_cons_zero]
              rw [if_pos (by kernel_rfl)]
              go_simp
              refine ((HY.out _ HB5.out).1 255 _ (4095, 1) _ (by omega) (refOk_one (by omega))).mono ?_
              rintro e w6 ⟨rfl, hb⟩
              have HB6 := Lib.hid (HB5.out.trans (hb.mono HB5.out.size))
              clear hb
              refine hK.out _ _ ?_ (fun hHeld6 => ?_)
              · exact HS.out _ HB6.out
              clear hK K hHeld5
              try simp only [Act.put, List.setIfInBounds_toArray, List.set_cons_zero, List.set_cons_succ]
              refine wpAnyH_take (i := 35) (v := ?_) rfl (by kernel_rfl) (by kernel_rfl) (by kernel_rfl) (fun _ _ _ h => h) (Or.inl ⟨by kernel_rfl, ?_⟩) hHeld6 ?_
              rotate_left
              · (intro w hSw; (try dsimp only at hSw); go_simp <;> with_reducible rfl)
              try simp only [Act.put, List.setIfInBounds_toArray, List.set_cons_zero, List.set_cons_succ]
              refine wpAnyH_take (i := 36) (v := ?_) rfl (by kernel_rfl) (by kernel_rfl) (by kernel_rfl) (fun _ _ _ h => h) (Or.inl ⟨by rfl, ?_⟩) hHeld6 ?_
              rotate_left
              · (intro w hSw; (try dsimp only at hSw); go_simp <;> with_reducible rfl)
              try simp only [Act.put, List.setIfInBounds_toArray, List.set_cons_zero, List.set_cons_succ]
              try simp only [Act.put, List.getElem_toArray, List.getElem_cons_succ, List.getElem_cons_zero, List.setIfInBounds_toArray, List.set_cons_zero, List.set_cons_succ]
              refine wpAnyH_done (by kernel_rfl) ?_ _
              refine NoPanic.normal (HQ.out _ _ _ _ _ _ _ _ _ _ _ _ _ _ _ _ _ _ _ _ _ _ _ _ _ _ _ _ _ _ _ _ _ _ _ _ _ HB6.out)
            exact AllReadyH.nil
          exact AllReadyH.nil
        exact AllReadyH.nil
      exact AllReadyH.nil
    exact AllReadyH.nil
  exact AllReadyH.nil
end Go.Proofs.YtgjgcbemgmkncaaGreatDoor
