/-
  Layer 9: the chapter's examples, walked.
  NodeGrows: what holds between two rounds (no walk).
  A box whose zero value is long: one step. Over any program.
-/
import Derived.Test.YtgjgcbemgmkncaaDoorGg
import Derived.Test.YtgjgcbemgmkncaaDoorGh
namespace Go.Proofs.YtgjgcbemgmkncaaDoor
open Go.RowKit Go.Shelf
set_option linter.unusedVariables false
set_option linter.unusedSimpArgs false

/-- A box with a node. -/
structure NB where
  g : Nat
  x : Nd
  Ab : Option Addr
  cb : Nat
  Ak : Option Addr
  ck : Nat
def NB.at_ (b : NB) (W : World) : Prop := BoxAt W b.g b.x b.Ab b.cb b.Ak b.ck
def NB.rows (b : NB) : List Nat := rowsOf (b.x.v b.Ab b.cb b.Ak b.ck)
/-- The world of a law: what was there is as it was, the table of rooms stands, and so do some boxes. -/
structure Ctx (w : World) (bs : List NB) (W : World) : Prop where
  below : Below w.heap.size w W
  rooms : RoomsAt W
  box : ∀ b ∈ bs, w.heap.size ≤ b.g ∧ b.at_ W
theorem Ctx.start {w : World} (hr : RoomsAt w) : Ctx w [] w := ⟨Below.refl _ _, hr, fun b hb => by cases hb⟩
theorem Ctx.on {w W W' : World} {bs : List NB} (h : Ctx w bs W) (hb : Below W.heap.size W W') : Ctx w bs W' :=
  ⟨h.below.trans (hb.mono h.below.size), h.rooms.on hb, fun b hm => ⟨(h.box b hm).1, (h.box b hm).2.below hb⟩⟩
theorem Ctx.push {w W W' : World} {bs : List NB} (h : Ctx w bs W) (hb : Below W.heap.size W W') {g : Nat} {x : Nd} {Ab Ak : Option Addr} {cb ck : Nat} (hx : BoxAt W' g x Ab cb Ak ck) (hg : W.heap.size ≤ g) : Ctx w (⟨g, x, Ab, cb, Ak, ck⟩ :: bs) W' :=
  ⟨(h.on hb).below, (h.on hb).rooms, fun b hm => by
    rcases List.mem_cons.1 hm with rfl | hm
    · exact ⟨Nat.le_trans h.below.size hg, hx⟩
    · exact (h.on hb).box b hm⟩
theorem Ctx.new {w W : World} {bs : List NB} (h : Ctx w bs W) {x : Nd} {Ab Ak : Option Addr} {cb ck : Nat} (hx : NdAt W x (x.v Ab cb Ak ck)) : Ctx w (⟨W.heap.size, x, Ab, cb, Ak, ck⟩ :: bs) (W.alloc (.cells (x.c Ab cb Ak ck) 27)) :=
  h.push (below_box _ _) ⟨Blk.new _ _ _, hx.below (below_box _ _)⟩ (Nat.le_refl _)
theorem Ctx.lt {w W : World} {bs : List NB} (h : Ctx w bs W) : ∀ b ∈ bs, b.g < W.heap.size ∧ ∀ r ∈ b.rows, r < W.heap.size := fun b hm => ⟨(h.box b hm).2.lt, (h.box b hm).2.node.rows⟩
section
variable {w W : World} {bs : List NB} {q0 q1 q2 q3 : NB} {g : Nat} {x : Nd} {Ab Ak : Option Addr} {cb ck : Nat}
theorem Ctx.b0 (h : Ctx w (⟨g, x, Ab, cb, Ak, ck⟩ :: bs) W) : BoxAt W g x Ab cb Ak ck := (h.box ⟨g, x, Ab, cb, Ak, ck⟩ (by simp)).2
theorem Ctx.g0 (h : Ctx w (⟨g, x, Ab, cb, Ak, ck⟩ :: bs) W) : w.heap.size ≤ g := (h.box ⟨g, x, Ab, cb, Ak, ck⟩ (by simp)).1
theorem Ctx.b1 (h : Ctx w (q0 :: ⟨g, x, Ab, cb, Ak, ck⟩ :: bs) W) : BoxAt W g x Ab cb Ak ck := (h.box ⟨g, x, Ab, cb, Ak, ck⟩ (by simp)).2
theorem Ctx.g1 (h : Ctx w (q0 :: ⟨g, x, Ab, cb, Ak, ck⟩ :: bs) W) : w.heap.size ≤ g := (h.box ⟨g, x, Ab, cb, Ak, ck⟩ (by simp)).1
theorem Ctx.b2 (h : Ctx w (q0 :: q1 :: ⟨g, x, Ab, cb, Ak, ck⟩ :: bs) W) : BoxAt W g x Ab cb Ak ck := (h.box ⟨g, x, Ab, cb, Ak, ck⟩ (by simp)).2
theorem Ctx.g2 (h : Ctx w (q0 :: q1 :: ⟨g, x, Ab, cb, Ak, ck⟩ :: bs) W) : w.heap.size ≤ g := (h.box ⟨g, x, Ab, cb, Ak, ck⟩ (by simp)).1
theorem Ctx.b3 (h : Ctx w (q0 :: q1 :: q2 :: ⟨g, x, Ab, cb, Ak, ck⟩ :: bs) W) : BoxAt W g x Ab cb Ak ck := (h.box ⟨g, x, Ab, cb, Ak, ck⟩ (by simp)).2
theorem Ctx.g3 (h : Ctx w (q0 :: q1 :: q2 :: ⟨g, x, Ab, cb, Ak, ck⟩ :: bs) W) : w.heap.size ≤ g := (h.box ⟨g, x, Ab, cb, Ak, ck⟩ (by simp)).1
theorem Ctx.b4 (h : Ctx w (q0 :: q1 :: q2 :: q3 :: ⟨g, x, Ab, cb, Ak, ck⟩ :: bs) W) : BoxAt W g x Ab cb Ak ck := (h.box ⟨g, x, Ab, cb, Ak, ck⟩ (by simp)).2
theorem Ctx.g4 (h : Ctx w (q0 :: q1 :: q2 :: q3 :: ⟨g, x, Ab, cb, Ak, ck⟩ :: bs) W) : w.heap.size ≤ g := (h.box ⟨g, x, Ab, cb, Ak, ck⟩ (by simp)).1
end
/-- A store into a box that is none of these, nor a row of one of these. -/
theorem Ctx.off {w W V : World} {bs : List NB} (h : Ctx w bs W) (hr0 : RoomsAt w) {g : Nat} (hg : W.grownBy V (some g)) (hlo : w.heap.size ≤ g) (hn : ∀ b ∈ bs, b.g ≠ g ∧ g ∉ b.rows) : Ctx w bs V := by
  have hb : Below w.heap.size w V := h.below.grown hg h.below.size (fun k e => by injection e with e; omega)
  exact ⟨hb, hr0.on hb, fun b hm => ⟨(h.box b hm).1, (h.box b hm).2.off hg (hn b hm).1 (hn b hm).2⟩⟩
theorem node_reads {W : World} {x : Nd} {Ab Ak : Option Addr} {cb ck : Nat} (h : NdAt W x (x.v Ab cb Ak ck)) : x.wf ∧ Reads W W.heap.size 1 Ab x.bytes.length (x.bytes.flatMap nrow) ∧ Reads W W.heap.size 2 Ak x.kids.length (x.kids.flatMap rrow) := by
  obtain ⟨h0, A, c, A', c', he, h2, h3⟩ := h
  unfold Nd.v at he
  injection he with he
  simp at he
  obtain ⟨⟨rfl, rfl⟩, rfl, rfl⟩ := he
  exact ⟨h0, h2, h3⟩
theorem box_byte0 {W : World} {g b : Nat} {l : List Nat} {x : Nd} {Ab Ak : Option Addr} {cb ck : Nat} (h : BoxAt W g x Ab cb Ak ck) (hb : x.bytes = b :: l) : ∃ ad, Ab = some ad ∧ W.cell? (ad.add 0) = some (.int .u8 (b : Int)) := by
  have h2 := (node_reads h.node).2.1
  rw [hb] at h2
  obtain ⟨ad, e, _, h3⟩ := byte_at h2 (k := 0) (by simp)
  exact ⟨ad, e, h3⟩
theorem awk_four (w : World) : Reads (w.alloc (.cells #[.int .u8 1, .int .u8 2, .int .u8 3, .int .u8 4] 5)) (w.alloc (.cells #[.int .u8 1, .int .u8 2, .int .u8 3, .int .u8 4] 5)).heap.size 1 (some ⟨w.heap.size, 0, none⟩) [1, 2, 3, 4].length ([1, 2, 3, 4].flatMap nrow) :=
  ⟨rfl, fun _ => ⟨_, rfl, by simp, cell_list_blk (Blk.new w 5 _)⟩⟩
set_option maxHeartbeats 3200000 in
set_option maxRecDepth 100000 in
theorem awake_n (w : World) (hr : RoomsAt w) : Calls Tryd.prog 5 #[] w (BoolEnd true w) := by
  have c0 := (Ctx.start hr).on (below_box w (.cells #[.int .u8 1, .int .u8 2, .int .u8 3, .int .u8 4] 5))
  have hi : Calls Tryd.prog 6 #[.int .i64 2, .string { data := #[] }, .slice (some ⟨w.heap.size, 0, none⟩) 4 4] (w.alloc (.cells #[.int .u8 1, .int .u8 2, .int .u8 3, .int .u8 4] 5)) (InnerEnd n4 (some ⟨w.heap.size, 0, none⟩) (w.alloc (.cells #[.int .u8 1, .int .u8 2, .int .u8 3, .int .u8 4] 5))) :=
    linner_n 2 { data := #[] } (some ⟨w.heap.size, 0, none⟩) 4 [1, 2, 3, 4] _ (by decide) (by decide) (awk_four w) (by decide) (by decide)
  have HI := Lib.hid hi
  have HR := Lib.hid hr
  have C0 := Lib.hid c0
  clear hi c0 hr
  go_enter Tryd.func5, Tryd.ntmps5
  go_wp2_with fail
  refine HI.out.mono ?_
  rintro e w1 ⟨V', rfl, hnd, hb, hrw⟩
  obtain ⟨A1, c1, A2, c2, rfl, hnd⟩ := open_nd hnd
  have D1 := (C0.out.on hb).new hnd
  have C1 := Lib.hid D1
  have HA := Lib.hid (And.intro n5_add (And.intro n4_full (And.intro n4_right (show n4.kind ≠ 1 by decide))))
  clear hb hrw HI C0 hnd D1
  generalize n4 = m at C1 HA ⊢
  unfold Nd.v
  go_wp2_with fail
  refine awk2 m n5 0 A1 c1 A2 c2 w1.heap.size _ C1.out.b0 C1.out.rooms (fun W h1 h2 => ?_) (fun z12 z13 z14 z15 z16 z17 g2 B1 d1 B2 d2 V hb hx hg hrw => ?_)
  · have := Add_n m _ 0 (9, 1) false W h1 h2 (by decide) (by unfold refOk; decide)
    rw [HA.out.1] at this
    exact this
  have D2 := C1.out.push hb hx hg
  have HK := Lib.hid n4b_cut
  have HK2 : Hid (n5.kind = 3 ∧ n5.kids.length = 5 ∧ n5.bytes = [0, 1, 2, 3, 4]) := Lib.hid ⟨rfl, rfl, rfl⟩
  refine (‹∀ (a : Act) (w : World), Code.wp Tryd.prog _ _ a w → _› _ _ ?_)
  have C2 := Lib.hid D2
  have hmm := HA.out.2
  have HM := Lib.hid hmm
  clear hb hx hg hrw D2 C1 HA hmm
  generalize n5 = a at C2 HK HK2 ⊢
  have hcut := Cut_n a _ 3 false V C2.out.b0.node C2.out.rooms (by decide)
  rw [HK.out] at hcut
  have HCU := Lib.hid hcut
  obtain ⟨e0, e1, e2, e3, e4, e5⟩ := C2.out.b0.cells
  clear hcut HK
  unfold Nd.v at HCU
  go_wp2_with fail
  refine HCU.out.mono ?_
  rintro e w3 ⟨V', rfl, hnd, hb, hrw⟩
  obtain ⟨A3, c3, A4, c4, rfl, hnd⟩ := open_nd hnd
  have D3 := (C2.out.on hb).new hnd
  have C3 := Lib.hid D3
  have HB : Hid (n4b.kind = 2 ∧ n4b.kids.length = 4) := Lib.hid ⟨rfl, rfl⟩
  clear hb hrw hnd D3 C2 HCU e0 e1 e2 e3 e4 e5
  generalize n4b = b at C3 HB ⊢
  have HI5 : Hid (∀ W : World, Calls Tryd.prog 6 #[.int .i64 5, .string { data := #[] }, .slice none 0 0] W (InnerEnd (topN 0) none W)) := Lib.hid (fun W => by
    have := linner_n 5 { data := #[] } none 0 [] W (by decide) (by decide) Reads.none_ (by simp) (by decide)
    rw [topN_zero] at this
    exact this)
  unfold Nd.v
  go_wp2_with fail
  refine (HI5.out _).mono ?_
  rintro e w5 ⟨V', rfl, hnd, hb, hrw⟩
  obtain ⟨A5, c5, A6, c6, rfl, hnd⟩ := open_nd hnd
  have D4 := C3.out.on hb
  have hoff : ∀ q ∈ [(⟨w3.heap.size, b, A3, c3, A4, c4⟩ : NB), ⟨g2, a, B1, d1, B2, d2⟩, ⟨w1.heap.size, m, A1, c1, A2, c2⟩], q.g ≠ w5.heap.size ∧ w5.heap.size ∉ q.rows := fun q hm => by
    have h1 := D4.lt q hm
    exact ⟨Nat.ne_of_lt h1.1, fun h2 => Nat.lt_irrefl _ (h1.2 _ h2)⟩
  have HOFF := Lib.hid (And.intro hoff D4.below.size)
  have hnr := hnd.rows
  have h0 : Hid (Ctx w [⟨w3.heap.size, b, A3, c3, A4, c4⟩, ⟨g2, a, B1, d1, B2, d2⟩, ⟨w1.heap.size, m, A1, c1, A2, c2⟩] (w5.alloc (.cells ((topN 0).c A5 c5 A6 c6) 27)) ∧ BoxAt (w5.alloc (.cells ((topN 0).c A5 c5 A6 c6) 27)) w5.heap.size (topN 0) A5 c5 A6 c6 ∧ w5.heap.size ∉ rowsOf ((topN 0).v A5 c5 A6 c6)) :=
    Lib.hid ⟨D4.on (below_box _ _), ⟨Blk.new _ _ _, hnd.below (below_box _ _)⟩, fun h2 => Nat.lt_irrefl _ (hnr _ h2)⟩
  clear hb hrw hnd D4 hoff hnr C3 HI5
  unfold Nd.c at h0
  unfold Nd.v at h0 ⊢
  go_wp2_with fail
  go_loopw [7] (fun i wr => ∃ k : Nat, k ≤ 17 ∧ i = .int .i64 k ∧ ∃ A c A' c', Hid (Ctx w [⟨w3.heap.size, b, A3, c3, A4, c4⟩, ⟨g2, a, B1, d1, B2, d2⟩, ⟨w1.heap.size, m, A1, c1, A2, c2⟩] wr ∧ BoxAt wr w5.heap.size (topN k) A c A' c' ∧ w5.heap.size ∉ rowsOf ((topN k).v A c A' c'))) (fun i _ => 17 - (intOf i).toNat)
  case atStart => exact ⟨0, by omega, rfl, _, _, _, _, h0⟩
  case round =>
    obtain ⟨k, hk, rfl, A, c, A', c', HW⟩ := hrel
    clear h0
    by_cases hlt : k < 17
    · have i1 : (k : Int) < 17 := by omega
      go_wp2_with fail
      refine awk8 (topN k) (topN (k + 1)) 0 A c A' c' w5.heap.size k wr HW.out.2.1 HW.out.1.rooms (IntWalk.u8_in _ (by omega)) (fun W h1 h2 => ?_) (fun z28 z29 z30 z31 z32 z33 z34 z35 z36 g8 B3 d3 B4 d4 V2 hb hx hg hrw => ?_)
      · have := Add_n (topN k) _ k ((k : Int), 1) true W h1 h2 (by omega) (by unfold refOk; dsimp only; omega)
        rw [topN_add (by omega)] at this
        exact this
      refine (‹∀ (a : Act) (w : World), Code.wp Tryd.prog _ _ a w → _› _ _ ?_)
      have hbx := HW.out.2.1.below hb
      have hno : w5.heap.size ∉ rowsOf ((topN (k + 1)).v B3 d3 B4 d4) := fun h2 => by
        have h3 := (hrw _ h2).1
        have h4 := HW.out.2.1.lt
        omega
      obtain ⟨VV, hV, hgr, hbn⟩ := store_node (W := V2) (g := w5.heap.size) (t := 27) hbx.blk rfl hx.node hno
      have HF := Lib.hid (And.intro ((HW.out.1.on hb).off HR.out hgr HOFF.out.2 HOFF.out.1) (And.intro hbn hno))
      obtain ⟨n0, n1, n2, n3, n4, n5⟩ := hx.cells
      obtain ⟨d0, d1', d2', d3', d4', d5'⟩ := hbx.cells
      obtain ⟨fz0, fz1, fz2, fz3, fz4, fz5⟩ := hbx.frozen
      have l6 := hbx.lt
      clear hb hx hg hrw hbx hno hgr hbn HW
      go_wp2
      rw [← hV]
      go_roundw
      case rel => exact ⟨k + 1, by omega, by go_num, _, _, _, _, HF⟩
      case measure => simp [intOf]; omega
    · obtain rfl : k = 17 := by omega
      have HT : Hid ((topN 17).isAnchor = true ∧ (topN 17).isRight = false ∧ (topN 17).kind = 5 ∧ (topN 17).kids.length = 17) := Lib.hid ⟨top17_anchor, top17_right, rfl, top17_len⟩
      generalize topN 17 = t at HW HT
      have D5 : Ctx w [⟨w5.heap.size, t, A, c, A', c'⟩, ⟨w3.heap.size, b, A3, c3, A4, c4⟩, ⟨g2, a, B1, d1, B2, d2⟩, ⟨w1.heap.size, m, A1, c1, A2, c2⟩] wr := ⟨HW.out.1.below, HW.out.1.rooms, fun q hm => by
        rcases List.mem_cons.1 hm with rfl | hm
        · exact ⟨HOFF.out.2, HW.out.2.1⟩
        · exact HW.out.1.box q hm⟩
      have C5 := Lib.hid D5
      clear D5 HW HOFF
      have hfu := Full_n m _ wr C5.out.b3.node C5.out.rooms
      rw [HM.out.1] at hfu
      have HFU := Lib.hid hfu
      obtain ⟨e0, e1, e2, e3, e4, e5⟩ := C5.out.b3.cells
      clear hfu
      unfold Nd.v at HFU
      go_wp2_with fail
      refine HFU.out.mono ?_
      rintro e wa ⟨rfl, hb⟩
      have C6 := Lib.hid (C5.out.on hb)
      clear hb C5 HFU e0 e1 e2 e3 e4 e5
      have hfu := Right_no m _ wa C6.out.b3.node C6.out.rooms HM.out.2.2
      rw [HM.out.2.1] at hfu
      have HFU := Lib.hid hfu
      obtain ⟨e0, e1, e2, e3, e4, e5⟩ := C6.out.b3.cells
      clear hfu
      unfold Nd.v at HFU
      go_wp2_with fail
      refine HFU.out.mono ?_
      rintro e wb ⟨rfl, hb⟩
      have C7 := Lib.hid (C6.out.on hb)
      clear hb C6 HFU e0 e1 e2 e3 e4 e5
      obtain ⟨ad, rfl, b0⟩ := box_byte0 C7.out.b2 HK2.out.2.2
      have b0' : wb.cell? ad = some (.int .u8 ((0 : Nat) : Int)) := b0
      obtain ⟨e0, e1, e2, e3, e4, e5⟩ := C7.out.b2.cells
      obtain ⟨x0, x1, x2, x3, x4, x5⟩ := C7.out.b1.cells
      obtain ⟨t0, t1, t2, t3, t4, t5⟩ := C7.out.b0.cells
      rw [HK2.out.1] at e0
      rw [HK2.out.2.2] at e4
      rw [HK2.out.2.1] at e5
      rw [HB.out.1] at x0
      rw [HB.out.2] at x5
      have hfu := Anchor_n t _ wb C7.out.b0.node C7.out.rooms
      rw [HT.out.1] at hfu
      have HFU := Lib.hid hfu
      clear hfu
      unfold Nd.v at HFU
      have kt := HT.out.2.2.1
      have lt := HT.out.2.2.2
      rw [kt] at t0 HFU
      rw [lt] at t5 HFU
      go_wp2_with fail
      refine HFU.out.mono ?_
      rintro e wc ⟨rfl, hb⟩
      have C8 := Lib.hid (C7.out.on hb)
      clear hb C7 HFU e0 e1 e2 e3 e4 e5 x0 x1 x2 x3 x4 x5 t0 t1 t2 t3 t4 t5 b0 b0'
      have hfu := Right_no t _ wc C8.out.b0.node C8.out.rooms (by rw [kt]; decide)
      rw [HT.out.2.1] at hfu
      have HFU := Lib.hid hfu
      obtain ⟨e0, e1, e2, e3, e4, e5⟩ := C8.out.b0.cells
      clear hfu
      unfold Nd.v at HFU
      rw [kt] at e0 HFU
      rw [lt] at e5 HFU
      go_wp2_with fail
      refine HFU.out.mono ?_
      rintro e wd ⟨rfl, hb⟩
      have HE := Lib.hid (C8.out.on hb).below
      clear hb C8 HFU e0 e1 e2 e3 e4 e5
      go_wp2
      go_ret
      exact ⟨rfl, HE.out⟩
end Go.Proofs.YtgjgcbemgmkncaaDoor
namespace Go.Proofs.YtgjgcbemgmkncaaDoor
open Go.RowKit Go.Shelf
set_option linter.unusedVariables false
set_option linter.unusedSimpArgs false

def pNd : Nd := ⟨0, { data := #[] }, { data := #[] }, { data := #[112] }, [], []⟩
def hasL (f : Kids) : List Value := (List.range 256).map fun b => .bool (f b).isSome
theorem hasL_at (f : Kids) {b : Nat} (hb : b < 256) : (hasL f)[b]? = some (.bool (f b).isSome) := by simp [hasL, hb]
theorem hasL_set (f : Kids) (b : Nat) (o : Option (Int × Int)) : (hasL f).set b (.bool o.isSome) = hasL (setK f b o) := by
  unfold hasL
  rw [map_set_range]
  refine List.map_congr_left fun x _ => ?_
  unfold setK
  split <;> rfl
/-- The two nodes and the table of bytes. -/
structure GrW (w : World) (g5 g6 g7 : Nat) (f g : Kids) (W : World) : Prop where
  below : Below w.heap.size w W
  rooms : RoomsAt W
  top : ∃ A c A' c', BoxAt W g5 (ofNd zeroNd f 5) A c A' c' ∧ ∀ r ∈ rowsOf ((ofNd zeroNd f 5).v A c A' c'), r ≠ g5 ∧ r ≠ g6 ∧ r ≠ g7
  low : ∃ A c A' c', BoxAt W g6 (ofNd pNd g (kindK g)) A c A' c' ∧ ∀ r ∈ rowsOf ((ofNd pNd g (kindK g)).v A c A' c'), r ≠ g5 ∧ r ≠ g6 ∧ r ≠ g7
  has : Blk W g7 29 (hasL f).toArray
  ge : w.heap.size ≤ g5 ∧ w.heap.size ≤ g6 ∧ w.heap.size ≤ g7
  ne : g5 ≠ g6 ∧ g5 ≠ g7 ∧ g6 ≠ g7
  fok : KidsOk f
  gok : KidsOk g
  two : g 0 = some (0, 1) ∧ g 255 = some (1, 1)
section
variable {w W W' V : World} {g5 g6 g7 : Nat} {f g : Kids}
theorem GrW.on (h : GrW w g5 g6 g7 f g W) (hb : Below W.heap.size W W') : GrW w g5 g6 g7 f g W' := by
  obtain ⟨h1, h2, ⟨A, c, A', c', h3, h3r⟩, ⟨B, d, B', d', h4, h4r⟩, h5, h6, h7, h8, h9, h10⟩ := h
  exact ⟨h1.trans (hb.mono h1.size), h2.on hb, ⟨A, c, A', c', h3.below hb, h3r⟩, ⟨B, d, B', d', h4.below hb, h4r⟩, h5.below hb h5.lt, h6, h7, h8, h9, h10⟩
theorem GrW.drew (h : GrW w g5 g6 g7 f g W) : GrW w g5 g6 g7 f g W.drew := h.on (Below.refl _ _).drew
theorem cnt_two {g : Kids} (h : g 0 = some (0, 1) ∧ g 255 = some (1, 1)) : 2 ≤ cntK g := by
  unfold cntK
  rw [kids_split g 1 (by decide), List.length_append]
  have h1 : (lowK g 1).length = 1 := by rw [low_succK]; simp [lowK, kidsIn, h.1]
  have h2 : highK g 1 ≠ [] := by
    intro e
    have h3 : ((255 : Nat), ((1 : Int), (1 : Int))) ∈ highK g 1 := mem_kidsIn.2 ⟨by
      have : (255 : Nat) ∈ (List.range 256).drop 1 := by decide
      exact this, h.2⟩
    rw [e] at h3
    cases h3
  have h4 : 0 < (highK g 1).length := List.length_pos_iff.2 h2
  omega
theorem pNd_path : pNd.path.size ≤ 34 := by decide
/-- Behind the stores of another top and of its byte. -/
theorem GrW.turned (h : GrW w g5 g6 g7 f g W) (hr0 : RoomsAt w) {b : Nat} {o : Option (Int × Int)} (hb : b < 256) (hf : KidsOk (setK f b o)) {A A' : Option Addr} {c c' : Nat} (hg : W.grownBy V (some g5)) (hn : BoxAt V g5 (ofNd zeroNd (setK f b o) 5) A c A' c') (hr : ∀ r ∈ rowsOf ((ofNd zeroNd (setK f b o) 5).v A c A' c'), r ≠ g5 ∧ r ≠ g6 ∧ r ≠ g7) :
    GrW w g5 g6 g7 (setK f b o) g (V.setCell ⟨g7, b, none⟩ (.bool o.isSome)) := by
  obtain ⟨h1, h2, _, ⟨B, d, B', d', h4, h4r⟩, h5, h6, h7, h8, h9, h10⟩ := h
  have hg2 : V.grownBy (V.setCell ⟨g7, b, none⟩ (.bool o.isSome)) (some g7) := grown_setCell ⟨rfl, rfl, rfl, Nat.le_refl _, fun _ _ _ => rfl⟩ b _
  have hbel : Below w.heap.size w (V.setCell ⟨g7, b, none⟩ (.bool o.isSome)) := (h1.grown hg h1.size (fun k e => by injection e with e; omega)).grown hg2 (Nat.le_trans h1.size hg.size) (fun k e => by injection e with e; omega)
  refine ⟨hbel, hr0.on hbel, ⟨A, c, A', c', hn.off hg2 h7.2.1 (fun hm => (hr _ hm).2.2 rfl), hr⟩, ⟨B, d, B', d', (h4.off hg (Ne.symm h7.1) (fun hm => (h4r _ hm).1 rfl)).off hg2 h7.2.2 (fun hm => (h4r _ hm).2.2 rfl), h4r⟩, ?_, h6, h7, hf, h9, h10⟩
  have q := (h5.grown hg (fun e => h7.2.1 (by injection e with e; exact e.symm))).set_ b (.bool o.isSome)
  rw [List.setIfInBounds_toArray, hasL_set] at q
  exact q
/-- Behind the store of another low node. -/
theorem GrW.lowered (h : GrW w g5 g6 g7 f g W) (hr0 : RoomsAt w) {g' : Kids} (hf : KidsOk g') (ht : g' 0 = some (0, 1) ∧ g' 255 = some (1, 1)) {A A' : Option Addr} {c c' : Nat} (hg : W.grownBy V (some g6)) (hn : BoxAt V g6 (ofNd pNd g' (kindK g')) A c A' c') (hr : ∀ r ∈ rowsOf ((ofNd pNd g' (kindK g')).v A c A' c'), r ≠ g5 ∧ r ≠ g6 ∧ r ≠ g7) :
    GrW w g5 g6 g7 f g' V := by
  obtain ⟨h1, h2, ⟨B, d, B', d', h4, h4r⟩, _, h5, h6, h7, h8, h9, h10⟩ := h
  have hbel : Below w.heap.size w V := h1.grown hg h1.size (fun k e => by injection e with e; omega)
  exact ⟨hbel, hr0.on hbel, ⟨B, d, B', d', h4.off hg h7.1 (fun hm => (h4r _ hm).2.1 rfl), h4r⟩, ⟨A, c, A', c', hn, hr⟩, h5.grown hg (fun e => h7.2.2 (by injection e with e; exact e.symm)), h6, h7, h8, hf, ht⟩
end
theorem kid_ref {i : Nat} (h : i < 256) : kidN ((i : Int), 1) = true ∧ refOk ((i : Int), 1) := by
  refine ⟨by unfold kidN; simp; omega, ?_⟩
  unfold refOk
  dsimp only
  omega
end Go.Proofs.YtgjgcbemgmkncaaDoor
namespace Go.Proofs.YtgjgcbemgmkncaaDoor
open Go.RowKit Go.Shelf
set_option linter.unusedVariables false
set_option linter.unusedSimpArgs false

theorem wp_alloc_one {P : Program} {id : Nat} {o : Oper} {a : Act} {w : World} {Q : Exit → Act → World → Prop} (ty : TypeId) (ho : o.op = .alloc ty) (hgd : o.guard = none) (Z : Array Value) (hz : (zeroValue ty).run P w = .ok (.agg Z) w)
    (h : Q .normal (a.put o.dst (.pointer (some ⟨w.heap.size, 0, none⟩))) (w.alloc (.cells Z ty))) : (Code.region id #[o] false).wp P Q a w := by
  refine wp_region_list ?_
  refine wpList_plain hgd fun K hK => ?_
  unfold Oper.wp execOp
  simp [ho, Instr.alloc, hz, newVar, newRow, Value.cells]
  exact hK _ _ (wpList_nil h)
end Go.Proofs.YtgjgcbemgmkncaaDoor
