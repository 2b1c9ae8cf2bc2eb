/-
  Walks, layer 7: Put, Take, Turn, Room, New.
-/
import Derived.Test.YtmcpfhhggapkcaaFewW3
namespace Go.Proofs.Ytmcpfhhggapkcaa
open Go.RowKit
set_option linter.unusedVariables false
set_option linter.unusedSimpArgs false

/-- A row's room, and how many kids it may have. -/
def FewO.fits (o : FewO) : Prop := o.ok ∧ 0 < o.room ∧ o.room ≤ 16 ∧ (o.n : Int) ≤ o.room
def FewO.putM (o : FewO) (b : Int) (r : Int × Int) : Int × FewO := if o.has b = true then (8, o) else if (o.n : Int) = o.room then (14, o) else (0, o.put (o.idx b) b r)
def FewO.turn (o : FewO) (i : Nat) (r : Int × Int) : FewO := ⟨o.bs, o.rs.set i r, o.n, o.room⟩
def FewO.turnM (o : FewO) (b : Int) (r : Int × Int) : Int × FewO := if o.has b = true then (0, o.turn (o.idx b) r) else (5, o)
def FewO.takeM (o : FewO) (b : Int) : ((Int × Int) × Int) × FewO := if o.has b = true then ((o.rs.getD (o.idx b) (0, 0), 0), o.take (o.idx b)) else (((0, 0), 5), o)
theorem ModEnd.of_below {v : Value} {g : Nat} {o : FewO} {w w' : World} (h : Blk w g 66 o.cells.toArray) (hb : Below w.heap.size w w') : ModEnd v g o w (.returned v) w' := ⟨rfl, h.below hb h.lt, below_grown (g := g) hb g⟩

theorem grown_new {a w : World} {g i : Nat} (h : a.grownBy w (some g)) (hi : a.heap.size ≤ i) (k : Nat) (u : Value) : a.grownBy (w.setCell ⟨i, k, none⟩ u) (some g) :=
  ⟨h.os, h.tape, h.output, by simpa [World.setCell] using h.size, fun j hj hne => (Below.heap_setCell w ⟨i, k, none⟩ u j (fun e => by have e : j = i := e; omega)).trans (h.block j hj hne)⟩
set_option maxHeartbeats 1600000 in
set_option maxRecDepth 100000 in
theorem Put_any (o : FewO) (b : Int) (r : Int × Int) (g : Nat) (w : World) (ho : o.fits) (hg : Blk w g 66 o.cells.toArray) (hb : 0 ≤ b ∧ b ≤ 255) :
    Calls Try.prog 10 #[.pointer (some ⟨g, 0, none⟩), .int .u8 b, refV r] w (ModEnd (.int .i64 (o.putM b r).1) g (o.putM b r).2 w) := by
  obtain ⟨ho, hr0, hr1, hr2⟩ := ho
  have hg1 := hg.alloc (.cells #[.int .i64 r.1, .int .u32 r.2] 31)
  have hgr := Blk.new w 31 #[.int .i64 r.1, .int .u32 r.2]
  have hbel := below_box w (.cells #[.int .i64 r.1, .int .u32 r.2] 31)
  have hlg := hg.lt
  have HG0 := Lib.hid hg
  generalize hW : w.alloc (.cells #[.int .i64 r.1, .int .u32 r.2] 31) = W at hg1 hgr hbel
  obtain ⟨n0, n1⟩ := few_cells ho hg1
  have ht := there_some g o.room W n1
  rw [decide_eq_true hr0] at ht
  have HA := Lib.hid (at_any o b g W ho hg1 hb)
  have HT := Lib.hid ht
  have HO := Lib.hid (And.intro ho hb)
  have HG := Lib.hid (And.intro hg1 (And.intro hgr hbel))
  have HW := Lib.hid hW
  have hle := FewO.idx_le ho b
  have hln := ho.ln
  clear ht hg hg1 hgr hbel ho hW n0 n1 hb
  obtain ⟨d, hd⟩ : ∃ d, o.has b = d := ⟨_, rfl⟩
  rw [hd] at HA
  have HD := Lib.hid hd
  clear hd
  go_enter Try.func10, Try.ntmps10
  go_wp2_with fail
  rw [HW.out]
  refine HT.out.mono ?_
  rintro e w1 ⟨rfl, rfl⟩
  clear HT HW
  go_wp2_with fail
  refine HA.out.mono ?_
  rintro e w1 ⟨rfl, hb1⟩
  clear HA
  obtain ⟨hg1, hgr, hbel⟩ := HG.out
  have hg1 := hg1.below hb1 hg1.lt
  have hgr := hgr.below hb1 hgr.lt
  have hbel := below_trans hbel hb1
  obtain ⟨n0, n1⟩ := few_cells HO.out.1 hg1
  clear hb1 HG
  cases d with
  | true =>
    have hfin : o.putM b r = (8, o) := by unfold FewO.putM; rw [if_pos HD.out]
    have HF := Lib.hid (And.intro hfin hbel)
    clear hfin hg1 hgr hbel
    go_wp2
    go_ret
    rw [HF.out.1]
    exact ModEnd.of_below HG0.out HF.out.2
  | false =>
    have hnh : ¬ o.has b = true := by rw [HD.out]; simp
    by_cases hf : (o.n : Int) = o.room
    · have hfin : o.putM b r = (14, o) := by unfold FewO.putM; rw [if_neg hnh, if_pos hf]
      have HF := Lib.hid (And.intro hfin hbel)
      have hfb : ((o.n : Int) == o.room) = true := beq_iff_eq.2 hf
      clear hfin hg1 hgr hbel hnh hf
      go_wp2_with fail
      go_quiet (fail)
      go_wp2
      go_ret
      rw [HF.out.1]
      exact ModEnd.of_below HG0.out (below_drewN HF.out.2 _)
    · have hfin : o.putM b r = (0, o.put (o.idx b) b r) := by unfold FewO.putM; rw [if_neg hnh, if_neg hf]
      have hlt : o.n < 16 := by omega
      have HF := Lib.hid hfin
      have hfb : ((o.n : Int) == o.room) = false := beq_eq_false_iff_ne.2 hf
      have hput := fun V h => put_any o (o.idx b) b r g V HO.out.1 h hle hlt HO.out.2
      have HP := Lib.hid hput
      have HH := Lib.hid (And.intro hg1 (And.intro hgr hbel))
      clear hfin hg1 hgr hbel hnh hf hput
      have hbox := HH.out.2.1
      have c0 := hbox.cell 0
      have c1 := hbox.cell 1
      simp at c0 c1
      go_wp2_with fail
      go_quiet (fail)
      go_wp2_with fail
      clear n0 n1
      go_region_with ((go_at_call 33; refine (HP.out _ (HH.out.1.drewN _)).mono ?_; rintro e wn ⟨rfl, hgn, hwn⟩))
      go_wp2
      go_ret
      rw [HF.out]
      exact ⟨rfl, hgn, grown_trans (below_grown (g := g) (below_drewN HH.out.2.2 _) g) hwn⟩

set_option maxHeartbeats 1600000 in
set_option maxRecDepth 100000 in
theorem Take_any (o : FewO) (b : Int) (g : Nat) (w : World) (ho : o.fits) (hg : Blk w g 66 o.cells.toArray) (hb : 0 ≤ b ∧ b ≤ 255) :
    Calls Try.prog 11 #[.pointer (some ⟨g, 0, none⟩), .int .u8 b] w (ModEnd (.tuple #[refV (o.takeM b).1.1, .int .i64 (o.takeM b).1.2]) g (o.takeM b).2 w) := by
  obtain ⟨ho, hr0, hr1, hr2⟩ := ho
  have hg1 := hg.alloc (.cells #[.int .i64 0, .int .u32 0] 31)
  have hgr := Blk.new w 31 #[.int .i64 0, .int .u32 0]
  have hbel := below_box w (.cells #[.int .i64 0, .int .u32 0] 31)
  have hlg := hg.lt
  have HG0 := Lib.hid hg
  generalize hW : w.alloc (.cells #[.int .i64 0, .int .u32 0] 31) = W at hg1 hgr hbel
  obtain ⟨n0, n1⟩ := few_cells ho hg1
  have ht := there_some g o.room W n1
  rw [decide_eq_true hr0] at ht
  have HA := Lib.hid (at_any o b g W ho hg1 hb)
  have HT := Lib.hid ht
  have HO := Lib.hid (And.intro ho hb)
  have HG := Lib.hid (And.intro hg1 (And.intro hgr hbel))
  have HW := Lib.hid hW
  have hle := FewO.idx_le ho b
  have hln := ho.ln
  clear ht hg hg1 hgr hbel ho hW n0 n1 hb
  obtain ⟨d, hd⟩ : ∃ d, o.has b = d := ⟨_, rfl⟩
  rw [hd] at HA
  have HD := Lib.hid hd
  clear hd
  go_enter Try.func11, Try.ntmps11
  go_wp2_with fail
  rw [HW.out]
  refine HT.out.mono ?_
  rintro e w1 ⟨rfl, rfl⟩
  clear HT HW
  go_wp2_with fail
  refine HA.out.mono ?_
  rintro e w1 ⟨rfl, hb1⟩
  clear HA
  obtain ⟨hg1, hgr, hbel⟩ := HG.out
  have hg1 := hg1.below hb1 hg1.lt
  have hgr := hgr.below hb1 hgr.lt
  have hbel := below_trans hbel hb1
  clear hb1 HG
  cases d with
  | true =>
    have hlt := FewO.has_lt HD.out
    obtain ⟨x, r, hx, hxb, hr2', c0, c1, c2⟩ := few_at HO.out.1 hg1 hlt
    have hfin : o.takeM b = ((r, 0), o.take (o.idx b)) := by unfold FewO.takeM; rw [if_pos HD.out, List.getD_eq_getElem?_getD, hr2']; rfl
    have i0 : (0 : Int) ≤ (o.idx b : Int) := by omega
    have i2 : (o.idx b : Int) < 16 := by omega
    have hg2 := hg1.alloc (.cells #[.int .i64 r.1, .int .u32 r.2] 31)
    have hgr2 := hgr.alloc (.cells #[.int .i64 r.1, .int .u32 r.2] 31)
    have hgb := Blk.new w1 31 #[.int .i64 r.1, .int .u32 r.2]
    have hbel2 := below_alloc hbel (.cells #[.int .i64 r.1, .int .u32 r.2] 31)
    have hlr := hgr.lt
    have HF := Lib.hid hfin
    have HH := Lib.hid (And.intro hg2 (And.intro hgr2 (And.intro hgb hbel2)))
    clear hx hr2' hfin hg1 hgr hbel hg2 hgr2 hgb hbel2 HD
    go_wp2_with fail
    refine (take_any o (o.idx b) g _ HO.out.1 HH.out.1 hlt).mono ?_
    rintro e wn ⟨rfl, hgn, hwn⟩
    have hgr3 := HH.out.2.1.grown hwn (by
      intro e
      injection e with e
      exact blk_neF HH.out.1 HH.out.2.1 (by decide) e.symm)
    have hgb3 := HH.out.2.2.1.grown hwn (by
      intro e
      injection e with e
      exact blk_neF HH.out.1 HH.out.2.2.1 (by decide) e.symm)
    have d0 := hgb3.cell 0
    have d1 := hgb3.cell 1
    have v0 := hgr3.cell 0
    have v1 := hgr3.cell 1
    have f0 := hgr3.frozen 0
    have f1 := hgr3.frozen 1
    have hge := (hgr3.set_ 0 (.int .i64 r.1)).set_ 1 (.int .u32 r.2)
    have z0 := hge.cell 0
    have z1 := hge.cell 1
    simp at d0 d1 v0 v1 z0 z1
    have hne : w.heap.size ≠ w1.heap.size := by omega
    have hne2 : w1.heap.size ≠ w.heap.size := by omega
    have hg5 := (hgn.far (p := ⟨w.heap.size, 0, none⟩) (by simp; omega) (.int .i64 r.1)).far (p := ⟨w.heap.size, 1, none⟩) (by simp; omega) (.int .u32 r.2)
    have hw5 := grown_new (grown_new (grown_trans (below_grown (g := g) HH.out.2.2.2 g) hwn) (i := w.heap.size) (Nat.le_refl _) 0 (.int .i64 r.1)) (i := w.heap.size) (Nat.le_refl _) 1 (.int .u32 r.2)
    have HE := Lib.hid (And.intro hg5 hw5)
    clear hgr3 hgb3 hge hgn hwn hg5 hw5 HH c0 c1 c2
    go_wp2_with fail
    refine bodyPost_ret (v := .tuple #[refV r, .int .i64 0]) (by simp [results, Try.results11, go_sem, *]) rfl ?_
    rw [HF.out]
    exact ⟨rfl, HE.out.1, HE.out.2⟩
  | false =>
    have hfin : o.takeM b = (((0, 0), 5), o) := by unfold FewO.takeM; rw [if_neg (by rw [HD.out]; simp)]
    have v0 := hgr.cell 0
    have v1 := hgr.cell 1
    have f0 := hgr.frozen 0
    have f1 := hgr.frozen 1
    simp at v0 v1
    have hgn := (hgr.set_ 0 (.int .i64 0)).set_ 1 (.int .u32 0)
    have z0 := hgn.cell 0
    have z1 := hgn.cell 1
    simp at z0 z1
    have HF := Lib.hid (And.intro hfin ((hbel.setCell (p := ⟨w.heap.size, 0, none⟩) (Nat.le_refl _) (.int .i64 0)).setCell (p := ⟨w.heap.size, 1, none⟩) (Nat.le_refl _) (.int .u32 0)))
    clear hfin hgn hg1 hgr hbel HD
    go_wp2_with fail
    refine bodyPost_ret (v := .tuple #[refV (0, 0), .int .i64 5]) (by simp [results, Try.results11, go_sem, *]) rfl ?_
    rw [HF.out.1]
    exact ModEnd.of_below HG0.out HF.out.2

set_option maxHeartbeats 1600000 in
set_option maxRecDepth 100000 in
theorem Turn_any (o : FewO) (b : Int) (r : Int × Int) (g : Nat) (w : World) (ho : o.fits) (hg : Blk w g 66 o.cells.toArray) (hb : 0 ≤ b ∧ b ≤ 255) :
    Calls Try.prog 28 #[.pointer (some ⟨g, 0, none⟩), .int .u8 b, refV r] w (ModEnd (.int .i64 (o.turnM b r).1) g (o.turnM b r).2 w) := by
  obtain ⟨ho, hr0, hr1, hr2⟩ := ho
  have hg1 := hg.alloc (.cells #[.int .i64 r.1, .int .u32 r.2] 31)
  have hgr := Blk.new w 31 #[.int .i64 r.1, .int .u32 r.2]
  have hbel := below_box w (.cells #[.int .i64 r.1, .int .u32 r.2] 31)
  have hlg := hg.lt
  have HG0 := Lib.hid hg
  generalize hW : w.alloc (.cells #[.int .i64 r.1, .int .u32 r.2] 31) = W at hg1 hgr hbel
  obtain ⟨n0, n1⟩ := few_cells ho hg1
  have ht := there_some g o.room W n1
  rw [decide_eq_true hr0] at ht
  have HA := Lib.hid (at_any o b g W ho hg1 hb)
  have HT := Lib.hid ht
  have HO := Lib.hid (And.intro ho hb)
  have HG := Lib.hid (And.intro hg1 (And.intro hgr hbel))
  have HW := Lib.hid hW
  have hle := FewO.idx_le ho b
  have hln := ho.ln
  clear ht hg hg1 hgr hbel ho hW n0 n1 hb
  obtain ⟨d, hd⟩ : ∃ d, o.has b = d := ⟨_, rfl⟩
  rw [hd] at HA
  have HD := Lib.hid hd
  clear hd
  go_enter Try.func28, Try.ntmps28
  go_wp2_with fail
  rw [HW.out]
  refine HT.out.mono ?_
  rintro e w1 ⟨rfl, rfl⟩
  clear HT HW
  go_wp2_with fail
  refine HA.out.mono ?_
  rintro e w1 ⟨rfl, hb1⟩
  clear HA
  obtain ⟨hg1, hgr, hbel⟩ := HG.out
  have hg1 := hg1.below hb1 hg1.lt
  have hgr := hgr.below hb1 hgr.lt
  have hbel := below_trans hbel hb1
  clear hb1 HG
  cases d with
  | true =>
    have hlt := FewO.has_lt HD.out
    have hfin : o.turnM b r = (0, o.turn (o.idx b) r) := by unfold FewO.turnM; rw [if_pos HD.out]
    obtain ⟨x, q, hx0, hx1, hx2⟩ := few_slot HO.out.1 hg1 (show o.idx b < 16 by omega)
    have y1 := hg1.frozen (16 + o.idx b * 2)
    have y2 := hg1.frozen (16 + o.idx b * 2 + 1)
    have i0 : (0 : Int) ≤ (o.idx b : Int) := by omega
    have i2 : (o.idx b : Int) < 16 := by omega
    have d0 := hgr.cell 0
    have d1 := hgr.cell 1
    simp at d0 d1
    have hN := (hg1.set_ (16 + o.idx b * 2) (.int .i64 r.1)).set_ (16 + o.idx b * 2 + 1) (.int .u32 r.2)
    simp only [List.setIfInBounds_toArray] at hN
    rw [cells_setR HO.out.1 r (by omega)] at hN
    have hR := grown_setCell (grown_setCell (below_grown (g := g) hbel g) (16 + o.idx b * 2) (.int .i64 r.1)) (16 + o.idx b * 2 + 1) (.int .u32 r.2)
    have HE := Lib.hid (And.intro hN hR)
    have HF := Lib.hid hfin
    clear hfin hg1 hgr hbel hN hR HD
    go_wp2_with fail
    go_region
    go_wp2
    go_ret
    rw [HF.out]
    exact ⟨rfl, HE.out.1.drew, grown_drew HE.out.2⟩
  | false =>
    have hfin : o.turnM b r = (5, o) := by unfold FewO.turnM; rw [if_neg (by rw [HD.out]; simp)]
    have HF := Lib.hid (And.intro hfin hbel)
    clear hfin hg1 hgr hbel HD
    go_wp2
    go_ret
    rw [HF.out.1]
    exact ModEnd.of_below HG0.out HF.out.2

theorem room_any (o : FewO) (g : Nat) (w : World) (ho : o.fits) (hg : Blk w g 66 o.cells.toArray) : Calls Try.prog 29 #[.pointer (some ⟨g, 0, none⟩)] w (StayEnd (.int .i64 o.room) w) := by
  obtain ⟨n0, n1⟩ := few_cells ho.1 hg
  have ht := there_some g o.room w n1
  rw [decide_eq_true ho.2.1] at ht
  have HT := Lib.hid ht
  clear ht hg ho n0
  go_enter Try.func29, Try.ntmps29
  go_wp2_with fail
  refine HT.out.mono ?_
  rintro e w1 ⟨rfl, rfl⟩
  go_wp2
  go_ret
  exact ⟨rfl, rfl⟩
end Go.Proofs.Ytmcpfhhggapkcaa
