/-
  Walks: awake of layer 29's statements.
-/
import Derived.Test.YtocmmcbhonhgnaaEnoughW
namespace Go.Proofs.Ytocmmcbhonhgnaa
open Go.RowKit
set_option linter.unusedVariables false

/-- A request of the chapter's examples: a deed of the key ab. -/
abbrev exR (d l : Int) : Req := ⟨d, 0, 0, 0, ⟨#[97, 98]⟩, ⟨#[]⟩, ⟨#[]⟩, l, 0, 0, 0, 0⟩

theorem ex1 : wayOf (exR 1 0) = 19 := by decide +kernel
theorem ex2 : wayOf (exR 2 0) = 22 := by decide +kernel
theorem ex3 : wayOf (exR 3 0) = 25 := by decide +kernel
theorem ex5 : wayOf (exR 5 2) = 139 := by decide +kernel
theorem exb1 : boundOf (exR 2 0) 0 = 23 := by decide +kernel
theorem exb2 : boundOf (exR 2 0) 2 = 67 := by decide +kernel
theorem exb3 : boundOf (exR 5 2) 1 = 10149 := by decide +kernel
theorem exe1 : enoughOf (exR 1 0) 0 0 = 21 := by decide +kernel
theorem exe2 : enoughOf (exR 5 2) 0 0 = 3337 := by decide +kernel
theorem exf1 : fairB (exR 2 0) 24 0 0 1 = true := by decide +kernel
theorem exf2 : fairB (exR 2 0) 25 0 0 1 = false := by decide +kernel
theorem exf3 : fairB (exR 2 0) 20 2 0 0 = false := by decide +kernel

/-- The three requests of the examples lie where they were laid. -/
structure Three (w W : World) : Prop where
  h1 : Blk W w.heap.size 31 (exR 1 0).row.toArray
  h2 : Blk W (w.heap.size + 1) 31 (exR 2 0).row.toArray
  h3 : Blk W (w.heap.size + 1 + 1) 31 (exR 5 2).row.toArray
  bel : Below w.heap.size w W
theorem Three.next {w W W' : World} (h : Three w W) (hb : Below W.heap.size W W') : Three w W' :=
  ⟨h.h1.below hb h.h1.lt, h.h2.below hb h.h2.lt, h.h3.below hb h.h3.lt, below_trans h.bel hb⟩
theorem Three.mk0 (w : World) : Three w (((w.alloc (.cells (exR 1 0).row.toArray 31)).alloc (.cells (exR 2 0).row.toArray 31)).alloc (.cells (exR 5 2).row.toArray 31)) :=
  ⟨((Blk.new _ _ _).alloc _).alloc _, by have := (Blk.new (w.alloc (.cells (exR 1 0).row.toArray 31)) 31 (exR 2 0).row.toArray).alloc (.cells (exR 5 2).row.toArray 31); simpa using this,
    by have := Blk.new ((w.alloc (.cells (exR 1 0).row.toArray 31)).alloc (.cells (exR 2 0).row.toArray 31)) 31 (exR 5 2).row.toArray; simpa using this,
    below_alloc (below_alloc (below_box w _) _) _⟩

set_option maxHeartbeats 6400000 in
theorem awake_any (w : World) : Calls Try.prog 8 #[] w (BoolEnd true w) := by
  go_enter Try.func8, Try.ntmps8
  go_wp2_with fail
  have T0 := Three.mk0 w
  simp only [Req.row] at T0
  generalize (((w.alloc (Obj.cells _ 31)).alloc (Obj.cells _ 31)).alloc (Obj.cells _ 31)) = W0 at T0 ⊢
  obtain ⟨a0, a1, a2, a3, a4, a5, a6, a7, a8, a9, a10, a11⟩ := req_cells (T0.h1)
  obtain ⟨b0, b1, b2, b3, b4, b5, b6, b7, b8, b9, b10, b11⟩ := req_cells (T0.h2)
  obtain ⟨c0, c1, c2, c3, c4, c5, c6, c7, c8, c9, c10, c11⟩ := req_cells (T0.h3)
  go_wp2_with fail
  refine (way_any (exR 1 0) _).mono ?_
  rintro e w1 ⟨rfl, hb⟩
  rw [ex1]
  have T1 := T0.next hb
  clear hb T0 a0 a1 a2 a3 a4 a5 a6 a7 a8 a9 a10 a11 b0 b1 b2 b3 b4 b5 b6 b7 b8 b9 b10 b11 c0 c1 c2 c3 c4 c5 c6 c7 c8 c9 c10 c11
  obtain ⟨a0, a1, a2, a3, a4, a5, a6, a7, a8, a9, a10, a11⟩ := req_cells (T1.h1)
  obtain ⟨b0, b1, b2, b3, b4, b5, b6, b7, b8, b9, b10, b11⟩ := req_cells (T1.h2)
  obtain ⟨c0, c1, c2, c3, c4, c5, c6, c7, c8, c9, c10, c11⟩ := req_cells (T1.h3)
  go_wp2_with fail
  refine (way_any (exR 2 0) _).mono ?_
  rintro e w2 ⟨rfl, hb⟩
  rw [ex2]
  have T2 := T1.next hb
  clear hb T1 a0 a1 a2 a3 a4 a5 a6 a7 a8 a9 a10 a11 b0 b1 b2 b3 b4 b5 b6 b7 b8 b9 b10 b11 c0 c1 c2 c3 c4 c5 c6 c7 c8 c9 c10 c11
  obtain ⟨a0, a1, a2, a3, a4, a5, a6, a7, a8, a9, a10, a11⟩ := req_cells (T2.h1)
  obtain ⟨b0, b1, b2, b3, b4, b5, b6, b7, b8, b9, b10, b11⟩ := req_cells (T2.h2)
  obtain ⟨c0, c1, c2, c3, c4, c5, c6, c7, c8, c9, c10, c11⟩ := req_cells (T2.h3)
  go_wp2_with fail
  refine (way_any (exR 3 0) _).mono ?_
  rintro e w3 ⟨rfl, hb⟩
  rw [ex3]
  have T3 := T2.next hb
  clear hb T2 a0 a1 a2 a3 a4 a5 a6 a7 a8 a9 a10 a11 b0 b1 b2 b3 b4 b5 b6 b7 b8 b9 b10 b11 c0 c1 c2 c3 c4 c5 c6 c7 c8 c9 c10 c11
  obtain ⟨a0, a1, a2, a3, a4, a5, a6, a7, a8, a9, a10, a11⟩ := req_cells (T3.h1)
  obtain ⟨b0, b1, b2, b3, b4, b5, b6, b7, b8, b9, b10, b11⟩ := req_cells (T3.h2)
  obtain ⟨c0, c1, c2, c3, c4, c5, c6, c7, c8, c9, c10, c11⟩ := req_cells (T3.h3)
  go_wp2_with fail
  refine (way_any (exR 5 2) _).mono ?_
  rintro e w4 ⟨rfl, hb⟩
  rw [ex5]
  have T4 := T3.next hb
  clear hb T3 a0 a1 a2 a3 a4 a5 a6 a7 a8 a9 a10 a11 b0 b1 b2 b3 b4 b5 b6 b7 b8 b9 b10 b11 c0 c1 c2 c3 c4 c5 c6 c7 c8 c9 c10 c11
  obtain ⟨a0, a1, a2, a3, a4, a5, a6, a7, a8, a9, a10, a11⟩ := req_cells (T4.h1)
  obtain ⟨b0, b1, b2, b3, b4, b5, b6, b7, b8, b9, b10, b11⟩ := req_cells (T4.h2)
  obtain ⟨c0, c1, c2, c3, c4, c5, c6, c7, c8, c9, c10, c11⟩ := req_cells (T4.h3)
  go_wp2_with fail
  refine (bound_any (exR 2 0) 0 _).mono ?_
  rintro e w5 ⟨rfl, hb⟩
  rw [exb1]
  have T5 := T4.next hb
  clear hb T4 a0 a1 a2 a3 a4 a5 a6 a7 a8 a9 a10 a11 b0 b1 b2 b3 b4 b5 b6 b7 b8 b9 b10 b11 c0 c1 c2 c3 c4 c5 c6 c7 c8 c9 c10 c11
  obtain ⟨a0, a1, a2, a3, a4, a5, a6, a7, a8, a9, a10, a11⟩ := req_cells (T5.h1)
  obtain ⟨b0, b1, b2, b3, b4, b5, b6, b7, b8, b9, b10, b11⟩ := req_cells (T5.h2)
  obtain ⟨c0, c1, c2, c3, c4, c5, c6, c7, c8, c9, c10, c11⟩ := req_cells (T5.h3)
  go_wp2_with fail
  refine (bound_any (exR 2 0) 2 _).mono ?_
  rintro e w6 ⟨rfl, hb⟩
  rw [exb2]
  have T6 := T5.next hb
  clear hb T5 a0 a1 a2 a3 a4 a5 a6 a7 a8 a9 a10 a11 b0 b1 b2 b3 b4 b5 b6 b7 b8 b9 b10 b11 c0 c1 c2 c3 c4 c5 c6 c7 c8 c9 c10 c11
  obtain ⟨a0, a1, a2, a3, a4, a5, a6, a7, a8, a9, a10, a11⟩ := req_cells (T6.h1)
  obtain ⟨b0, b1, b2, b3, b4, b5, b6, b7, b8, b9, b10, b11⟩ := req_cells (T6.h2)
  obtain ⟨c0, c1, c2, c3, c4, c5, c6, c7, c8, c9, c10, c11⟩ := req_cells (T6.h3)
  go_wp2_with fail
  refine (bound_any (exR 5 2) 1 _).mono ?_
  rintro e w7 ⟨rfl, hb⟩
  rw [exb3]
  have T7 := T6.next hb
  clear hb T6 a0 a1 a2 a3 a4 a5 a6 a7 a8 a9 a10 a11 b0 b1 b2 b3 b4 b5 b6 b7 b8 b9 b10 b11 c0 c1 c2 c3 c4 c5 c6 c7 c8 c9 c10 c11
  obtain ⟨a0, a1, a2, a3, a4, a5, a6, a7, a8, a9, a10, a11⟩ := req_cells (T7.h1)
  obtain ⟨b0, b1, b2, b3, b4, b5, b6, b7, b8, b9, b10, b11⟩ := req_cells (T7.h2)
  obtain ⟨c0, c1, c2, c3, c4, c5, c6, c7, c8, c9, c10, c11⟩ := req_cells (T7.h3)
  go_wp2_with fail
  refine (enough_any (exR 1 0) 0 0 _).mono ?_
  rintro e w8 ⟨rfl, hb⟩
  rw [exe1]
  have T8 := T7.next hb
  clear hb T7 a0 a1 a2 a3 a4 a5 a6 a7 a8 a9 a10 a11 b0 b1 b2 b3 b4 b5 b6 b7 b8 b9 b10 b11 c0 c1 c2 c3 c4 c5 c6 c7 c8 c9 c10 c11
  obtain ⟨a0, a1, a2, a3, a4, a5, a6, a7, a8, a9, a10, a11⟩ := req_cells (T8.h1)
  obtain ⟨b0, b1, b2, b3, b4, b5, b6, b7, b8, b9, b10, b11⟩ := req_cells (T8.h2)
  obtain ⟨c0, c1, c2, c3, c4, c5, c6, c7, c8, c9, c10, c11⟩ := req_cells (T8.h3)
  go_wp2_with fail
  refine (enough_any (exR 5 2) 0 0 _).mono ?_
  rintro e w9 ⟨rfl, hb⟩
  rw [exe2]
  have T9 := T8.next hb
  clear hb T8 a0 a1 a2 a3 a4 a5 a6 a7 a8 a9 a10 a11 b0 b1 b2 b3 b4 b5 b6 b7 b8 b9 b10 b11 c0 c1 c2 c3 c4 c5 c6 c7 c8 c9 c10 c11
  obtain ⟨a0, a1, a2, a3, a4, a5, a6, a7, a8, a9, a10, a11⟩ := req_cells (T9.h1)
  obtain ⟨b0, b1, b2, b3, b4, b5, b6, b7, b8, b9, b10, b11⟩ := req_cells (T9.h2)
  obtain ⟨c0, c1, c2, c3, c4, c5, c6, c7, c8, c9, c10, c11⟩ := req_cells (T9.h3)
  go_wp2_with fail
  refine (fair_any (exR 2 0) 24 0 0 1 _).mono ?_
  rintro e w10 ⟨rfl, hb⟩
  rw [exf1]
  have T10 := T9.next hb
  clear hb T9 a0 a1 a2 a3 a4 a5 a6 a7 a8 a9 a10 a11 b0 b1 b2 b3 b4 b5 b6 b7 b8 b9 b10 b11 c0 c1 c2 c3 c4 c5 c6 c7 c8 c9 c10 c11
  obtain ⟨a0, a1, a2, a3, a4, a5, a6, a7, a8, a9, a10, a11⟩ := req_cells (T10.h1)
  obtain ⟨b0, b1, b2, b3, b4, b5, b6, b7, b8, b9, b10, b11⟩ := req_cells (T10.h2)
  obtain ⟨c0, c1, c2, c3, c4, c5, c6, c7, c8, c9, c10, c11⟩ := req_cells (T10.h3)
  go_wp2_with fail
  refine (fair_any (exR 2 0) 25 0 0 1 _).mono ?_
  rintro e w11 ⟨rfl, hb⟩
  rw [exf2]
  have T11 := T10.next hb
  clear hb T10 a0 a1 a2 a3 a4 a5 a6 a7 a8 a9 a10 a11 b0 b1 b2 b3 b4 b5 b6 b7 b8 b9 b10 b11 c0 c1 c2 c3 c4 c5 c6 c7 c8 c9 c10 c11
  obtain ⟨a0, a1, a2, a3, a4, a5, a6, a7, a8, a9, a10, a11⟩ := req_cells (T11.h1)
  obtain ⟨b0, b1, b2, b3, b4, b5, b6, b7, b8, b9, b10, b11⟩ := req_cells (T11.h2)
  obtain ⟨c0, c1, c2, c3, c4, c5, c6, c7, c8, c9, c10, c11⟩ := req_cells (T11.h3)
  go_wp2_with fail
  refine (fair_any (exR 2 0) 20 2 0 0 _).mono ?_
  rintro e w12 ⟨rfl, hb⟩
  rw [exf3]
  have T12 := T11.next hb
  clear hb T11 a0 a1 a2 a3 a4 a5 a6 a7 a8 a9 a10 a11 b0 b1 b2 b3 b4 b5 b6 b7 b8 b9 b10 b11 c0 c1 c2 c3 c4 c5 c6 c7 c8 c9 c10 c11
  go_wp2
  go_ret
  exact ⟨rfl, T12.bel⟩
end Go.Proofs.Ytocmmcbhonhgnaa
