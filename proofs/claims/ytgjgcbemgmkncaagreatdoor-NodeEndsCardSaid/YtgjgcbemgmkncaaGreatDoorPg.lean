/-
  The reference of layer 9: full, Anchor, may, Full.
  The reference of layer 9: made.
  The reference of layer 9: lists of kids cut and turned (no walk).
  The reference of layer 9: lists of kids to which one is added, or in which one is turned (no walk).
  The reference of layer 9: Find, Next.
  The reference of layer 9: Next.
  The reference of layer 9: Rest.
  append where the source reads as a list, told for a row of the call's own; make with a length and a capacity; the marks of burgagekit (layer 9's copy).
  Walks: burgagekit's functions on lists: Bytes.
  Walks: burgagekit's functions on lists: Refs.
-/
import Derived.Test.YtgjgcbemgmkncaaGreatDoorPf
import Derived.Test.YtgjgcbemgmkncaaGreatDoorPe
import Derived.Test.YtgjgcbemgmkncaaGreatDoorPb
import Derived.Maps.AppendAt
import Derived.Laws.MakeOwn
import Derived.RegionTactic
import Derived.OwnWalk
import Derived.Test.YtgjgcbemgmkncaaGreatDoorPa
namespace Go.Proofs.YtgjgcbemgmkncaaGreatDoor
open Go.RowKit Go.Shelf
set_option linter.unusedVariables false
set_option linter.unusedSimpArgs false

/-- A node in its box, at work. -/
structure RfW (w : World) (x : Nd) (Ab : Option Addr) (cb : Nat) (Ak : Option Addr) (ck : Nat) (W : World) : Prop where
  below : Below w.heap.size w W
  box : Blk W w.heap.size 26 #[.int .i64 x.kind, .string x.code, .string x.value, .string x.path, .slice Ab x.bytes.length cb, .slice Ak x.kids.length ck]
  node : NdAt W x (.agg #[.int .i64 x.kind, .string x.code, .string x.value, .string x.path, .slice Ab x.bytes.length cb, .slice Ak x.kids.length ck])
theorem RfW.start {w : World} {x : Nd} {Ab Ak : Option Addr} {cb ck : Nat} (h : NdAt w x (x.v Ab cb Ak ck)) : RfW w x Ab cb Ak ck (w.alloc (.cells #[.int .i64 x.kind, .string x.code, .string x.value, .string x.path, .slice Ab x.bytes.length cb, .slice Ak x.kids.length ck] 26)) :=
  ⟨below_box _ _, Blk.new _ _ _, h.below (below_box _ _)⟩
theorem RfW.on {w W W' : World} {x : Nd} {Ab Ak : Option Addr} {cb ck : Nat} (h : RfW w x Ab cb Ak ck W) (hb : Below W.heap.size W W') : RfW w x Ab cb Ak ck W' :=
  ⟨h.below.trans (hb.mono h.below.size), h.box.below hb h.box.lt, h.node.below hb⟩
set_option maxHeartbeats 3200000 in
theorem full_r (x : Nd) (V : Value) (w : World) (h : NdAt w x V) : Calls Tryz.prog 47 #[V] w (BoolEnd x.isRight w) := by
  obtain ⟨hwf, Ab, cb, Ak, ck, rfl, hb0, hk0⟩ := h
  have H0 := Lib.hid (RfW.start (w := w) (x := x) (Ab := Ab) (cb := cb) (Ak := Ak) (ck := ck) ⟨hwf, Ab, cb, Ak, ck, rfl, hb0, hk0⟩)
  clear hwf hb0 hk0
  unfold Nd.v
  go_enter Tryz.func47, Tryz.ntmps47
  go_wp2_with fail
  refine (Of_r (x.kids.length : Int) _).mono ?_
  rintro e w1 ⟨rfl, hb⟩
  have H1 := Lib.hid (H0.out.on hb)
  clear hb
  obtain ⟨e0, e1, e2, e3, e4, e5⟩ := cells6 H1.out.box
  have HI := Lib.hid (inner_r x _ w1 H1.out.node)
  cases hi : x.isInner with
  | false =>
    rw [hi] at HI
    have E : Hid (x.isRight = false) := Lib.hid (by unfold Nd.isRight; rw [hi]; rfl)
    clear hi
    go_wp2_with fail
    refine (HI.out).mono ?_
    rintro e w2 ⟨rfl, hb⟩
    have H2 := Lib.hid (H1.out.on hb)
    clear hb
    go_wp2
    go_ret
    exact ⟨ret_bool (by rw [E.out]), H2.out.below⟩
  | true =>
    rw [hi] at HI
    have E0 : Hid (x.isRight = (decide (1 < x.kids.length) && decide ((ofN x.kids.length).1 = x.kind))) := Lib.hid (by unfold Nd.isRight Nd.manyN Nd.fitsN; rw [hi, Bool.true_and])
    clear hi
    go_wp2_with fail
    refine (HI.out).mono ?_
    rintro e w2 ⟨rfl, hb⟩
    have H2 := Lib.hid (H1.out.on hb)
    clear hb
    clear e0 e1 e2 e3 e4 e5
    obtain ⟨e0, e1, e2, e3, e4, e5⟩ := cells6 H2.out.box
    by_cases hl : (x.kids.length : Int) ≥ 2
    · have E : Hid (x.isRight = ((ofN x.kids.length).1 == x.kind)) := Lib.hid (by rw [E0.out, decide_eq_true (show 1 < x.kids.length by omega), Bool.true_and]; rw [Bool.eq_iff_iff]; simp)
      clear E0
      generalize (ofN (x.kids.length : Int)).1 = o at E ⊢
      go_wp2
      go_ret
      exact ⟨ret_bool (by rw [E.out]), H2.out.below⟩
    · have E : Hid (x.isRight = false) := Lib.hid (by rw [E0.out, decide_eq_false (show ¬ 1 < x.kids.length by omega), Bool.false_and])
      clear E0
      go_wp2
      go_ret
      exact ⟨ret_bool (by rw [E.out]), H2.out.below⟩
set_option maxHeartbeats 3200000 in
theorem anchor_r (x : Nd) (V : Value) (w : World) (h : NdAt w x V) : Calls Tryz.prog 22 #[V] w (BoolEnd x.isAnchor w) := by
  obtain ⟨hwf, Ab, cb, Ak, ck, rfl, hb0, hk0⟩ := h
  have H0 := Lib.hid (RfW.start (w := w) (x := x) (Ab := Ab) (cb := cb) (Ak := Ak) (ck := ck) ⟨hwf, Ab, cb, Ak, ck, rfl, hb0, hk0⟩)
  clear hwf hb0 hk0
  unfold Nd.v
  go_enter Tryz.func22, Tryz.ntmps22
  obtain ⟨e0, e1, e2, e3, e4, e5⟩ := cells6 H0.out.box
  have HI := Lib.hid (inner_r x _ _ H0.out.node)
  cases hi : x.isInner with
  | false =>
    rw [hi] at HI
    have E : Hid (x.isAnchor = false) := Lib.hid (by unfold Nd.isAnchor; rw [hi]; rfl)
    clear hi
    go_wp2_with fail
    refine (HI.out).mono ?_
    rintro e w1 ⟨rfl, hb⟩
    have H1 := Lib.hid (H0.out.on hb)
    clear hb
    go_wp2
    go_ret
    exact ⟨ret_bool (by rw [E.out]), H1.out.below⟩
  | true =>
    rw [hi] at HI
    have E0 : Hid (x.isAnchor = (decide (x.kind = 5) && x.path.toList.isEmpty)) := Lib.hid (by unfold Nd.isAnchor Nd.topN; rw [hi, Bool.true_and])
    clear hi
    go_wp2_with fail
    refine (HI.out).mono ?_
    rintro e w1 ⟨rfl, hb⟩
    have H1 := Lib.hid (H0.out.on hb)
    clear hb
    clear e0 e1 e2 e3 e4 e5
    obtain ⟨e0, e1, e2, e3, e4, e5⟩ := cells6 H1.out.box
    by_cases hl : x.kind = 5
    · have E : Hid (x.isAnchor = x.path.toList.isEmpty) := Lib.hid (by rw [E0.out, decide_eq_true hl, Bool.true_and])
      clear E0
      rw [hl] at e0
      clear hl
      cases hp : x.path.toList.isEmpty with
      | true =>
        rw [hp] at E
        go_wp2
        go_ret
        exact ⟨ret_bool (by rw [E.out]), H1.out.below⟩
      | false =>
        rw [hp] at E
        go_wp2
        go_ret
        exact ⟨ret_bool (by rw [E.out]), H1.out.below⟩
    · have E : Hid (x.isAnchor = false) := Lib.hid (by rw [E0.out, decide_eq_false hl, Bool.false_and])
      clear E0
      go_wp2
      go_ret
      exact ⟨ret_bool (by rw [E.out]), H1.out.below⟩
set_option maxHeartbeats 3200000 in
theorem may_r (x : Nd) (V : Value) (w : World) (h : NdAt w x V) : Calls Tryz.prog 49 #[V] w (BoolEnd x.may w) := by
  obtain ⟨hwf, Ab, cb, Ak, ck, rfl, hb0, hk0⟩ := h
  have H0 := Lib.hid (RfW.start (w := w) (x := x) (Ab := Ab) (cb := cb) (Ak := Ak) (ck := ck) ⟨hwf, Ab, cb, Ak, ck, rfl, hb0, hk0⟩)
  clear hwf hb0 hk0
  unfold Nd.v
  go_enter Tryz.func49, Tryz.ntmps49
  obtain ⟨e0, e1, e2, e3, e4, e5⟩ := cells6 H0.out.box
  have HI := Lib.hid (full_r x _ _ H0.out.node)
  cases hi : x.isRight with
  | true =>
    rw [hi] at HI
    have E : Hid (x.may = true) := Lib.hid (by unfold Nd.may; rw [hi]; rfl)
    clear hi
    go_wp2_with fail
    refine (HI.out).mono ?_
    rintro e w1 ⟨rfl, hb⟩
    have H1 := Lib.hid (H0.out.on hb)
    clear hb
    go_wp2
    go_ret
    exact ⟨ret_bool (by rw [E.out]), H1.out.below⟩
  | false =>
    rw [hi] at HI
    have E : Hid (x.may = x.isAnchor) := Lib.hid (by unfold Nd.may; rw [hi, Bool.false_or])
    clear hi
    go_wp2_with fail
    refine (HI.out).mono ?_
    rintro e w1 ⟨rfl, hb⟩
    have H1 := Lib.hid (H0.out.on hb)
    clear hb
    clear e0 e1 e2 e3 e4 e5
    obtain ⟨e0, e1, e2, e3, e4, e5⟩ := cells6 H1.out.box
    have HJ := Lib.hid (anchor_r x _ w1 H1.out.node)
    go_wp2_with fail
    refine (HJ.out).mono ?_
    rintro e w2 ⟨rfl, hb⟩
    have H2 := Lib.hid (H1.out.on hb)
    clear hb
    go_wp2
    go_ret
    exact ⟨ret_bool (by rw [E.out]), H2.out.below⟩
set_option maxHeartbeats 3200000 in
set_option maxRecDepth 100000 in
theorem Full_r (x : Nd) (V : Value) (w : World) (h : NdAt w x V) : Calls Tryz.prog 23 #[V] w (BoolEnd x.full w) := by
  obtain ⟨hwf, Ab, cb, Ak, ck, rfl, hb0, hk0⟩ := h
  have H0 := Lib.hid (RfW.start (w := w) (x := x) (Ab := Ab) (cb := cb) (Ak := Ak) (ck := ck) ⟨hwf, Ab, cb, Ak, ck, rfl, hb0, hk0⟩)
  clear hwf hb0 hk0
  unfold Nd.v
  have HM := Lib.hid (may_r x _ _ (H0.out.on (Below.refl _ _).drew).node)
  go_enter Tryz.func23, Tryz.ntmps23
  cases hm : x.may with
  | false =>
    rw [hm] at HM
    have E : Hid (x.full = false) := Lib.hid (by unfold Nd.full; rw [hm]; rfl)
    clear hm
    go_wp2_with fail
    refine wp_region_held_drew (S := (fun V : World => V.cell? ⟨w.heap.size, 0, none⟩ = some (.int .i64 x.kind) ∧ V.cell? ⟨w.heap.size, 1, none⟩ = some (.string x.code) ∧ V.cell? ⟨w.heap.size, 2, none⟩ = some (.string x.value) ∧ V.cell? ⟨w.heap.size, 3, none⟩ = some (.string x.path) ∧ V.cell? ⟨w.heap.size, 4, none⟩ = some (.slice Ab x.bytes.length cb) ∧ V.cell? ⟨w.heap.size, 5, none⟩ = some (.slice Ak x.kids.length ck))) (by kernel_rfl) ?_ (fun hHeld0 => ?_)
    · exact cells6 (H0.out.on (Below.refl _ _).drew).box
    refine wpAnyH_take (i := 0) (v := ?_) rfl (by kernel_rfl) (by kernel_rfl) (by kernel_rfl) (fun _ _ _ h => h) (Or.inl ⟨by rfl, ?_⟩) hHeld0 ?_
    rotate_left
    · (intro w hSw; (try dsimp only at hSw); go_simp <;> with_reducible rfl)
    try simp only [Act.put, List.setIfInBounds_toArray, List.set_cons_zero, List.set_cons_succ]
    refine wpAnyH_ready (rs := [1]) (by kernel_rfl) (by simp) ?_
    refine AllReadyH.cons rfl (fun K hK => ?_) ?_
    · go_simp
      refine HM.out.mono ?_
      rintro e w1 ⟨rfl, hb⟩
      have H1 := Lib.hid (H0.out.on ((Below.refl _ _).drew.trans hb))
      clear hb
      refine hK.out _ _ ?_ (fun hHeld1 => ?_)
      · exact cells6 H1.out.box
      clear hK K hHeld0
      try simp only [Act.put, List.setIfInBounds_toArray, List.set_cons_zero, List.set_cons_succ]
      refine wpAnyH_take (i := 2) (v := ?_) rfl (by kernel_rfl) (by kernel_rfl) (by kernel_rfl) (fun _ _ _ h => h) (Or.inl ⟨by rfl, ?_⟩) hHeld1 ?_
      rotate_left
      · (intro w hSw; (try dsimp only at hSw); go_simp <;> with_reducible rfl)
      try simp only [Act.put, List.setIfInBounds_toArray, List.set_cons_zero, List.set_cons_succ]
      refine wpAnyH_take (i := 3) (v := undef) rfl (by kernel_rfl) (by kernel_rfl) (by kernel_rfl) (fun _ _ _ h => h) (Or.inr ⟨by kernel_rfl, rfl⟩) hHeld1 ?_
      try simp only [Act.put, List.setIfInBounds_toArray, List.set_cons_zero, List.set_cons_succ]
      refine wpAnyH_take (i := 4) (v := undef) rfl (by kernel_rfl) (by kernel_rfl) (by kernel_rfl) (fun _ _ _ h => h) (Or.inr ⟨by kernel_rfl, rfl⟩) hHeld1 ?_
      try simp only [Act.put, List.setIfInBounds_toArray, List.set_cons_zero, List.set_cons_succ]
      refine wpAnyH_take (i := 5) (v := undef) rfl (by kernel_rfl) (by kernel_rfl) (by kernel_rfl) (fun _ _ _ h => h) (Or.inr ⟨by kernel_rfl, rfl⟩) hHeld1 ?_
      try simp only [Act.put, List.setIfInBounds_toArray, List.set_cons_zero, List.set_cons_succ]
      refine wpAnyH_take (i := 6) (v := undef) rfl (by kernel_rfl) (by kernel_rfl) (by kernel_rfl) (fun _ _ _ h => h) (Or.inr ⟨by kernel_rfl, rfl⟩) hHeld1 ?_
      try simp only [Act.put, List.setIfInBounds_toArray, List.set_cons_zero, List.set_cons_succ]
      refine wpAnyH_take (i := 7) (v := undef) rfl (by kernel_rfl) (by kernel_rfl) (by kernel_rfl) (fun _ _ _ h => h) (Or.inr ⟨by kernel_rfl, rfl⟩) hHeld1 ?_
      try simp only [Act.put, List.setIfInBounds_toArray, List.set_cons_zero, List.set_cons_succ]
      refine wpAnyH_take (i := 8) (v := undef) rfl (by kernel_rfl) (by kernel_rfl) (by kernel_rfl) (fun _ _ _ h => h) (Or.inr ⟨by kernel_rfl, rfl⟩) hHeld1 ?_
      try simp only [Act.put, List.setIfInBounds_toArray, List.set_cons_zero, List.set_cons_succ]
      refine wpAnyH_take (i := 9) (v := undef) rfl (by kernel_rfl) (by kernel_rfl) (by kernel_rfl) (fun _ _ _ h => h) (Or.inr ⟨by kernel_rfl, rfl⟩) hHeld1 ?_
      try simp only [Act.put, List.setIfInBounds_toArray, List.set_cons_zero, List.set_cons_succ]
      refine wpAnyH_take (i := 10) (v := ?_) rfl (by kernel_rfl) (by kernel_rfl) (by kernel_rfl) (fun _ _ _ h => h) (Or.inl ⟨by rfl, ?_⟩) hHeld1 ?_
      rotate_left
      · (intro w hSw; (try dsimp only at hSw); go_simp <;> with_reducible rfl)
      try simp only [Act.put, List.setIfInBounds_toArray, List.set_cons_zero, List.set_cons_succ]
      refine wpAnyH_take (i := 11) (v := ?_) rfl (by kernel_rfl) (by kernel_rfl) (by kernel_rfl) (fun _ _ _ h => h) (Or.inl ⟨by rfl, ?_⟩) hHeld1 ?_
      rotate_left
      · (intro w hSw; (try dsimp only at hSw); go_simp <;> with_reducible rfl)
      try simp only [Act.put, List.setIfInBounds_toArray, List.set_cons_zero, List.set_cons_succ]
      try simp only [Act.put, List.getElem_toArray, List.getElem_cons_succ, List.getElem_cons_zero, List.setIfInBounds_toArray, List.set_cons_zero, List.set_cons_succ]
      refine wpAnyH_done (by kernel_rfl) ?_ _
      refine (‹∀ (a : Act) (w : World), Code.wp Tryz.prog _ _ a w → _› _ _ ?_)
      go_wp2
      go_ret
      exact ⟨ret_bool (by rw [E.out]), H1.out.below⟩
    exact AllReadyH.nil
  | true =>
    rw [hm] at HM
    have E : Hid (x.full = ((x.kids.length : Int) == roomN x.kind)) := Lib.hid (by unfold Nd.full; rw [hm]; rfl)
    clear hm
    go_wp2_with fail
    refine wp_region_held_drew (S := (fun V : World => V.cell? ⟨w.heap.size, 0, none⟩ = some (.int .i64 x.kind) ∧ V.cell? ⟨w.heap.size, 1, none⟩ = some (.string x.code) ∧ V.cell? ⟨w.heap.size, 2, none⟩ = some (.string x.value) ∧ V.cell? ⟨w.heap.size, 3, none⟩ = some (.string x.path) ∧ V.cell? ⟨w.heap.size, 4, none⟩ = some (.slice Ab x.bytes.length cb) ∧ V.cell? ⟨w.heap.size, 5, none⟩ = some (.slice Ak x.kids.length ck))) (by kernel_rfl) ?_ (fun hHeld0 => ?_)
    · exact cells6 (H0.out.on (Below.refl _ _).drew).box
    refine wpAnyH_take (i := 0) (v := ?_) rfl (by kernel_rfl) (by kernel_rfl) (by kernel_rfl) (fun _ _ _ h => h) (Or.inl ⟨by rfl, ?_⟩) hHeld0 ?_
    rotate_left
    · (intro w hSw; (try dsimp only at hSw); go_simp <;> with_reducible rfl)
    try simp only [Act.put, List.setIfInBounds_toArray, List.set_cons_zero, List.set_cons_succ]
    refine wpAnyH_ready (rs := [1]) (by kernel_rfl) (by simp) ?_
    refine AllReadyH.cons rfl (fun K hK => ?_) ?_
    · go_simp
      refine HM.out.mono ?_
      rintro e w1 ⟨rfl, hb⟩
      have H1 := Lib.hid (H0.out.on ((Below.refl _ _).drew.trans hb))
      clear hb
      refine hK.out _ _ ?_ (fun hHeld1 => ?_)
      · exact cells6 H1.out.box
      clear hK K hHeld0
      try simp only [Act.put, List.setIfInBounds_toArray, List.set_cons_zero, List.set_cons_succ]
      refine wpAnyH_take (i := 2) (v := ?_) rfl (by kernel_rfl) (by kernel_rfl) (by kernel_rfl) (fun _ _ _ h => h) (Or.inl ⟨by rfl, ?_⟩) hHeld1 ?_
      rotate_left
      · (intro w hSw; (try dsimp only at hSw); go_simp <;> with_reducible rfl)
      try simp only [Act.put, List.setIfInBounds_toArray, List.set_cons_zero, List.set_cons_succ]
      refine wpAnyH_take (i := 3) (v := ?_) rfl (by kernel_rfl) (by kernel_rfl) (by kernel_rfl) (fun _ _ _ h => h) (Or.inl ⟨by kernel_rfl, ?_⟩) hHeld1 ?_
      rotate_left
      · (intro w hSw; (try dsimp only at hSw); go_simp <;> with_reducible rfl)
      try simp only [Act.put, List.setIfInBounds_toArray, List.set_cons_zero, List.set_cons_succ]
      refine wpAnyH_take (i := 4) (v := ?_) rfl (by kernel_rfl) (by kernel_rfl) (by kernel_rfl) (fun _ _ _ h => h) (Or.inl ⟨by kernel_rfl, ?_⟩) hHeld1 ?_
      rotate_left
      · (intro w hSw; (try dsimp only at hSw); go_simp <;> with_reducible rfl)
      try simp only [Act.put, List.setIfInBounds_toArray, List.set_cons_zero, List.set_cons_succ]
      refine wpAnyH_take (i := 5) (v := ?_) rfl (by kernel_rfl) (by kernel_rfl) (by kernel_rfl) (fun _ _ _ h => h) (Or.inl ⟨by kernel_rfl, ?_⟩) hHeld1 ?_
      rotate_left
      · (intro w hSw; (try dsimp only at hSw); go_simp <;> with_reducible rfl)
      try simp only [Act.put, List.setIfInBounds_toArray, List.set_cons_zero, List.set_cons_succ]
      refine wpAnyH_take (i := 6) (v := ?_) rfl (by kernel_rfl) (by kernel_rfl) (by kernel_rfl) (fun _ _ _ h => h) (Or.inl ⟨by kernel_rfl, ?_⟩) hHeld1 ?_
      rotate_left
      · (intro w hSw; (try dsimp only at hSw); go_simp <;> with_reducible rfl)
      try simp only [Act.put, List.setIfInBounds_toArray, List.set_cons_zero, List.set_cons_succ]
      refine wpAnyH_take (i := 7) (v := ?_) rfl (by kernel_rfl) (by kernel_rfl) (by kernel_rfl) (fun _ _ _ h => h) (Or.inl ⟨by kernel_rfl, ?_⟩) hHeld1 ?_
      rotate_left
      · (intro w hSw; (try dsimp only at hSw); go_simp <;> with_reducible rfl)
      try simp only [Act.put, List.setIfInBounds_toArray, List.set_cons_zero, List.set_cons_succ]
      refine wpAnyH_ready (rs := [8]) (by kernel_rfl) (by simp) ?_
      refine AllReadyH.cons rfl (fun K hK => ?_) ?_
      · go_simp
        refine (Room_r x.kind _).mono ?_
        rintro e w2 ⟨rfl, hb⟩
        have H2 := Lib.hid (H1.out.on hb)
        clear hb
        refine hK.out _ _ ?_ (fun hHeld2 => ?_)
        · exact cells6 H2.out.box
        clear hK K hHeld1
        try simp only [Act.put, List.setIfInBounds_toArray, List.set_cons_zero, List.set_cons_succ]
        refine wpAnyH_take (i := 9) (v := ?_) rfl (by kernel_rfl) (by kernel_rfl) (by kernel_rfl) (fun _ _ _ h => h) (Or.inl ⟨by kernel_rfl, ?_⟩) hHeld2 ?_
        rotate_left
        · (intro w hSw; (try dsimp only at hSw); go_simp <;> with_reducible rfl)
        try simp only [Act.put, List.setIfInBounds_toArray, List.set_cons_zero, List.set_cons_succ]
        refine wpAnyH_take (i := 10) (v := ?_) rfl (by kernel_rfl) (by kernel_rfl) (by kernel_rfl) (fun _ _ _ h => h) (Or.inl ⟨by rfl, ?_⟩) hHeld2 ?_
        rotate_left
        · (intro w hSw; (try dsimp only at hSw); go_simp <;> with_reducible rfl)
        try simp only [Act.put, List.setIfInBounds_toArray, List.set_cons_zero, List.set_cons_succ]
        refine wpAnyH_take (i := 11) (v := ?_) rfl (by kernel_rfl) (by kernel_rfl) (by kernel_rfl) (fun _ _ _ h => h) (Or.inl ⟨by rfl, ?_⟩) hHeld2 ?_
        rotate_left
        · (intro w hSw; (try dsimp only at hSw); go_simp <;> with_reducible rfl)
        try simp only [Act.put, List.setIfInBounds_toArray, List.set_cons_zero, List.set_cons_succ]
        try simp only [Act.put, List.getElem_toArray, List.getElem_cons_succ, List.getElem_cons_zero, List.setIfInBounds_toArray, List.set_cons_zero, List.set_cons_succ]
        refine wpAnyH_done (by kernel_rfl) ?_ _
        refine (‹∀ (a : Act) (w : World), Code.wp Tryz.prog _ _ a w → _› _ _ ?_)
        go_wp2
        go_ret
        exact ⟨ret_bool (by rw [E.out]), H2.out.below⟩
      exact AllReadyH.nil
    exact AllReadyH.nil
end Go.Proofs.YtgjgcbemgmkncaaGreatDoor
namespace Go.Proofs.YtgjgcbemgmkncaaGreatDoor
open Go.RowKit Go.Shelf
set_option linter.unusedVariables false
set_option linter.unusedSimpArgs false

/-- The node that made makes. -/
def madeN (x : Nd) (bs : List Nat) (rs : List (Int × Int)) (keep : Bool) : Nd := ⟨if keep = true then x.kind else (ofN (rs.length : Int)).1, { data := #[] }, { data := #[] }, x.path, bs, rs⟩
set_option maxHeartbeats 3200000 in
set_option maxRecDepth 100000 in
theorem made_r (x : Nd) (V : Value) (bs : List Nat) (rs : List (Int × Int)) (A1 A2 : Option Addr) (c1 c2 : Nat) (keep : Bool) (w : World) (h : NdAt w x V) :
    Calls Tryz.prog 53 #[V, .slice A1 bs.length c1, .slice A2 rs.length c2, .bool keep] w (fun e w' => e = .returned ((madeN x bs rs keep).v A1 c1 A2 c2) ∧ Below w.heap.size w w') := by
  obtain ⟨hwf, Ab, cb, Ak, ck, rfl, hb0, hk0⟩ := h
  clear hwf hb0 hk0
  have b1 := below_box w (.cells (x.c Ab cb Ak ck) 26)
  have b2 := b1.alloc b1.size (.cells #[.int .i64 0, .string { data := #[] }, .string { data := #[] }, .string { data := #[] }, .slice none 0 0, .slice none 0 0] 26)
  have q1 := (Blk.new w 26 (x.c Ab cb Ak ck)).alloc (.cells #[.int .i64 0, .string { data := #[] }, .string { data := #[] }, .string { data := #[] }, .slice none 0 0, .slice none 0 0] 26)
  have q2 := Blk.new (w.alloc (.cells (x.c Ab cb Ak ck) 26)) 26 #[.int .i64 0, .string { data := #[] }, .string { data := #[] }, .string { data := #[] }, .slice none 0 0, .slice none 0 0]
  have hsz : ((w.alloc (.cells (x.c Ab cb Ak ck) 26)).alloc (.cells #[.int .i64 0, .string { data := #[] }, .string { data := #[] }, .string { data := #[] }, .slice none 0 0, .slice none 0 0] 26)).heap.size = w.heap.size + 2 := by simp
  rw [World.size_alloc] at q2
  have H0 := Lib.hid (And.intro b2 (And.intro q1 (And.intro q2 hsz)))
  clear b1 b2 q1 q2 hsz
  unfold Nd.c at H0
  unfold Nd.v
  go_enter Tryz.func53, Tryz.ntmps53
  refine wp_seq_k fun K0 hK => ?_
  have HK0 := Lib.hid hK
  clear hK
  go_wp2_with fail
  refine HK0.out _ _ ?_
  clear HK0
  generalize (w.alloc _).alloc _ = w0 at H0 ⊢
  refine wp_seq_k fun K1 hK => ?_
  have HK1 := Lib.hid hK
  clear hK
  obtain ⟨e0, e1, e2, e3, e4, e5⟩ := cells6 H0.out.2.1
  go_wp2_with fail
  have H1 : Hid (Below w.heap.size w (w0.alloc (.cells #[.int .i64 x.kind, .string { data := #[] }, .string { data := #[] }, .string x.path, .slice A1 bs.length c1, .slice A2 rs.length c2] 26)) ∧ Blk (w0.alloc (.cells #[.int .i64 x.kind, .string { data := #[] }, .string { data := #[] }, .string x.path, .slice A1 bs.length c1, .slice A2 rs.length c2] 26)) w0.heap.size 26 #[.int .i64 x.kind, .string { data := #[] }, .string { data := #[] }, .string x.path, .slice A1 bs.length c1, .slice A2 rs.length c2] ∧ Blk (w0.alloc (.cells #[.int .i64 x.kind, .string { data := #[] }, .string { data := #[] }, .string x.path, .slice A1 bs.length c1, .slice A2 rs.length c2] 26)) (w.heap.size + 1) 26 #[.int .i64 0, .string { data := #[] }, .string { data := #[] }, .string { data := #[] }, .slice none 0 0, .slice none 0 0] ∧ w0.heap.size = w.heap.size + 2) :=
    Lib.hid ⟨H0.out.1.alloc H0.out.1.size _, Blk.new _ _ _, H0.out.2.2.1.alloc _, H0.out.2.2.2⟩
  clear H0 e0 e1 e2 e3 e4 e5
  refine HK1.out _ _ ?_
  clear HK1
  generalize hw0 : w0.heap.size = g9 at H1 ⊢
  generalize w0.alloc _ = w1 at H1 ⊢
  clear hw0
  cases keep with
  | true =>
    obtain ⟨e0, e1, e2, e3, e4, e5⟩ := cells6 H1.out.2.1
    obtain ⟨d0, d1, d2, d3, d4, d5⟩ := cells6 H1.out.2.2.1
    have fz0 := H1.out.2.2.1.frozen 0
    have fz1 := H1.out.2.2.1.frozen 1
    have fz2 := H1.out.2.2.1.frozen 2
    have fz3 := H1.out.2.2.1.frozen 3
    have fz4 := H1.out.2.2.1.frozen 4
    have fz5 := H1.out.2.2.1.frozen 5
    have l6 := H1.out.2.2.1.lt
    obtain ⟨VV, hV, hg, q6⟩ := six_stores (.int .i64 x.kind) (.string { data := #[] }) (.string { data := #[] }) (.string x.path) (.slice A1 bs.length c1) (.slice A2 rs.length c2) H1.out.2.2.1
    have HF := Lib.hid (H1.out.1.grown hg H1.out.1.size (fun k e => by injection e with e; omega))
    clear hg H1
    go_wp2
    rw [← hV]
    clear hV d0 d1 d2 d3 d4 d5 e0 e1 e2 e3 e4 e5 fz0 fz1 fz2 fz3 fz4 fz5
    obtain ⟨c0, c1', c2', c3, c4, c5⟩ := cells6 q6
    exact bodyPost_ret (v := .agg #[.int .i64 x.kind, .string { data := #[] }, .string { data := #[] }, .string x.path, .slice A1 bs.length c1, .slice A2 rs.length c2]) (by simp [results, Tryz.results53, go_sem, c0, c1', c2', c3, c4, c5]) rfl ⟨rfl, HF.out⟩
  | false =>
    refine wp_seq_k fun K2 hK => ?_
    have HK2 := Lib.hid hK
    clear hK
    go_wp2_with fail
    refine (Of_r (rs.length : Int) _).mono ?_
    rintro e w2 ⟨rfl, hb⟩
    obtain ⟨o, ho⟩ : ∃ o, o = (ofN (rs.length : Int)).1 := ⟨_, rfl⟩
    have HO : Hid (madeN x bs rs false = ⟨o, { data := #[] }, { data := #[] }, x.path, bs, rs⟩) := Lib.hid (by rw [ho]; rfl)
    rw [← ho]
    clear ho
    have p1 := H1.out.2.1.below hb H1.out.2.1.lt
    have p2 := H1.out.2.2.1.below hb H1.out.2.2.1.lt
    have pb : Below w.heap.size w w2 := H1.out.1.trans (hb.mono H1.out.1.size)
    have h9 := H1.out.2.2.2
    have hw : w2.grownBy (w2.setCell ⟨g9, 0, none⟩ (.int .i64 o)) (some g9) := grown_setCell ⟨rfl, rfl, rfl, Nat.le_refl _, fun _ _ _ => rfl⟩ _ _
    have f0 := p1.frozen 0
    have l0 := p1.lt
    have d0 : w2.cell? ⟨g9, 0, none⟩ = some (.int .i64 x.kind) := p1.cell 0
    have p1' := p1.set_ 0 (.int .i64 o)
    have p2' := p2.grown hw (fun e => by injection e with e; omega)
    have pb' := pb.grown hw pb.size (fun k e => by injection e with e; omega)
    have H2 : Hid (Below w.heap.size w (w2.setCell ⟨g9, 0, none⟩ (.int .i64 o)) ∧ Blk (w2.setCell ⟨g9, 0, none⟩ (.int .i64 o)) g9 26 #[.int .i64 o, .string { data := #[] }, .string { data := #[] }, .string x.path, .slice A1 bs.length c1, .slice A2 rs.length c2] ∧ Blk (w2.setCell ⟨g9, 0, none⟩ (.int .i64 o)) (w.heap.size + 1) 26 #[.int .i64 0, .string { data := #[] }, .string { data := #[] }, .string { data := #[] }, .slice none 0 0, .slice none 0 0] ∧ g9 = w.heap.size + 2) := Lib.hid ⟨pb', by simpa using p1', p2', h9⟩
    clear p1 p2 pb h9 hw p1' p2' pb' hb H1
    go_wp2_with fail
    refine HK2.out _ _ ?_
    clear HK2 f0 l0 d0
    generalize w2.setCell _ _ = w3 at H2 ⊢
    obtain ⟨e0, e1, e2, e3, e4, e5⟩ := cells6 H2.out.2.1
    obtain ⟨d0, d1, d2, d3, d4, d5⟩ := cells6 H2.out.2.2.1
    have fz0 := H2.out.2.2.1.frozen 0
    have fz1 := H2.out.2.2.1.frozen 1
    have fz2 := H2.out.2.2.1.frozen 2
    have fz3 := H2.out.2.2.1.frozen 3
    have fz4 := H2.out.2.2.1.frozen 4
    have fz5 := H2.out.2.2.1.frozen 5
    have l6 := H2.out.2.2.1.lt
    obtain ⟨VV, hV, hg, q6⟩ := six_stores (.int .i64 o) (.string { data := #[] }) (.string { data := #[] }) (.string x.path) (.slice A1 bs.length c1) (.slice A2 rs.length c2) H2.out.2.2.1
    have HF := Lib.hid (H2.out.1.grown hg H2.out.1.size (fun k e => by injection e with e; omega))
    clear hg H2
    go_wp2
    rw [← hV]
    clear hV d0 d1 d2 d3 d4 d5 e0 e1 e2 e3 e4 e5 fz0 fz1 fz2 fz3 fz4 fz5
    obtain ⟨c0, c1', c2', c3, c4, c5⟩ := cells6 q6
    exact bodyPost_ret (v := .agg #[.int .i64 o, .string { data := #[] }, .string { data := #[] }, .string x.path, .slice A1 bs.length c1, .slice A2 rs.length c2]) (by simp [results, Tryz.results53, go_sem, c0, c1', c2', c3, c4, c5]) rfl ⟨by rw [HO.out], HF.out⟩
end Go.Proofs.YtgjgcbemgmkncaaGreatDoor
namespace Go.Proofs.YtgjgcbemgmkncaaGreatDoor
open Go.RowKit Go.Shelf
set_option linter.unusedVariables false
set_option linter.unusedSimpArgs false

theorem kids_cut (f : Kids) (b : Nat) : (kidsOf f).filter (fun p => decide (p.1 ≠ b)) = kidsOf (setK f b none) := by
  unfold kidsOf kidsIn
  rw [List.filter_filterMap]
  refine congrArg (fun g => List.filterMap g (List.range 256)) (funext fun c => ?_)
  unfold setK
  by_cases h : c = b
  · rw [if_pos h]
    cases hf : f c with
    | none => rfl
    | some r => simp [h]
  · rw [if_neg h]
    cases hf : f c with
    | none => rfl
    | some r => simp [h]
theorem kids_turn (f : Kids) (b : Nat) (r : Int × Int) : (kidsOf f).map (fun p => if p.1 = b then (p.1, r) else p) = kidsOf (fun c => if c = b then (f c).map (fun _ => r) else f c) := by
  unfold kidsOf kidsIn
  rw [List.map_filterMap]
  refine congrArg (fun g => List.filterMap g (List.range 256)) (funext fun c => ?_)
  dsimp only
  by_cases h : c = b
  · rw [if_pos h]
    cases hf : f c with
    | none => rfl
    | some q => simp [h]
  · rw [if_neg h]
    cases hf : f c with
    | none => rfl
    | some q => simp [h]
theorem ofNd_lists (x : Nd) (g : Kids) (k : Int) : ofNd x g k = ⟨k, { data := #[] }, { data := #[] }, x.path, (kidsOf g).map (·.1), (kidsOf g).map (·.2)⟩ := by
  have h1 := bytes_ofNd x g k
  have h2 := kids_ofNd x g k
  unfold ofNd at h1 h2 ⊢
  dsimp only at h1 h2
  rw [h1, h2]
/-- The pairs that Cut leaves. -/
def cutL (x : Nd) (b : Nat) : List (Nat × (Int × Int)) := (x.bytes.zip x.kids).filter (fun p => decide (p.1 ≠ b))
theorem zip_kids {x : Nd} {f : Kids} (hb : x.bytes = (kidsOf f).map (·.1)) (hk : x.kids = (kidsOf f).map (·.2)) : x.bytes.zip x.kids = kidsOf f := by
  rw [hb, hk]
  generalize kidsOf f = l
  induction l with
  | nil => rfl
  | cons p l ih => simp [ih]
theorem cutL_eq {x : Nd} {f : Kids} (b : Nat) (hb : x.bytes = (kidsOf f).map (·.1)) (hk : x.kids = (kidsOf f).map (·.2)) : cutL x b = kidsOf (setK f b none) := by
  unfold cutL
  rw [zip_kids hb hk, kids_cut]
/-- What the reference's Cut gives. -/
def cutR (x : Nd) (b : Nat) (keep : Bool) : Nd × Int := if x.may = false then (zeroNd, 4) else if (findN x b).isSome = false then (zeroNd, 5) else (madeN x ((cutL x b).map (·.1)) ((cutL x b).map (·.2)) keep, 0)
theorem cutR_eq {x : Nd} (hx : x.wf) {b : Nat} (hb : b < 256) (keep : Bool) : cutR x b keep = cutN x b keep := by
  unfold cutR cutN
  cases hm : x.may with
  | false => rfl
  | true =>
    obtain ⟨f, hf, he, hr, hrow, hbs, hks⟩ := may_norm hx hm
    have hfind : findN x b = f b := by unfold findN; rw [if_pos hm, hrow]
    rw [hfind, hrow, cutL_eq b hbs hks, if_neg (show ¬ (true = false) by simp), if_neg (show ¬ (true = false) by simp)]
    unfold takeK
    cases hfb : f b with
    | none => rfl
    | some r =>
      rw [if_neg (show ¬ ((some r).isSome = false) by simp)]
      dsimp only
      rw [if_pos rfl, ofNd_lists]
      unfold madeN kindN
      have hc := cnt_set_none hb hfb
      have hl : ((kidsOf (setK f b none)).map (·.2)).length = cntK (setK f b none) := by rw [List.length_map]; rfl
      have hl2 : x.kids.length = cntK f := by rw [hks, List.length_map]; rfl
      rw [hl, hl2, show ((cntK f : Int) - 1) = (cntK (setK f b none) : Int) by omega]
end Go.Proofs.YtgjgcbemgmkncaaGreatDoor
namespace Go.Proofs.YtgjgcbemgmkncaaGreatDoor
open Go.RowKit Go.Shelf
set_option linter.unusedVariables false
set_option linter.unusedSimpArgs false

/-- A step of Add's loop: the pairs so far, and whether the new one is among them. -/
def insStep (b : Nat) (r : Int × Int) (s : List (Nat × (Int × Int)) × Bool) (p : Nat × (Int × Int)) : List (Nat × (Int × Int)) × Bool :=
  if s.2 = false ∧ b < p.1 then (s.1 ++ [(b, r)] ++ [p], true) else (s.1 ++ [p], s.2)
def insTo (l : List (Nat × (Int × Int))) (b : Nat) (r : Int × Int) (k : Nat) : List (Nat × (Int × Int)) × Bool := (l.take k).foldl (insStep b r) ([], false)
def putInL (l : List (Nat × (Int × Int))) (b : Nat) (r : Int × Int) : List (Nat × (Int × Int)) :=
  if (insTo l b r l.length).2 = true then (insTo l b r l.length).1 else (insTo l b r l.length).1 ++ [(b, r)]
theorem insTo_succ {l : List (Nat × (Int × Int))} {b : Nat} {r : Int × Int} {k : Nat} (h : k < l.length) : insTo l b r (k + 1) = insStep b r (insTo l b r k) l[k] := by
  unfold insTo
  rw [List.take_succ_eq_append_getElem h, List.foldl_append]
  rfl
theorem insTo_len {l : List (Nat × (Int × Int))} {b : Nat} {r : Int × Int} : ∀ k, k ≤ l.length → (insTo l b r k).1.length = k + (if (insTo l b r k).2 = true then 1 else 0)
  | 0, _ => rfl
  | k + 1, h => by
    have ih := insTo_len (l := l) (b := b) (r := r) k (by omega)
    rw [insTo_succ (by omega)]
    unfold insStep
    split
    · rename_i h2
      rw [h2.1] at ih
      simp at ih ⊢
      omega
    · simp only [List.length_append, List.length_cons, List.length_nil]
      omega
theorem ins_true (b : Nat) (r : Int × Int) : ∀ (l acc : List (Nat × (Int × Int))), l.foldl (insStep b r) (acc, true) = (acc ++ l, true)
  | [], acc => by simp
  | p :: l, acc => by
    rw [List.foldl_cons]
    have e : insStep b r (acc, true) p = (acc ++ [p], true) := by unfold insStep; rw [if_neg (fun h => by cases h.1)]
    rw [e, ins_true b r l, List.append_assoc]
    rfl
theorem ins_low (b : Nat) (r : Int × Int) : ∀ (l acc : List (Nat × (Int × Int))), (∀ p ∈ l, p.1 < b) → l.foldl (insStep b r) (acc, false) = (acc ++ l, false)
  | [], acc, _ => by simp
  | p :: l, acc, h => by
    rw [List.foldl_cons]
    have hp := h p (by simp)
    have e : insStep b r (acc, false) p = (acc ++ [p], false) := by unfold insStep; rw [if_neg (fun h => by have := h.2; omega)]
    rw [e, ins_low b r l _ (fun q hq => h q (by simp [hq])), List.append_assoc]
    rfl
theorem putInL_kids {f : Kids} {b : Nat} (r : Int × Int) (hb : b < 256) (h : f b = none) : putInL (kidsOf f) b r = kidsOf (setK f b (some r)) := by
  have e1 : kidsOf f = lowK f b ++ highK f (b + 1) := by rw [kids_at f b hb, h]; rfl
  have e2 := kids_set f b (some r) hb
  rw [e2]
  have e0 : insTo (kidsOf f) b r (kidsOf f).length = (kidsOf f).foldl (insStep b r) ([], false) := by unfold insTo; rw [List.take_length]
  have e3 : (kidsOf f).foldl (insStep b r) ([], false) = (highK f (b + 1)).foldl (insStep b r) (lowK f b, false) := by
    rw [e1, List.foldl_append, ins_low b r _ _ (fun p hp => mem_low hp)]
    rfl
  unfold putInL
  rw [e0, e3]
  cases hh : highK f (b + 1) with
  | nil => simp
  | cons p l =>
    have hp : b < p.1 := by
      have := (mem_high (f := f) (b := b + 1) (x := p) (by rw [hh]; simp)).1
      omega
    have e : insStep b r (lowK f b, false) p = (lowK f b ++ [(b, r)] ++ [p], true) := by unfold insStep; rw [if_pos ⟨rfl, hp⟩]
    rw [List.foldl_cons, e, ins_true, if_pos rfl]
    simp
/-- What the reference's Add gives. -/
def addL (x : Nd) (b : Nat) (r : Int × Int) : List (Nat × (Int × Int)) := putInL (x.bytes.zip x.kids) b r
def addR (x : Nd) (b : Nat) (r : Int × Int) (keep : Bool) : Nd × Int :=
  if x.may = false ∨ kidN r = false then (zeroNd, 4)
  else if (findN x b).isSome = true then (zeroNd, 8)
  else if x.kids.length = 256 ∨ (keep = true ∧ x.full = true) then (zeroNd, 14)
  else (madeN x ((addL x b r).map (·.1)) ((addL x b r).map (·.2)) keep, 0)
theorem may_kind {x : Nd} (h : x.may = true) : 2 ≤ x.kind ∧ x.kind ≤ 5 := by
  have := room_kind (inner_parts (may_inner h)).1
  omega
theorem addR_eq {x : Nd} (hx : x.wf) {b : Nat} (hb : b < 256) (r : Int × Int) (keep : Bool) : addR x b r keep = addN x b r keep := by
  by_cases h0 : x.may = false ∨ kidN r = false
  · unfold addR addN
    rw [if_pos h0, if_pos h0]
  · have hm : x.may = true := by
      cases h : x.may with
      | true => rfl
      | false => exact absurd (.inl h) h0
    have hkr : kidN r = true := by
      cases h : kidN r with
      | true => rfl
      | false => exact absurd (.inr h) h0
    obtain ⟨f, hf, he, hr, hrow, hbs, hks⟩ := may_norm hx hm
    have hfind : findN x b = f b := by unfold findN; rw [if_pos hm, hrow]
    have hl2 : x.kids.length = cntK f := by rw [hks, List.length_map]; rfl
    have hk0 := (inner_parts (may_inner hm)).1
    have hkd := may_kind hm
    have hc256 := cnt_256 f
    have hroomle : ∀ k : Int, 2 ≤ k ∧ k ≤ 5 → roomN k ≤ 256 := fun k hk => room_mono hk (by omega) hk.2
    have e2 : (cntK f : Int) ≤ addRoom x keep ∧ ((cntK f : Int) = addRoom x keep ↔ (cntK f = 256 ∨ (keep = true ∧ (cntK f : Int) = roomN x.kind))) := by
      cases keep with
      | true =>
        have e1 : addRoom x true = roomN x.kind := by unfold addRoom kindN; simp
        rw [e1]
        refine ⟨hr, ⟨fun h => .inr ⟨rfl, h⟩, fun h => ?_⟩⟩
        rcases h with h | h
        · have := hroomle _ hkd; omega
        · exact h.2
      | false =>
        have e1 : addRoom x false = roomN (max (ofN ((cntK f : Int) + 1)).1 x.kind) := by
          unfold addRoom kindN; rw [hl2]; rfl
        by_cases h : cntK f = 256
        · have h5 : x.kind = 5 := by
            have hr2 := hr
            obtain h2 | h2 | h2 | h2 : x.kind = 2 ∨ x.kind = 3 ∨ x.kind = 4 ∨ x.kind = 5 := by omega
            · rw [h2, show roomN 2 = 4 from rfl] at hr2; omega
            · rw [h2, show roomN 3 = 16 from rfl] at hr2; omega
            · rw [h2, show roomN 4 = 48 from rfl] at hr2; omega
            · exact h2
          have e3 : addRoom x false = 256 := by rw [e1, h5, h]; rfl
          rw [e3]
          exact ⟨by omega, ⟨fun _ => .inl h, fun _ => by omega⟩⟩
        · have h3 := room_of (n := (cntK f : Int) + 1) (by omega) (by omega)
          have h4 : roomN (ofN ((cntK f : Int) + 1)).1 ≤ addRoom x false := by
            rw [e1]; exact room_mono h3.2.2.1 (by omega) (by omega)
          exact ⟨by omega, ⟨fun h => by omega, fun h' => (h'.elim (fun k => absurd k h) (fun k => absurd k.1 (by simp)))⟩⟩
    have hadd : addN x b r keep = if (f b).isSome = true then (zeroNd, 8) else if (cntK f : Int) = addRoom x keep then (zeroNd, 14) else (ofNd x (setK f b (some r)) (kindN x ((cntK f : Int) + 1) keep), 0) := by
      have := add_ofNd (x := x) (k := x.kind) b r keep hf hk0 (by rw [← he]; exact hm) hkr (by rw [← he]; exact e2.1)
      rw [← he] at this
      exact this
    rw [hadd]
    unfold addR
    rw [if_neg h0, hfind]
    cases hfb : f b with
    | some q => rfl
    | none =>
      rw [if_neg (show ¬ ((none : Option (Int × Int)).isSome = true) by simp), if_neg (show ¬ ((none : Option (Int × Int)).isSome = true) by simp)]
      have hfull : (x.kids.length = 256 ∨ (keep = true ∧ x.full = true)) ↔ (cntK f : Int) = addRoom x keep := by
        rw [e2.2, hl2]
        unfold Nd.full
        rw [hm, hl2]
        simp
      by_cases hz : (cntK f : Int) = addRoom x keep
      · rw [if_pos hz, if_pos (hfull.2 hz)]
      · rw [if_neg hz, if_neg (fun h => hz (hfull.1 h)), ofNd_lists]
        have hl : addL x b r = kidsOf (setK f b (some r)) := by unfold addL; rw [zip_kids hbs hks, putInL_kids r hb hfb]
        rw [hl]
        unfold madeN kindN
        have hc := cnt_set_some (f := f) r hb hfb
        have hl3 : ((kidsOf (setK f b (some r))).map (·.2)).length = cntK (setK f b (some r)) := by rw [List.length_map]; rfl
        rw [hl3, hc]
        push_cast
        rfl
/-- What the reference's Turn gives. -/
def turnL (x : Nd) (b : Nat) (r : Int × Int) : List (Int × Int) := (x.bytes.zip x.kids).map (fun p => if p.1 = b then r else p.2)
def turnR (x : Nd) (b : Nat) (r : Int × Int) : Nd × Int :=
  if x.may = false ∨ kidN r = false then (zeroNd, 4)
  else if (findN x b).isSome = false then (zeroNd, 5)
  else (madeN x x.bytes (turnL x b r) true, 0)
theorem turnR_eq {x : Nd} (hx : x.wf) {b : Nat} (hb : b < 256) (r : Int × Int) : turnR x b r = turnN x b r := by
  unfold turnR turnN
  by_cases h0 : x.may = false ∨ kidN r = false
  · rw [if_pos h0, if_pos h0]
  · rw [if_neg h0, if_neg h0]
    have hm : x.may = true := by
      cases h : x.may with
      | true => rfl
      | false => exact absurd (.inl h) h0
    obtain ⟨f, hf, he, hr, hrow, hbs, hks⟩ := may_norm hx hm
    have hfind : findN x b = f b := by unfold findN; rw [if_pos hm, hrow]
    rw [hfind, hrow]
    unfold turnK
    cases hfb : f b with
    | none => rfl
    | some q =>
      have e : (fun c => if c = b then (f c).map (fun _ => r) else f c) = setK f b (some r) := by
        funext c
        unfold setK
        by_cases hc : c = b
        · rw [if_pos hc, if_pos hc, hc, hfb]; rfl
        · rw [if_neg hc, if_neg hc]
      have h1 := kids_turn f b r
      rw [e] at h1
      have hl : turnL x b r = (kidsOf (setK f b (some r))).map (·.2) := by
        rw [← h1]
        unfold turnL
        rw [zip_kids hbs hks, List.map_map]
        refine congrArg (fun g => List.map g (kidsOf f)) (funext fun p => ?_)
        dsimp only [Function.comp]
        split <;> rfl
      have hby : x.bytes = (kidsOf (setK f b (some r))).map (·.1) := by
        rw [← h1, hbs, List.map_map]
        refine congrArg (fun g => List.map g (kidsOf f)) (funext fun p => ?_)
        dsimp only [Function.comp]
        split
        · rfl
        · rfl
      rw [if_neg (show ¬ ((some q).isSome = false) by simp)]
      simp only [Option.isSome_some, if_true]
      rw [ofNd_lists, hl, ← hby]
      rfl
end Go.Proofs.YtgjgcbemgmkncaaGreatDoor
namespace Go.Proofs.YtgjgcbemgmkncaaGreatDoor
open Go.RowKit Go.Shelf
set_option linter.unusedVariables false
set_option linter.unusedSimpArgs false

/-- A node in its box, a Ref's box for the result, at work. -/
structure FiW (w : World) (x : Nd) (Ab : Option Addr) (cb : Nat) (Ak : Option Addr) (ck : Nat) (W : World) : Prop where
  below : Below w.heap.size w W
  box : Blk W w.heap.size 26 #[.int .i64 x.kind, .string x.code, .string x.value, .string x.path, .slice Ab x.bytes.length cb, .slice Ak x.kids.length ck]
  out : Blk W (w.heap.size + 1) 29 #[.int .i64 0, .int .u32 0]
  node : NdAt W x (.agg #[.int .i64 x.kind, .string x.code, .string x.value, .string x.path, .slice Ab x.bytes.length cb, .slice Ak x.kids.length ck])
theorem FiW.start {w : World} {x : Nd} {Ab Ak : Option Addr} {cb ck : Nat} (h : NdAt w x (x.v Ab cb Ak ck)) : FiW w x Ab cb Ak ck ((w.alloc (.cells #[.int .i64 x.kind, .string x.code, .string x.value, .string x.path, .slice Ab x.bytes.length cb, .slice Ak x.kids.length ck] 26)).alloc (.cells #[.int .i64 0, .int .u32 0] 29)) := by
  have b1 := below_box w (.cells #[.int .i64 x.kind, .string x.code, .string x.value, .string x.path, .slice Ab x.bytes.length cb, .slice Ak x.kids.length ck] 26)
  have b2 := b1.alloc b1.size (.cells #[.int .i64 0, .int .u32 0] 29)
  refine ⟨b2, (Blk.new _ _ _).alloc _, ?_, h.below b2⟩
  have q := Blk.new (w.alloc (.cells #[.int .i64 x.kind, .string x.code, .string x.value, .string x.path, .slice Ab x.bytes.length cb, .slice Ak x.kids.length ck] 26)) 29 #[.int .i64 0, .int .u32 0]
  rw [World.size_alloc] at q
  exact q
theorem FiW.on {w W W' : World} {x : Nd} {Ab Ak : Option Addr} {cb ck : Nat} (h : FiW w x Ab cb Ak ck W) (hb : Below W.heap.size W W') : FiW w x Ab cb Ak ck W' :=
  ⟨h.below.trans (hb.mono h.below.size), h.box.below hb h.box.lt, h.out.below hb h.out.lt, h.node.below hb⟩
set_option maxHeartbeats 6400000 in
set_option maxRecDepth 100000 in
theorem Find_r (x : Nd) (V : Value) (b : Nat) (w : World) (h : NdAt w x V) (hb256 : b < 256) : Calls Tryz.prog 25 #[V, .int .u8 (b : Int)] w (TwoEnd (optV (findN x b)) (.bool (findN x b).isSome) w) := by
  obtain ⟨hwf, Ab, cb, Ak, ck, rfl, hb0, hk0⟩ := h
  have H0 := Lib.hid (FiW.start (w := w) (x := x) (Ab := Ab) (cb := cb) (Ak := Ak) (ck := ck) ⟨hwf, Ab, cb, Ak, ck, rfl, hb0, hk0⟩)
  have HR := Lib.hid (And.intro hb0 (And.intro hk0 hwf))
  clear hwf hb0 hk0
  unfold Nd.v
  obtain ⟨o, ho⟩ : ∃ o, o = findN x b := ⟨_, rfl⟩
  rw [← ho]
  have HO := Lib.hid ho
  clear ho
  have H1 : Hid (FiW w x Ab cb Ak ck ((w.alloc (.cells #[.int .i64 x.kind, .string x.code, .string x.value, .string x.path, .slice Ab x.bytes.length cb, .slice Ak x.kids.length ck] 26)).alloc (.cells #[.int .i64 0, .int .u32 0] 29)) ∧ ∀ j, (h : j < x.bytes.length) → j < 0 → x.bytes[j] ≠ b) := Lib.hid ⟨H0.out, fun j _ h => by omega⟩
  clear H0
  go_enter Tryz.func25, Tryz.ntmps25
  go_wp2_with fail
  go_loopw [6] (fun i wr => ∃ k : Nat, k ≤ x.bytes.length ∧ i = .int .i64 k ∧ Hid (FiW w x Ab cb Ak ck wr ∧ ∀ j, (h : j < x.bytes.length) → j < k → x.bytes[j] ≠ b)) (fun i _ => x.bytes.length - (intOf i).toNat)
  case atStart => exact ⟨0, Nat.zero_le _, rfl, H1⟩
  case round =>
    clear H1
    obtain ⟨k, hk, rfl, HW⟩ := hrel
    obtain ⟨e0, e1, e2, e3, e4, e5⟩ := cells6 HW.out.1.box
    have hsz := HR.out.2.2.lb
    by_cases hlt : k < x.bytes.length
    · have j2 : (k : Int) < (x.bytes.length : Int) := by omega
      have HM := Lib.hid (may_r x _ wr HW.out.1.node)
      cases hm : x.may with
      | false =>
        rw [hm] at HM
        have E : Hid (o = none) := Lib.hid (by rw [HO.out]; unfold findN; rw [if_neg (by rw [hm]; simp)])
        clear hm
        go_wp2_with fail
        refine HM.out.mono ?_
        rintro e w1 ⟨rfl, hb⟩
        have S1 := Lib.hid (HW.out.1.on hb)
        clear hb HM HW e0 e1 e2 e3 e4 e5
        obtain ⟨d0, d1⟩ : w1.cell? ⟨w.heap.size + 1, 0, none⟩ = some (.int .i64 0) ∧ w1.cell? ⟨w.heap.size + 1, 1, none⟩ = some (.int .u32 0) := ⟨S1.out.out.cell 0, S1.out.out.cell 1⟩
        have fz0 := S1.out.out.frozen 0
        have fz1 := S1.out.out.frozen 1
        have l6 := S1.out.out.lt
        obtain ⟨VV, hV, hg, q6⟩ := two_stores (.int .i64 0) (.int .u32 0) S1.out.out
        have HF := Lib.hid (S1.out.below.grown hg S1.out.below.size (fun k e => by injection e with e; omega))
        go_wp2
        rw [← hV]
        clear hV d0 d1 fz0 fz1 l6
        have c0 := q6.cell 0
        have c1 := q6.cell 1
        simp at c0 c1
        exact bodyPost_ret (v := .tuple #[.agg #[.int .i64 0, .int .u32 0], .bool false]) (by simp [results, Tryz.results25, go_sem, c0, c1]) rfl ⟨by rw [E.out]; rfl, HF.out⟩
      | true =>
        rw [hm] at HM
        have hlk : x.bytes.length = x.kids.length := (inner_parts (may_inner hm)).2.2.2.2.1
        have hltk : k < x.kids.length := by omega
        obtain ⟨ad, rfl, hab, hby⟩ := byte_at HR.out.1 hlt
        obtain ⟨kd, rfl, hkb, c0, c0a, c0b, c0c, c0d⟩ := ref_at2 HR.out.2.1 hltk
        have j1 : (0 : Int) ≤ (k : Int) := by omega
        have j3 : (k : Int) < (x.kids.length : Int) := by omega
        by_cases hq : x.bytes[k] = b
        · have E : Hid (o = some x.kids[k]) := Lib.hid (by rw [HO.out]; exact find_hit HR.out.2.2 hm hlt hltk hq)
          rw [hq] at hby
          generalize x.kids[k] = q at c0 c0a c0b c0c c0d E
          clear c0a c0b c0c hm hq hlk
          obtain ⟨q1, q2⟩ := q
          dsimp only at c0 c0d
          go_wp2_with fail
          refine HM.out.mono ?_
          rintro e w1 ⟨rfl, hb⟩
          have S1 := Lib.hid (HW.out.1.on hb)
          obtain ⟨e0', e1', e2', e3', e4', e5'⟩ := cells6 S1.out.box
          have hby' := (S1.out.below.cell (p := ad.add k) (by rw [block_of_add]; exact hab)).trans hby
          have c0' := (S1.out.below.cell (p := kd.add (k * 2)) (by rw [block_of_add]; exact hkb)).trans c0
          have c1' := (S1.out.below.cell (p := ⟨(kd.add (k * 2)).block, (kd.add (k * 2)).off + 1, none⟩) (by rw [block_of_add]; exact hkb)).trans c0d
          clear hb HM HW e0 e1 e2 e3 e4 e5 c0 c0d hby
          obtain ⟨d0, d1⟩ : w1.cell? ⟨w.heap.size + 1, 0, none⟩ = some (.int .i64 0) ∧ w1.cell? ⟨w.heap.size + 1, 1, none⟩ = some (.int .u32 0) := ⟨S1.out.out.cell 0, S1.out.out.cell 1⟩
          have fz0 := S1.out.out.frozen 0
          have fz1 := S1.out.out.frozen 1
          have l6 := S1.out.out.lt
          obtain ⟨VV, hV, hg, q6⟩ := two_stores (.int .i64 q1) (.int .u32 q2) S1.out.out
          have HF := Lib.hid (S1.out.below.grown hg S1.out.below.size (fun k e => by injection e with e; omega))
          go_wp2
          rw [← hV]
          clear hV d0 d1 fz0 fz1 l6
          have c0 := q6.cell 0
          have c1 := q6.cell 1
          simp at c0 c1
          exact bodyPost_ret (v := .tuple #[.agg #[.int .i64 q1, .int .u32 q2], .bool true]) (by simp [results, Tryz.results25, go_sem, c0, c1]) rfl ⟨by rw [E.out]; rfl, HF.out⟩
        · have hne : ((x.bytes[k] : Int) == (b : Int)) = false := by simp; omega
          have HN : Hid (∀ j, (h : j < x.bytes.length) → j < k + 1 → x.bytes[j] ≠ b) := Lib.hid (fun j h1 h2 => by
            by_cases e : j = k
            · subst e; exact hq
            · exact HW.out.2 j h1 (by omega))
          have hne2 : ¬ (x.bytes[k] = b) := hq
          generalize x.bytes[k] = p at hby hne hne2
          clear c0 c0a c0b c0c c0d hm hq hlk
          go_wp2_with fail
          refine HM.out.mono ?_
          rintro e w1 ⟨rfl, hb⟩
          have S1 := Lib.hid (And.intro (HW.out.1.on hb) HN.out)
          obtain ⟨e0', e1', e2', e3', e4', e5'⟩ := cells6 S1.out.1.box
          have hby' := (S1.out.1.below.cell (p := ad.add k) (by rw [block_of_add]; exact hab)).trans hby
          clear hb HM HW e0 e1 e2 e3 e4 e5 hby
          go_wp2
          go_roundw
          case rel => exact ⟨k + 1, by omega, by go_num, S1⟩
          case measure => simp [intOf]; omega
    · obtain rfl : k = x.bytes.length := by omega
      have i1 : ¬ ((x.bytes.length : Int) < (x.bytes.length : Int)) := by omega
      have E : Hid (o = none) := Lib.hid (by rw [HO.out]; exact find_miss HR.out.2.2 hb256 (fun j h => HW.out.2 j h h))
      have S1 := Lib.hid HW.out.1
      clear HW
      obtain ⟨d0, d1⟩ : wr.cell? ⟨w.heap.size + 1, 0, none⟩ = some (.int .i64 0) ∧ wr.cell? ⟨w.heap.size + 1, 1, none⟩ = some (.int .u32 0) := ⟨S1.out.out.cell 0, S1.out.out.cell 1⟩
      have fz0 := S1.out.out.frozen 0
      have fz1 := S1.out.out.frozen 1
      have l6 := S1.out.out.lt
      obtain ⟨VV, hV, hg, q6⟩ := two_stores (.int .i64 0) (.int .u32 0) S1.out.out
      have HF := Lib.hid (S1.out.below.grown hg S1.out.below.size (fun k e => by injection e with e; omega))
      go_wp2
      rw [← hV]
      clear hV d0 d1 fz0 fz1 l6
      have c0 := q6.cell 0
      have c1 := q6.cell 1
      simp at c0 c1
      exact bodyPost_ret (v := .tuple #[.agg #[.int .i64 0, .int .u32 0], .bool false]) (by simp [results, Tryz.results25, go_sem, c0, c1]) rfl ⟨by rw [E.out]; rfl, HF.out⟩
end Go.Proofs.YtgjgcbemgmkncaaGreatDoor
namespace Go.Proofs.YtgjgcbemgmkncaaGreatDoor
open Go.RowKit Go.Shelf
set_option linter.unusedVariables false
set_option linter.unusedSimpArgs false

set_option maxHeartbeats 6400000 in
set_option maxRecDepth 100000 in
theorem Next_r (x : Nd) (V : Value) (c : Int) (w : World) (h : NdAt w x V) : Calls Tryz.prog 27 #[V, .int .i64 c] w (ThreeEnd (.int .u8 (nextN x c).1) (refV (nextN x c).2.1) (.bool (nextN x c).2.2) w) := by
  obtain ⟨hwf, Ab, cb, Ak, ck, rfl, hb0, hk0⟩ := h
  have H0 := Lib.hid (FiW.start (w := w) (x := x) (Ab := Ab) (cb := cb) (Ak := Ak) (ck := ck) ⟨hwf, Ab, cb, Ak, ck, rfl, hb0, hk0⟩)
  have HR := Lib.hid (And.intro hb0 (And.intro hk0 hwf))
  clear hwf hb0 hk0
  unfold Nd.v
  obtain ⟨o, ho⟩ : ∃ o, o = nextN x c := ⟨_, rfl⟩
  rw [← ho]
  have HO := Lib.hid ho
  clear ho
  have H1 : Hid (FiW w x Ab cb Ak ck ((w.alloc (.cells #[.int .i64 x.kind, .string x.code, .string x.value, .string x.path, .slice Ab x.bytes.length cb, .slice Ak x.kids.length ck] 26)).alloc (.cells #[.int .i64 0, .int .u32 0] 29)) ∧ ∀ j, (h : j < x.bytes.length) → j < 0 → (x.bytes[j] : Int) < c) := Lib.hid ⟨H0.out, fun j _ h => by omega⟩
  clear H0
  go_enter Tryz.func27, Tryz.ntmps27
  go_wp2_with fail
  go_loopw [7] (fun i wr => ∃ k : Nat, k ≤ x.bytes.length ∧ i = .int .i64 k ∧ Hid (FiW w x Ab cb Ak ck wr ∧ ∀ j, (h : j < x.bytes.length) → j < k → (x.bytes[j] : Int) < c)) (fun i _ => x.bytes.length - (intOf i).toNat)
  case atStart => exact ⟨0, Nat.zero_le _, rfl, H1⟩
  case round =>
    clear H1
    obtain ⟨k, hk, rfl, HW⟩ := hrel
    obtain ⟨e0, e1, e2, e3, e4, e5⟩ := cells6 HW.out.1.box
    have hsz := HR.out.2.2.lb
    by_cases hlt : k < x.bytes.length
    · have j2 : (k : Int) < (x.bytes.length : Int) := by omega
      have HM := Lib.hid (may_r x _ wr HW.out.1.node)
      cases hm : x.may with
      | false =>
        rw [hm] at HM
        have E : Hid (o = (0, ((0, 0), false))) := Lib.hid (by rw [HO.out]; unfold nextN; rw [if_neg (by rw [hm]; simp)])
        clear hm
        go_wp2_with fail
        refine HM.out.mono ?_
        rintro e w1 ⟨rfl, hb⟩
        have S1 := Lib.hid (HW.out.1.on hb)
        clear hb HM HW e0 e1 e2 e3 e4 e5
        obtain ⟨d0, d1⟩ : w1.cell? ⟨w.heap.size + 1, 0, none⟩ = some (.int .i64 0) ∧ w1.cell? ⟨w.heap.size + 1, 1, none⟩ = some (.int .u32 0) := ⟨S1.out.out.cell 0, S1.out.out.cell 1⟩
        have fz0 := S1.out.out.frozen 0
        have fz1 := S1.out.out.frozen 1
        have l6 := S1.out.out.lt
        obtain ⟨VV, hV, hg, q6⟩ := two_stores (.int .i64 0) (.int .u32 0) S1.out.out
        have HF := Lib.hid (S1.out.below.grown hg S1.out.below.size (fun k e => by injection e with e; omega))
        go_wp2
        rw [← hV]
        clear hV d0 d1 fz0 fz1 l6
        have c0 := q6.cell 0
        have c1 := q6.cell 1
        simp at c0 c1
        exact bodyPost_ret (v := .tuple #[.int .u8 0, .agg #[.int .i64 0, .int .u32 0], .bool false]) (by simp [results, Tryz.results27, go_sem, c0, c1]) rfl ⟨by rw [E.out], HF.out⟩
      | true =>
        rw [hm] at HM
        have hlk : x.bytes.length = x.kids.length := (inner_parts (may_inner hm)).2.2.2.2.1
        have hltk : k < x.kids.length := by omega
        obtain ⟨ad, rfl, hab, hby⟩ := byte_at HR.out.1 hlt
        have hp256 := HR.out.2.2.bytes _ (List.getElem_mem hlt)
        obtain ⟨kd, rfl, hkb, c0, c0a, c0b, c0c, c0d⟩ := ref_at2 HR.out.2.1 hltk
        have j1 : (0 : Int) ≤ (k : Int) := by omega
        have j3 : (k : Int) < (x.kids.length : Int) := by omega
        have sp : IntKind.i64.wrap (x.bytes[k] : Int) = (x.bytes[k] : Int) := IntWalk.i64_in _ (by omega)
        by_cases hq : c ≤ (x.bytes[k] : Int)
        · have E : Hid (o = ((x.bytes[k] : Int), (x.kids[k], true))) := Lib.hid (by rw [HO.out]; exact next_hit HR.out.2.2 hm hlt hltk hq (fun j h1 h2 => HW.out.2 j h1 h2))
          generalize x.kids[k] = q at c0 c0a c0b c0c c0d E
          generalize x.bytes[k] = p at hby hp256 sp hq E
          clear c0a c0b c0c hm hlk
          obtain ⟨q1, q2⟩ := q
          dsimp only at c0 c0d
          go_wp2_with fail
          refine HM.out.mono ?_
          rintro e w1 ⟨rfl, hb⟩
          have S1 := Lib.hid (HW.out.1.on hb)
          obtain ⟨e0', e1', e2', e3', e4', e5'⟩ := cells6 S1.out.box
          have hby' := (S1.out.below.cell (p := ad.add k) (by rw [block_of_add]; exact hab)).trans hby
          have c0' := (S1.out.below.cell (p := kd.add (k * 2)) (by rw [block_of_add]; exact hkb)).trans c0
          have c1' := (S1.out.below.cell (p := ⟨(kd.add (k * 2)).block, (kd.add (k * 2)).off + 1, none⟩) (by rw [block_of_add]; exact hkb)).trans c0d
          have HLB : Hid (ad.block < w.heap.size ∧ kd.block < w.heap.size) := Lib.hid ⟨hab, hkb⟩
          clear hb HM HW e0 e1 e2 e3 e4 e5 c0 c0d hby
          go_wp2_with fail
          clear sp
          obtain ⟨d0, d1⟩ : w1.cell? ⟨w.heap.size + 1, 0, none⟩ = some (.int .i64 0) ∧ w1.cell? ⟨w.heap.size + 1, 1, none⟩ = some (.int .u32 0) := ⟨S1.out.out.cell 0, S1.out.out.cell 1⟩
          have fz0 := S1.out.out.frozen 0
          have fz1 := S1.out.out.frozen 1
          have l6 := S1.out.out.lt
          obtain ⟨VV, hV, hg, q6⟩ := two_stores (.int .i64 q1) (.int .u32 q2) S1.out.out
          have HF := Lib.hid (S1.out.below.grown hg S1.out.below.size (fun k e => by injection e with e; omega))
          refine wp_region_held_drew (S := (fun V : World => V.cell? ⟨w.heap.size, 4, none⟩ = some (.slice (some ad) x.bytes.length cb) ∧ V.cell? ⟨w.heap.size, 5, none⟩ = some (.slice (some kd) x.kids.length ck) ∧ V.cell? (ad.add k) = some (.int .u8 (p : Int)) ∧ V.cell? (kd.add (k * 2)) = some (.int .i64 q1) ∧ V.cell? ⟨(kd.add (k * 2)).block, (kd.add (k * 2)).off + 1, none⟩ = some (.int .u32 q2))) (by kernel_rfl) ?_ (fun hHeld0 => ?_)
          · exact ⟨e4', e5', hby', c0', c1'⟩
          refine wpAnyH_take (i := 0) (v := ?_) rfl (by kernel_rfl) (by kernel_rfl) (by kernel_rfl) (fun _ _ _ h => h) (Or.inl ⟨by rfl, ?_⟩) hHeld0 ?_
          rotate_left
          · (intro w hSw; (try dsimp only at hSw); go_simp <;> with_reducible rfl)
          try simp only [Act.put, List.setIfInBounds_toArray, List.set_cons_zero, List.set_cons_succ]
          refine wpAnyH_take (i := 1) (v := ?_) rfl (by kernel_rfl) (by kernel_rfl) (by kernel_rfl) (fun _ _ _ h => h) (Or.inl ⟨by rfl, ?_⟩) hHeld0 ?_
          rotate_left
          · (intro w hSw; (try dsimp only at hSw); go_simp <;> with_reducible rfl)
          try simp only [Act.put, List.setIfInBounds_toArray, List.set_cons_zero, List.set_cons_succ]
          refine wpAnyH_take (i := 2) (v := ?_) rfl (by kernel_rfl) (by kernel_rfl) (by kernel_rfl) (fun _ _ _ h => h) (Or.inl ⟨by rfl, ?_⟩) hHeld0 ?_
          rotate_left
          · (intro w hSw; (try dsimp only at hSw); go_simp <;> with_reducible rfl)
          try simp only [Act.put, List.setIfInBounds_toArray, List.set_cons_zero, List.set_cons_succ]
          refine wpAnyH_take (i := 3) (v := ?_) rfl (by kernel_rfl) (by kernel_rfl) (by kernel_rfl) (fun _ _ _ h => h) (Or.inl ⟨by rfl, ?_⟩) hHeld0 ?_
          rotate_left
          · (intro w hSw; (try dsimp only at hSw); go_simp <;> with_reducible rfl)
          try simp only [Act.put, List.setIfInBounds_toArray, List.set_cons_zero, List.set_cons_succ]
          refine wpAnyH_take (i := 4) (v := ?_) rfl (by kernel_rfl) (by kernel_rfl) (by kernel_rfl) (fun _ _ _ h => h) (Or.inl ⟨by rfl, ?_⟩) hHeld0 ?_
          rotate_left
          · (intro w hSw; (try dsimp only at hSw); go_simp <;> with_reducible rfl)
          try simp only [Act.put, List.setIfInBounds_toArray, List.set_cons_zero, List.set_cons_succ]
          refine wpAnyH_take (i := 5) (v := ?_) rfl (by kernel_rfl) (by kernel_rfl) (by kernel_rfl) (fun _ _ _ h => h) (Or.inl ⟨by rfl, ?_⟩) hHeld0 ?_
          rotate_left
          · (intro w hSw; (try dsimp only at hSw); go_simp <;> with_reducible rfl)
          try simp only [Act.put, List.setIfInBounds_toArray, List.set_cons_zero, List.set_cons_succ]
          refine wpAnyH_take (i := 6) (v := ?_) rfl (by kernel_rfl) (by kernel_rfl) (by kernel_rfl) (fun _ _ _ h => h) (Or.inl ⟨by rfl, ?_⟩) hHeld0 ?_
          rotate_left
          · (intro w hSw; (try dsimp only at hSw); go_simp <;> with_reducible rfl)
          try simp only [Act.put, List.setIfInBounds_toArray, List.set_cons_zero, List.set_cons_succ]
          refine wpAnyH_take (i := 7) (v := ?_) rfl (by kernel_rfl) (by kernel_rfl) (by kernel_rfl) (fun _ _ _ h => h) (Or.inl ⟨by rfl, ?_⟩) hHeld0 ?_
          rotate_left
          · (intro w hSw; (try dsimp only at hSw); go_simp <;> with_reducible rfl)
          try simp only [Act.put, List.setIfInBounds_toArray, List.set_cons_zero, List.set_cons_succ]
          refine wpAnyH_take (i := 8) (v := ?_) rfl (by kernel_rfl) (by kernel_rfl) (by kernel_rfl) (fun _ _ _ h => h) (Or.inl ⟨by rfl, ?_⟩) hHeld0 ?_
          rotate_left
          · (intro w hSw; (try dsimp only at hSw); go_simp <;> with_reducible rfl)
          try simp only [Act.put, List.setIfInBounds_toArray, List.set_cons_zero, List.set_cons_succ]
          refine wpAnyH_take (i := 9) (v := ?_) rfl (by kernel_rfl) (by kernel_rfl) (by kernel_rfl) (fun _ _ _ h => h) (Or.inl ⟨by rfl, ?_⟩) hHeld0 ?_
          rotate_left
          · (intro w hSw; (try dsimp only at hSw); go_simp <;> with_reducible rfl)
          try simp only [Act.put, List.setIfInBounds_toArray, List.set_cons_zero, List.set_cons_succ]
          refine wpAnyH_take (i := 10) (v := ?_) rfl (by kernel_rfl) (by kernel_rfl) (by kernel_rfl) (fun _ _ _ h => h) (Or.inl ⟨by rfl, ?_⟩) hHeld0 ?_
          rotate_left
          · (intro w hSw; (try dsimp only at hSw); go_simp <;> with_reducible rfl)
          try simp only [Act.put, List.setIfInBounds_toArray, List.set_cons_zero, List.set_cons_succ]
          try simp only [Act.put, List.getElem_toArray, List.getElem_cons_succ, List.getElem_cons_zero, List.setIfInBounds_toArray, List.set_cons_zero, List.set_cons_succ]
          refine wpAnyH_ready (rs := [11]) (by kernel_rfl) (by simp) ?_
          refine AllReadyH.cons rfl (fun K hK => ?_) ?_
          · go_simp
            rw [← hV]
            clear hV d0 d1 fz0 fz1 l6
            refine hK.out _ _ ?_ (fun hHeld1 => ?_)
            · exact ⟨(World.cell?_of_block (hg.block _ (Nat.lt_trans (Nat.lt_succ_self _) S1.out.out.lt) (fun e => by injection e with e; exact absurd e (Nat.ne_of_lt (Nat.lt_succ_self w.heap.size))))).trans e4', (World.cell?_of_block (hg.block _ (Nat.lt_trans (Nat.lt_succ_self _) S1.out.out.lt) (fun e => by injection e with e; exact absurd e (Nat.ne_of_lt (Nat.lt_succ_self w.heap.size))))).trans e5', (World.cell?_of_block (hg.block _ (by rw [block_of_add]; have := S1.out.out.lt; have := HLB.out; omega) (fun e => by injection e with e; rw [block_of_add] at e; have := HLB.out; omega))).trans hby', (World.cell?_of_block (hg.block _ (by rw [block_of_add]; have := S1.out.out.lt; have := HLB.out; omega) (fun e => by injection e with e; rw [block_of_add] at e; have := HLB.out; omega))).trans c0', (World.cell?_of_block (hg.block _ (by show (kd.add (k * 2)).block < _; rw [block_of_add]; have := S1.out.out.lt; have := HLB.out; omega) (fun e => by injection e with e; have e : (kd.add (k * 2)).block = _ := e; rw [block_of_add] at e; have := HLB.out; omega))).trans c1'⟩
            clear hK K hHeld0
            try simp only [Act.put, List.setIfInBounds_toArray, List.set_cons_zero, List.set_cons_succ]
            refine wpAnyH_take (i := 12) (v := ?_) rfl (by kernel_rfl) (by kernel_rfl) (by kernel_rfl) (fun _ _ _ h => h) (Or.inl ⟨by rfl, ?_⟩) hHeld1 ?_
            rotate_left
            · (intro w hSw; (try dsimp only at hSw); go_simp <;> with_reducible rfl)
            try simp only [Act.put, List.setIfInBounds_toArray, List.set_cons_zero, List.set_cons_succ]
            try simp only [Act.put, List.getElem_toArray, List.getElem_cons_succ, List.getElem_cons_zero, List.setIfInBounds_toArray, List.set_cons_zero, List.set_cons_succ]
            refine wpAnyH_done (by kernel_rfl) ?_ _
            refine (‹∀ (a : Act) (w : World), Code.wp Tryz.prog _ _ a w → _› _ _ ?_)
            go_wp2
            have c0 := q6.cell 0
            have c1 := q6.cell 1
            simp at c0 c1
            exact bodyPost_ret (v := .tuple #[.int .u8 (p : Int), .agg #[.int .i64 q1, .int .u32 q2], .bool true]) (by simp [results, Tryz.results27, go_sem, c0, c1]) rfl ⟨by rw [E.out], HF.out.drew⟩
          exact AllReadyH.nil
        · have HN : Hid (∀ j, (h : j < x.bytes.length) → j < k + 1 → (x.bytes[j] : Int) < c) := Lib.hid (fun j h1 h2 => by
            by_cases e : j = k
            · subst e; omega
            · exact HW.out.2 j h1 (by omega))
          generalize x.bytes[k] = p at hby hp256 sp hq
          clear c0 c0a c0b c0c c0d hm hlk
          go_wp2_with fail
          refine HM.out.mono ?_
          rintro e w1 ⟨rfl, hb⟩
          have S1 := Lib.hid (And.intro (HW.out.1.on hb) HN.out)
          obtain ⟨e0', e1', e2', e3', e4', e5'⟩ := cells6 S1.out.1.box
          have hby' := (S1.out.1.below.cell (p := ad.add k) (by rw [block_of_add]; exact hab)).trans hby
          clear hb HM HW e0 e1 e2 e3 e4 e5 hby
          go_wp2
          go_roundw
          case rel => exact ⟨k + 1, by omega, by go_num, S1⟩
          case measure => simp [intOf]; omega
    · obtain rfl : k = x.bytes.length := by omega
      have i1 : ¬ ((x.bytes.length : Int) < (x.bytes.length : Int)) := by omega
      have E : Hid (o = (0, ((0, 0), false))) := Lib.hid (by rw [HO.out]; exact next_miss HR.out.2.2 (fun j h => HW.out.2 j h h))
      have S1 := Lib.hid HW.out.1
      clear HW
      obtain ⟨d0, d1⟩ : wr.cell? ⟨w.heap.size + 1, 0, none⟩ = some (.int .i64 0) ∧ wr.cell? ⟨w.heap.size + 1, 1, none⟩ = some (.int .u32 0) := ⟨S1.out.out.cell 0, S1.out.out.cell 1⟩
      have fz0 := S1.out.out.frozen 0
      have fz1 := S1.out.out.frozen 1
      have l6 := S1.out.out.lt
      obtain ⟨VV, hV, hg, q6⟩ := two_stores (.int .i64 0) (.int .u32 0) S1.out.out
      have HF := Lib.hid (S1.out.below.grown hg S1.out.below.size (fun k e => by injection e with e; omega))
      go_wp2
      rw [← hV]
      clear hV d0 d1 fz0 fz1 l6
      have c0 := q6.cell 0
      have c1 := q6.cell 1
      simp at c0 c1
      exact bodyPost_ret (v := .tuple #[.int .u8 0, .agg #[.int .i64 0, .int .u32 0], .bool false]) (by simp [results, Tryz.results27, go_sem, c0, c1]) rfl ⟨by rw [E.out], HF.out⟩
end Go.Proofs.YtgjgcbemgmkncaaGreatDoor
namespace Go.Proofs.YtgjgcbemgmkncaaGreatDoor
open Go.RowKit Go.Shelf
set_option linter.unusedVariables false
set_option linter.unusedSimpArgs false

/-- What Rest tells. -/
def restN (x : Nd) (b : Nat) : Int × ((Int × Int) × Bool) :=
  if (findN x b).isSome = true ∧ x.kids.length = 2 then
    (if x.bytes.getD 0 0 = b then ((x.bytes.getD 1 0 : Int), (x.kids.getD 1 (0, 0), true)) else ((x.bytes.getD 0 0 : Int), (x.kids.getD 0 (0, 0), true)))
  else (0, ((0, 0), false))
theorem find_may {x : Nd} {b : Nat} (h : (findN x b).isSome = true) : x.may = true := by
  unfold findN at h
  split at h
  · assumption
  · cases h
set_option maxHeartbeats 6400000 in
set_option maxRecDepth 100000 in
theorem Rest_r (x : Nd) (V : Value) (b : Nat) (w : World) (h : NdAt w x V) (hb256 : b < 256) : Calls Tryz.prog 29 #[V, .int .u8 (b : Int)] w (ThreeEnd (.int .u8 (restN x b).1) (refV (restN x b).2.1) (.bool (restN x b).2.2) w) := by
  obtain ⟨hwf, Ab, cb, Ak, ck, rfl, hb0, hk0⟩ := h
  have H0 := Lib.hid (FiW.start (w := w) (x := x) (Ab := Ab) (cb := cb) (Ak := Ak) (ck := ck) ⟨hwf, Ab, cb, Ak, ck, rfl, hb0, hk0⟩)
  have HR := Lib.hid (And.intro hb0 (And.intro hk0 hwf))
  clear hwf hb0 hk0
  unfold Nd.v
  obtain ⟨o, ho⟩ : ∃ o, o = restN x b := ⟨_, rfl⟩
  rw [← ho]
  have HO := Lib.hid ho
  clear ho
  have hf := Find_r x _ b _ H0.out.node hb256
  have HFI : Hid (findN x b = findN x b) := Lib.hid rfl
  obtain ⟨q, hq⟩ : ∃ q, q = findN x b := ⟨_, rfl⟩
  rw [← hq] at hf
  have HQ := Lib.hid hq
  clear hq HFI
  unfold optV refV at hf
  have HF0 := Lib.hid hf
  clear hf
  go_enter Tryz.func29, Tryz.ntmps29
  refine wp_seq_k fun K0 hK => ?_
  have HK0 := Lib.hid hK
  clear hK
  go_wp2_with fail
  refine HK0.out _ _ ?_
  clear HK0
  refine wp_seq_k fun K1 hK => ?_
  have HK1 := Lib.hid hK
  clear hK
  obtain ⟨e0, e1, e2, e3, e4, e5⟩ := cells6 H0.out.box
  go_wp2_with fail
  refine HF0.out.mono ?_
  rintro e w0 ⟨rfl, hb⟩
  have S1 := Lib.hid ((H0.out.on hb).on (below_box w0 (.cells #[.int .i64 (q.getD (0, 0)).1, .int .u32 (q.getD (0, 0)).2] 29)))
  clear hb H0 HF0 e0 e1 e2 e3 e4 e5
  go_wp2_with fail
  refine HK1.out _ _ ?_
  clear HK1
  generalize w0.alloc _ = w1 at S1 ⊢
  obtain ⟨e0, e1, e2, e3, e4, e5⟩ := cells6 S1.out.box
  cases q with
  | none =>
    have E : Hid (o = (0, ((0, 0), false))) := Lib.hid (by rw [HO.out]; unfold restN; rw [if_neg (by rw [← HQ.out]; simp)])
    simp only [Option.getD_none, Option.isSome_none]
    obtain ⟨d0, d1⟩ : w1.cell? ⟨w.heap.size + 1, 0, none⟩ = some (.int .i64 0) ∧ w1.cell? ⟨w.heap.size + 1, 1, none⟩ = some (.int .u32 0) := ⟨S1.out.out.cell 0, S1.out.out.cell 1⟩
    have fz0 := S1.out.out.frozen 0
    have fz1 := S1.out.out.frozen 1
    have l6 := S1.out.out.lt
    obtain ⟨VV, hV, hg, q6⟩ := two_stores (.int .i64 0) (.int .u32 0) S1.out.out
    have HF := Lib.hid (S1.out.below.grown hg S1.out.below.size (fun k e => by injection e with e; omega))
    go_wp2
    rw [← hV]
    clear hV d0 d1 fz0 fz1 l6
    have c0 := q6.cell 0
    have c1 := q6.cell 1
    simp at c0 c1
    exact bodyPost_ret (v := .tuple #[.int .u8 0, .agg #[.int .i64 0, .int .u32 0], .bool false]) (by simp [results, Tryz.results29, go_sem, c0, c1]) rfl ⟨by rw [E.out], HF.out⟩
  | some r0 =>
    simp only [Option.getD_some, Option.isSome_some]
    by_cases hl : x.kids.length = 2
    · have hmay := find_may (x := x) (b := b) (by rw [← HQ.out]; rfl)
      have hlb : x.bytes.length = x.kids.length := (inner_parts (may_inner hmay)).2.2.2.2.1
      have hl2 : ((x.kids.length : Int) != 2) = false := by simp; omega
      have hl3 : (x.kids.length : Int) = 2 := by omega
      obtain ⟨ad, rfl, hab, by0⟩ := byte_at HR.out.1 (k := 0) (by omega)
      obtain ⟨ad2, he, _, by1⟩ := byte_at HR.out.1 (k := 1) (by omega)
      obtain rfl : ad = ad2 := by injection he
      obtain ⟨kd, rfl, hkb, c0, c0a, c0b, c0c, c0d⟩ := ref_at2 HR.out.2.1 (k := 0) (by omega)
      obtain ⟨kd2, he2, _, c1, c1a, c1b, c1c, c1d⟩ := ref_at2 HR.out.2.1 (k := 1) (by omega)
      obtain rfl : kd = kd2 := by injection he2
      clear he he2
      have i0 : (0 : Int) < (x.bytes.length : Int) := by omega
      have i1 : (1 : Int) < (x.bytes.length : Int) := by omega
      have i2 : (0 : Int) < (x.kids.length : Int) := by omega
      have i3 : (1 : Int) < (x.kids.length : Int) := by omega
      have E0 : Hid (o = if x.bytes[0]'(by omega) = b then ((x.bytes[1]'(by omega) : Int), (x.kids[1]'(by omega), true)) else ((x.bytes[0]'(by omega) : Int), (x.kids[0]'(by omega), true))) := Lib.hid (by
        rw [HO.out]; unfold restN
        rw [if_pos ⟨by rw [← HQ.out]; rfl, hl⟩]
        simp only [List.getD_eq_getElem?_getD, List.getElem?_eq_getElem (show 0 < x.bytes.length by omega), List.getElem?_eq_getElem (show 1 < x.bytes.length by omega), List.getElem?_eq_getElem (show 0 < x.kids.length by omega), List.getElem?_eq_getElem (show 1 < x.kids.length by omega), Option.getD_some])
      generalize x.bytes[0]'(by omega) = p0 at by0 E0
      generalize x.bytes[1]'(by omega) = p1 at by1 E0
      generalize x.kids[0]'(by omega) = k0 at c0 c0a c0b c0c c0d E0
      generalize x.kids[1]'(by omega) = k1 at c1 c1a c1b c1c c1d E0
      obtain ⟨k01, k02⟩ := k0
      obtain ⟨k11, k12⟩ := k1
      dsimp only at c0 c0d c1 c1d
      clear c0a c0b c0c c1a c1b c1c hlb hmay
      have HLB : Hid (ad.block < w.heap.size ∧ kd.block < w.heap.size) := Lib.hid ⟨hab, hkb⟩
      have b0' : w1.cell? (ad.add 0) = some (.int .u8 (p0 : Int)) := (S1.out.below.cell (p := ad.add 0) (by rw [block_of_add]; exact hab)).trans by0
      have b0'' : w1.cell? ad = some (.int .u8 (p0 : Int)) := b0'
      have b1' : w1.cell? ⟨ad.block, ad.off + 1, none⟩ = some (.int .u8 (p1 : Int)) := (S1.out.below.cell (p := ⟨ad.block, ad.off + 1, none⟩) hab).trans by1
      have k0' : w1.cell? kd = some (.int .i64 k01) := (S1.out.below.cell (p := kd) hkb).trans c0
      have k0'' : w1.cell? ⟨kd.block, kd.off + 1, none⟩ = some (.int .u32 k02) := (S1.out.below.cell (p := ⟨kd.block, kd.off + 1, none⟩) hkb).trans c0d
      have k1' : w1.cell? ⟨kd.block, kd.off + 2, none⟩ = some (.int .i64 k11) := (S1.out.below.cell (p := ⟨kd.block, kd.off + 2, none⟩) hkb).trans c1
      have k1'' : w1.cell? ⟨kd.block, kd.off + 2 + 1, none⟩ = some (.int .u32 k12) := (S1.out.below.cell (p := ⟨kd.block, kd.off + 2 + 1, none⟩) hkb).trans c1d
      have n0 : 0 < x.bytes.length := by omega
      have n1 : 1 < x.bytes.length := by omega
      have n2 : 0 < x.kids.length := by omega
      have n3 : 1 < x.kids.length := by omega
      clear c0 c0d c1 c1d by0 by1
      have hlen := hl
      by_cases hpb : p0 = b
      · have E : Hid (o = ((p1 : Int), ((k11, k12), true))) := Lib.hid (by rw [E0.out, if_pos hpb])
        subst hpb
        clear hl hlen E0
        go_wp2_with fail
        obtain ⟨d0, d1⟩ : w1.cell? ⟨w.heap.size + 1, 0, none⟩ = some (.int .i64 0) ∧ w1.cell? ⟨w.heap.size + 1, 1, none⟩ = some (.int .u32 0) := ⟨S1.out.out.cell 0, S1.out.out.cell 1⟩
        have fz0 := S1.out.out.frozen 0
        have fz1 := S1.out.out.frozen 1
        have l6 := S1.out.out.lt
        obtain ⟨VV, hV, hg, q6⟩ := two_stores (.int .i64 k11) (.int .u32 k12) S1.out.out
        have HF := Lib.hid (S1.out.below.grown hg S1.out.below.size (fun k e => by injection e with e; omega))
        refine wp_region_held_drew (S := (fun V : World => V.cell? ⟨w.heap.size, 4, none⟩ = some (.slice (some ad) x.bytes.length cb) ∧ V.cell? ⟨w.heap.size, 5, none⟩ = some (.slice (some kd) x.kids.length ck) ∧ V.cell? (⟨ad.block, ad.off + 1, none⟩) = some (.int .u8 (p1 : Int)) ∧ V.cell? (⟨kd.block, kd.off + 2, none⟩) = some (.int .i64 k11) ∧ V.cell? ⟨kd.block, kd.off + 2 + 1, none⟩ = some (.int .u32 k12))) (by kernel_rfl) ?_ (fun hHeld0 => ?_)
        · exact ⟨e4, e5, b1', k1', k1''⟩
        refine wpAnyH_take (i := 0) (v := ?_) rfl (by kernel_rfl) (by kernel_rfl) (by kernel_rfl) (fun _ _ _ h => h) (Or.inl ⟨by rfl, ?_⟩) hHeld0 ?_
        rotate_left
        · (intro w hSw; (try dsimp only at hSw); go_simp <;> with_reducible rfl)
        try simp only [Act.put, List.setIfInBounds_toArray, List.set_cons_zero, List.set_cons_succ]
        refine wpAnyH_take (i := 1) (v := ?_) rfl (by kernel_rfl) (by kernel_rfl) (by kernel_rfl) (fun _ _ _ h => h) (Or.inl ⟨by rfl, ?_⟩) hHeld0 ?_
        rotate_left
        · (intro w hSw; (try dsimp only at hSw); go_simp <;> with_reducible rfl)
        try simp only [Act.put, List.setIfInBounds_toArray, List.set_cons_zero, List.set_cons_succ]
        refine wpAnyH_take (i := 2) (v := ?_) rfl (by kernel_rfl) (by kernel_rfl) (by kernel_rfl) (fun _ _ _ h => h) (Or.inl ⟨by rfl, ?_⟩) hHeld0 ?_
        rotate_left
        · (intro w hSw; (try dsimp only at hSw); go_simp <;> with_reducible rfl)
        try simp only [Act.put, List.setIfInBounds_toArray, List.set_cons_zero, List.set_cons_succ]
        refine wpAnyH_take (i := 3) (v := ?_) rfl (by kernel_rfl) (by kernel_rfl) (by kernel_rfl) (fun _ _ _ h => h) (Or.inl ⟨by rfl, ?_⟩) hHeld0 ?_
        rotate_left
        · (intro w hSw; (try dsimp only at hSw); go_simp <;> with_reducible rfl)
        try simp only [Act.put, List.setIfInBounds_toArray, List.set_cons_zero, List.set_cons_succ]
        refine wpAnyH_take (i := 4) (v := ?_) rfl (by kernel_rfl) (by kernel_rfl) (by kernel_rfl) (fun _ _ _ h => h) (Or.inl ⟨by rfl, ?_⟩) hHeld0 ?_
        rotate_left
        · (intro w hSw; (try dsimp only at hSw); go_simp <;> with_reducible rfl)
        try simp only [Act.put, List.setIfInBounds_toArray, List.set_cons_zero, List.set_cons_succ]
        refine wpAnyH_take (i := 5) (v := ?_) rfl (by kernel_rfl) (by kernel_rfl) (by kernel_rfl) (fun _ _ _ h => h) (Or.inl ⟨by rfl, ?_⟩) hHeld0 ?_
        rotate_left
        · (intro w hSw; (try dsimp only at hSw); go_simp <;> with_reducible rfl)
        try simp only [Act.put, List.setIfInBounds_toArray, List.set_cons_zero, List.set_cons_succ]
        refine wpAnyH_take (i := 6) (v := ?_) rfl (by kernel_rfl) (by kernel_rfl) (by kernel_rfl) (fun _ _ _ h => h) (Or.inl ⟨by rfl, ?_⟩) hHeld0 ?_
        rotate_left
        · (intro w hSw; (try dsimp only at hSw); go_simp <;> with_reducible rfl)
        try simp only [Act.put, List.setIfInBounds_toArray, List.set_cons_zero, List.set_cons_succ]
        refine wpAnyH_take (i := 7) (v := ?_) rfl (by kernel_rfl) (by kernel_rfl) (by kernel_rfl) (fun _ _ _ h => h) (Or.inl ⟨by rfl, ?_⟩) hHeld0 ?_
        rotate_left
        · (intro w hSw; (try dsimp only at hSw); go_simp <;> with_reducible rfl)
        try simp only [Act.put, List.setIfInBounds_toArray, List.set_cons_zero, List.set_cons_succ]
        refine wpAnyH_take (i := 8) (v := ?_) rfl (by kernel_rfl) (by kernel_rfl) (by kernel_rfl) (fun _ _ _ h => h) (Or.inl ⟨by rfl, ?_⟩) hHeld0 ?_
        rotate_left
        · (intro w hSw; (try dsimp only at hSw); go_simp <;> with_reducible rfl)
        try simp only [Act.put, List.setIfInBounds_toArray, List.set_cons_zero, List.set_cons_succ]
        try simp only [Act.put, List.getElem_toArray, List.getElem_cons_succ, List.getElem_cons_zero, List.setIfInBounds_toArray, List.set_cons_zero, List.set_cons_succ]
        refine wpAnyH_ready (rs := [9]) (by kernel_rfl) (by simp) ?_
        refine AllReadyH.cons rfl (fun K hK => ?_) ?_
        · go_simp
          rw [← hV]
          clear hV d0 d1 fz0 fz1 l6
          refine hK.out _ _ ?_ (fun hHeld1 => ?_)
          · exact ⟨(World.cell?_of_block (hg.block _ (Nat.lt_trans (Nat.lt_succ_self _) S1.out.out.lt) (fun e => by injection e with e; exact absurd e (Nat.ne_of_lt (Nat.lt_succ_self w.heap.size))))).trans e4, (World.cell?_of_block (hg.block _ (Nat.lt_trans (Nat.lt_succ_self _) S1.out.out.lt) (fun e => by injection e with e; exact absurd e (Nat.ne_of_lt (Nat.lt_succ_self w.heap.size))))).trans e5, (World.cell?_of_block (hg.block _ (by first | (show ad.block < _; have := S1.out.out.lt; have := HLB.out; omega) | (show kd.block < _; have := S1.out.out.lt; have := HLB.out; omega)) (fun e => by injection e with e; first | (have e : ad.block = w.heap.size + 1 := e; have := HLB.out; omega) | (have e : kd.block = w.heap.size + 1 := e; have := HLB.out; omega)))).trans b1', (World.cell?_of_block (hg.block _ (by first | (show ad.block < _; have := S1.out.out.lt; have := HLB.out; omega) | (show kd.block < _; have := S1.out.out.lt; have := HLB.out; omega)) (fun e => by injection e with e; first | (have e : ad.block = w.heap.size + 1 := e; have := HLB.out; omega) | (have e : kd.block = w.heap.size + 1 := e; have := HLB.out; omega)))).trans k1', (World.cell?_of_block (hg.block _ (by first | (show ad.block < _; have := S1.out.out.lt; have := HLB.out; omega) | (show kd.block < _; have := S1.out.out.lt; have := HLB.out; omega)) (fun e => by injection e with e; first | (have e : ad.block = w.heap.size + 1 := e; have := HLB.out; omega) | (have e : kd.block = w.heap.size + 1 := e; have := HLB.out; omega)))).trans k1''⟩
          clear hK K hHeld0
          try simp only [Act.put, List.setIfInBounds_toArray, List.set_cons_zero, List.set_cons_succ]
          refine wpAnyH_take (i := 10) (v := ?_) rfl (by kernel_rfl) (by kernel_rfl) (by kernel_rfl) (fun _ _ _ h => h) (Or.inl ⟨by rfl, ?_⟩) hHeld1 ?_
          rotate_left
          · (intro w hSw; (try dsimp only at hSw); go_simp <;> with_reducible rfl)
          try simp only [Act.put, List.setIfInBounds_toArray, List.set_cons_zero, List.set_cons_succ]
          try simp only [Act.put, List.getElem_toArray, List.getElem_cons_succ, List.getElem_cons_zero, List.setIfInBounds_toArray, List.set_cons_zero, List.set_cons_succ]
          refine wpAnyH_done (by kernel_rfl) ?_ _
          refine (‹∀ (a : Act) (w : World), Code.wp Tryz.prog _ _ a w → _› _ _ ?_)
          go_wp2
          have c0 := q6.cell 0
          have c1 := q6.cell 1
          simp at c0 c1
          exact bodyPost_ret (v := .tuple #[.int .u8 (p1 : Int), .agg #[.int .i64 k11, .int .u32 k12], .bool true]) (by simp [results, Tryz.results29, go_sem, c0, c1]) rfl ⟨by rw [E.out], HF.out.drew⟩
        exact AllReadyH.nil
      · have E : Hid (o = ((p0 : Int), ((k01, k02), true))) := Lib.hid (by rw [E0.out, if_neg hpb])
        have hne : ((p0 : Int) == (b : Int)) = false := by simp; omega
        clear hl hlen E0
        go_wp2_with fail
        obtain ⟨d0, d1⟩ : w1.cell? ⟨w.heap.size + 1, 0, none⟩ = some (.int .i64 0) ∧ w1.cell? ⟨w.heap.size + 1, 1, none⟩ = some (.int .u32 0) := ⟨S1.out.out.cell 0, S1.out.out.cell 1⟩
        have fz0 := S1.out.out.frozen 0
        have fz1 := S1.out.out.frozen 1
        have l6 := S1.out.out.lt
        obtain ⟨VV, hV, hg, q6⟩ := two_stores (.int .i64 k01) (.int .u32 k02) S1.out.out
        have HF := Lib.hid (S1.out.below.grown hg S1.out.below.size (fun k e => by injection e with e; omega))
        refine wp_region_held_drew (S := (fun V : World => V.cell? ⟨w.heap.size, 4, none⟩ = some (.slice (some ad) x.bytes.length cb) ∧ V.cell? ⟨w.heap.size, 5, none⟩ = some (.slice (some kd) x.kids.length ck) ∧ V.cell? (ad) = some (.int .u8 (p0 : Int)) ∧ V.cell? (kd) = some (.int .i64 k01) ∧ V.cell? ⟨kd.block, kd.off + 1, none⟩ = some (.int .u32 k02))) (by kernel_rfl) ?_ (fun hHeld0 => ?_)
        · exact ⟨e4, e5, b0'', k0', k0''⟩
        refine wpAnyH_take (i := 0) (v := ?_) rfl (by kernel_rfl) (by kernel_rfl) (by kernel_rfl) (fun _ _ _ h => h) (Or.inl ⟨by rfl, ?_⟩) hHeld0 ?_
        rotate_left
        · (intro w hSw; (try dsimp only at hSw); go_simp <;> with_reducible rfl)
        try simp only [Act.put, List.setIfInBounds_toArray, List.set_cons_zero, List.set_cons_succ]
        refine wpAnyH_take (i := 1) (v := ?_) rfl (by kernel_rfl) (by kernel_rfl) (by kernel_rfl) (fun _ _ _ h => h) (Or.inl ⟨by rfl, ?_⟩) hHeld0 ?_
        rotate_left
        · (intro w hSw; (try dsimp only at hSw); go_simp <;> with_reducible rfl)
        try simp only [Act.put, List.setIfInBounds_toArray, List.set_cons_zero, List.set_cons_succ]
        refine wpAnyH_take (i := 2) (v := ?_) rfl (by kernel_rfl) (by kernel_rfl) (by kernel_rfl) (fun _ _ _ h => h) (Or.inl ⟨by rfl, ?_⟩) hHeld0 ?_
        rotate_left
        · (intro w hSw; (try dsimp only at hSw); go_simp <;> with_reducible rfl)
        try simp only [Act.put, List.setIfInBounds_toArray, List.set_cons_zero, List.set_cons_succ]
        refine wpAnyH_take (i := 3) (v := ?_) rfl (by kernel_rfl) (by kernel_rfl) (by kernel_rfl) (fun _ _ _ h => h) (Or.inl ⟨by rfl, ?_⟩) hHeld0 ?_
        rotate_left
        · (intro w hSw; (try dsimp only at hSw); go_simp <;> with_reducible rfl)
        try simp only [Act.put, List.setIfInBounds_toArray, List.set_cons_zero, List.set_cons_succ]
        refine wpAnyH_take (i := 4) (v := ?_) rfl (by kernel_rfl) (by kernel_rfl) (by kernel_rfl) (fun _ _ _ h => h) (Or.inl ⟨by rfl, ?_⟩) hHeld0 ?_
        rotate_left
        · (intro w hSw; (try dsimp only at hSw); go_simp <;> with_reducible rfl)
        try simp only [Act.put, List.setIfInBounds_toArray, List.set_cons_zero, List.set_cons_succ]
        refine wpAnyH_take (i := 5) (v := ?_) rfl (by kernel_rfl) (by kernel_rfl) (by kernel_rfl) (fun _ _ _ h => h) (Or.inl ⟨by rfl, ?_⟩) hHeld0 ?_
        rotate_left
        · (intro w hSw; (try dsimp only at hSw); go_simp <;> with_reducible rfl)
        try simp only [Act.put, List.setIfInBounds_toArray, List.set_cons_zero, List.set_cons_succ]
        refine wpAnyH_take (i := 6) (v := ?_) rfl (by kernel_rfl) (by kernel_rfl) (by kernel_rfl) (fun _ _ _ h => h) (Or.inl ⟨by rfl, ?_⟩) hHeld0 ?_
        rotate_left
        · (intro w hSw; (try dsimp only at hSw); go_simp <;> with_reducible rfl)
        try simp only [Act.put, List.setIfInBounds_toArray, List.set_cons_zero, List.set_cons_succ]
        refine wpAnyH_take (i := 7) (v := ?_) rfl (by kernel_rfl) (by kernel_rfl) (by kernel_rfl) (fun _ _ _ h => h) (Or.inl ⟨by rfl, ?_⟩) hHeld0 ?_
        rotate_left
        · (intro w hSw; (try dsimp only at hSw); go_simp <;> with_reducible rfl)
        try simp only [Act.put, List.setIfInBounds_toArray, List.set_cons_zero, List.set_cons_succ]
        refine wpAnyH_take (i := 8) (v := ?_) rfl (by kernel_rfl) (by kernel_rfl) (by kernel_rfl) (fun _ _ _ h => h) (Or.inl ⟨by rfl, ?_⟩) hHeld0 ?_
        rotate_left
        · (intro w hSw; (try dsimp only at hSw); go_simp <;> with_reducible rfl)
        try simp only [Act.put, List.setIfInBounds_toArray, List.set_cons_zero, List.set_cons_succ]
        try simp only [Act.put, List.getElem_toArray, List.getElem_cons_succ, List.getElem_cons_zero, List.setIfInBounds_toArray, List.set_cons_zero, List.set_cons_succ]
        refine wpAnyH_ready (rs := [9]) (by kernel_rfl) (by simp) ?_
        refine AllReadyH.cons rfl (fun K hK => ?_) ?_
        · go_simp
          rw [← hV]
          clear hV d0 d1 fz0 fz1 l6
          refine hK.out _ _ ?_ (fun hHeld1 => ?_)
          · exact ⟨(World.cell?_of_block (hg.block _ (Nat.lt_trans (Nat.lt_succ_self _) S1.out.out.lt) (fun e => by injection e with e; exact absurd e (Nat.ne_of_lt (Nat.lt_succ_self w.heap.size))))).trans e4, (World.cell?_of_block (hg.block _ (Nat.lt_trans (Nat.lt_succ_self _) S1.out.out.lt) (fun e => by injection e with e; exact absurd e (Nat.ne_of_lt (Nat.lt_succ_self w.heap.size))))).trans e5, (World.cell?_of_block (hg.block _ (by first | (show ad.block < _; have := S1.out.out.lt; have := HLB.out; omega) | (show kd.block < _; have := S1.out.out.lt; have := HLB.out; omega)) (fun e => by injection e with e; first | (have e : ad.block = w.heap.size + 1 := e; have := HLB.out; omega) | (have e : kd.block = w.heap.size + 1 := e; have := HLB.out; omega)))).trans b0'', (World.cell?_of_block (hg.block _ (by first | (show ad.block < _; have := S1.out.out.lt; have := HLB.out; omega) | (show kd.block < _; have := S1.out.out.lt; have := HLB.out; omega)) (fun e => by injection e with e; first | (have e : ad.block = w.heap.size + 1 := e; have := HLB.out; omega) | (have e : kd.block = w.heap.size + 1 := e; have := HLB.out; omega)))).trans k0', (World.cell?_of_block (hg.block _ (by first | (show ad.block < _; have := S1.out.out.lt; have := HLB.out; omega) | (show kd.block < _; have := S1.out.out.lt; have := HLB.out; omega)) (fun e => by injection e with e; first | (have e : ad.block = w.heap.size + 1 := e; have := HLB.out; omega) | (have e : kd.block = w.heap.size + 1 := e; have := HLB.out; omega)))).trans k0''⟩
          clear hK K hHeld0
          try simp only [Act.put, List.setIfInBounds_toArray, List.set_cons_zero, List.set_cons_succ]
          refine wpAnyH_take (i := 10) (v := ?_) rfl (by kernel_rfl) (by kernel_rfl) (by kernel_rfl) (fun _ _ _ h => h) (Or.inl ⟨by rfl, ?_⟩) hHeld1 ?_
          rotate_left
          · (intro w hSw; (try dsimp only at hSw); go_simp <;> with_reducible rfl)
          try simp only [Act.put, List.setIfInBounds_toArray, List.set_cons_zero, List.set_cons_succ]
          try simp only [Act.put, List.getElem_toArray, List.getElem_cons_succ, List.getElem_cons_zero, List.setIfInBounds_toArray, List.set_cons_zero, List.set_cons_succ]
          refine wpAnyH_done (by kernel_rfl) ?_ _
          refine (‹∀ (a : Act) (w : World), Code.wp Tryz.prog _ _ a w → _› _ _ ?_)
          go_wp2
          have c0 := q6.cell 0
          have c1 := q6.cell 1
          simp at c0 c1
          exact bodyPost_ret (v := .tuple #[.int .u8 (p0 : Int), .agg #[.int .i64 k01, .int .u32 k02], .bool true]) (by simp [results, Tryz.results29, go_sem, c0, c1]) rfl ⟨by rw [E.out], HF.out.drew⟩
        exact AllReadyH.nil
    · have E : Hid (o = (0, ((0, 0), false))) := Lib.hid (by rw [HO.out]; unfold restN; rw [if_neg (fun h => hl h.2)])
      have hl2 : ((x.kids.length : Int) != 2) = true := by simp; omega
      obtain ⟨d0, d1⟩ : w1.cell? ⟨w.heap.size + 1, 0, none⟩ = some (.int .i64 0) ∧ w1.cell? ⟨w.heap.size + 1, 1, none⟩ = some (.int .u32 0) := ⟨S1.out.out.cell 0, S1.out.out.cell 1⟩
      have fz0 := S1.out.out.frozen 0
      have fz1 := S1.out.out.frozen 1
      have l6 := S1.out.out.lt
      obtain ⟨VV, hV, hg, q6⟩ := two_stores (.int .i64 0) (.int .u32 0) S1.out.out
      have HF := Lib.hid (S1.out.below.grown hg S1.out.below.size (fun k e => by injection e with e; omega))
      go_wp2
      rw [← hV]
      clear hV d0 d1 fz0 fz1 l6
      have c0 := q6.cell 0
      have c1 := q6.cell 1
      simp at c0 c1
      exact bodyPost_ret (v := .tuple #[.int .u8 0, .agg #[.int .i64 0, .int .u32 0], .bool false]) (by simp [results, Tryz.results29, go_sem, c0, c1]) rfl ⟨by rw [E.out], HF.out⟩
end Go.Proofs.YtgjgcbemgmkncaaGreatDoor
namespace Go.Proofs.YtgjgcbemgmkncaaGreatDoor
open Go.RowKit
set_option linter.unusedVariables false
set_option linter.unusedSimpArgs false

theorem flat_drop {α : Type} {f : α → List Value} {m : Nat} (hf : ∀ x, (f x).length = m) : ∀ (l : List α) (k : Nat) (hk : k < l.length), (l.flatMap f).drop (k * m) = f l[k] ++ (l.drop (k + 1)).flatMap f
  | x :: l, 0, _ => by simp
  | x :: l, k + 1, hk => by
    have h := flat_drop hf l k (by simpa using hk)
    rw [List.flatMap_cons, List.drop_append, List.drop_eq_nil_of_le (by rw [hf, Nat.add_mul]; omega), List.nil_append, hf, show (k + 1) * m - m = k * m by rw [Nat.add_mul]; omega, h]
    rfl
theorem row_cells {α : Type} {f : α → List Value} {m : Nat} (hf : ∀ x, (f x).length = m) {w : World} {B n k : Nat} {A : Option Addr} {l : List α} (h : Reads w B m A n (l.flatMap f)) (hn : n = l.length) (hk : k < l.length) :
    ∃ ad, A = some ad ∧ ad.block < B ∧ ∀ j u, (f l[k])[j]? = some u → w.cell? ((ad.add (k * m)).add j) = some u := by
  subst hn
  obtain ⟨ad, rfl, hb, hc⟩ := h.2 (by omega)
  refine ⟨ad, rfl, hb, fun j u hu => ?_⟩
  rw [add_of_add]
  refine hc _ u ?_
  have h1 := flat_drop hf l k hk
  rw [← List.getElem?_drop, h1, List.getElem?_append_left (List.getElem?_eq_some_iff.1 hu).1]
  exact hu
/-- A slice at the head of a block that is known whole. -/
theorem reads_of_blk {w : World} {g n size : Nat} {t : TypeId} {cs : Array Value} {xs : List Value} (h : Blk w g t cs) (hx : cs.toList = xs) (hl : xs.length = n * size) : Reads w (g + 1) size (some ⟨g, 0, none⟩) n xs := by
  refine ⟨hl, fun _ => ⟨_, rfl, Nat.lt_succ_self g, fun j u hu => ?_⟩⟩
  have e : (Addr.add ⟨g, 0, none⟩ j) = ⟨g, j, none⟩ := by unfold Addr.add; split <;> simp_all
  rw [e, h.cell j, ← hu, ← hx, Array.getElem?_toList]
theorem blk_newAt {w : World} {g : Nat} {t : TypeId} {cs : Array Value} (h : w.heap.size = g) : Blk (w.alloc (.cells cs t)) g t cs := by subst h; exact Blk.new _ _ _
theorem ownsRow_below {W W' : World} {B base size n : Nat} {e : TypeId} {v : Value} {xs : List Value} (h : W.ownsRow base e size v n xs) (hb : Below B W W') (hB : W.heap.size ≤ B) : W'.ownsRow base e size v n xs :=
  h.kept (row := none) ⟨hb.os, hb.tape, hb.output, hb.size, fun k hk _ => hb.block k (by omega)⟩ (by cases hv : v.ownBlock <;> simp)
section
variable {P : Program} (w : World)

theorem run_append_of_nil (base : Nat) (t ty e : TypeId) (i : TypeInfo) (size : Nat) (ht : P.underlying t = some (.slice e)) (hi : P.info? e = some i)
    (v : Value) (n : Nat) (xs : List Value) (hown : w.ownsRow base e size v n xs) (c : Nat) : (Builtin.append_ #[t, t] ty #[v, .slice none 0 c]).run P w = .ok v w := by
  rcases hown.2 with ⟨rfl, rfl⟩ | ⟨g, cap, cur, rfl, _, _, hnc, _⟩
  · simp [Builtin.append_, run_underlying ht, sizeOf, typeInfo, hi, Builtin.lenOf, Builtin.firstCells]
  · simp [Builtin.append_, run_underlying ht, sizeOf, typeInfo, hi, Builtin.lenOf, Builtin.firstCells, hnc, storeCells]

theorem run_append_any (base : Nat) (t ty e : TypeId) (i : TypeInfo) (z : Value) (size bytes : Nat) (ht : P.underlying t = some (.slice e)) (hi : P.info? e = some i) (hz : i.zero = some z)
    (hsize : i.size = size) (hby : i.bytes = bytes) (hzs : z.cells.size = size) (hsz : 0 < size)
    (v : Value) (n : Nat) (xs : List Value) (hown : w.ownsRow base e size v n xs)
    (B : Nat) (A : Option Addr) (m c : Nat) (news : List Value) (hr : Reads w B size A m news) (h1 : ∀ u ∈ news, u.oneCell' = true)
    (h63 : n + m ≤ maxLen) (hbytes : (n + m) * bytes ≤ 140737488355328) (hbase : base ≤ w.heap.size) :
    ∃ v' w', (Builtin.append_ #[t, t] ty #[v, .slice A m c]).run P w = .ok v' w' ∧ w'.ownsRow base e size v' (n + m) (xs ++ news) ∧ w.grownBy w' v.ownBlock ∧
      (v'.ownBlock = v.ownBlock ∨ v'.ownBlock = some w.heap.size) := by
  have hzero : m = 0 → news = [] := fun h => List.eq_nil_of_length_eq_zero (by rw [hr.1, h, Nat.zero_mul])
  cases A with
  | none =>
    have hm : m = 0 := by
      rcases Nat.eq_zero_or_pos m with h0 | h0
      · exact h0
      · obtain ⟨ad, h, _⟩ := hr.2 h0
        cases h
    have hn := hzero hm
    subst hm hn
    exact ⟨v, w, run_append_of_nil w base t ty e i size ht hi v n xs hown c, by simpa using hown, World.grownBy.refl w _, .inl rfl⟩
  | some ad =>
    have hcells : ∀ j u, news[j]? = some u → w.cell? (ad.add j) = some u := by
      intro j u hu
      rcases Nat.eq_zero_or_pos m with h0 | h0
      · rw [hzero h0] at hu; simp at hu
      · obtain ⟨ad', h, _, hc⟩ := hr.2 h0
        injection h with h
        subst h
        exact hc j u hu
    obtain ⟨v', w', hrun, h2, h3, _, h5⟩ := run_append_own_at (P := P) w base t ty e i z size bytes ht hi hz hsize hby hzs hsz v n xs hown ad m c news hr.1 hcells h1 h63 hbytes hbase
    exact ⟨v', w', hrun, h2, h3, h5⟩

theorem wp_append_any {o : Oper} {a : Act} {K : Act → World → Prop} {Q : Exit → Act → World → Prop} (s x : Operand) (t : TypeId)
    (ho : o.op = .call { callee := .builtin .append, args := #[s, x], argTypes := #[t, t] })
    (base : Nat) (e : TypeId) (i : TypeInfo) (z : Value) (size bytes : Nat) (ht : P.underlying t = some (.slice e)) (hi : P.info? e = some i) (hz : i.zero = some z)
    (hsize : i.size = size) (hby : i.bytes = bytes) (hzs : z.cells.size = size) (hsz : 0 < size)
    (v : Value) (n : Nat) (xs : List Value) (hs : a.eval s = v) (hown : w.ownsRow base e size v n xs)
    (B : Nat) (A : Option Addr) (m c : Nat) (news : List Value) (hx : a.eval x = .slice A m c) (hr : Reads w B size A m news) (h1 : ∀ u ∈ news, u.oneCell' = true)
    (h63 : n + m ≤ maxLen) (hbytes : (n + m) * bytes ≤ 140737488355328) (hbase : base ≤ w.heap.size)
    (h : ∀ v' w', w'.ownsRow base e size v' (n + m) (xs ++ news) → w.grownBy w' v.ownBlock → (v'.ownBlock = v.ownBlock ∨ v'.ownBlock = some w.heap.size) → K (a.put o.dst v') w') : o.wp P a w K Q := by
  obtain ⟨v', w', hrun, h2, h3, h4⟩ := run_append_any (P := P) w base t o.type e i z size bytes ht hi hz hsize hby hzs hsz v n xs hown B A m c news hr h1 h63 hbytes hbase
  unfold Oper.wp execOp
  simp only [ho, resolve, invoke, builtin, Sem.run_bind, Sem.run_pure, Result.andThen_ok, List.map_toArray, List.map_cons, List.map_nil, hs, hx, hrun]
  exact h v' w' h2 h3 h4

theorem wpList_append_any {ops : Array Oper} {rest : List Oper} {o : Oper} {a : Act} {Q : Exit → Act → World → Prop} (hgd : o.guard = none) (s x : Operand) (t : TypeId)
    (ho : o.op = .call { callee := .builtin .append, args := #[s, x], argTypes := #[t, t] })
    (base : Nat) (e : TypeId) (i : TypeInfo) (z : Value) (size bytes : Nat) (ht : P.underlying t = some (.slice e)) (hi : P.info? e = some i) (hz : i.zero = some z)
    (hsize : i.size = size) (hby : i.bytes = bytes) (hzs : z.cells.size = size) (hsz : 0 < size)
    (v : Value) (n : Nat) (xs : List Value) (hs : a.eval s = v) (hown : w.ownsRow base e size v n xs)
    (B : Nat) (A : Option Addr) (m c : Nat) (news : List Value) (hx : a.eval x = .slice A m c) (hr : Reads w B size A m news) (h1 : ∀ u ∈ news, u.oneCell' = true)
    (h63 : n + m ≤ maxLen) (hbytes : (n + m) * bytes ≤ 140737488355328) (hbase : base ≤ w.heap.size)
    (h : ∀ v' w', w'.ownsRow base e size v' (n + m) (xs ++ news) → w.grownBy w' v.ownBlock → (v'.ownBlock = v.ownBlock ∨ v'.ownBlock = some w.heap.size) → wpList P ops Q rest (a.put o.dst v') w') : wpList P ops Q (o :: rest) a w :=
  wpList_plain hgd fun _ hK => wp_append_any w s x t ho base e i z size bytes ht hi hz hsize hby hzs hsz v n xs hs hown B A m c news hx hr h1 h63 hbytes hbase fun v' w' h2 h3 h4 => hK _ _ (h v' w' h2 h3 h4)
end

/-- make with a length and a capacity, elements of any size. -/
theorem run_make_rowN {P : Program} (t e : TypeId) (i : TypeInfo) (z : Value) (ht : P.underlying t = some (.slice e)) (hi : P.info? e = some i) (hz : i.zero = some z)
    (kl kc : IntKind) (n c : Nat) (hnc : n ≤ c) (hbytes : i.bytes * c ≤ 281474976710656) (h63 : c ≤ 9223372036854775807) (w : World) :
    (Instr.makeSlice t (.int kl (n : Int)) (.int kc (c : Int))).run P w = .ok (.slice (some ⟨w.heap.size, 0, none⟩) n c) (w.alloc (.cells (madeCells z.cells (c * i.size)) e)) := by
  have hb : (i.bytes : Int) * (c : Int) ≤ 281474976710656 := by
    have h : ((i.bytes * c : Nat) : Int) ≤ 281474976710656 := by omega
    rwa [Int.natCast_mul] at h
  have hr := run_make (P := P) w t e i z ht hi hz kl kc n c (by omega) (by omega) hb (by omega)
  simp only [Int.toNat_natCast] at hr
  exact hr

/-- An append leaves what lies below base as it was. -/
theorem below_app {w w' : World} {B base size n : Nat} {e : TypeId} {v : Value} {xs : List Value} {W : World} (hb : Below B W w) (h : w.ownsRow base e size v n xs) (hg : w.grownBy w' v.ownBlock) (hB : B ≤ base) (hs : B ≤ w.heap.size) : Below B W w' :=
  hb.grown hg hs (fun k hk => by have := (h.lt k hk).1; omega)

theorem only_setCell {a w : World} {g : Nat} (h : a.grownBy w (some g)) {p : Addr} (hp : p.block = g ∨ a.heap.size ≤ p.block) (u : Value) : a.grownBy (w.setCell p u) (some g) :=
  ⟨h.os, h.tape, h.output, by simpa [World.setCell] using h.size, fun i hi hne => (Below.heap_setCell w p u i (by
    rintro rfl
    rcases hp with hp | hp
    · exact hne (by rw [hp])
    · omega)).trans (h.block i hi hne)⟩
theorem only_below {a w w' : World} {row : Option Nat} (h : a.grownBy w row) (hb : Below w.heap.size w w') : a.grownBy w' row :=
  ⟨hb.os.trans h.os, hb.tape.trans h.tape, hb.output.trans h.output, Nat.le_trans h.size hb.size, fun i hi hn => (hb.block i (Nat.lt_of_lt_of_le hi h.size)).trans (h.block i hi hn)⟩
/-- The marks behind a list that is handed in. -/
def markN (k i : Int) : Int := 1000003 * (k + 7) + i
def irow (n : Int) : List Value := [.int .i64 n]
theorem flat_one {α : Type} {f : α → List Value} (hf : ∀ x, ∀ u ∈ f x, u.oneCell' = true) (l : List α) : ∀ u ∈ l.flatMap f, u.oneCell' = true := by
  intro u hu
  obtain ⟨x, _, hx⟩ := List.mem_flatMap.1 hu
  exact hf x u hx
theorem nrow_one (x : Nat) : ∀ u ∈ nrow x, u.oneCell' = true := by simp [nrow, Value.oneCell']
theorem rrow_one (x : Int × Int) : ∀ u ∈ rrow x, u.oneCell' = true := by simp [rrow, Value.oneCell']
/-- The byte of a mark. -/
def markB (k i : Int) : Nat := (IntKind.u8.wrap (IntKind.u64.wrap (IntKind.u64.wrap (markN k i) * 11400714819323198485) / 72057594037927936)).toNat
def markR (k i : Int) : Int × Int := (markN k i, 0)
def marksB (k : Nat) : List Nat := (List.range k).map fun (i : Nat) => markB 1 i
def marksR (k : Nat) : List (Int × Int) := (List.range k).map fun (i : Nat) => markR 1 i
theorem marksB_len (k : Nat) : (marksB k).length = k := by simp [marksB]
theorem marksR_len (k : Nat) : (marksR k).length = k := by simp [marksR]
theorem marksB_succ (k : Nat) : marksB (k + 1) = marksB k ++ [markB 1 k] := by simp [marksB, List.range_succ]
theorem marksR_succ (k : Nat) : marksR (k + 1) = marksR k ++ [markR 1 k] := by simp [marksR, List.range_succ]
end Go.Proofs.YtgjgcbemgmkncaaGreatDoor
namespace Go.Proofs.YtgjgcbemgmkncaaGreatDoor
open Go.RowKit
set_option linter.unusedVariables false
set_option linter.unusedSimpArgs false

theorem infoBytes : (Tryz.prog.info? 5).map (fun i => (i.zero, i.size, i.bytes)) = some (some (.int .u8 0), 1, 1) := by kernel_rfl

theorem mark_any (k i : Int) (w : World) (hk : 0 ≤ k ∧ k ≤ 1000) (hi : 0 ≤ i ∧ i ≤ 1000000) : Calls Tryz.prog 83 #[.int .i64 k, .int .i64 i] w fun e w' => e = .returned (.int .i64 (markN k i)) ∧ w = w' := by
  obtain ⟨h1, h2⟩ := hk
  obtain ⟨h3, h4⟩ := hi
  go_enter Tryz.func83, Tryz.ntmps83
  go_wp2
  go_ret
  exact ⟨rfl, rfl⟩
theorem mark_1 (k : Nat) (w : World) (h : k ≤ 1000000) : Calls Tryz.prog 83 #[.int .i64 1, .int .i64 k] w fun e w' => e = .returned (.int .i64 (markN 1 k)) ∧ w = w' := mark_any 1 k w (by omega) (by omega)
theorem mark_2 (k : Nat) (w : World) (h : k ≤ 1000000) : Calls Tryz.prog 83 #[.int .i64 2, .int .i64 k] w fun e w' => e = .returned (.int .i64 (markN 2 k)) ∧ w = w' := mark_any 2 k w (by omega) (by omega)

theorem markB_any (k i : Int) (w : World) (hk : 0 ≤ k ∧ k ≤ 1000) (hi : 0 ≤ i ∧ i ≤ 1000000) : Calls Tryz.prog 70 #[.int .i64 k, .int .i64 i] w fun e w' => e = .returned (.int .u8 (markB k i : Int)) ∧ w = w' := by
  have HM := Lib.hid (mark_any k i w hk hi)
  have E : Hid (IntKind.u8.wrap (IntKind.u64.wrap (IntKind.u64.wrap (markN k i) * 11400714819323198485) / 72057594037927936) = (markB k i : Int)) := Lib.hid (by
    unfold markB
    refine (Int.toNat_of_nonneg ?_).symm
    generalize IntKind.u64.wrap _ / _ = x
    simp [IntKind.wrap, IntKind.min, IntKind.max, IntKind.signed, IntKind.bits]
    omega)
  clear hk hi
  go_enter Tryz.func70, Tryz.ntmps70
  go_wp2_with fail
  refine HM.out.mono ?_
  rintro e w1 ⟨rfl, rfl⟩
  go_wp2
  go_ret
  exact ⟨by rw [← E.out]; first | rfl | simp, rfl⟩
theorem markB_1 (k : Nat) (w : World) (h : k ≤ 1000000) : Calls Tryz.prog 70 #[.int .i64 1, .int .i64 k] w fun e w' => e = .returned (.int .u8 (markB 1 k : Int)) ∧ w = w' := markB_any 1 k w (by omega) (by omega)
theorem markB_2 (k : Nat) (w : World) (h : k ≤ 1000000) : Calls Tryz.prog 70 #[.int .i64 2, .int .i64 k] w fun e w' => e = .returned (.int .u8 (markB 2 k : Int)) ∧ w = w' := markB_any 2 k w (by omega) (by omega)

/-- What LentBytes comes to. -/
def LentBytesEnd (l : List Nat) (w : World) (e : Ending) (w' : World) : Prop :=
  ∃ g cap, e = .returned (.slice (some ⟨g, 0, none⟩) l.length cap) ∧ l.length + 12 ≤ cap ∧ cap ≤ maxLen ∧ w'.ownsRow w.heap.size 5 1 (.slice (some ⟨g, 0, none⟩) (l.length + 12) cap) (l.length + 12) ((l ++ marksB 12).flatMap nrow) ∧ Below w.heap.size w w'

set_option maxHeartbeats 1600000 in
set_option maxRecDepth 100000 in
theorem lent_bytes (l : List Nat) (A : Option Addr) (c : Nat) (w : World) (hl : l.length ≤ 65536) (hA : Reads w w.heap.size 1 A l.length (l.flatMap nrow)) :
    Calls Tryz.prog 50 #[.slice A l.length c] w (LentBytesEnd l w) := by
  obtain ⟨i0, hi0, iz0, iz1, iz2⟩ := info_parts infoBytes
  have hmk : ∀ W, (Instr.makeSlice 23 (.int .i64 0) (.int .i64 ((l.length : Int) + 12))).run Tryz.prog W = .ok (.slice (some ⟨W.heap.size, 0, none⟩) 0 (l.length + 12)) (W.alloc (.cells (madeCells #[.int .u8 0] (l.length + 12)) 5)) := fun W => by
    have h := run_make_rowN (P := Tryz.prog) 23 5 i0 _ Tryz.underlying23 hi0 iz0 .i64 .i64 0 (l.length + 12) (by omega) (by rw [iz2]; omega) (by omega) W
    rw [iz1, Nat.mul_one] at h
    exact h
  have hmk0 : Blk (w.alloc (.cells (madeCells #[.int .u8 0] (l.length + 12)) 5)) w.heap.size 5 (madeCells #[.int .u8 0] (l.length + 12)) := Blk.new _ _ _
  have hown0 := Blk.own (base := w.heap.size) (size := 1) (n := 0) (c := l.length + 12) (xs := []) hmk0 (Nat.le_refl _) (by omega) (by unfold maxLen; omega) (by rw [size_madeCells]; omega) (by simp)
  have hbel0 := below_box w (.cells (madeCells #[.int .u8 0] (l.length + 12)) 5)
  have hsz0 : (w.alloc (.cells (madeCells #[.int .u8 0] (l.length + 12)) 5)).heap.size = w.heap.size + 1 := by simp
  have HW0 := Lib.hid (And.intro hown0 (And.intro hbel0 hsz0))
  clear hmk0 hown0 hbel0 hsz0
  have hlc : (l.length : Int) ≤ 65536 := by omega
  have HA := Lib.hid hA
  clear hA
  go_enter Tryz.func50, Tryz.ntmps50
  refine wp_seq_k fun K0 hK => ?_
  have HK0 := Lib.hid hK
  clear hK
  go_wp2_with fail
  refine HK0.out _ _ ?_
  clear HK0 K0
  refine wp_seq_k fun K0 hK => ?_
  have HK0 := Lib.hid hK
  clear hK
  go_wp2_with fail
  refine HK0.out _ _ ?_
  clear HK0 K0 hmk
  generalize w.alloc (.cells (madeCells #[.int .u8 0] (l.length + 12)) 5) = W0 at HW0 ⊢
  obtain ⟨hown0, hbel0, hsz0⟩ := HW0.out
  clear HW0
  have hsz1 : w.heap.size ≤ W0.heap.size := by omega
  clear hsz0
  refine wp_seq_k fun K0 hK => ?_
  have HK0 := Lib.hid hK
  clear hK
  go_wp2_with (first
    | (at_builtin
       refine wpList_append_any _ rfl (.tmp 9) (.tmp 10) _ rfl w.heap.size 5 i0 _ 1 1 Tryz.underlying23 hi0 iz0 iz1 iz2 rfl (by omega) (.slice (some ⟨w.heap.size, 0, none⟩) 0 (l.length + 12)) 0 [] rfl
         hown0 w.heap.size A l.length c _ rfl (HA.out.below hbel0) (flat_one nrow_one l) (by unfold maxLen; omega) (by omega) hsz1 ?_
       intro v1 w1 hown1 hg1 hat1
       have hbel1 : Below w.heap.size w w1 := below_app hbel0 hown0 hg1 (Nat.le_refl _) hsz1))
  refine HK0.out _ _ ?_
  clear HK0 K0 hown0 hbel0 hg1 hat1
  simp only [List.nil_append, Nat.zero_add] at hown1
  refine wp_seq_k fun K0 hK => ?_
  have HK0 := Lib.hid hK
  clear hK
  go_wp2_with fail
  go_loopw [3, 4] (fun v i wr => ∃ k : Nat, k ≤ 12 ∧ i = .int .i64 k ∧ wr.ownsRow w.heap.size 5 1 v (l.length + k) ((l ++ marksB k).flatMap nrow) ∧ Below w.heap.size w wr) (fun _ i _ => 12 - (intOf i).toNat)
  case atStart => exact ⟨0, by omega, rfl, by simpa [marksB] using hown1, hbel1⟩
  case round =>
    clear hown1 hbel1
    obtain ⟨k, hk, rfl, hown, hbel⟩ := hrel
    have hsz := hbel.size
    by_cases hlt : k < 12
    · go_wp2_with (first
        | (go_at_call 70; refine (markB_1 k _ (by omega)).mono ?_; rintro e w' ⟨rfl, rfl⟩)
        | (at_builtin
           refine wpList_append_any _ rfl (.tmp 16) (.tmp 19) _ rfl w.heap.size 5 i0 _ 1 1 Tryz.underlying23 hi0 iz0 iz1 iz2 rfl (by omega) u3 (l.length + k) ((l ++ marksB k).flatMap nrow) rfl
             (hown.alloc _) _ (some ⟨wr.heap.size, 0, none⟩) 1 1 (nrow (markB 1 k)) rfl (reads_of_blk (blk_newAt rfl) rfl rfl) (nrow_one _) (by unfold maxLen; omega) (by omega) (by simp; omega) ?_
           intro v2 w2 hown2 hg2 hat2
           have hbel2 : Below w.heap.size w w2 := below_app (hbel.alloc hsz _) (hown.alloc _) hg2 (Nat.le_refl _) (by simp; omega)))
      clear hg2 hat2
      go_roundw
      case rel => exact ⟨k + 1, by omega, by go_num, by
        rw [marksB_succ, ← List.append_assoc, List.flatMap_append, List.flatMap_singleton]
        exact hown2, hbel2⟩
      case measure => simp [intOf]; omega
    · obtain rfl : k = 12 := by omega
      obtain ⟨g, cap, hv, hgb, hgl⟩ := hown.form (by omega)
      obtain ⟨A1, c1, hv1, -, hc1, hc2⟩ := own_form hown
      rw [hv] at hv1
      injection hv1 with e1 e2 e3
      subst e3
      clear e1 e2
      have hcl : ((l.length : Int)) ≤ ((cap : Nat) : Int) := by omega
      have hcm := hc2
      unfold maxLen at hcm
      have hcm2 : ((cap : Nat) : Int) ≤ 9223372036854775807 := by omega
      rw [hv] at hown ⊢
      clear hv
      go_wp2_with fail
      refine HK0.out _ _ ?_
      go_wp2_with fail
      go_ret
      exact ⟨g, cap, rfl, hc1, hc2, hown, hbel⟩

def KeptEnd (w : World) (e : Ending) (w' : World) : Prop := e = .returned (.bool true) ∧ Below w.heap.size w w'

set_option maxHeartbeats 3200000 in
set_option maxRecDepth 100000 in
theorem kept_bytes (l : List Nat) (A : Option Addr) (c g cap : Nat) (w : World) (hl : l.length ≤ 65536) (hA : Reads w w.heap.size 1 A l.length (l.flatMap nrow)) (hX : Reads w w.heap.size 1 (some ⟨g, 0, none⟩) (l.length + 12) ((l ++ marksB 12).flatMap nrow))
    (hgw : g < w.heap.size) (hc1 : l.length + 12 ≤ cap) (hc2 : cap ≤ maxLen) : Calls Tryz.prog 54 #[.slice (some ⟨g, 0, none⟩) l.length cap, .slice A l.length c] w (KeptEnd w) := by
  have hlc : (l.length : Int) ≤ 65536 := by omega
  have hcl : (l.length : Int) + 12 ≤ ((cap : Nat) : Int) := by omega
  unfold maxLen at hc2
  have hcm2 : ((cap : Nat) : Int) ≤ 9223372036854775807 := by omega
  have HA := Lib.hid hA
  have HX := Lib.hid hX
  have hm12 : (marksB 12).length = 12 := marksB_len 12
  have HM := Lib.hid hm12
  clear hA hX hm12
  go_enter Tryz.func54, Tryz.ntmps54
  refine wp_seq_k fun K0 hK => ?_
  have HK0 := Lib.hid hK
  clear hK
  go_wp2_with fail
  refine HK0.out _ _ ?_
  clear HK0 K0
  refine wp_seq_k fun K0 hK => ?_
  have HK0 := Lib.hid hK
  clear hK
  go_wp2_with fail
  refine HK0.out _ _ ?_
  clear HK0 K0
  refine wp_seq_k fun K0 hK => ?_
  have HK0 := Lib.hid hK
  clear hK
  go_wp2_with fail
  refine HK0.out _ _ ?_
  clear HK0 K0
  refine wp_seq_k fun K0 hK => ?_
  have HK0 := Lib.hid hK
  clear hK
  go_wp2_with fail
  go_loopw [6] (fun i wr => ∃ k : Nat, k ≤ l.length + 12 ∧ i = .int .i64 k ∧ Below w.heap.size w wr) (fun i _ => l.length + 12 - (intOf i).toNat)
  case atStart => exact ⟨0, by omega, rfl, Below.refl _ _⟩
  case round =>
    obtain ⟨k, hk, rfl, hbel⟩ := hrel
    by_cases hlt : k < l.length + 12
    · obtain ⟨gd, hgd, -, hx0⟩ := row_cells nrow_len HX.out (by rw [List.length_append, HM.out]) (show k < (l ++ marksB 12).length by rw [List.length_append, HM.out]; exact hlt)
      obtain rfl : gd = ⟨g, 0, none⟩ := by injection hgd with h; exact h.symm
      have hx1 : ∀ j u, (nrow ((l ++ marksB 12)[k]'(by rw [List.length_append, HM.out]; exact hlt)))[j]? = some u → w.cell? ⟨g, k + j, none⟩ = some u := by
        intro j u hu
        have := hx0 j u hu
        rw [add_of_add] at this
        have e : Addr.add ⟨g, 0, none⟩ (k * 1 + j) = ⟨g, k + j, none⟩ := by unfold Addr.add; split <;> simp_all
        rw [e] at this
        exact this
      clear hx0 hgd
      have i1 : (0 : Int) ≤ (k : Int) := by omega
      have i2 : (k : Int) < (l.length : Int) + 12 := by omega
      by_cases hkl : k < l.length
      · have hget : (l ++ marksB 12)[k]'(by rw [List.length_append, HM.out]; exact hlt) = l[k] := List.getElem_append_left hkl
        rw [hget] at hx1
        have hxx : ∀ j u, (nrow l[k])[j]? = some u → wr.cell? ⟨g, k + j, none⟩ = some u := fun j u hu => (hbel.cell (p := ⟨g, k + j, none⟩) hgw).trans (hx1 j u hu)
        obtain ⟨ad, rfl, hab, hc⟩ := row_cells nrow_len HA.out rfl hkl
        have hcc : ∀ j u, (nrow l[k])[j]? = some u → wr.cell? ((ad.add (k)).add j) = some u := by
          intro j u hu
          have h := hc j u hu
          try simp only [Nat.mul_one] at h
          exact (hbel.cell (by rw [block_of_add, block_of_add]; exact hab)).trans h
        clear hc hget hx1
        generalize l[k] = x at hxx hcc
        have i3 : (k : Int) < (l.length : Int) := by omega
        have d2 : decide (l.length ≤ k) = false := by simp; omega
        have p0 : wr.cell? ⟨g, k, none⟩ = _ := hxx 0 _ rfl
        have q0 : wr.cell? (ad.add k) = _ := hcc 0 _ rfl
        clear hxx hcc
        go_wp2_with fail
        go_quiet (fail)
        go_wp2
        go_roundw
        case rel => exact ⟨k + 1, by omega, by go_num, below_drewN hbel _⟩
        case measure => simp [intOf]; omega
      · obtain ⟨j, hj⟩ : ∃ j, k = l.length + j := ⟨k - l.length, by omega⟩
        have hget : (l ++ marksB 12)[k]'(by rw [List.length_append, HM.out]; exact hlt) = (markB 1 j) := by
          subst hj
          rw [List.getElem_append_right (by omega)]
          simp [marksB]
        rw [hget] at hx1
        have i3 : (l.length : Int) ≤ (k : Int) := by omega
        have i4 : j ≤ 12 := by omega
        have d1 : decide (k < l.length) = false := by simp; omega
        have s1 : IntKind.i64.wrap ((k : Int) - (l.length : Int)) = (j : Int) := by rw [IntWalk.i64_in _ (by omega)]; omega
        clear hj hget
        obtain ⟨x, hx⟩ : ∃ x, (markB 1 j) = x := ⟨_, rfl⟩
        rw [hx] at hx1
        have HX2 := Lib.hid hx
        have hxx : ∀ j u, (nrow x)[j]? = some u → wr.cell? ⟨g, k + j, none⟩ = some u := fun j u hu => (hbel.cell (p := ⟨g, k + j, none⟩) hgw).trans (hx1 j u hu)
        have HC0 := Lib.hid hx1
        clear hx hx1
        have p0 : wr.cell? ⟨g, k, none⟩ = _ := hxx 0 _ rfl
        clear hxx
        go_wp2_with fail
        go_quiet ((go_at_call 70; exact (markB_1 j _ (by omega)).mono (fun _ _ h => ⟨h.1.trans (by rw [HX2.out]), _, h.2.symm⟩)))
        go_wp2
        go_roundw
        case rel => exact ⟨k + 1, by omega, by go_num, below_drewN hbel _⟩
        case measure => simp [intOf]; omega
    · obtain rfl : k = l.length + 12 := by omega
      go_wp2_with fail
      refine HK0.out _ _ ?_
      go_wp2_with fail
      go_ret
      exact ⟨rfl, hbel⟩

def OverEnd (b : Option Nat) (w : World) (e : Ending) (w' : World) : Prop := (∃ v, e = .returned v) ∧ w.grownBy w' b

set_option maxHeartbeats 6400000 in
set_option maxRecDepth 100000 in
theorem over1_bytes (g q cap : Nat) {u0 u1 u3 u4 u5 u6 u7 u8 u9 u10 u11 u12 u13 u14 u15 u16 u17 u18 u19 u20 u21 u22 : Value} (w wx : World) (hq1 : q ≤ cap) (hq2 : q ≤ 65548) (cs : Array Value) (h : Blk wx g 5 cs) (hs : cs.size = cap * 1) (hg : w.grownBy wx (some g)) :
    Code.wp Tryz.prog (bodyTail Tryz.f58 1) (bodyPost Tryz.prog Tryz.f58 (OverEnd (some g) w)) ⟨#[u0, u1, .slice (some ⟨g, 0, none⟩) q cap, u3, u4, u5, u6, u7, u8, u9, u10, u11, u12, u13, u14, u15, u16, u17, u18, u19, u20, u21, u22], []⟩ wx := by
  conv => arg 2; whnf
  go_wp2_with fail
  have HH := Lib.hid (And.intro h (And.intro hs hg))
  clear h hs hg
  go_loopw [3] (fun i wr => ∃ (k : Nat) (cs : Array Value), k ≤ q ∧ i = .int .i64 k ∧ Blk wr g 5 cs ∧ Hid (cs.size = cap * 1 ∧ w.grownBy wr (some g))) (fun i _ => q - (intOf i).toNat)
  case atStart => exact ⟨0, cs, by omega, rfl, HH.out.1, Lib.hid HH.out.2⟩
  case round =>
    clear HH
    obtain ⟨k, cs, hk, rfl, hblk, hid⟩ := hrel
    by_cases hlt : k < q
    · have hsz := hid.out.1
      have i1 : (0 : Int) ≤ (k : Int) := by omega
      have i2 : (k : Int) < (q : Int) := by omega
      obtain ⟨o0, ho0⟩ : ∃ u, wr.cell? ⟨g, k, none⟩ = some u := by
        refine ⟨cs[k]'(by omega), ?_⟩
        rw [hblk.cell]; exact Array.getElem?_eq_getElem (by omega)
      have hz0 := hblk.frozen (k)
      have HS := Lib.hid hsz
      have HB := Lib.hid hblk
      clear hsz hblk
      go_wp2_with (go_at_call 70; refine (markB_2 k _ (by omega)).mono ?_; rintro e w' ⟨rfl, rfl⟩)
      have hb2 := (HB.out).set_ (k) (.int .u8 (markB 2 k : Int))
      have hg2 := only_setCell (hid.out.2) (p := ⟨g, k, none⟩) (.inl rfl) (.int .u8 (markB 2 k : Int))
      go_roundw
      case rel => exact ⟨k + 1, _, by omega, by go_num, hb2, Lib.hid ⟨by simpa using HS.out, hg2⟩⟩
      case measure => simp [intOf]; omega
    · obtain rfl : k = q := by omega
      go_wp2
      go_end0
      exact ⟨⟨_, rfl⟩, hid.out.2⟩

set_option maxHeartbeats 1600000 in
set_option maxRecDepth 100000 in
theorem over_bytes (g n cap : Nat) (cs : Array Value) (w : World) (hn : n ≤ 65536) (h : Blk w g 5 cs) (hs : cs.size = cap * 1) (hc1 : n ≤ cap) (hc2 : cap ≤ maxLen) :
    Calls Tryz.prog 58 #[.slice (some ⟨g, 0, none⟩) n cap] w (OverEnd (some g) w) := by
  unfold maxLen at hc2
  have hcm2 : ((cap : Nat) : Int) ≤ 9223372036854775807 := by omega
  have HB := Lib.hid h
  have HS := Lib.hid hs
  clear h hs
  have hn2 : (n : Int) ≤ 65536 := by omega
  by_cases hle : (cap : Int) ≤ (n : Int) + 12
  · go_enter Tryz.func58, Tryz.ntmps58
    refine wp_seq_k fun K0 hK => ?_
    have HK0 := Lib.hid hK
    clear hK
    go_wp2_with fail
    exact HK0.out _ _ (over1_bytes g cap cap w w (Nat.le_refl _) (by omega) cs HB.out HS.out (World.grownBy.refl w _))
  · have hle2 : (n : Int) + 12 ≤ (cap : Int) := by omega
    go_enter Tryz.func58, Tryz.ntmps58
    refine wp_seq_k fun K0 hK => ?_
    have HK0 := Lib.hid hK
    clear hK
    go_wp2_with fail
    exact HK0.out _ _ (over1_bytes g (n + 12) cap w w (by omega) (by omega) cs HB.out HS.out (World.grownBy.refl w _))
end Go.Proofs.YtgjgcbemgmkncaaGreatDoor
namespace Go.Proofs.YtgjgcbemgmkncaaGreatDoor
open Go.RowKit
set_option linter.unusedVariables false
set_option linter.unusedSimpArgs false

theorem infoRefs : (Tryz.prog.info? 29).map (fun i => (i.zero, i.size, i.bytes)) = some (some (.agg #[.int .i64 0, .int .u32 0]), 2, 16) := by kernel_rfl

theorem markRef_any (k i : Int) (w : World) (hk : 0 ≤ k ∧ k ≤ 1000) (hi : 0 ≤ i ∧ i ≤ 1000000) : Calls Tryz.prog 71 #[.int .i64 k, .int .i64 i] w fun e w' => e = .returned (.agg #[.int .i64 (markR k i).1, .int .u32 (markR k i).2]) ∧ Below w.heap.size w w' := by
  have HM := Lib.hid (fun W => mark_any k i W hk hi)
  clear hk hi
  unfold markR
  go_enter Tryz.func71, Tryz.ntmps71
  go_wp2_with fail
  refine (HM.out _).mono ?_
  rintro e w1 ⟨rfl, rfl⟩
  go_wp2_with fail
  refine bodyPost_ret (v := .agg #[.int .i64 (markN k i), .int .u32 0]) (by simp [results, Tryz.results71, go_sem]) rfl ⟨rfl, ?_⟩
  exact below_box _ _
theorem markRef_1 (k : Nat) (w : World) (h : k ≤ 1000000) : Calls Tryz.prog 71 #[.int .i64 1, .int .i64 k] w fun e w' => e = .returned (.agg #[.int .i64 (markR 1 k).1, .int .u32 (markR 1 k).2]) ∧ Below w.heap.size w w' := markRef_any 1 k w (by omega) (by omega)
theorem markRef_2 (k : Nat) (w : World) (h : k ≤ 1000000) : Calls Tryz.prog 71 #[.int .i64 2, .int .i64 k] w fun e w' => e = .returned (.agg #[.int .i64 (markR 2 k).1, .int .u32 (markR 2 k).2]) ∧ Below w.heap.size w w' := markRef_any 2 k w (by omega) (by omega)

/-- What LentRefs comes to. -/
def LentRefsEnd (l : List (Int × Int)) (w : World) (e : Ending) (w' : World) : Prop :=
  ∃ g cap, e = .returned (.slice (some ⟨g, 0, none⟩) l.length cap) ∧ l.length + 12 ≤ cap ∧ cap ≤ maxLen ∧ w'.ownsRow w.heap.size 29 2 (.slice (some ⟨g, 0, none⟩) (l.length + 12) cap) (l.length + 12) ((l ++ marksR 12).flatMap rrow) ∧ Below w.heap.size w w'

set_option maxHeartbeats 1600000 in
set_option maxRecDepth 100000 in
theorem lent_refs (l : List (Int × Int)) (A : Option Addr) (c : Nat) (w : World) (hl : l.length ≤ 65536) (hA : Reads w w.heap.size 2 A l.length (l.flatMap rrow)) :
    Calls Tryz.prog 51 #[.slice A l.length c] w (LentRefsEnd l w) := by
  obtain ⟨i0, hi0, iz0, iz1, iz2⟩ := info_parts infoRefs
  have hmk : ∀ W, (Instr.makeSlice 24 (.int .i64 0) (.int .i64 ((l.length : Int) + 12))).run Tryz.prog W = .ok (.slice (some ⟨W.heap.size, 0, none⟩) 0 (l.length + 12)) (W.alloc (.cells (madeCells #[.int .i64 0, .int .u32 0] ((l.length + 12) * 2)) 29)) := fun W => by
    have h := run_make_rowN (P := Tryz.prog) 24 29 i0 _ Tryz.underlying24 hi0 iz0 .i64 .i64 0 (l.length + 12) (by omega) (by rw [iz2]; omega) (by omega) W
    rw [iz1] at h
    exact h
  have hmk0 : Blk (w.alloc (.cells (madeCells #[.int .i64 0, .int .u32 0] ((l.length + 12) * 2)) 29)) w.heap.size 29 (madeCells #[.int .i64 0, .int .u32 0] ((l.length + 12) * 2)) := Blk.new _ _ _
  have hown0 := Blk.own (base := w.heap.size) (size := 2) (n := 0) (c := l.length + 12) (xs := []) hmk0 (Nat.le_refl _) (by omega) (by unfold maxLen; omega) (by rw [size_madeCells]) (by simp)
  have hbel0 := below_box w (.cells (madeCells #[.int .i64 0, .int .u32 0] ((l.length + 12) * 2)) 29)
  have hsz0 : (w.alloc (.cells (madeCells #[.int .i64 0, .int .u32 0] ((l.length + 12) * 2)) 29)).heap.size = w.heap.size + 1 := by simp
  have HW0 := Lib.hid (And.intro hown0 (And.intro hbel0 hsz0))
  clear hmk0 hown0 hbel0 hsz0
  have hlc : (l.length : Int) ≤ 65536 := by omega
  have HA := Lib.hid hA
  clear hA
  go_enter Tryz.func51, Tryz.ntmps51
  refine wp_seq_k fun K0 hK => ?_
  have HK0 := Lib.hid hK
  clear hK
  go_wp2_with fail
  refine HK0.out _ _ ?_
  clear HK0 K0
  refine wp_seq_k fun K0 hK => ?_
  have HK0 := Lib.hid hK
  clear hK
  go_wp2_with fail
  refine HK0.out _ _ ?_
  clear HK0 K0 hmk
  generalize w.alloc (.cells (madeCells #[.int .i64 0, .int .u32 0] ((l.length + 12) * 2)) 29) = W0 at HW0 ⊢
  obtain ⟨hown0, hbel0, hsz0⟩ := HW0.out
  clear HW0
  have hsz1 : w.heap.size ≤ W0.heap.size := by omega
  clear hsz0
  refine wp_seq_k fun K0 hK => ?_
  have HK0 := Lib.hid hK
  clear hK
  go_wp2_with (first
    | (at_builtin
       refine wpList_append_any _ rfl (.tmp 9) (.tmp 10) _ rfl w.heap.size 29 i0 _ 2 16 Tryz.underlying24 hi0 iz0 iz1 iz2 rfl (by omega) (.slice (some ⟨w.heap.size, 0, none⟩) 0 (l.length + 12)) 0 [] rfl
         hown0 w.heap.size A l.length c _ rfl (HA.out.below hbel0) (flat_one rrow_one l) (by unfold maxLen; omega) (by omega) hsz1 ?_
       intro v1 w1 hown1 hg1 hat1
       have hbel1 : Below w.heap.size w w1 := below_app hbel0 hown0 hg1 (Nat.le_refl _) hsz1))
  refine HK0.out _ _ ?_
  clear HK0 K0 hown0 hbel0 hg1 hat1
  simp only [List.nil_append, Nat.zero_add] at hown1
  refine wp_seq_k fun K0 hK => ?_
  have HK0 := Lib.hid hK
  clear hK
  go_wp2_with fail
  go_loopw [3, 4] (fun v i wr => ∃ k : Nat, k ≤ 12 ∧ i = .int .i64 k ∧ wr.ownsRow w.heap.size 29 2 v (l.length + k) ((l ++ marksR k).flatMap rrow) ∧ Below w.heap.size w wr) (fun _ i _ => 12 - (intOf i).toNat)
  case atStart => exact ⟨0, by omega, rfl, by simpa [marksR] using hown1, hbel1⟩
  case round =>
    clear hown1 hbel1
    obtain ⟨k, hk, rfl, hown, hbel⟩ := hrel
    have hsz := hbel.size
    by_cases hlt : k < 12
    · go_wp2_with (first
        | (go_at_call 71; refine (markRef_1 k _ (by omega)).mono ?_; rintro e w' ⟨rfl, hbm⟩; have hown := ownsRow_below hown hbm (Nat.le_refl _); have hbel := below_trans hbel hbm; have hsz := hbel.size)
        | (at_builtin
           refine wpList_append_any _ rfl (.tmp 16) (.tmp 19) _ rfl w.heap.size 29 i0 _ 2 16 Tryz.underlying24 hi0 iz0 iz1 iz2 rfl (by omega) u3 (l.length + k) ((l ++ marksR k).flatMap rrow) rfl
             (hown.alloc _) _ (some ⟨w'.heap.size, 0, none⟩) 1 1 (rrow (markR 1 k)) rfl (reads_of_blk (blk_newAt rfl) rfl rfl) (rrow_one _) (by unfold maxLen; omega) (by omega) (by simp; omega) ?_
           intro v2 w2 hown2 hg2 hat2
           have hbel2 : Below w.heap.size w w2 := below_app (hbel.alloc hsz _) (hown.alloc _) hg2 (Nat.le_refl _) (by simp; omega)))
      clear hg2 hat2
      go_roundw
      case rel => exact ⟨k + 1, by omega, by go_num, by
        rw [marksR_succ, ← List.append_assoc, List.flatMap_append, List.flatMap_singleton]
        exact hown2, hbel2⟩
      case measure => simp [intOf]; omega
    · obtain rfl : k = 12 := by omega
      obtain ⟨g, cap, hv, hgb, hgl⟩ := hown.form (by omega)
      obtain ⟨A1, c1, hv1, -, hc1, hc2⟩ := own_form hown
      rw [hv] at hv1
      injection hv1 with e1 e2 e3
      subst e3
      clear e1 e2
      have hcl : ((l.length : Int)) ≤ ((cap : Nat) : Int) := by omega
      have hcm := hc2
      unfold maxLen at hcm
      have hcm2 : ((cap : Nat) : Int) ≤ 9223372036854775807 := by omega
      rw [hv] at hown ⊢
      clear hv
      go_wp2_with fail
      refine HK0.out _ _ ?_
      go_wp2_with fail
      go_ret
      exact ⟨g, cap, rfl, hc1, hc2, hown, hbel⟩

theorem markRef_x (j : Nat) (x : (Int × Int)) (w : World) (hx : markR 1 j = x) (h : j ≤ 1000000) : Calls Tryz.prog 71 #[.int .i64 1, .int .i64 j] w fun e w' => e = .returned (.agg #[.int .i64 x.1, .int .u32 x.2]) ∧ Below w.heap.size w w' := by
  subst hx
  exact markRef_1 j w h

set_option maxHeartbeats 3200000 in
set_option maxRecDepth 100000 in
theorem kept_refs (l : List (Int × Int)) (A : Option Addr) (c g cap : Nat) (w : World) (hl : l.length ≤ 65536) (hA : Reads w w.heap.size 2 A l.length (l.flatMap rrow)) (hX : Reads w w.heap.size 2 (some ⟨g, 0, none⟩) (l.length + 12) ((l ++ marksR 12).flatMap rrow))
    (hgw : g < w.heap.size) (hc1 : l.length + 12 ≤ cap) (hc2 : cap ≤ maxLen) : Calls Tryz.prog 55 #[.slice (some ⟨g, 0, none⟩) l.length cap, .slice A l.length c] w (KeptEnd w) := by
  have hlc : (l.length : Int) ≤ 65536 := by omega
  have hcl : (l.length : Int) + 12 ≤ ((cap : Nat) : Int) := by omega
  unfold maxLen at hc2
  have hcm2 : ((cap : Nat) : Int) ≤ 9223372036854775807 := by omega
  have HA := Lib.hid hA
  have HX := Lib.hid hX
  have hm12 : (marksR 12).length = 12 := marksR_len 12
  have HM := Lib.hid hm12
  clear hA hX hm12
  go_enter Tryz.func55, Tryz.ntmps55
  refine wp_seq_k fun K0 hK => ?_
  have HK0 := Lib.hid hK
  clear hK
  go_wp2_with fail
  refine HK0.out _ _ ?_
  clear HK0 K0
  refine wp_seq_k fun K0 hK => ?_
  have HK0 := Lib.hid hK
  clear hK
  go_wp2_with fail
  refine HK0.out _ _ ?_
  clear HK0 K0
  refine wp_seq_k fun K0 hK => ?_
  have HK0 := Lib.hid hK
  clear hK
  go_wp2_with fail
  refine HK0.out _ _ ?_
  clear HK0 K0
  refine wp_seq_k fun K0 hK => ?_
  have HK0 := Lib.hid hK
  clear hK
  go_wp2_with fail
  go_loopw [6] (fun i wr => ∃ k : Nat, k ≤ l.length + 12 ∧ i = .int .i64 k ∧ Below w.heap.size w wr) (fun i _ => l.length + 12 - (intOf i).toNat)
  case atStart => exact ⟨0, by omega, rfl, Below.refl _ _⟩
  case round =>
    obtain ⟨k, hk, rfl, hbel⟩ := hrel
    by_cases hlt : k < l.length + 12
    · obtain ⟨gd, hgd, -, hx0⟩ := row_cells rrow_len HX.out (by rw [List.length_append, HM.out]) (show k < (l ++ marksR 12).length by rw [List.length_append, HM.out]; exact hlt)
      obtain rfl : gd = ⟨g, 0, none⟩ := by injection hgd with h; exact h.symm
      have hx1 : ∀ j u, (rrow ((l ++ marksR 12)[k]'(by rw [List.length_append, HM.out]; exact hlt)))[j]? = some u → w.cell? ⟨g, k * 2 + j, none⟩ = some u := by
        intro j u hu
        have := hx0 j u hu
        rw [add_of_add] at this
        have e : Addr.add ⟨g, 0, none⟩ (k * 2 + j) = ⟨g, k * 2 + j, none⟩ := by unfold Addr.add; split <;> simp_all
        rw [e] at this
        exact this
      clear hx0 hgd
      have i1 : (0 : Int) ≤ (k : Int) := by omega
      have i2 : (k : Int) < (l.length : Int) + 12 := by omega
      by_cases hkl : k < l.length
      · have hget : (l ++ marksR 12)[k]'(by rw [List.length_append, HM.out]; exact hlt) = l[k] := List.getElem_append_left hkl
        rw [hget] at hx1
        have hxx : ∀ j u, (rrow l[k])[j]? = some u → wr.cell? ⟨g, k * 2 + j, none⟩ = some u := fun j u hu => (hbel.cell (p := ⟨g, k * 2 + j, none⟩) hgw).trans (hx1 j u hu)
        obtain ⟨ad, rfl, hab, hc⟩ := row_cells rrow_len HA.out rfl hkl
        have hcc : ∀ j u, (rrow l[k])[j]? = some u → wr.cell? ((ad.add (k * 2)).add j) = some u := by
          intro j u hu
          have h := hc j u hu
          try simp only [Nat.mul_one] at h
          exact (hbel.cell (by rw [block_of_add, block_of_add]; exact hab)).trans h
        clear hc hget hx1
        generalize l[k] = x at hxx hcc
        have i3 : (k : Int) < (l.length : Int) := by omega
        have d2 : decide (l.length ≤ k) = false := by simp; omega
        have p0 : wr.cell? ⟨g, k * 2, none⟩ = _ := hxx 0 _ rfl
        have p1 : wr.cell? ⟨g, k * 2 + 1, none⟩ = _ := hxx 1 _ rfl
        have q0 : wr.cell? (ad.add (k * 2)) = _ := hcc 0 _ rfl
        have q1 : wr.cell? ⟨(ad.add (k * 2)).block, (ad.add (k * 2)).off + 1, none⟩ = _ := hcc 1 _ rfl
        clear hxx hcc
        go_wp2_with fail
        go_quiet (fail)
        go_wp2
        go_roundw
        case rel => exact ⟨k + 1, by omega, by go_num, below_drewN hbel _⟩
        case measure => simp [intOf]; omega
      · obtain ⟨j, hj⟩ : ∃ j, k = l.length + j := ⟨k - l.length, by omega⟩
        have hget : (l ++ marksR 12)[k]'(by rw [List.length_append, HM.out]; exact hlt) = (markR 1 j) := by
          subst hj
          rw [List.getElem_append_right (by omega)]
          simp [marksR]
        rw [hget] at hx1
        have i3 : (l.length : Int) ≤ (k : Int) := by omega
        have i4 : j ≤ 12 := by omega
        have d1 : decide (k < l.length) = false := by simp; omega
        have s1 : IntKind.i64.wrap ((k : Int) - (l.length : Int)) = (j : Int) := by rw [IntWalk.i64_in _ (by omega)]; omega
        clear hj hget
        obtain ⟨x, hx⟩ : ∃ x, (markR 1 j) = x := ⟨_, rfl⟩
        rw [hx] at hx1
        have HX2 := Lib.hid hx
        have hxx : ∀ j u, (rrow x)[j]? = some u → wr.cell? ⟨g, k * 2 + j, none⟩ = some u := fun j u hu => (hbel.cell (p := ⟨g, k * 2 + j, none⟩) hgw).trans (hx1 j u hu)
        have HC0 := Lib.hid hx1
        clear hx hx1
        have p0 : wr.cell? ⟨g, k * 2, none⟩ = _ := hxx 0 _ rfl
        have p1 : wr.cell? ⟨g, k * 2 + 1, none⟩ = _ := hxx 1 _ rfl
        clear hxx
        go_wp2_with fail
        have hXX : ∀ W, Below w.heap.size w W → W.cell? ⟨g, k * 2, none⟩ = some (.int .i64 x.1) ∧ W.cell? ⟨g, k * 2 + 1, none⟩ = some (.int .u32 x.2) := by
          intro W hW
          have hk2 : ∀ j u, (rrow x)[j]? = some u → W.cell? ⟨g, k * 2 + j, none⟩ = some u := fun j u hu => (hW.cell (p := ⟨g, k * 2 + j, none⟩) hgw).trans (HC0.out j u hu)
          exact ⟨hk2 0 _ rfl, hk2 1 _ rfl⟩
        have HXX := Lib.hid hXX
        clear hXX
        refine wp_region_held_drew (S := (fun W => Below w.heap.size w W ∧ W.cell? ⟨g, k * 2, none⟩ = some (.int .i64 x.1) ∧ W.cell? ⟨g, k * 2 + 1, none⟩ = some (.int .u32 x.2))) (by kernel_rfl) ?_ (fun hHeld0 => ?_)
        · exact ⟨hbel.drew, p0, p1⟩
        refine wpAnyH_take (i := 0) (v := ?_) rfl (by kernel_rfl) (by kernel_rfl) (by kernel_rfl) (fun _ _ _ h => h) (Or.inl ⟨by rfl, ?_⟩) hHeld0 ?_
        rotate_left
        · (intro w hSw; (try dsimp only at hSw); go_simp <;> with_reducible rfl)
        try simp only [Act.put, List.setIfInBounds_toArray, List.set_cons_zero, List.set_cons_succ]
        refine wpAnyH_take (i := 1) (v := ?_) rfl (by kernel_rfl) (by kernel_rfl) (by kernel_rfl) (fun _ _ _ h => h) (Or.inl ⟨by rfl, ?_⟩) hHeld0 ?_
        rotate_left
        · (intro w hSw; (try dsimp only at hSw); go_simp <;> with_reducible rfl)
        try simp only [Act.put, List.setIfInBounds_toArray, List.set_cons_zero, List.set_cons_succ]
        refine wpAnyH_take (i := 2) (v := ?_) rfl (by kernel_rfl) (by kernel_rfl) (by kernel_rfl) (fun _ _ _ h => h) (Or.inl ⟨by rfl, ?_⟩) hHeld0 ?_
        rotate_left
        · (intro w hSw; (try dsimp only at hSw); go_simp <;> with_reducible rfl)
        try simp only [Act.put, List.setIfInBounds_toArray, List.set_cons_zero, List.set_cons_succ]
        refine wpAnyH_take (i := 3) (v := ?_) rfl (by kernel_rfl) (by kernel_rfl) (by kernel_rfl) (fun _ _ _ h => h) (Or.inl ⟨by rfl, ?_⟩) hHeld0 ?_
        rotate_left
        · (intro w hSw; (try dsimp only at hSw); go_simp <;> with_reducible rfl)
        try simp only [Act.put, List.setIfInBounds_toArray, List.set_cons_zero, List.set_cons_succ]
        refine wpAnyH_take (i := 4) (v := ?_) rfl (by kernel_rfl) (by kernel_rfl) (by kernel_rfl) (fun _ _ _ h => h) (Or.inl ⟨by rfl, ?_⟩) hHeld0 ?_
        rotate_left
        · (intro w hSw; (try dsimp only at hSw); go_simp <;> with_reducible rfl)
        try simp only [Act.put, List.setIfInBounds_toArray, List.set_cons_zero, List.set_cons_succ]
        refine wpAnyH_take (i := 5) (v := undef) rfl (by kernel_rfl) (by kernel_rfl) (by kernel_rfl) (fun _ _ _ h => h) (Or.inr ⟨by kernel_rfl, rfl⟩) hHeld0 ?_
        try simp only [Act.put, List.setIfInBounds_toArray, List.set_cons_zero, List.set_cons_succ]
        refine wpAnyH_take (i := 6) (v := undef) rfl (by kernel_rfl) (by kernel_rfl) (by kernel_rfl) (fun _ _ _ h => h) (Or.inr ⟨by kernel_rfl, rfl⟩) hHeld0 ?_
        try simp only [Act.put, List.setIfInBounds_toArray, List.set_cons_zero, List.set_cons_succ]
        refine wpAnyH_take (i := 7) (v := undef) rfl (by kernel_rfl) (by kernel_rfl) (by kernel_rfl) (fun _ _ _ h => h) (Or.inr ⟨by kernel_rfl, rfl⟩) hHeld0 ?_
        try simp only [Act.put, List.setIfInBounds_toArray, List.set_cons_zero, List.set_cons_succ]
        refine wpAnyH_take (i := 8) (v := undef) rfl (by kernel_rfl) (by kernel_rfl) (by kernel_rfl) (fun _ _ _ h => h) (Or.inr ⟨by kernel_rfl, rfl⟩) hHeld0 ?_
        try simp only [Act.put, List.setIfInBounds_toArray, List.set_cons_zero, List.set_cons_succ]
        refine wpAnyH_take (i := 9) (v := undef) rfl (by kernel_rfl) (by kernel_rfl) (by kernel_rfl) (fun _ _ _ h => h) (Or.inr ⟨by kernel_rfl, rfl⟩) hHeld0 ?_
        try simp only [Act.put, List.setIfInBounds_toArray, List.set_cons_zero, List.set_cons_succ]
        refine wpAnyH_take (i := 10) (v := undef) rfl (by kernel_rfl) (by kernel_rfl) (by kernel_rfl) (fun _ _ _ h => h) (Or.inr ⟨by kernel_rfl, rfl⟩) hHeld0 ?_
        try simp only [Act.put, List.setIfInBounds_toArray, List.set_cons_zero, List.set_cons_succ]
        refine wpAnyH_take (i := 11) (v := undef) rfl (by kernel_rfl) (by kernel_rfl) (by kernel_rfl) (fun _ _ _ h => h) (Or.inr ⟨by kernel_rfl, rfl⟩) hHeld0 ?_
        try simp only [Act.put, List.setIfInBounds_toArray, List.set_cons_zero, List.set_cons_succ]
        refine wpAnyH_take (i := 12) (v := undef) rfl (by kernel_rfl) (by kernel_rfl) (by kernel_rfl) (fun _ _ _ h => h) (Or.inr ⟨by kernel_rfl, rfl⟩) hHeld0 ?_
        try simp only [Act.put, List.setIfInBounds_toArray, List.set_cons_zero, List.set_cons_succ]
        refine wpAnyH_take (i := 13) (v := undef) rfl (by kernel_rfl) (by kernel_rfl) (by kernel_rfl) (fun _ _ _ h => h) (Or.inr ⟨by kernel_rfl, rfl⟩) hHeld0 ?_
        try simp only [Act.put, List.setIfInBounds_toArray, List.set_cons_zero, List.set_cons_succ]
        refine wpAnyH_take (i := 14) (v := undef) rfl (by kernel_rfl) (by kernel_rfl) (by kernel_rfl) (fun _ _ _ h => h) (Or.inr ⟨by kernel_rfl, rfl⟩) hHeld0 ?_
        try simp only [Act.put, List.setIfInBounds_toArray, List.set_cons_zero, List.set_cons_succ]
        refine wpAnyH_take (i := 15) (v := ?_) rfl (by kernel_rfl) (by kernel_rfl) (by kernel_rfl) (fun _ _ _ h => h) (Or.inl ⟨by rfl, ?_⟩) hHeld0 ?_
        rotate_left
        · (intro w hSw; (try dsimp only at hSw); go_simp <;> with_reducible rfl)
        try simp only [Act.put, List.setIfInBounds_toArray, List.set_cons_zero, List.set_cons_succ]
        refine wpAnyH_take (i := 16) (v := ?_) rfl (by kernel_rfl) (by kernel_rfl) (by kernel_rfl) (fun _ _ _ h => h) (Or.inl ⟨by rfl, ?_⟩) hHeld0 ?_
        rotate_left
        · (intro w hSw; (try dsimp only at hSw); go_simp <;> with_reducible rfl)
        try simp only [Act.put, List.setIfInBounds_toArray, List.set_cons_zero, List.set_cons_succ]
        refine wpAnyH_take (i := 17) (v := ?_) rfl (by kernel_rfl) (by kernel_rfl) (by kernel_rfl) (fun _ _ _ h => h) (Or.inl ⟨by kernel_rfl, ?_⟩) hHeld0 ?_
        rotate_left
        · (intro w hSw; (try dsimp only at hSw); go_simp <;> with_reducible rfl)
        try simp only [Act.put, List.setIfInBounds_toArray, List.set_cons_zero, List.set_cons_succ]
        refine wpAnyH_take (i := 18) (v := ?_) rfl (by kernel_rfl) (by kernel_rfl) (by kernel_rfl) (fun _ _ _ h => h) (Or.inl ⟨by kernel_rfl, ?_⟩) hHeld0 ?_
        rotate_left
        · (intro w hSw; (try dsimp only at hSw); go_simp <;> with_reducible rfl)
        try simp only [Act.put, List.setIfInBounds_toArray, List.set_cons_zero, List.set_cons_succ]
        refine wpAnyH_take (i := 19) (v := ?_) rfl (by kernel_rfl) (by kernel_rfl) (by kernel_rfl) (fun _ _ _ h => h) (Or.inl ⟨by kernel_rfl, ?_⟩) hHeld0 ?_
        rotate_left
        · (intro w hSw; (try dsimp only at hSw); go_simp <;> with_reducible rfl)
        try simp only [Act.put, List.setIfInBounds_toArray, List.set_cons_zero, List.set_cons_succ]
        refine wpAnyH_take (i := 20) (v := ?_) rfl (by kernel_rfl) (by kernel_rfl) (by kernel_rfl) (fun _ _ _ h => h) (Or.inl ⟨by kernel_rfl, ?_⟩) hHeld0 ?_
        rotate_left
        · (intro w hSw; (try dsimp only at hSw); go_simp <;> with_reducible rfl)
        try simp only [Act.put, List.setIfInBounds_toArray, List.set_cons_zero, List.set_cons_succ]
        refine wpAnyH_take (i := 21) (v := ?_) rfl (by kernel_rfl) (by kernel_rfl) (by kernel_rfl) (fun _ _ _ h => h) (Or.inl ⟨by kernel_rfl, ?_⟩) hHeld0 ?_
        rotate_left
        · (intro w hSw; (try dsimp only at hSw); go_simp <;> with_reducible rfl)
        try simp only [Act.put, List.setIfInBounds_toArray, List.set_cons_zero, List.set_cons_succ]
        refine wpAnyH_take (i := 22) (v := ?_) rfl (by kernel_rfl) (by kernel_rfl) (by kernel_rfl) (fun _ _ _ h => h) (Or.inl ⟨by kernel_rfl, ?_⟩) hHeld0 ?_
        rotate_left
        · (intro w hSw; (try dsimp only at hSw); go_simp <;> with_reducible rfl)
        try simp only [Act.put, List.setIfInBounds_toArray, List.set_cons_zero, List.set_cons_succ]
        refine wpAnyH_take (i := 23) (v := ?_) rfl (by kernel_rfl) (by kernel_rfl) (by kernel_rfl) (fun _ _ _ h => h) (Or.inl ⟨by kernel_rfl, ?_⟩) hHeld0 ?_
        rotate_left
        · (intro w hSw; (try dsimp only at hSw); go_simp <;> with_reducible rfl)
        try simp only [Act.put, List.setIfInBounds_toArray, List.set_cons_zero, List.set_cons_succ]
        refine wpAnyH_take (i := 24) (v := ?_) rfl (by kernel_rfl) (by kernel_rfl) (by kernel_rfl) (fun _ _ _ h => h) (Or.inl ⟨by kernel_rfl, ?_⟩) hHeld0 ?_
        rotate_left
        · (intro w hSw; (try dsimp only at hSw); go_simp <;> with_reducible rfl)
        try simp only [Act.put, List.setIfInBounds_toArray, List.set_cons_zero, List.set_cons_succ]
        refine wpAnyH_take (i := 25) (v := ?_) rfl (by kernel_rfl) (by kernel_rfl) (by kernel_rfl) (fun _ _ _ h => h) (Or.inl ⟨by kernel_rfl, ?_⟩) hHeld0 ?_
        rotate_left
        · (intro w hSw; (try dsimp only at hSw); go_simp <;> with_reducible rfl)
        try simp only [Act.put, List.setIfInBounds_toArray, List.set_cons_zero, List.set_cons_succ]
        refine wpAnyH_take (i := 26) (v := ?_) rfl (by kernel_rfl) (by kernel_rfl) (by kernel_rfl) (fun _ _ _ h => h) (Or.inl ⟨by kernel_rfl, ?_⟩) hHeld0 ?_
        rotate_left
        · (intro w hSw; (try dsimp only at hSw); go_simp <;> with_reducible rfl)
        try simp only [Act.put, List.setIfInBounds_toArray, List.set_cons_zero, List.set_cons_succ]
        refine wpAnyH_take (i := 27) (v := ?_) rfl (by kernel_rfl) (by kernel_rfl) (by kernel_rfl) (fun _ _ _ h => h) (Or.inl ⟨by kernel_rfl, ?_⟩) hHeld0 ?_
        rotate_left
        · (intro w hSw; (try dsimp only at hSw); go_simp <;> with_reducible rfl)
        try simp only [Act.put, List.setIfInBounds_toArray, List.set_cons_zero, List.set_cons_succ]
        refine wpAnyH_take (i := 28) (v := ?_) rfl (by kernel_rfl) (by kernel_rfl) (by kernel_rfl) (fun _ _ _ h => h) (Or.inl ⟨by kernel_rfl, ?_⟩) hHeld0 ?_
        rotate_left
        · (intro w hSw; (try dsimp only at hSw); go_simp <;> with_reducible rfl)
        try simp only [Act.put, List.setIfInBounds_toArray, List.set_cons_zero, List.set_cons_succ]
        refine wpAnyH_take (i := 29) (v := ?_) rfl (by kernel_rfl) (by kernel_rfl) (by kernel_rfl) (fun _ _ _ h => h) (Or.inl ⟨by kernel_rfl, ?_⟩) hHeld0 ?_
        rotate_left
        · (intro w hSw; (try dsimp only at hSw); go_simp <;> with_reducible rfl)
        try simp only [Act.put, List.setIfInBounds_toArray, List.set_cons_zero, List.set_cons_succ]
        refine wpAnyH_ready (rs := [30]) (by kernel_rfl) (by simp) ?_
        refine AllReadyH.cons rfl (fun K hK => ?_) ?_
        · go_simp
          go_at_call 71
          refine (markRef_x j x _ HX2.out (by omega)).mono ?_
          rintro e wn ⟨rfl, hbm⟩
          have hbN := below_trans hHeld0.1 hbm
          have hcN := HXX.out _ hbN
          go_wp2_with fail
          refine hK.out _ _ ?_ (fun hHeld1 => ?_)
          · exact ⟨hbN, hcN⟩
          clear hK K hHeld0
          try simp only [Act.put, List.setIfInBounds_toArray, List.set_cons_zero, List.set_cons_succ]
          refine wpAnyH_take (i := 31) (v := ?_) rfl (by kernel_rfl) (by kernel_rfl) (by kernel_rfl) (fun _ _ _ h => h) (Or.inl ⟨by kernel_rfl, ?_⟩) hHeld1 ?_
          rotate_left
          · (intro w hSw; (try dsimp only at hSw); go_simp <;> with_reducible rfl)
          try simp only [Act.put, List.setIfInBounds_toArray, List.set_cons_zero, List.set_cons_succ]
          refine wpAnyH_take (i := 32) (v := ?_) rfl (by kernel_rfl) (by kernel_rfl) (by kernel_rfl) (fun _ _ _ h => h) (Or.inl ⟨by kernel_rfl, ?_⟩) hHeld1 ?_
          rotate_left
          · (intro w hSw; (try dsimp only at hSw); go_simp <;> with_reducible rfl)
          try simp only [Act.put, List.setIfInBounds_toArray, List.set_cons_zero, List.set_cons_succ]
          refine wpAnyH_take (i := 33) (v := ?_) rfl (by kernel_rfl) (by kernel_rfl) (by kernel_rfl) (fun _ _ _ h => h) (Or.inl ⟨by kernel_rfl, ?_⟩) hHeld1 ?_
          rotate_left
          · (intro w hSw; (try dsimp only at hSw); go_simp <;> with_reducible rfl)
          try simp only [Act.put, List.setIfInBounds_toArray, List.set_cons_zero, List.set_cons_succ]
          refine wpAnyH_take (i := 34) (v := ?_) rfl (by kernel_rfl) (by kernel_rfl) (by kernel_rfl) (fun _ _ _ h => h) (Or.inl ⟨by rfl, ?_⟩) hHeld1 ?_
          rotate_left
          · (intro w hSw; (try dsimp only at hSw); go_simp <;> with_reducible rfl)
          try simp only [Act.put, List.setIfInBounds_toArray, List.set_cons_zero, List.set_cons_succ]
          refine wpAnyH_done (by kernel_rfl) ?_ _
          go_wp2
          go_roundw
          case rel => exact ⟨k + 1, by omega, by go_num, hbN⟩
          case measure => simp [intOf]; omega
        exact AllReadyH.nil
    · obtain rfl : k = l.length + 12 := by omega
      go_wp2_with fail
      refine HK0.out _ _ ?_
      go_wp2_with fail
      go_ret
      exact ⟨rfl, hbel⟩

theorem store2 {W : World} {g k q cap : Nat} {t : TypeId} {cs : Array Value} (h : Blk W g t cs) (hs : cs.size = cap * 2) (hk : k < q) (hq : q ≤ cap) :
    ∃ o0 o1 : Value, (W.cell? ⟨g, k * 2, none⟩ = some o0 ∧ W.cell? ⟨g, k * 2 + 1, none⟩ = some o1) ∧ (W.frozen? ⟨g, k * 2, none⟩ = false ∧ W.frozen? ⟨g, k * 2 + 1, none⟩ = false) := by
  have hc : ∀ j, k * 2 + j < cs.size → ∃ u, W.cell? ⟨g, k * 2 + j, none⟩ = some u := fun j hj => ⟨cs[k * 2 + j], by rw [h.cell]; exact Array.getElem?_eq_getElem hj⟩
  obtain ⟨o0, h0⟩ := hc 0 (by omega)
  obtain ⟨o1, h1⟩ := hc 1 (by omega)
  exact ⟨o0, o1, ⟨h0, h1⟩, ⟨h.frozen _, h.frozen _⟩⟩


set_option maxHeartbeats 6400000 in
set_option maxRecDepth 100000 in
theorem over1_refs (g q cap : Nat) {u0 u1 u3 u4 u5 u6 u7 u8 u9 u10 u11 u12 u13 u14 u15 u16 u17 u18 u19 u20 u21 u22 : Value} (w wx : World) (hq1 : q ≤ cap) (hq2 : q ≤ 65548) (cs : Array Value) (h : Blk wx g 29 cs) (hs : cs.size = cap * 2) (hg : w.grownBy wx (some g)) :
    Code.wp Tryz.prog (bodyTail Tryz.f59 1) (bodyPost Tryz.prog Tryz.f59 (OverEnd (some g) w)) ⟨#[u0, u1, .slice (some ⟨g, 0, none⟩) q cap, u3, u4, u5, u6, u7, u8, u9, u10, u11, u12, u13, u14, u15, u16, u17, u18, u19, u20, u21, u22], []⟩ wx := by
  conv => arg 2; whnf
  go_wp2_with fail
  have HH := Lib.hid (And.intro h (And.intro hs hg))
  clear h hs hg
  go_loopw [3] (fun i wr => ∃ (k : Nat) (cs : Array Value), k ≤ q ∧ i = .int .i64 k ∧ Blk wr g 29 cs ∧ Hid (cs.size = cap * 2 ∧ w.grownBy wr (some g))) (fun i _ => q - (intOf i).toNat)
  case atStart => exact ⟨0, cs, by omega, rfl, HH.out.1, Lib.hid HH.out.2⟩
  case round =>
    clear HH
    obtain ⟨k, cs, hk, rfl, hblk, hid⟩ := hrel
    by_cases hlt : k < q
    · have hsz := hid.out.1
      have i1 : (0 : Int) ≤ (k : Int) := by omega
      have i2 : (k : Int) < (q : Int) := by omega
      have HS := Lib.hid hsz
      have HB := Lib.hid hblk
      clear hsz hblk
      go_wp2_with (go_at_call 71; refine (markRef_2 k _ (by omega)).mono ?_; rintro e w' ⟨rfl, hbm⟩; have hb3 := HB.out.below hbm (Blk.lt HB.out); obtain ⟨o0, o1, ⟨c0, c1⟩, ⟨z0, z1⟩⟩ := store2 hb3 HS.out hlt hq1)
      have hb2 := ((hb3).set_ (k * 2) (.int .i64 (markR 2 k).1)).set_ (k * 2 + 1) (.int .u32 (markR 2 k).2)
      have hg2 := only_setCell (only_setCell (only_below hid.out.2 hbm) (p := ⟨g, k * 2, none⟩) (.inl rfl) (.int .i64 (markR 2 k).1)) (p := ⟨g, k * 2 + 1, none⟩) (.inl rfl) (.int .u32 (markR 2 k).2)
      go_roundw
      case rel => exact ⟨k + 1, _, by omega, by go_num, hb2, Lib.hid ⟨by simpa using HS.out, hg2⟩⟩
      case measure => simp [intOf]; omega
    · obtain rfl : k = q := by omega
      go_wp2
      go_end0
      exact ⟨⟨_, rfl⟩, hid.out.2⟩

set_option maxHeartbeats 1600000 in
set_option maxRecDepth 100000 in
theorem over_refs (g n cap : Nat) (cs : Array Value) (w : World) (hn : n ≤ 65536) (h : Blk w g 29 cs) (hs : cs.size = cap * 2) (hc1 : n ≤ cap) (hc2 : cap ≤ maxLen) :
    Calls Tryz.prog 59 #[.slice (some ⟨g, 0, none⟩) n cap] w (OverEnd (some g) w) := by
  unfold maxLen at hc2
  have hcm2 : ((cap : Nat) : Int) ≤ 9223372036854775807 := by omega
  have HB := Lib.hid h
  have HS := Lib.hid hs
  clear h hs
  have hn2 : (n : Int) ≤ 65536 := by omega
  by_cases hle : (cap : Int) ≤ (n : Int) + 12
  · go_enter Tryz.func59, Tryz.ntmps59
    refine wp_seq_k fun K0 hK => ?_
    have HK0 := Lib.hid hK
    clear hK
    go_wp2_with fail
    exact HK0.out _ _ (over1_refs g cap cap w w (Nat.le_refl _) (by omega) cs HB.out HS.out (World.grownBy.refl w _))
  · have hle2 : (n : Int) + 12 ≤ (cap : Int) := by omega
    go_enter Tryz.func59, Tryz.ntmps59
    refine wp_seq_k fun K0 hK => ?_
    have HK0 := Lib.hid hK
    clear hK
    go_wp2_with fail
    exact HK0.out _ _ (over1_refs g (n + 12) cap w w (by omega) (by omega) cs HB.out HS.out (World.grownBy.refl w _))
end Go.Proofs.YtgjgcbemgmkncaaGreatDoor
