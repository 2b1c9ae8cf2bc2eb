/-
  Layer 9: Full, Find.
  burgagekit's SameBytes, SameRefs, SameNode.
  burgagekit's SameNode.
  Layer 9: the law's ref and inner.
  Layer 9: the chapter's examples (no program in sight).
  Layer 9: a node in a box, and what is stored beside it.
  Layer 9: a node's value opened.
  Layer 9: awake's drawn regions.
  Layer 9: the chapter's examples, walked.
  NodeGrows: what holds between two rounds (no walk).
  Layer 8: Turn.
-/
import Derived.Test.YtgjgcbemgmkncaaGreatDoorPd
import Derived.Test.YtgjgcbemgmkncaaGreatDoorPb
namespace Go.Proofs.YtgjgcbemgmkncaaGreatDoor
open Go.RowKit Go.Shelf
set_option linter.unusedVariables false
set_option maxRecDepth 20000
set_option linter.unusedSimpArgs false

def Nd.full (x : Nd) : Bool := x.may && ((x.kids.length : Int) == roomN x.kind)
set_option maxHeartbeats 1600000 in
set_option maxRecDepth 100000 in
theorem Full_n (x : Nd) (V : Value) (w : World) (h : NdAt w x V) (hr : RoomsAt w) : Calls Tryz.prog 18 #[V] w (BoolEnd x.full w) := by
  have h' := h
  obtain ⟨hwf, Ab, cb, Ak, ck, rfl, _, _⟩ := h'
  have b1 := below_box w (.cells #[.int .i64 x.kind, .string x.code, .string x.value, .string x.path, .slice Ab x.bytes.length cb, .slice Ak x.kids.length ck] 26)
  have HM := Lib.hid (may_n x _ (w.alloc (.cells #[.int .i64 x.kind, .string x.code, .string x.value, .string x.path, .slice Ab x.bytes.length cb, .slice Ak x.kids.length ck] 26)).drew (h.below b1.drew) (hr.on b1.drew))
  have HB := Lib.hid (And.intro b1 (And.intro (Blk.new w 26 #[.int .i64 x.kind, .string x.code, .string x.value, .string x.path, .slice Ab x.bytes.length cb, .slice Ak x.kids.length ck]) (hr.on b1)))
  clear h hr b1 hwf
  unfold Nd.v at HM ⊢
  cases hm : x.may with
  | false =>
    rw [hm] at HM
    have E : Hid (x.full = false) := Lib.hid (by unfold Nd.full; rw [hm]; rfl)
    clear hm
    go_enter Tryz.func18, Tryz.ntmps18
    go_wp2_with fail
    refine wp_region_held_drew (S := (fun V : World => V.cell? ⟨w.heap.size, 0, none⟩ = some (.int .i64 x.kind) ∧ V.cell? ⟨w.heap.size, 1, none⟩ = some (.string x.code) ∧ V.cell? ⟨w.heap.size, 2, none⟩ = some (.string x.value) ∧ V.cell? ⟨w.heap.size, 3, none⟩ = some (.string x.path) ∧ V.cell? ⟨w.heap.size, 4, none⟩ = some (.slice Ab x.bytes.length cb) ∧ V.cell? ⟨w.heap.size, 5, none⟩ = some (.slice Ak x.kids.length ck))) (by kernel_rfl) ?_ (fun hHeld0 => ?_)
    · exact cells6 HB.out.2.1.drew
    refine wpAnyH_take (i := 0) (v := ?_) rfl (by kernel_rfl) (by kernel_rfl) (by kernel_rfl) (fun _ _ _ h => h) (Or.inl ⟨by rfl, ?_⟩) hHeld0 ?_
    rotate_left
    · (intro w hSw; (try dsimp only at hSw); go_simp <;> with_reducible rfl)
    try simp only [Act.put, List.setIfInBounds_toArray, List.set_cons_zero, List.set_cons_succ]
    refine wpAnyH_take (i := 1) (v := ?_) rfl (by kernel_rfl) (by kernel_rfl) (by kernel_rfl) (fun _ _ _ h => h) (Or.inl ⟨by rfl, ?_⟩) hHeld0 ?_
    rotate_left
    · (intro w hSw; (try dsimp only at hSw); go_simp <;> with_reducible rfl)
    try simp only [Act.put, List.setIfInBounds_toArray, List.set_cons_zero, List.set_cons_succ]
    refine wpAnyH_ready (rs := [2]) (by kernel_rfl) (by simp) ?_
    refine AllReadyH.cons rfl (fun K hK => ?_) ?_
    · go_simp
      refine HM.out.mono ?_
      rintro e w1 ⟨rfl, hb⟩
      have H3 := Lib.hid (And.intro (HB.out.1.trans (Below.trans ((Below.refl _ _).drew) hb |>.mono HB.out.1.size)) (And.intro (HB.out.2.1.below ((Below.refl _ _).drew.trans hb) (by simp)) (HB.out.2.2.on ((Below.refl _ _).drew.trans hb))))
      clear hb
      refine hK.out _ _ ?_ (fun hHeld1 => ?_)
      · exact cells6 H3.out.2.1
      clear hK K hHeld0
      try simp only [Act.put, List.setIfInBounds_toArray, List.set_cons_zero, List.set_cons_succ]
      refine wpAnyH_take (i := 3) (v := ?_) rfl (by kernel_rfl) (by kernel_rfl) (by kernel_rfl) (fun _ _ _ h => h) (Or.inl ⟨by rfl, ?_⟩) hHeld1 ?_
      rotate_left
      · (intro w hSw; (try dsimp only at hSw); go_simp <;> with_reducible rfl)
      try simp only [Act.put, List.setIfInBounds_toArray, List.set_cons_zero, List.set_cons_succ]
      refine wpAnyH_take (i := 4) (v := undef) rfl (by kernel_rfl) (by kernel_rfl) (by kernel_rfl) (fun _ _ _ h => h) (Or.inr ⟨by kernel_rfl, rfl⟩) hHeld1 ?_
      try simp only [Act.put, List.setIfInBounds_toArray, List.set_cons_zero, List.set_cons_succ]
      refine wpAnyH_take (i := 5) (v := undef) rfl (by kernel_rfl) (by kernel_rfl) (by kernel_rfl) (fun _ _ _ h => h) (Or.inr ⟨by kernel_rfl, rfl⟩) hHeld1 ?_
      try simp only [Act.put, List.setIfInBounds_toArray, List.set_cons_zero, List.set_cons_succ]
      refine wpAnyH_take (i := 6) (v := undef) rfl (by kernel_rfl) (by kernel_rfl) (by kernel_rfl) (fun _ _ _ h => h) (Or.inr ⟨by kernel_rfl, rfl⟩) hHeld1 ?_
      try simp only [Act.put, List.setIfInBounds_toArray, List.set_cons_zero, List.set_cons_succ]
      refine wpAnyH_take (i := 7) (v := undef) rfl (by kernel_rfl) (by kernel_rfl) (by kernel_rfl) (fun _ _ _ h => h) (Or.inr ⟨by kernel_rfl, rfl⟩) hHeld1 ?_
      try simp only [Act.put, List.setIfInBounds_toArray, List.set_cons_zero, List.set_cons_succ]
      refine wpAnyH_take (i := 8) (v := undef) rfl (by kernel_rfl) (by kernel_rfl) (by kernel_rfl) (fun _ _ _ h => h) (Or.inr ⟨by kernel_rfl, rfl⟩) hHeld1 ?_
      try simp only [Act.put, List.setIfInBounds_toArray, List.set_cons_zero, List.set_cons_succ]
      refine wpAnyH_take (i := 9) (v := undef) rfl (by kernel_rfl) (by kernel_rfl) (by kernel_rfl) (fun _ _ _ h => h) (Or.inr ⟨by kernel_rfl, rfl⟩) hHeld1 ?_
      try simp only [Act.put, List.setIfInBounds_toArray, List.set_cons_zero, List.set_cons_succ]
      refine wpAnyH_take (i := 10) (v := undef) rfl (by kernel_rfl) (by kernel_rfl) (by kernel_rfl) (fun _ _ _ h => h) (Or.inr ⟨by kernel_rfl, rfl⟩) hHeld1 ?_
      try simp only [Act.put, List.setIfInBounds_toArray, List.set_cons_zero, List.set_cons_succ]
      refine wpAnyH_take (i := 11) (v := ?_) rfl (by kernel_rfl) (by kernel_rfl) (by kernel_rfl) (fun _ _ _ h => h) (Or.inl ⟨by rfl, ?_⟩) hHeld1 ?_
      rotate_left
      · (intro w hSw; (try dsimp only at hSw); go_simp <;> with_reducible rfl)
      try simp only [Act.put, List.setIfInBounds_toArray, List.set_cons_zero, List.set_cons_succ]
      refine wpAnyH_take (i := 12) (v := ?_) rfl (by kernel_rfl) (by kernel_rfl) (by kernel_rfl) (fun _ _ _ h => h) (Or.inl ⟨by rfl, ?_⟩) hHeld1 ?_
      rotate_left
      · (intro w hSw; (try dsimp only at hSw); go_simp <;> with_reducible rfl)
      try simp only [Act.put, List.setIfInBounds_toArray, List.set_cons_zero, List.set_cons_succ]
      try simp only [Act.put, List.getElem_toArray, List.getElem_cons_succ, List.getElem_cons_zero, List.setIfInBounds_toArray, List.set_cons_zero, List.set_cons_succ]
      refine wpAnyH_done (by kernel_rfl) ?_ _
      refine (‹∀ (a : Act) (w : World), Code.wp Tryz.prog _ _ a w → _› _ _ ?_)
      go_wp2
      go_ret
      exact ⟨ret_bool (by rw [E.out]), H3.out.1⟩
    exact AllReadyH.nil
  | true =>
    rw [hm] at HM
    have E : Hid (x.full = ((x.kids.length : Int) == roomN x.kind)) := Lib.hid (by unfold Nd.full; rw [hm]; rfl)
    clear hm
    go_enter Tryz.func18, Tryz.ntmps18
    go_wp2_with fail
    refine wp_region_held_drew (S := (fun V : World => V.cell? ⟨w.heap.size, 0, none⟩ = some (.int .i64 x.kind) ∧ V.cell? ⟨w.heap.size, 1, none⟩ = some (.string x.code) ∧ V.cell? ⟨w.heap.size, 2, none⟩ = some (.string x.value) ∧ V.cell? ⟨w.heap.size, 3, none⟩ = some (.string x.path) ∧ V.cell? ⟨w.heap.size, 4, none⟩ = some (.slice Ab x.bytes.length cb) ∧ V.cell? ⟨w.heap.size, 5, none⟩ = some (.slice Ak x.kids.length ck))) (by kernel_rfl) ?_ (fun hHeld0 => ?_)
    · exact cells6 HB.out.2.1.drew
    refine wpAnyH_take (i := 0) (v := ?_) rfl (by kernel_rfl) (by kernel_rfl) (by kernel_rfl) (fun _ _ _ h => h) (Or.inl ⟨by rfl, ?_⟩) hHeld0 ?_
    rotate_left
    · (intro w hSw; (try dsimp only at hSw); go_simp <;> with_reducible rfl)
    try simp only [Act.put, List.setIfInBounds_toArray, List.set_cons_zero, List.set_cons_succ]
    refine wpAnyH_take (i := 1) (v := ?_) rfl (by kernel_rfl) (by kernel_rfl) (by kernel_rfl) (fun _ _ _ h => h) (Or.inl ⟨by rfl, ?_⟩) hHeld0 ?_
    rotate_left
    · (intro w hSw; (try dsimp only at hSw); go_simp <;> with_reducible rfl)
    try simp only [Act.put, List.setIfInBounds_toArray, List.set_cons_zero, List.set_cons_succ]
    refine wpAnyH_ready (rs := [2]) (by kernel_rfl) (by simp) ?_
    refine AllReadyH.cons rfl (fun K hK => ?_) ?_
    · go_simp
      refine HM.out.mono ?_
      rintro e w1 ⟨rfl, hb⟩
      have H3 := Lib.hid (And.intro (HB.out.1.trans (Below.trans ((Below.refl _ _).drew) hb |>.mono HB.out.1.size)) (And.intro (HB.out.2.1.below ((Below.refl _ _).drew.trans hb) (by simp)) (HB.out.2.2.on ((Below.refl _ _).drew.trans hb))))
      clear hb
      refine hK.out _ _ ?_ (fun hHeld1 => ?_)
      · exact cells6 H3.out.2.1
      clear hK K hHeld0
      try simp only [Act.put, List.setIfInBounds_toArray, List.set_cons_zero, List.set_cons_succ]
      refine wpAnyH_take (i := 3) (v := ?_) rfl (by kernel_rfl) (by kernel_rfl) (by kernel_rfl) (fun _ _ _ h => h) (Or.inl ⟨by rfl, ?_⟩) hHeld1 ?_
      rotate_left
      · (intro w hSw; (try dsimp only at hSw); go_simp <;> with_reducible rfl)
      try simp only [Act.put, List.setIfInBounds_toArray, List.set_cons_zero, List.set_cons_succ]
      refine wpAnyH_take (i := 4) (v := ?_) rfl (by kernel_rfl) (by kernel_rfl) (by kernel_rfl) (fun _ _ _ h => h) (Or.inl ⟨by rfl, ?_⟩) hHeld1 ?_
      rotate_left
      · (intro w hSw; (try dsimp only at hSw); go_simp <;> with_reducible rfl)
      try simp only [Act.put, List.setIfInBounds_toArray, List.set_cons_zero, List.set_cons_succ]
      refine wpAnyH_take (i := 5) (v := ?_) rfl (by kernel_rfl) (by kernel_rfl) (by kernel_rfl) (fun _ _ _ h => h) (Or.inl ⟨by rfl, ?_⟩) hHeld1 ?_
      rotate_left
      · (intro w hSw; (try dsimp only at hSw); go_simp <;> with_reducible rfl)
      try simp only [Act.put, List.setIfInBounds_toArray, List.set_cons_zero, List.set_cons_succ]
      refine wpAnyH_take (i := 6) (v := ?_) rfl (by kernel_rfl) (by kernel_rfl) (by kernel_rfl) (fun _ _ _ h => h) (Or.inl ⟨by rfl, ?_⟩) hHeld1 ?_
      rotate_left
      · (intro w hSw; (try dsimp only at hSw); go_simp <;> with_reducible rfl)
      try simp only [Act.put, List.setIfInBounds_toArray, List.set_cons_zero, List.set_cons_succ]
      refine wpAnyH_take (i := 7) (v := ?_) rfl (by kernel_rfl) (by kernel_rfl) (by kernel_rfl) (fun _ _ _ h => h) (Or.inl ⟨by rfl, ?_⟩) hHeld1 ?_
      rotate_left
      · (intro w hSw; (try dsimp only at hSw); go_simp <;> with_reducible rfl)
      try simp only [Act.put, List.setIfInBounds_toArray, List.set_cons_zero, List.set_cons_succ]
      refine wpAnyH_take (i := 8) (v := ?_) rfl (by kernel_rfl) (by kernel_rfl) (by kernel_rfl) (fun _ _ _ h => h) (Or.inl ⟨by rfl, ?_⟩) hHeld1 ?_
      rotate_left
      · (intro w hSw; (try dsimp only at hSw); go_simp <;> with_reducible rfl)
      try simp only [Act.put, List.setIfInBounds_toArray, List.set_cons_zero, List.set_cons_succ]
      refine wpAnyH_ready (rs := [9]) (by kernel_rfl) (by simp) ?_
      refine AllReadyH.cons rfl (fun K hK => ?_) ?_
      · go_simp
        with_reducible refine (room_n x.kind w1 H3.out.2.2).mono ?_
        rintro e w2 ⟨rfl, rfl⟩
        refine hK.out _ _ ?_ (fun hHeld2 => ?_)
        · exact cells6 H3.out.2.1
        clear hK K hHeld1
        try simp only [Act.put, List.setIfInBounds_toArray, List.set_cons_zero, List.set_cons_succ]
        refine wpAnyH_take (i := 10) (v := ?_) rfl (by kernel_rfl) (by kernel_rfl) (by kernel_rfl) (fun _ _ _ h => h) (Or.inl ⟨by rfl, ?_⟩) hHeld2 ?_
        rotate_left
        · (intro w hSw; (try dsimp only at hSw); go_simp <;> with_reducible rfl)
        try simp only [Act.put, List.setIfInBounds_toArray, List.set_cons_zero, List.set_cons_succ]
        refine wpAnyH_take (i := 11) (v := ?_) rfl (by kernel_rfl) (by kernel_rfl) (by kernel_rfl) (fun _ _ _ h => h) (Or.inl ⟨by rfl, ?_⟩) hHeld2 ?_
        rotate_left
        · (intro w hSw; (try dsimp only at hSw); go_simp <;> with_reducible rfl)
        try simp only [Act.put, List.setIfInBounds_toArray, List.set_cons_zero, List.set_cons_succ]
        refine wpAnyH_take (i := 12) (v := ?_) rfl (by kernel_rfl) (by kernel_rfl) (by kernel_rfl) (fun _ _ _ h => h) (Or.inl ⟨by rfl, ?_⟩) hHeld2 ?_
        rotate_left
        · (intro w hSw; (try dsimp only at hSw); go_simp <;> with_reducible rfl)
        try simp only [Act.put, List.setIfInBounds_toArray, List.set_cons_zero, List.set_cons_succ]
        try simp only [Act.put, List.getElem_toArray, List.getElem_cons_succ, List.getElem_cons_zero, List.setIfInBounds_toArray, List.set_cons_zero, List.set_cons_succ]
        refine wpAnyH_done (by kernel_rfl) ?_ _
        refine (‹∀ (a : Act) (w : World), Code.wp Tryz.prog _ _ a w → _› _ _ ?_)
        go_wp2
        go_ret
        exact ⟨ret_bool (by rw [E.out]), H3.out.1⟩
      exact AllReadyH.nil
    exact AllReadyH.nil
/-- Find's world behind its boxes. -/
structure FindW (w : World) (x : Nd) (CE : Array Value) (W : World) : Prop where
  below : Below w.heap.size w W
  box : Blk W w.heap.size 26 CE
  out : Blk W (w.heap.size + 1) 29 #[.int .i64 0, .int .u32 0]
  parts : Blk W (w.heap.size + 1 + 1) 61 CE
  node : NdAt W x (.agg CE)
  rooms : RoomsAt W
  size : w.heap.size + 3 ≤ W.heap.size
theorem FindW.on {w W W' : World} {x : Nd} {CE : Array Value} (h : FindW w x CE W) (hb : Below W.heap.size W W') : FindW w x CE W' :=
  ⟨h.below.trans (hb.mono h.below.size), h.box.below hb h.box.lt, h.out.below hb h.out.lt, h.parts.below hb h.parts.lt, h.node.below hb, h.rooms.on hb, Nat.le_trans h.size hb.size⟩
theorem FindW.drew {w W : World} {x : Nd} {CE : Array Value} (h : FindW w x CE W) : FindW w x CE W.drew := ⟨h.below.drew, h.box.drew, h.out.drew, h.parts.drew, h.node, h.rooms, h.size⟩
theorem find_start (w : World) (x : Nd) (CE : Array Value) (h : NdAt w x (.agg CE)) (hr : RoomsAt w) : FindW w x CE (((w.alloc (.cells CE 26)).alloc (.cells #[.int .i64 0, .int .u32 0] 29)).alloc (.cells CE 61)) := by
  have b4 : Below w.heap.size w (((w.alloc (.cells CE 26)).alloc (.cells #[.int .i64 0, .int .u32 0] 29)).alloc (.cells CE 61)) := (((Below.refl _ w).alloc (Nat.le_refl _) _).alloc (by simp) _).alloc (by simp; omega) _
  refine ⟨b4, ((Blk.new w 26 CE).alloc _).alloc _, ?_, ?_, h.below b4, hr.on b4, by simp⟩
  · have q := (Blk.new (w.alloc (.cells CE 26)) 29 #[.int .i64 0, .int .u32 0]).alloc (.cells CE 61)
    rw [World.size_alloc] at q
    exact q
  · have q := Blk.new ((w.alloc (.cells CE 26)).alloc (.cells #[.int .i64 0, .int .u32 0] 29)) 61 CE
    rw [World.size_alloc, World.size_alloc] at q
    exact q
theorem findS {w W : World} {x : Nd} {Ab Ak : Option Addr} {cb ck : Nat} (h : FindW w x #[.int .i64 x.kind, .string x.code, .string x.value, .string x.path, .slice Ab x.bytes.length cb, .slice Ak x.kids.length ck] W) : (W.cell? ⟨w.heap.size + 1 + 1, 0, none⟩ = some (.int .i64 x.kind) ∧ W.cell? ⟨w.heap.size + 1 + 1, 1, none⟩ = some (.string x.code) ∧ W.cell? ⟨w.heap.size + 1 + 1, 2, none⟩ = some (.string x.value) ∧ W.cell? ⟨w.heap.size + 1 + 1, 3, none⟩ = some (.string x.path) ∧ W.cell? ⟨w.heap.size + 1 + 1, 4, none⟩ = some (.slice Ab x.bytes.length cb) ∧ W.cell? ⟨w.heap.size + 1 + 1, 5, none⟩ = some (.slice Ak x.kids.length ck)) ∧ W.cell? ⟨w.heap.size, 0, none⟩ = some (.int .i64 x.kind) := ⟨cells6 h.parts, h.box.cell 0⟩
theorem findS_off {w W V : World} {x : Nd} {Ab Ak : Option Addr} {cb ck : Nat} (h : FindW w x #[.int .i64 x.kind, .string x.code, .string x.value, .string x.path, .slice Ab x.bytes.length cb, .slice Ak x.kids.length ck] W) (hg : W.grownBy V (some (w.heap.size + 1))) : (V.cell? ⟨w.heap.size + 1 + 1, 0, none⟩ = some (.int .i64 x.kind) ∧ V.cell? ⟨w.heap.size + 1 + 1, 1, none⟩ = some (.string x.code) ∧ V.cell? ⟨w.heap.size + 1 + 1, 2, none⟩ = some (.string x.value) ∧ V.cell? ⟨w.heap.size + 1 + 1, 3, none⟩ = some (.string x.path) ∧ V.cell? ⟨w.heap.size + 1 + 1, 4, none⟩ = some (.slice Ab x.bytes.length cb) ∧ V.cell? ⟨w.heap.size + 1 + 1, 5, none⟩ = some (.slice Ak x.kids.length ck)) ∧ V.cell? ⟨w.heap.size, 0, none⟩ = some (.int .i64 x.kind) := by
  have e0 : ∀ i, V.cell? ⟨w.heap.size, i, none⟩ = W.cell? ⟨w.heap.size, i, none⟩ := fun i => World.cell?_of_block (hg.block w.heap.size h.box.lt (fun e => by have e2 : w.heap.size = w.heap.size + 1 := Option.some.inj e; omega))
  have e2 : ∀ i, V.cell? ⟨w.heap.size + 1 + 1, i, none⟩ = W.cell? ⟨w.heap.size + 1 + 1, i, none⟩ := fun i => World.cell?_of_block (hg.block (w.heap.size + 1 + 1) h.parts.lt (fun e => by have e2 : w.heap.size + 1 + 1 = w.heap.size + 1 := Option.some.inj e; omega))
  simp only [e0, e2]
  exact findS h
theorem two_stores {W : World} {b : Nat} {t : TypeId} {d0 d1 : Value} (v0 v1 : Value) (h : Blk W b t #[d0, d1]) :
    ∃ V, V = (W.setCell ⟨b, 0, none⟩ v0).setCell ⟨b, 1, none⟩ v1 ∧ W.grownBy V (some b) ∧ Blk V b t #[v0, v1] := by
  refine ⟨_, rfl, grown_setCell (grown_setCell ⟨rfl, rfl, rfl, Nat.le_refl _, fun _ _ _ => rfl⟩ _ _) _ _, ?_⟩
  have q := (h.set_ 0 v0).set_ 1 v1
  simpa using q
theorem find_iface {W : World} {iv : Value} {room : Int} {f : Kids} {bl : List Nat} (b : Nat) (h : RowAt W iv room f bl) (hb : b < 256) : ∃ (T : TypeId) (g fid : Nat), iv = .iface T (.pointer (some ⟨g, 0, none⟩)) ∧ (∀ V : World, (method 263 T (.pointer (some ⟨g, 0, none⟩)) "Find").run Tryz.prog V = .ok (fid, .pointer (some ⟨g, 0, none⟩)) V) ∧ (∀ args V, (callFunc fid args).run Tryz.prog V = .ok (.enter fid args) V) ∧
    Calls Tryz.prog fid #[.pointer (some ⟨g, 0, none⟩), .int .u8 (b : Int)] W (TwoEnd (optV (f b)) (.bool (f b).isSome) W) := by
  rcases h with ⟨g, rfl, rfl, hf⟩ | ⟨g, gr, gu, n, rfl, rfl, rfl, hf⟩
  · exact ⟨_, g, _, rfl, few_Find_me g, enters_of Tryz.func109 (by kernel_rfl) rfl, Find_k g room f b W hf hb⟩
  · exact ⟨_, g, _, rfl, many_Find_me g, enters_of Tryz.func125 (by kernel_rfl) rfl, Find_m g gr gu n f b W hf hb⟩
def findN (x : Nd) (b : Nat) : Option (Int × Int) := if x.may = true then x.row (roomN x.kind) b else none
set_option maxHeartbeats 1600000 in
set_option maxRecDepth 100000 in
theorem Find_n (x : Nd) (V : Value) (b : Nat) (w : World) (h : NdAt w x V) (hr : RoomsAt w) (hb256 : b < 256) : Calls Tryz.prog 24 #[V, .int .u8 (b : Int)] w (TwoEnd (optV (findN x b)) (.bool (findN x b).isSome) w) := by
  have h' := h
  obtain ⟨hwf, Ab, cb, Ak, ck, rfl, _, _⟩ := h'
  have h4 := find_start w x #[.int .i64 x.kind, .string x.code, .string x.value, .string x.path, .slice Ab x.bytes.length cb, .slice Ak x.kids.length ck] h hr
  have HM := Lib.hid (may_n x _ _ h4.node h4.rooms)
  have H4 := Lib.hid h4
  cases hm : x.may with
  | false =>
    rw [hm] at HM
    have E : findN x b = none := by unfold findN; rw [if_neg (by rw [hm]; simp)]
    rw [E]
    clear E hwf h hr h4 hm
    unfold Nd.v optV refV at *
    simp only [Option.getD_none, Option.isSome_none]
    go_enter Tryz.func24, Tryz.ntmps24
    go_wp2_with fail
    refine HM.out.mono ?_
    rintro e w1 ⟨rfl, hb⟩
    have H7B := Lib.hid (H4.out.on hb)
    clear hb HM H4
    have d0 := H7B.out.out.cell 0
    have d1 := H7B.out.out.cell 1
    have fz0 := H7B.out.out.frozen 0
    have fz1 := H7B.out.out.frozen 1
    have l6 := H7B.out.out.lt
    simp at d0 d1
    obtain ⟨VV, hV, hg, q6⟩ := two_stores (.int .i64 0) (.int .u32 0) H7B.out.out
    go_wp2
    rw [← hV]
    clear hV d0 d1 fz0 fz1
    have c0 := q6.cell 0
    have c1 := q6.cell 1
    simp at c0 c1
    exact bodyPost_ret (v := .tuple #[.agg #[.int .i64 0, .int .u32 0], .bool false]) (by simp [results, Tryz.results24, go_sem, c0, c1]) rfl ⟨rfl, H7B.out.below.grown hg H7B.out.below.size (fun k e => by injection e with e; omega)⟩
  | true =>
    rw [hm] at HM
    have hin := inner_parts (may_inner hm)
    have hroom := roomOk_of (room_kind hin.1)
    have E : findN x b = x.row (roomN x.kind) b := by unfold findN; rw [if_pos hm]
    rw [E]
    obtain ⟨room, hrm⟩ : ∃ room, roomN x.kind = room := ⟨_, rfl⟩
    rw [hrm] at hroom ⊢
    obtain ⟨o, ho⟩ : ∃ o, x.row room b = o := ⟨_, rfl⟩
    rw [ho]
    unfold Nd.row at ho
    have HP := Lib.hid (And.intro hroom (And.intro hin (And.intro hrm ho)))
    clear E hwf h hr h4 hm hroom hin hrm ho
    unfold Nd.v optV refV at *
    go_enter Tryz.func24, Tryz.ntmps24
    go_wp2_with fail
    refine HM.out.mono ?_
    rintro e w3 ⟨rfl, hb⟩
    have H3 := Lib.hid (H4.out.on hb)
    clear hb HM H4
    have HRO := Lib.hid (room_n x.kind w3.drew H3.out.drew.rooms)
    rw [HP.out.2.2.1] at HRO
    have HLA := Lib.hid (laid_n x _ room w3.drew H3.out.drew.node HP.out.1 (by have := HP.out.2.1.2.2.2.2.1; omega))
    go_wp2_with fail
    refine wp_region_held_drew (S := (fun V : World => (V.cell? ⟨w.heap.size + 1 + 1, 0, none⟩ = some (.int .i64 x.kind) ∧ V.cell? ⟨w.heap.size + 1 + 1, 1, none⟩ = some (.string x.code) ∧ V.cell? ⟨w.heap.size + 1 + 1, 2, none⟩ = some (.string x.value) ∧ V.cell? ⟨w.heap.size + 1 + 1, 3, none⟩ = some (.string x.path) ∧ V.cell? ⟨w.heap.size + 1 + 1, 4, none⟩ = some (.slice Ab x.bytes.length cb) ∧ V.cell? ⟨w.heap.size + 1 + 1, 5, none⟩ = some (.slice Ak x.kids.length ck)) ∧ V.cell? ⟨w.heap.size, 0, none⟩ = some (.int .i64 x.kind))) (by kernel_rfl) ?_ (fun hHeld0 => ?_)
    · exact findS H3.out.drew
    refine wpAnyH_take (i := 0) (v := ?_) rfl (by kernel_rfl) (by kernel_rfl) (by kernel_rfl) (fun _ _ _ h => h) (Or.inl ⟨by rfl, ?_⟩) hHeld0 ?_
    rotate_left
    · (intro w hSw; (try dsimp only at hSw); go_simp <;> with_reducible rfl)
    try simp only [Act.put, List.setIfInBounds_toArray, List.set_cons_zero, List.set_cons_succ]
    refine wpAnyH_take (i := 1) (v := ?_) rfl (by kernel_rfl) (by kernel_rfl) (by kernel_rfl) (fun _ _ _ h => h) (Or.inl ⟨by rfl, ?_⟩) hHeld0 ?_
    rotate_left
    · (intro w hSw; (try dsimp only at hSw); go_simp <;> with_reducible rfl)
    try simp only [Act.put, List.setIfInBounds_toArray, List.set_cons_zero, List.set_cons_succ]
    refine wpAnyH_take (i := 2) (v := ?_) rfl (by kernel_rfl) (by kernel_rfl) (by kernel_rfl) (fun _ _ _ h => h) (Or.inl ⟨by rfl, ?_⟩) hHeld0 ?_
    rotate_left
    · (intro w hSw; (try dsimp only at hSw); go_simp <;> with_reducible rfl)
    try simp only [Act.put, List.setIfInBounds_toArray, List.set_cons_zero, List.set_cons_succ]
    refine wpAnyH_take (i := 5) (v := ?_) rfl (by kernel_rfl) (by kernel_rfl) (by kernel_rfl) (fun _ _ _ h => h) (Or.inl ⟨by rfl, ?_⟩) hHeld0 ?_
    rotate_left
    · (intro w hSw; (try dsimp only at hSw); go_simp <;> with_reducible rfl)
    try simp only [Act.put, List.setIfInBounds_toArray, List.set_cons_zero, List.set_cons_succ]
    refine wpAnyH_ready (rs := [3]) (by kernel_rfl) (by simp) ?_
    refine AllReadyH.cons rfl (fun K hK => ?_) ?_
    · go_simp
      with_reducible refine HRO.out.mono ?_
      rintro e w4 ⟨rfl, rfl⟩
      refine hK.out _ _ ?_ (fun hHeld1 => ?_)
      · exact findS H3.out.drew
      clear hK K hHeld0
      try simp only [Act.put, List.setIfInBounds_toArray, List.set_cons_zero, List.set_cons_succ]
      refine wpAnyH_ready (rs := [4]) (by kernel_rfl) (by simp) ?_
      refine AllReadyH.cons rfl (fun K hK => ?_) ?_
      · go_simp
        refine HLA.out.mono ?_
        rintro e w5 ⟨iv, bl, rfl, hrow, hbl, hb5⟩
        have H5 := Lib.hid (H3.out.drew.on hb5)
        obtain ⟨TT, g, fid, rfl, hme, hen, hput⟩ := find_iface b hrow hb256
        rw [HP.out.2.2.2] at hput
        unfold optV refV at hput
        have HPU := Lib.hid hput
        clear hput hrow hbl hb5
        refine hK.out _ _ ?_ (fun hHeld2 => ?_)
        · exact findS H5.out
        clear hK K hHeld1
        try simp only [Act.put, List.setIfInBounds_toArray, List.set_cons_zero, List.set_cons_succ]
        refine wpAnyH_ready (rs := [6]) (by kernel_rfl) (by simp) ?_
        refine AllReadyH.cons rfl (fun K hK => ?_) ?_
        · go_simp
          refine HPU.out.mono ?_
          rintro e w6 ⟨rfl, hb6⟩
          have H7B := Lib.hid (H5.out.on hb6)
          clear hb6 hme hen
          refine hK.out _ _ ?_ (fun hHeld3 => ?_)
          · exact findS H7B.out
          clear hK K hHeld2
          try simp only [Act.put, List.setIfInBounds_toArray, List.set_cons_zero, List.set_cons_succ]
          refine wpAnyH_take (i := 7) (v := ?_) rfl (by kernel_rfl) (by kernel_rfl) (by kernel_rfl) (fun _ _ _ h => h) (Or.inl ⟨by rfl, ?_⟩) hHeld3 ?_
          rotate_left
          · (intro w hSw; (try dsimp only at hSw); go_simp <;> with_reducible rfl)
          try simp only [Act.put, List.setIfInBounds_toArray, List.set_cons_zero, List.set_cons_succ]
          refine wpAnyH_take (i := 8) (v := ?_) rfl (by kernel_rfl) (by kernel_rfl) (by kernel_rfl) (fun _ _ _ h => h) (Or.inl ⟨by rfl, ?_⟩) hHeld3 ?_
          rotate_left
          · (intro w hSw; (try dsimp only at hSw); go_simp <;> with_reducible rfl)
          try simp only [Act.put, List.setIfInBounds_toArray, List.set_cons_zero, List.set_cons_succ]
          refine wpAnyH_ready (rs := [9]) (by kernel_rfl) (by simp) ?_
          refine AllReadyH.cons rfl (fun K hK => ?_) ?_
          · have d0 := H7B.out.out.cell 0
            have d1 := H7B.out.out.cell 1
            have fz0 := H7B.out.out.frozen 0
            have fz1 := H7B.out.out.frozen 1
            have l6 := H7B.out.out.lt
            simp at d0 d1
            obtain ⟨VV, hV, hg, q6⟩ := two_stores (.int .i64 (o.getD (0, 0)).1) (.int .u32 (o.getD (0, 0)).2) H7B.out.out
            go_simp
            rw [← hV]
            clear hV d0 d1 fz0 fz1
            refine hK.out _ _ ?_ (fun hHeld4 => ?_)
            · exact findS_off H7B.out hg
            clear hK K hHeld3
            try simp only [Act.put, List.setIfInBounds_toArray, List.set_cons_zero, List.set_cons_succ]
            refine wpAnyH_take (i := 10) (v := ?_) rfl (by kernel_rfl) (by kernel_rfl) (by kernel_rfl) (fun _ _ _ h => h) (Or.inl ⟨by rfl, ?_⟩) hHeld4 ?_
            rotate_left
            · (intro w hSw; (try dsimp only at hSw); go_simp <;> with_reducible rfl)
            try simp only [Act.put, List.setIfInBounds_toArray, List.set_cons_zero, List.set_cons_succ]
            try simp only [Act.put, List.getElem_toArray, List.getElem_cons_succ, List.getElem_cons_zero, List.setIfInBounds_toArray, List.set_cons_zero, List.set_cons_succ]
            refine wpAnyH_done (by kernel_rfl) ?_ _
            refine (‹∀ (a : Act) (w : World), Code.wp Tryz.prog _ _ a w → _› _ _ ?_)
            have c0 := q6.cell 0
            have c1 := q6.cell 1
            simp at c0 c1
            go_wp2
            exact bodyPost_ret (v := .tuple #[.agg #[.int .i64 (o.getD (0, 0)).1, .int .u32 (o.getD (0, 0)).2], .bool o.isSome]) (by simp [results, Tryz.results24, go_sem, c0, c1]) rfl ⟨rfl, H7B.out.below.grown hg H7B.out.below.size (fun k e => by injection e with e; omega)⟩
          exact AllReadyH.nil
        exact AllReadyH.nil
      exact AllReadyH.nil
    exact AllReadyH.nil
end Go.Proofs.YtgjgcbemgmkncaaGreatDoor
namespace Go.Proofs.YtgjgcbemgmkncaaGreatDoor
open Go.RowKit Go.Shelf
set_option linter.unusedVariables false
set_option maxRecDepth 20000
set_option linter.unusedSimpArgs false

theorem ne_at {α : Type} {a b : List α} {k : Nat} (h1 : k < a.length) (h2 : k < b.length) (h : a[k] ≠ b[k]) : a ≠ b := fun e => by subst e; exact h rfl
theorem take_at {α : Type} {a b : List α} {k : Nat} (h1 : k < a.length) (h2 : k < b.length) (h : a.take k = b.take k) (he : a[k] = b[k]) : a.take (k + 1) = b.take (k + 1) := by
  rw [List.take_succ_eq_append_getElem h1, List.take_succ_eq_append_getElem h2, h, he]
set_option maxHeartbeats 1600000 in
theorem SameBytes_n (a b : List Nat) (A B : Option Addr) (ca cb : Nat) (w : World) (ha : Reads w w.heap.size 1 A a.length (a.flatMap nrow)) (hb : Reads w w.heap.size 1 B b.length (b.flatMap nrow)) (hla : a.length ≤ 9223372036854775807) :
    Calls Tryz.prog 56 #[.slice A a.length ca, .slice B b.length cb] w (BoolEnd (decide (a = b)) w) := by
  by_cases hlen : a.length = b.length
  · have HA := Lib.hid (And.intro ha hb)
    have HL := Lib.hid hlen
    have hl : ((a.length : Int) != (b.length : Int)) = false := by simp [hlen]
    clear ha hb hlen
    go_enter Tryz.func56, Tryz.ntmps56
    go_wp2_with fail
    go_loopw [5] (fun i wr => ∃ k : Nat, k ≤ a.length ∧ i = .int .i64 k ∧ Hid (a.take k = b.take k) ∧ ∃ n, wr = w.drewN n) (fun i _ => a.length - (intOf i).toNat)
    case atStart => exact ⟨0, Nat.zero_le _, rfl, Lib.hid (by simp), 0, rfl⟩
    case round =>
      obtain ⟨k, hk, rfl, HT, n, rfl⟩ := hrel
      by_cases hlt : k < a.length
      · have hlt2 : k < b.length := by have := HL.out; omega
        obtain ⟨aa, rfl, haa, c0⟩ := byte_at HA.out.1 hlt
        obtain ⟨bb, rfl, hbb, c1⟩ := byte_at HA.out.2 hlt2
        have i1 : (0 : Int) ≤ (k : Int) := by omega
        have i2 : (k : Int) < (a.length : Int) := by omega
        have i3 : (k : Int) < (b.length : Int) := by omega
        have HN := Lib.hid (ne_at hlt hlt2)
        have HY := Lib.hid (take_at hlt hlt2 HT.out)
        generalize a[k] = x at c0 HN HY
        generalize b[k] = y at c1 HN HY
        by_cases hxy : x = y
        · have hne : ((x : Int) != (y : Int)) = false := by simp [hxy]
          have E := Lib.hid (HY.out hxy)
          clear HN HY hxy
          go_wp2_with fail
          go_quiet (fail)
          go_wp2
          go_roundw
          case rel => exact ⟨k + 1, by omega, by go_num, E, _, rfl⟩
          case measure => simp [intOf]; omega
        · have hne : ((x : Int) != (y : Int)) = true := by simp; omega
          have E : Hid (decide (a = b) = false) := Lib.hid (by simp [HN.out hxy])
          clear HN HY hxy
          go_wp2_with fail
          go_quiet (fail)
          go_wp2
          go_ret
          exact ⟨ret_bool E.out.symm, below_drewN (below_drewN (Below.refl _ _) _) _⟩
      · obtain rfl : k = a.length := by omega
        have E : Hid (decide (a = b) = true) := Lib.hid (by
          have h := HT.out
          rw [List.take_of_length_le (Nat.le_refl _), List.take_of_length_le (by have := HL.out; omega)] at h
          simp [h])
        have i2 : ¬ ((a.length : Int) < (a.length : Int)) := by omega
        go_wp2
        go_ret
        exact ⟨ret_bool E.out.symm, below_drewN (Below.refl _ _) _⟩
  · have hl : ((a.length : Int) != (b.length : Int)) = true := by simp; omega
    have E : Hid (decide (a = b) = false) := Lib.hid (by simp; intro e; exact hlen (by rw [e]))
    clear ha hb hlen
    go_enter Tryz.func56, Tryz.ntmps56
    go_wp2
    go_ret
    exact ⟨ret_bool E.out.symm, Below.refl _ _⟩
theorem ref_at2 {w : World} {B k : Nat} {A : Option Addr} {l : List (Int × Int)} (h : Reads w B 2 A l.length (l.flatMap rrow)) (hk : k < l.length) : ∃ ad, A = some ad ∧ ad.block < B ∧ w.cell? (ad.add (k * 2)) = some (.int .i64 (l[k]).1) ∧ w.cell? (ad.add (k * 2 + 1)) = some (.int .u32 (l[k]).2) ∧ w.cell? ⟨ad.block, (ad.add (k * 2)).off + 1, none⟩ = some (.int .u32 (l[k]).2) ∧ w.cell? ((ad.add (k * 2)).add 1) = some (.int .u32 (l[k]).2) ∧ w.cell? ⟨(ad.add (k * 2)).block, (ad.add (k * 2)).off + 1, none⟩ = some (.int .u32 (l[k]).2) := by
  obtain ⟨ad, e, hb, c1, c2⟩ := ref_at h hk
  have e1 : (ad.add (k * 2)).add 1 = ad.add (k * 2 + 1) := by
    simp [Addr.add]
    split <;> simp_all <;> omega
  have e2 : (⟨(ad.add (k * 2)).block, (ad.add (k * 2)).off + 1, none⟩ : Addr) = ad.add (k * 2 + 1) := by
    simp [Addr.add]
    split <;> simp_all <;> omega
  have e3 : (⟨ad.block, (ad.add (k * 2)).off + 1, none⟩ : Addr) = ad.add (k * 2 + 1) := by
    rw [← e2, block_of_add]
  exact ⟨ad, e, hb, c1, c2, by rw [e3]; exact c2, by rw [e1]; exact c2, by rw [e2]; exact c2⟩
set_option maxHeartbeats 1600000 in
theorem SameRefs_n (a b : List (Int × Int)) (A B : Option Addr) (ca cb : Nat) (w : World) (ha : Reads w w.heap.size 2 A a.length (a.flatMap rrow)) (hb : Reads w w.heap.size 2 B b.length (b.flatMap rrow)) (hla : a.length ≤ 9223372036854775807) :
    Calls Tryz.prog 57 #[.slice A a.length ca, .slice B b.length cb] w (BoolEnd (decide (a = b)) w) := by
  by_cases hlen : a.length = b.length
  · have HA := Lib.hid (And.intro ha hb)
    have HL := Lib.hid hlen
    have hl : ((a.length : Int) != (b.length : Int)) = false := by simp [hlen]
    clear ha hb hlen
    go_enter Tryz.func57, Tryz.ntmps57
    go_wp2_with fail
    go_loopw [5] (fun i wr => ∃ k : Nat, k ≤ a.length ∧ i = .int .i64 k ∧ Hid (a.take k = b.take k) ∧ ∃ n, wr = w.drewN n) (fun i _ => a.length - (intOf i).toNat)
    case atStart => exact ⟨0, Nat.zero_le _, rfl, Lib.hid (by simp), 0, rfl⟩
    case round =>
      obtain ⟨k, hk, rfl, HT, n, rfl⟩ := hrel
      by_cases hlt : k < a.length
      · have hlt2 : k < b.length := by have := HL.out; omega
        obtain ⟨aa, rfl, haa, c0, c0a, c0b, c0c, c0d⟩ := ref_at2 HA.out.1 hlt
        obtain ⟨bb, rfl, hbb, c1, c1a, c1b, c1c, c1d⟩ := ref_at2 HA.out.2 hlt2
        have i1 : (0 : Int) ≤ (k : Int) := by omega
        have i2 : (k : Int) < (a.length : Int) := by omega
        have i3 : (k : Int) < (b.length : Int) := by omega
        have HN := Lib.hid (ne_at hlt hlt2)
        have HY := Lib.hid (take_at hlt hlt2 HT.out)
        generalize a[k] = x at c0 c0a c0b c0c c0d HN HY
        generalize b[k] = y at c1 c1a c1b c1c c1d HN HY
        obtain ⟨x1, x2⟩ := x
        obtain ⟨y1, y2⟩ := y
        dsimp only at c0 c0a c0b c0c c0d c1 c1a c1b c1c c1d
        by_cases h1 : x1 = y1
        · have e1 : (x1 == y1) = true := by simp [h1]
          by_cases h2 : x2 = y2
          · have e2 : (x2 == y2) = true := by simp [h2]
            have E := Lib.hid (HY.out (by rw [h1, h2]))
            clear HN HY h1 h2
            go_wp2_with fail
            go_quiet (fail)
            go_wp2
            go_roundw
            case rel => exact ⟨k + 1, by omega, by go_num, E, _, rfl⟩
            case measure => simp [intOf]; omega
          · have e2 : (x2 == y2) = false := by simp [h2]
            have E : Hid (decide (a = b) = false) := Lib.hid (by simp [HN.out (fun e => h2 (by cases e; rfl))])
            clear HN HY h1 h2
            go_wp2_with fail
            go_quiet (fail)
            go_wp2
            go_ret
            exact ⟨ret_bool E.out.symm, below_drewN (below_drewN (Below.refl _ _) _) _⟩
        · have e1 : (x1 == y1) = false := by simp [h1]
          have E : Hid (decide (a = b) = false) := Lib.hid (by simp [HN.out (fun e => h1 (by cases e; rfl))])
          clear HN HY h1
          go_wp2_with fail
          go_quiet (fail)
          go_wp2
          go_ret
          exact ⟨ret_bool E.out.symm, below_drewN (below_drewN (Below.refl _ _) _) _⟩
      · obtain rfl : k = a.length := by omega
        have E : Hid (decide (a = b) = true) := Lib.hid (by
          have h := HT.out
          rw [List.take_of_length_le (Nat.le_refl _), List.take_of_length_le (by have := HL.out; omega)] at h
          simp [h])
        have i2 : ¬ ((a.length : Int) < (a.length : Int)) := by omega
        go_wp2
        go_ret
        exact ⟨ret_bool E.out.symm, below_drewN (Below.refl _ _) _⟩
  · have hl : ((a.length : Int) != (b.length : Int)) = true := by simp; omega
    have E : Hid (decide (a = b) = false) := Lib.hid (by simp; intro e; exact hlen (by rw [e]))
    clear ha hb hlen
    go_enter Tryz.func57, Tryz.ntmps57
    go_wp2
    go_ret
    exact ⟨ret_bool E.out.symm, Below.refl _ _⟩
end Go.Proofs.YtgjgcbemgmkncaaGreatDoor
namespace Go.Proofs.YtgjgcbemgmkncaaGreatDoor
open Go.RowKit Go.Shelf
set_option linter.unusedVariables false
set_option maxRecDepth 20000
set_option linter.unusedSimpArgs false

def sameN (x y : Nd) : Bool := (x.kind == y.kind) && (x.code.toList == y.code.toList) && (x.value.toList == y.value.toList) && (x.path.toList == y.path.toList) && decide (x.bytes = y.bytes) && decide (x.kids = y.kids)
theorem sameN_refl (x : Nd) : sameN x x = true := by simp [sameN]
set_option maxHeartbeats 1600000 in
theorem SameNode_n (x y : Nd) (V U : Value) (w : World) (h : NdAt w x V) (h' : NdAt w y U) : Calls Tryz.prog 36 #[V, U] w (BoolEnd (sameN x y) w) := by
  obtain ⟨hwf, Ab, cb, Ak, ck, rfl, hb, hk⟩ := h
  obtain ⟨hwf', Bb, db, Bk, dk, rfl, hb', hk'⟩ := h'
  have b2 : Below w.heap.size w ((w.alloc (.cells #[.int .i64 x.kind, .string x.code, .string x.value, .string x.path, .slice Ab x.bytes.length cb, .slice Ak x.kids.length ck] 26)).alloc (.cells #[.int .i64 y.kind, .string y.code, .string y.value, .string y.path, .slice Bb y.bytes.length db, .slice Bk y.kids.length dk] 26)) := ((Below.refl _ w).alloc (Nat.le_refl _) _).alloc (by simp) _
  have q1 := (Blk.new w 26 #[.int .i64 x.kind, .string x.code, .string x.value, .string x.path, .slice Ab x.bytes.length cb, .slice Ak x.kids.length ck]).alloc (.cells #[.int .i64 y.kind, .string y.code, .string y.value, .string y.path, .slice Bb y.bytes.length db, .slice Bk y.kids.length dk] 26)
  have q2 := Blk.new (w.alloc (.cells #[.int .i64 x.kind, .string x.code, .string x.value, .string x.path, .slice Ab x.bytes.length cb, .slice Ak x.kids.length ck] 26)) 26 #[.int .i64 y.kind, .string y.code, .string y.value, .string y.path, .slice Bb y.bytes.length db, .slice Bk y.kids.length dk]
  rw [World.size_alloc] at q2
  have HB := Lib.hid (SameBytes_n x.bytes y.bytes Ab Bb cb db ((w.alloc (.cells #[.int .i64 x.kind, .string x.code, .string x.value, .string x.path, .slice Ab x.bytes.length cb, .slice Ak x.kids.length ck] 26)).alloc (.cells #[.int .i64 y.kind, .string y.code, .string y.value, .string y.path, .slice Bb y.bytes.length db, .slice Bk y.kids.length dk] 26)) ((hb.below b2).more b2.size) ((hb'.below b2).more b2.size) hwf.lb)
  have HQ := Lib.hid (And.intro b2 (And.intro q1 (And.intro q2 (And.intro hk (And.intro hk' hwf.lk)))))
  clear hb hk hb' hk' hwf hwf' b2 q1 q2
  unfold Nd.v
  obtain ⟨s0, hs0⟩ : ∃ s, s = sameN x y := ⟨_, rfl⟩
  rw [← hs0]
  have HS := Lib.hid hs0
  clear hs0
  cases e0 : (x.kind == y.kind) with
  | false =>
    go_enter Tryz.func36, Tryz.ntmps36
    go_wp2
    go_ret
    exact ⟨ret_bool (by rw [HS.out]; simp [sameN, *]), HQ.out.1⟩
  | true =>
    cases e1 : (x.code.toList == y.code.toList) with
    | false =>
      go_enter Tryz.func36, Tryz.ntmps36
      go_wp2
      go_ret
      exact ⟨ret_bool (by rw [HS.out]; simp [sameN, *]), HQ.out.1⟩
    | true =>
      cases e2 : (x.value.toList == y.value.toList) with
      | false =>
        go_enter Tryz.func36, Tryz.ntmps36
        go_wp2
        go_ret
        exact ⟨ret_bool (by rw [HS.out]; simp [sameN, *]), HQ.out.1⟩
      | true =>
        cases e3 : (x.path.toList == y.path.toList) with
        | false =>
          go_enter Tryz.func36, Tryz.ntmps36
          go_wp2
          go_ret
          exact ⟨ret_bool (by rw [HS.out]; simp [sameN, *]), HQ.out.1⟩
        | true =>
          have E : Hid (s0 = (decide (x.bytes = y.bytes) && decide (x.kids = y.kids))) := Lib.hid (by rw [HS.out]; simp only [sameN, e0, e1, e2, e3, Bool.true_and])
          clear HS
          obtain ⟨sb, hsb⟩ : ∃ s, s = decide (x.bytes = y.bytes) := ⟨_, rfl⟩
          rw [← hsb] at HB E
          clear hsb
          go_enter Tryz.func36, Tryz.ntmps36
          go_wp2_with fail
          refine HB.out.mono ?_
          rintro e w1 ⟨rfl, hb1⟩
          have hbw := HQ.out.1.trans (hb1.mono HQ.out.1.size)
          have HW := Lib.hid hbw
          have HK := Lib.hid (SameRefs_n x.kids y.kids Ak Bk ck dk w1 ((HQ.out.2.2.2.1.below hbw).more hbw.size) ((HQ.out.2.2.2.2.1.below hbw).more hbw.size) HQ.out.2.2.2.2.2)
          obtain ⟨c0, c1, c2, c3, c4, c5⟩ := cells6 (HQ.out.2.1.below hb1 (by simp; omega))
          obtain ⟨d0, d1, d2, d3, d4, d5⟩ := cells6 (HQ.out.2.2.1.below hb1 (by simp))
          clear HB HQ hb1 hbw
          cases sb with
          | false =>
            go_wp2
            go_ret
            exact ⟨ret_bool (by rw [E.out]; rfl), HW.out⟩
          | true =>
            go_wp2_with fail
            refine HK.out.mono ?_
            rintro e w2 ⟨rfl, hb2⟩
            have HE := Lib.hid (HW.out.trans (hb2.mono HW.out.size))
            clear HK HW hb2
            go_wp2
            go_ret
            exact ⟨ret_bool (by rw [E.out]; simp), HE.out⟩
end Go.Proofs.YtgjgcbemgmkncaaGreatDoor
namespace Go.Proofs.YtgjgcbemgmkncaaGreatDoor
open Go.RowKit Go.Shelf
set_option linter.unusedVariables false
set_option maxRecDepth 20000
set_option linter.unusedSimpArgs false

theorem ref_n (n : Int) (w : World) : Calls Tryz.prog 14 #[.int .i64 n] w (fun e w' => e = .returned (refV (n, 1)) ∧ Below w.heap.size w w') := by
  have hq := Blk.new w 29 #[.int .i64 n, .int .u32 1]
  have c0 := hq.cell 0
  have c1 := hq.cell 1
  simp at c0 c1
  have hr := Blk.new w 29 #[.int .i64 0, .int .u32 0]
  have r0 := hr.cell 0
  have r1 := hr.cell 1
  have fz0 := hr.frozen 0
  have fz1 := hr.frozen 1
  have lr := hr.lt
  simp at r0 r1
  have hb := below_box w (.cells #[.int .i64 0, .int .u32 0] 29)
  have HB := Lib.hid ((hb.setCell (p := ⟨w.heap.size, 0, none⟩) (Nat.le_refl _) (.int .i64 n)).setCell (p := ⟨w.heap.size, 1, none⟩) (Nat.le_refl _) (.int .u32 1))
  have hrn := (hr.set_ 0 (.int .i64 n)).set_ 1 (.int .u32 1)
  have q0 := hrn.cell 0
  have q1 := hrn.cell 1
  simp at q0 q1
  clear hq hr hb hrn c0 c1
  go_enter Tryz.func14, Tryz.ntmps14
  go_wp2_with fail
  exact bodyPost_ret (v := refV (n, 1)) (by simp [results, Tryz.results14, go_sem, refV, *]) rfl ⟨rfl, below_box w _⟩
/-- What inner makes. -/
def innerNd (k : Int) (p : ByteArray) (l : List Nat) : Nd := ⟨k, { data := #[] }, { data := #[] }, p, l, (List.range l.length).map fun (i : Nat) => ((i : Int), (1 : Int))⟩
def refsTo (i : Nat) : List (Int × Int) := (List.range i).map fun (j : Nat) => ((j : Int), (1 : Int))
theorem refsTo_succ (i : Nat) : (refsTo (i + 1)).flatMap rrow = (refsTo i).flatMap rrow ++ [.int .i64 i, .int .u32 1] := by
  unfold refsTo
  rw [List.range_succ, List.map_append, List.flatMap_append]
  rfl
/-- A node that has been made: its rows lie in new blocks, or where the bytes came from. -/
def InnerEnd (y : Nd) (Ab : Option Addr) (w : World) (e : Ending) (w' : World) : Prop := ∃ V', e = .returned V' ∧ NdAt w' y V' ∧ Below w.heap.size w w' ∧ ∀ g ∈ rowsOf V', w.heap.size ≤ g ∨ ∃ ad, Ab = some ad ∧ g = ad.block
/-- inner's world. -/
structure InnW (w : World) (k : Int) (p : ByteArray) (Ab : Option Addr) (cb : Nat) (l : List Nat) (i : Nat) (v5 w5 : Value) (j : Nat) (W : World) : Prop where
  below : Below w.heap.size w W
  out : Blk W w.heap.size 26 #[.int .i64 0, .string { data := #[] }, .string { data := #[] }, .string { data := #[] }, .slice none 0 0, .slice none 0 0]
  node : Blk W (w.heap.size + 1) 26 #[.int .i64 k, .string { data := #[] }, .string { data := #[] }, .string p, .slice Ab l.length cb, v5]
  row : W.ownsRow (w.heap.size + 2) 29 2 w5 j ((refsTo j).flatMap rrow)
  size : w.heap.size + 2 ≤ W.heap.size
section
variable {w W W' : World} {k : Int} {p : ByteArray} {Ab : Option Addr} {cb : Nat} {l : List Nat} {i j : Nat} {v5 w5 : Value}
theorem InnW.on (h : InnW w k p Ab cb l i v5 w5 j W) (hb : Below W.heap.size W W') : InnW w k p Ab cb l i v5 w5 j W' :=
  ⟨h.below.trans (hb.mono h.below.size), h.out.below hb h.out.lt, h.node.below hb h.node.lt, h.row.kept (World.grownBy_of_below hb) (by cases w5.ownBlock <;> simp), Nat.le_trans h.size hb.size⟩
theorem InnW.drew (h : InnW w k p Ab cb l i v5 w5 j W) : InnW w k p Ab cb l i v5 w5 j W.drew := h.on (Below.refl _ _).drew
theorem InnW.lt5 (h : InnW w k p Ab cb l i v5 w5 j W) : ∀ g, w5.ownBlock = some g → w.heap.size + 2 ≤ g ∧ g < W.heap.size := fun g e => h.row.lt g e
end
set_option maxHeartbeats 3200000 in
set_option maxRecDepth 100000 in
theorem linner_n (k : Int) (p : ByteArray) (Ab : Option Addr) (cb : Nat) (l : List Nat) (w : World) (hk : -9223372036854775808 ≤ k ∧ k ≤ 9223372036854775807) (hp : p.size ≤ 9223372036854775807) (hl : Reads w w.heap.size 1 Ab l.length (l.flatMap nrow)) (hl2 : ∀ b ∈ l, b < 256) (hlen : l.length ≤ 4096) :
    Calls Tryz.prog 13 #[.int .i64 k, .string p, .slice Ab l.length cb] w (InnerEnd (innerNd k p l) Ab w) := by
  have h0 : InnW w k p Ab cb l 0 (.slice none 0 0) (.slice none 0 0) 0 ((w.alloc (.cells #[.int .i64 0, .string { data := #[] }, .string { data := #[] }, .string { data := #[] }, .slice none 0 0, .slice none 0 0] 26)).alloc (.cells #[.int .i64 k, .string { data := #[] }, .string { data := #[] }, .string p, .slice Ab l.length cb, .slice none 0 0] 26)) := by
    refine ⟨((Below.refl _ w).alloc (Nat.le_refl _) _).alloc (by simp) _, (Blk.new w 26 #[.int .i64 0, .string { data := #[] }, .string { data := #[] }, .string { data := #[] }, .slice none 0 0, .slice none 0 0]).alloc _, ?_, World.ownsRow_nil _ _ _ _, by simp⟩
    have q := Blk.new (w.alloc (.cells #[.int .i64 0, .string { data := #[] }, .string { data := #[] }, .string { data := #[] }, .slice none 0 0, .slice none 0 0] 26)) 26 #[.int .i64 k, .string { data := #[] }, .string { data := #[] }, .string p, .slice Ab l.length cb, .slice none 0 0]
    rw [World.size_alloc] at q
    exact q
  have HL := Lib.hid (And.intro hk (And.intro hp (And.intro hl hl2)))
  clear hk hp hl hl2
  obtain ⟨j0, hj, hj0, hj1, hj2⟩ := info_parts infoRef3
  have HJ := Lib.hid (And.intro hj (And.intro hj0 (And.intro hj1 hj2)))
  clear hj hj0 hj1 hj2
  have H0 := Lib.hid h0
  have h1 := h0.node.lt
  clear h0
  go_enter Tryz.func13, Tryz.ntmps13
  go_wp2_with fail
  go_loopw [8] (fun i wr => ∃ k' : Nat, k' ≤ l.length ∧ i = .int .i64 k' ∧ ∃ v5, Hid (InnW w k p Ab cb l 0 v5 v5 k' wr)) (fun i _ => l.length - (intOf i).toNat)
  case atStart => exact ⟨0, Nat.zero_le _, rfl, _, H0⟩
  case round =>
    obtain ⟨i, hi, rfl, v5, HW⟩ := hrel
    by_cases hlt : i < l.length
    · have i1 : (i : Int) < (l.length : Int) := by omega
      have P0 := HW.out.drew
      clear H0
      go_wp2_with fail
      refine wp_region_L 7 (fun V : World => V.cell? ⟨w.heap.size + 1, 5, none⟩ = some v5) (by kernel_rfl) ?_
      refine wpAnyL_take (i := 0) (v := ?_) rfl (by kernel_rfl) (by kernel_rfl) (by kernel_rfl) (by kernel_rfl) (fun _ _ _ h => h) (Or.inl ⟨by rfl, ?_⟩) (P0.node.cell 5) ?_
      rotate_left
      · (intro w hSw; (try dsimp only at hSw); go_simp <;> with_reducible rfl)
      try simp only [Act.put, List.setIfInBounds_toArray, List.set_cons_zero, List.set_cons_succ]
      refine wpAnyL_take (i := 1) (v := ?_) rfl (by kernel_rfl) (by kernel_rfl) (by kernel_rfl) (by kernel_rfl) (fun _ _ _ h => h) (Or.inl ⟨by rfl, ?_⟩) (P0.node.cell 5) ?_
      rotate_left
      · (intro w hSw; (try dsimp only at hSw); go_simp <;> with_reducible rfl)
      try simp only [Act.put, List.setIfInBounds_toArray, List.set_cons_zero, List.set_cons_succ]
      refine wpAnyL_take (i := 2) (v := ?_) rfl (by kernel_rfl) (by kernel_rfl) (by kernel_rfl) (by kernel_rfl) (fun _ _ _ h => h) (Or.inl ⟨by rfl, ?_⟩) (P0.node.cell 5) ?_
      rotate_left
      · (intro w hSw; (try dsimp only at hSw); go_simp <;> with_reducible rfl)
      try simp only [Act.put, List.setIfInBounds_toArray, List.set_cons_zero, List.set_cons_succ]
      refine wpAnyL_ready (rs := [3]) (by kernel_rfl) (by simp) ?_
      refine AllL.cons rfl (fun K hK => ?_) AllL.nil
      go_simp
      refine (ref_n (i : Int) _).mono ?_
      rintro e w3 ⟨rfl, hb3⟩
      have P1 := P0.on hb3
      clear hb3 P0
      unfold refV
      refine hK.out _ _ (fun _ => P1.node.cell 5) ?_
      clear hK K
      try simp only [Act.put, List.setIfInBounds_toArray, List.set_cons_zero, List.set_cons_succ]
      refine wpAnyL_ready (rs := [4]) (by kernel_rfl) (by simp) ?_
      refine AllL.cons rfl (fun K hK => ?_) AllL.nil
      go_simp
      have hb4 := below_box w3 (.cells #[.int .i64 (i : Int), .int .u32 1] 29)
      have T4 := Blk.new w3 29 #[.int .i64 (i : Int), .int .u32 1]
      have P2 := P1.on hb4
      clear hb4 P1
      refine hK.out _ _ (fun _ => P2.node.cell 5) ?_
      clear hK K
      try simp only [Act.put, List.setIfInBounds_toArray, List.set_cons_zero, List.set_cons_succ]
      refine wpAnyL_ready (rs := [5]) (by kernel_rfl) (by simp) ?_
      refine AllL.cons rfl (fun K hK => ?_) AllL.nil
      rw [if_pos (by kernel_rfl)]
      refine wp_append_fresh _ (.tmp 20) (.tmp 23) 24 rfl (w.heap.size + 2) 29 j0 (.agg #[.int .i64 0, .int .u32 0]) 2 16 Tryz.underlying24 HJ.out.1 HJ.out.2.1 HJ.out.2.2.1 HJ.out.2.2.2 rfl (by decide) v5 i ((refsTo i).flatMap rrow) rfl P2.row ⟨w3.heap.size, 0, none⟩ 1 1 [.int .i64 (i : Int), .int .u32 1] rfl rfl (cell_list_blk T4) (by simp [Value.oneCell']) (by decide) (by unfold maxLen; omega) (by omega) P2.size ?_
      intro w5 W5 ho hg hf
      obtain ⟨g5, c5, rfl⟩ := ownsRow_succ ho
      have hn6 : some (w.heap.size + 1) ≠ v5.ownBlock := fun e => by have := (P2.lt5 _ e.symm).1; omega
      have hn5 : some w.heap.size ≠ v5.ownBlock := fun e => by have := (P2.lt5 _ e.symm).1; omega
      have P3 : InnW w k p Ab cb l 0 v5 (.slice (some ⟨g5, 0, none⟩) (i + 1) c5) (i + 1) W5 := ⟨P2.below.grown hg P2.below.size (fun g e => by have := (P2.lt5 _ e).1; omega), P2.out.grown hg hn5, P2.node.grown hg hn6, by rw [refsTo_succ]; exact ho, Nat.le_trans P2.size hg.size⟩
      clear ho hg hf P2 T4
      refine hK.out _ _ (fun _ => P3.node.cell 5) ?_
      clear hK K
      try simp only [Act.put, List.setIfInBounds_toArray, List.set_cons_zero, List.set_cons_succ]
      refine wpAnyL_take (i := 6) (v := ?_) rfl (by kernel_rfl) (by kernel_rfl) (by kernel_rfl) (by kernel_rfl) (fun _ _ _ h => h) (Or.inl ⟨by rfl, ?_⟩) (P3.node.cell 5) ?_
      rotate_left
      · (intro w hSw; (try dsimp only at hSw); go_simp <;> with_reducible rfl)
      try simp only [Act.put, List.setIfInBounds_toArray, List.set_cons_zero, List.set_cons_succ]
      refine wpAnyL_ready (rs := [7]) (by kernel_rfl) (by simp) ?_
      refine AllL.cons rfl (fun K hK => ?_) AllL.nil
      have f5 := P3.node.frozen 5
      have e5 := P3.node.cell 5
      simp at e5
      have l5 := P3.node.lt
      have hn6 : some (w.heap.size + 1) ≠ (Value.slice (some ⟨g5, 0, none⟩) (i + 1) c5).ownBlock := fun e => by have := (P3.lt5 _ e.symm).1; omega
      have hg5 : W5.grownBy (W5.setCell ⟨w.heap.size + 1, 5, none⟩ (.slice (some ⟨g5, 0, none⟩) (i + 1) c5)) (some (w.heap.size + 1)) := grown_setCell ⟨rfl, rfl, rfl, Nat.le_refl _, fun _ _ _ => rfl⟩ 5 (.slice (some ⟨g5, 0, none⟩) (i + 1) c5)
      have P4 : InnW w k p Ab cb l 0 (.slice (some ⟨g5, 0, none⟩) (i + 1) c5) (.slice (some ⟨g5, 0, none⟩) (i + 1) c5) (i + 1) (W5.setCell ⟨w.heap.size + 1, 5, none⟩ (.slice (some ⟨g5, 0, none⟩) (i + 1) c5)) := ⟨P3.below.grown hg5 P3.below.size (fun g e => by injection e with e; omega), P3.out.grown hg5 (fun e => by injection e with e; omega), by have q := P3.node.set_ 5 (.slice (some ⟨g5, 0, none⟩) (i + 1) c5); simpa using q, P3.row.kept hg5 (.inr (Ne.symm hn6)), by simpa [World.setCell] using P3.size⟩
      have HP4 := Lib.hid P4
      clear P3 P4 hg5 hn6 hn5
      go_simp
      refine hK.out _ _ (fun h => Bool.noConfusion (show true = false from h)) ?_
      clear hK K e5 f5 l5
      try simp only [Act.put, List.setIfInBounds_toArray, List.set_cons_zero, List.set_cons_succ]
      refine wpAnyL_done (by kernel_rfl) ?_ _
      refine (‹∀ (a : Act) (w : World), Code.wp Tryz.prog _ _ a w → _› _ _ ?_)
      go_wp2
      go_roundw
      case rel => exact ⟨i + 1, by omega, by go_num, (.slice (some ⟨g5, 0, none⟩) (i + 1) c5), HP4⟩
      case measure => simp [intOf]; omega
    · obtain rfl : i = l.length := by omega
      have i1 : ¬ ((l.length : Int) < (l.length : Int)) := by omega
      obtain ⟨n0, n1, n2, n3, n4, n5⟩ := cells6 HW.out.node
      obtain ⟨d0, d1, d2, d3, d4, d5⟩ := cells6 HW.out.out
      have fz0 := HW.out.out.frozen 0
      have fz1 := HW.out.out.frozen 1
      have fz2 := HW.out.out.frozen 2
      have fz3 := HW.out.out.frozen 3
      have fz4 := HW.out.out.frozen 4
      have fz5 := HW.out.out.frozen 5
      have l6 := HW.out.out.lt
      obtain ⟨VV, hV, hg, q6⟩ := six_stores (.int .i64 k) (.string { data := #[] }) (.string { data := #[] }) (.string p) (.slice Ab l.length cb) v5 HW.out.out
      have hs : ∃ A5 c5, v5 = .slice A5 l.length c5 ∧ ∀ ad, A5 = some ad → w.heap.size + 2 ≤ ad.block := by
        rcases HW.out.row.2 with ⟨rfl, e⟩ | ⟨g, cap, cur, rfl, hbg, _⟩
        · exact ⟨none, 0, by rw [e], fun ad e => by cases e⟩
        · exact ⟨some ⟨g, 0, none⟩, cap, rfl, fun ad e => by injection e with e; subst e; exact hbg⟩
      obtain ⟨A5, c5, rfl, hA5⟩ := hs
      have HG := Lib.hid (And.intro hg hA5)
      clear hg hA5
      go_wp2
      rw [← hV]
      clear hV d0 d1 d2 d3 d4 d5 fz0 fz1 fz2 fz3 fz4 fz5 n0 n1 n2 n3 n4 n5
      obtain ⟨c0, c1, c2, c3, c4, c6⟩ := cells6 q6
      have hkl : (innerNd k p l).kids.length = l.length := by simp [innerNd]
      have hr5 := reads_own HW.out.row
      have hbV := HW.out.below.grown HG.out.1 HW.out.below.size (fun g e => by injection e with e; omega)
      refine bodyPost_ret (v := .agg #[.int .i64 k, .string { data := #[] }, .string { data := #[] }, .string p, .slice Ab l.length cb, .slice A5 l.length c5]) (by simp [results, Tryz.results13, go_sem, c0, c1, c2, c3, c4, c6]) rfl ⟨_, rfl, ⟨⟨HL.out.1, HL.out.2.2.2, ?_, ?_, ?_, ?_, ?_, HL.out.2.1⟩, Ab, cb, A5, c5, ?_, ?_, ?_⟩, hbV, ?_⟩
      · intro r hr
        obtain ⟨j, hj, rfl⟩ := List.mem_map.1 hr
        have := List.mem_range.1 hj
        exact ⟨⟨by dsimp only; omega, by dsimp only; omega⟩, by dsimp only; decide, by dsimp only; decide⟩
      · show l.length ≤ _; omega
      · rw [hkl]; omega
      · exact Nat.zero_le _
      · exact Nat.zero_le _
      · unfold Nd.v; rw [hkl]; rfl
      · exact (HL.out.2.2.1.below hbV).more hbV.size
      · rw [hkl]; exact reads_off hr5 HG.out.1 (fun ad e => by have := HG.out.2 ad e; omega)
      · intro g hg
        rcases mem_rowsOf hg with ⟨ad, e, _, rfl⟩ | ⟨ad, e, _, rfl⟩
        · exact .inr ⟨ad, e, rfl⟩
        · have := HG.out.2 ad e; exact .inl (by omega)
end Go.Proofs.YtgjgcbemgmkncaaGreatDoor
namespace Go.Proofs.YtgjgcbemgmkncaaGreatDoor
open Go.RowKit Go.Shelf
set_option linter.unusedVariables false
set_option maxRecDepth 20000
set_option linter.unusedSimpArgs false

def f4 : Kids := fun i => if 1 ≤ i ∧ i ≤ 4 then some ((i : Int) - 1, 1) else none
def f5 : Kids := setK f4 0 (some (9, 1))
def n4 : Nd := innerNd 2 { data := #[] } [1, 2, 3, 4]
def n5 : Nd := ⟨3, { data := #[] }, { data := #[] }, { data := #[] }, [0, 1, 2, 3, 4], [(9, 1), (0, 1), (1, 1), (2, 1), (3, 1)]⟩
def n4b : Nd := ⟨2, { data := #[] }, { data := #[] }, { data := #[] }, [0, 1, 2, 4], [(9, 1), (0, 1), (1, 1), (3, 1)]⟩
theorem f4_ok : KidsOk f4 := by
  refine ⟨fun b hb => ?_, fun b r h => ?_⟩
  · unfold f4; rw [if_neg (by omega)]
  · unfold f4 at h
    split at h
    · rename_i hc
      injection h with h; subst h
      refine ⟨?_, ⟨?_, ?_⟩, ?_⟩
      · unfold kidN; simp; omega
      · dsimp only; omega
      · dsimp only; omega
      · dsimp only; omega
    · cases h
theorem f5_ok : KidsOk f5 := f4_ok.set (by decide) (by decide) (by unfold refOk; decide)
theorem n4_eq : n4 = ofNd zeroNd f4 2 := by kernel_rfl
theorem n5_eq : n5 = ofNd zeroNd f5 3 := by kernel_rfl
theorem n4b_eq : n4b = ofNd zeroNd (setK f5 3 none) 2 := by kernel_rfl
theorem f4_cnt : cntK f4 = 4 := by kernel_rfl
theorem f5_cnt : cntK f5 = 5 := by kernel_rfl
theorem f4_kind : kindK f4 = 2 := by unfold kindK; rw [f4_cnt]; rfl
theorem f5_kind : kindK f5 = 3 := by unfold kindK; rw [f5_cnt]; rfl
theorem n5_add : addN n4 0 (9, 1) false = (n5, 0) := by
  rw [n4_eq, ← f4_kind, add_low (9, 1) (by decide) f4_ok (by decide) (by rw [f4_cnt]; decide) (by decide), if_neg (by decide), n5_eq]
  show (ofNd zeroNd f5 (kindK f5), (0 : Int)) = _
  rw [f5_kind]
theorem n4b_cut : cutN n5 3 false = (n4b, 0) := by
  have hk : kindK (setK f5 3 none) = 2 := by
    unfold kindK
    rw [show cntK (setK f5 3 none) = 4 by kernel_rfl]; rfl
  rw [n5_eq, ← f5_kind, cut_low (by decide) f5_ok (by decide) (by rw [f5_cnt]; decide), if_pos (by decide), hk, n4b_eq]
theorem n4_full : n4.full = true := by
  unfold Nd.full
  rw [show n4.may = true by rw [n4_eq, ← f4_kind]; exact (right_low f4_ok (by decide) (by rw [f4_cnt]; decide)).2]
  rfl
theorem n4_right : n4.isRight = true := by rw [n4_eq, ← f4_kind]; exact (right_low f4_ok (by decide) (by rw [f4_cnt]; decide)).1
/-- The first so many bytes. -/
def topK (k : Nat) : Kids := fun i => if i < k then some ((i : Int), 1) else none
def topN (k : Nat) : Nd := ofNd zeroNd (topK k) 5
theorem topK_ok {k : Nat} (hk : k ≤ 256) : KidsOk (topK k) := by
  refine ⟨fun b hb => ?_, fun b r h => ?_⟩
  · unfold topK; rw [if_neg (by omega)]
  · unfold topK at h
    split at h
    · injection h with h; subst h
      refine ⟨?_, ⟨?_, ?_⟩, ?_⟩
      · unfold kidN; simp; omega
      · dsimp only; omega
      · dsimp only; omega
      · dsimp only; omega
    · cases h
theorem topK_succ (k : Nat) : setK (topK k) k (some ((k : Int), 1)) = topK (k + 1) := by
  funext i
  unfold setK topK
  by_cases h : i = k
  · subst h; rw [if_pos rfl, if_pos (by omega)]
  · rw [if_neg h]
    by_cases h2 : i < k
    · rw [if_pos h2, if_pos (by omega)]
    · rw [if_neg h2, if_neg (by omega)]
theorem topN_zero : innerNd 5 { data := #[] } [] = topN 0 := by kernel_rfl
theorem topN_add {k : Nat} (hk : k < 256) : addN (topN k) k ((k : Int), 1) true = (topN (k + 1), 0) := by
  unfold topN
  rw [add_top ((k : Int), 1) hk (topK_ok (by omega)) rfl (by unfold kidN; simp; omega), if_neg (by unfold topK; rw [if_neg (by omega)]; simp), topK_succ]
theorem top17_cnt : cntK (topK 17) = 17 := by kernel_rfl
theorem top17_anchor : (topN 17).isAnchor = true := (may_top (topK_ok (by decide)) rfl).2
theorem top17_right : (topN 17).isRight = false := by
  unfold topN
  rw [right_ofNd (topK_ok (by decide)) (by decide) (by decide), top17_cnt]
  rfl
theorem top17_len : (topN 17).kids.length = 17 := by unfold topN; rw [(len_ofNd _ _ _).1, top17_cnt]
end Go.Proofs.YtgjgcbemgmkncaaGreatDoor
namespace Go.Proofs.YtgjgcbemgmkncaaGreatDoor
open Go.RowKit Go.Shelf
set_option linter.unusedVariables false
set_option maxRecDepth 20000
set_option linter.unusedSimpArgs false

theorem reads_off2 {W V : World} {size n c : Nat} {A : Option Addr} {xs : List Value} (h : Reads W W.heap.size size A n xs) (hg : W.grownBy V (some c)) (hne : 0 < n → ∀ ad, A = some ad → ad.block ≠ c) : Reads V V.heap.size size A n xs := by
  refine ⟨h.1, fun hn => ?_⟩
  obtain ⟨ad, e, hb, hc⟩ := h.2 hn
  refine ⟨ad, e, Nat.lt_of_lt_of_le hb hg.size, fun j u hu => ?_⟩
  have hbl : (ad.add j).block = ad.block := block_of_add ad j
  refine (World.cell?_of_block ?_).trans (hc j u hu)
  rw [hbl]
  exact hg.block _ hb (fun e2 => hne hn ad e (by injection e2))
theorem rows_mem4 {v0 v1 v2 v3 : Value} {ad : Addr} {A5 : Option Addr} {l4 l5 c4 c5 : Nat} (h : 0 < l4) : ad.block ∈ rowsOf (.agg #[v0, v1, v2, v3, .slice (some ad) l4 c4, .slice A5 l5 c5]) := by
  obtain ⟨m, rfl⟩ : ∃ m, l4 = m + 1 := ⟨l4 - 1, by omega⟩
  show _ ∈ blkOf (some (.slice (some ad) (m + 1) c4)) ++ _
  simp [blkOf]
theorem rows_mem5 {v0 v1 v2 v3 : Value} {ad : Addr} {A4 : Option Addr} {l4 l5 c4 c5 : Nat} (h : 0 < l5) : ad.block ∈ rowsOf (.agg #[v0, v1, v2, v3, .slice A4 l4 c4, .slice (some ad) l5 c5]) := by
  obtain ⟨m, rfl⟩ : ∃ m, l5 = m + 1 := ⟨l5 - 1, by omega⟩
  show _ ∈ _ ++ blkOf (some (.slice (some ad) (m + 1) c5))
  simp [blkOf]
theorem NdAt.rows {W : World} {x : Nd} {V : Value} (h : NdAt W x V) : ∀ g ∈ rowsOf V, g < W.heap.size := by
  obtain ⟨_, Ab, cb, Ak, ck, rfl, h2, h3⟩ := h
  intro g hg
  rcases mem_rowsOf hg with ⟨ad, e, hl, rfl⟩ | ⟨ad, e, hl, rfl⟩
  · obtain ⟨ad', e', hb, _⟩ := h2.2 hl
    rw [e] at e'; injection e' with e'; subst e'; exact hb
  · obtain ⟨ad', e', hb, _⟩ := h3.2 hl
    rw [e] at e'; injection e' with e'; subst e'; exact hb
theorem NdAt.off {W W' : World} {x : Nd} {V : Value} {g : Nat} (h : NdAt W x V) (hg : W.grownBy W' (some g)) (hn : g ∉ rowsOf V) : NdAt W' x V := by
  obtain ⟨h0, Ab, cb, Ak, ck, rfl, h2, h3⟩ := h
  refine ⟨h0, Ab, cb, Ak, ck, rfl, reads_off2 h2 hg (fun hl ad e => ?_), reads_off2 h3 hg (fun hl ad e => ?_)⟩
  · subst e; intro e2; exact hn (e2 ▸ rows_mem4 hl)
  · subst e; intro e2; exact hn (e2 ▸ rows_mem5 hl)
/-- A node's cells. -/
def Nd.c (x : Nd) (Ab : Option Addr) (cb : Nat) (Ak : Option Addr) (ck : Nat) : Array Value := #[.int .i64 x.kind, .string x.code, .string x.value, .string x.path, .slice Ab x.bytes.length cb, .slice Ak x.kids.length ck]
/-- The node x lies in block g. -/
structure BoxAt (W : World) (g : Nat) (x : Nd) (Ab : Option Addr) (cb : Nat) (Ak : Option Addr) (ck : Nat) : Prop where
  blk : Blk W g 26 (x.c Ab cb Ak ck)
  node : NdAt W x (x.v Ab cb Ak ck)
section
variable {W W' : World} {g : Nat} {x : Nd} {Ab Ak : Option Addr} {cb ck : Nat}
theorem BoxAt.below (h : BoxAt W g x Ab cb Ak ck) (hb : Below W.heap.size W W') : BoxAt W' g x Ab cb Ak ck := ⟨h.blk.below hb h.blk.lt, h.node.below hb⟩
theorem BoxAt.off (h : BoxAt W g x Ab cb Ak ck) {c : Nat} (hg : W.grownBy W' (some c)) (hne : g ≠ c) (hn : c ∉ rowsOf (x.v Ab cb Ak ck)) : BoxAt W' g x Ab cb Ak ck :=
  ⟨h.blk.grown hg (fun e => hne (by injection e)), h.node.off hg hn⟩
theorem BoxAt.cells (h : BoxAt W g x Ab cb Ak ck) : W.cell? ⟨g, 0, none⟩ = some (.int .i64 x.kind) ∧ W.cell? ⟨g, 1, none⟩ = some (.string x.code) ∧ W.cell? ⟨g, 2, none⟩ = some (.string x.value) ∧ W.cell? ⟨g, 3, none⟩ = some (.string x.path) ∧ W.cell? ⟨g, 4, none⟩ = some (.slice Ab x.bytes.length cb) ∧ W.cell? ⟨g, 5, none⟩ = some (.slice Ak x.kids.length ck) := cells6 h.blk
theorem BoxAt.lt (h : BoxAt W g x Ab cb Ak ck) : g < W.heap.size := h.blk.lt
theorem BoxAt.frozen (h : BoxAt W g x Ab cb Ak ck) : W.frozen? ⟨g, 0, none⟩ = false ∧ W.frozen? ⟨g, 1, none⟩ = false ∧ W.frozen? ⟨g, 2, none⟩ = false ∧ W.frozen? ⟨g, 3, none⟩ = false ∧ W.frozen? ⟨g, 4, none⟩ = false ∧ W.frozen? ⟨g, 5, none⟩ = false :=
  ⟨h.blk.frozen 0, h.blk.frozen 1, h.blk.frozen 2, h.blk.frozen 3, h.blk.frozen 4, h.blk.frozen 5⟩
/-- The six stores of a node into a box. -/
theorem store_node {d0 d1 d2 d3 d4 d5 : Value} {t : TypeId} (hq : Blk W g t #[d0, d1, d2, d3, d4, d5]) (ht : t = 26) (h : NdAt W x (x.v Ab cb Ak ck)) (hn : g ∉ rowsOf (x.v Ab cb Ak ck)) :
    ∃ V, V = (((((W.setCell ⟨g, 0, none⟩ (.int .i64 x.kind)).setCell ⟨g, 1, none⟩ (.string x.code)).setCell ⟨g, 2, none⟩ (.string x.value)).setCell ⟨g, 3, none⟩ (.string x.path)).setCell ⟨g, 4, none⟩ (.slice Ab x.bytes.length cb)).setCell ⟨g, 5, none⟩ (.slice Ak x.kids.length ck) ∧ W.grownBy V (some g) ∧ BoxAt V g x Ab cb Ak ck := by
  subst ht
  obtain ⟨V, hV, hg, hq2⟩ := six_stores (.int .i64 x.kind) (.string x.code) (.string x.value) (.string x.path) (.slice Ab x.bytes.length cb) (.slice Ak x.kids.length ck) hq
  exact ⟨V, hV, hg, hq2, h.off hg hn⟩
end
end Go.Proofs.YtgjgcbemgmkncaaGreatDoor
namespace Go.Proofs.YtgjgcbemgmkncaaGreatDoor
open Go.RowKit Go.Shelf
set_option linter.unusedVariables false
set_option maxRecDepth 20000
set_option linter.unusedSimpArgs false

theorem open_nd {W : World} {x : Nd} {V : Value} (h : NdAt W x V) : ∃ Ab cb Ak ck, V = x.v Ab cb Ak ck ∧ NdAt W x (x.v Ab cb Ak ck) := by
  have h' := h
  obtain ⟨_, Ab, cb, Ak, ck, rfl, _, _⟩ := h'
  exact ⟨Ab, cb, Ak, ck, rfl, h⟩
end Go.Proofs.YtgjgcbemgmkncaaGreatDoor
namespace Go.Proofs.YtgjgcbemgmkncaaGreatDoor
open Go.RowKit Go.Shelf
set_option linter.unusedVariables false
set_option maxRecDepth 20000
set_option linter.unusedSimpArgs false
set_option linter.unnecessarySimpa false

set_option maxHeartbeats 3200000 in
set_option maxRecDepth 100000 in
theorem awk2 {u0 u2 u3 u4 u5 u6 u7 u8 u9 u10 u11 u12 u13 u14 u15 u16 u17 u18 u19 u20 u21 u22 u23 u24 u25 u26 u27 u28 u29 u30 u31 u32 u33 u34 u35 u36 u37 u38 u39 u40 u41 u42 u43 u44 u45 u46 u47 u48 u49 u50 u51 u52 u53 u54 u55 u56 u57 u58 u59 u60 u61 u62 u63 u64 u65 u66 u67 u68 u69 u70 u71 u72 u73 u74 u75 u76 u77 u78 u79 u80 u81 u82 u83 u84 u85 u86 u87 u88 u89 u90 u91 u92 u93 u94 u95 u96 u97 u98 u99 u100 u101 u102 : Value} {ds : List Deferred} {Q : Exit → Act → World → Prop} (x y : Nd) (cd : Int) (Ab : Option Addr) (cb : Nat) (Ak : Option Addr) (ck : Nat) (g1 : Nat) (w0 : World) (hx : BoxAt w0 g1 x Ab cb Ak ck) (hr : RoomsAt w0)
    (hcall : ∀ W : World, NdAt W x (x.v Ab cb Ak ck) → RoomsAt W → Calls Tryz.prog 16 #[x.v Ab cb Ak ck, .int .u8 0, refV (9, 1), .bool false] W (NdPair y cd W))
    (hQ : ∀ (z12 z13 z14 z15 z16 z17 : Value) (gN : Nat) (Ab2 : Option Addr) (cb2 : Nat) (Ak2 : Option Addr) (ck2 : Nat) (V : World), Below w0.heap.size w0 V → BoxAt V gN y Ab2 cb2 Ak2 ck2 → w0.heap.size ≤ gN → (∀ r ∈ rowsOf (y.v Ab2 cb2 Ak2 ck2), w0.heap.size ≤ r ∧ r ≠ gN) → Q .normal ⟨#[u0, .pointer (some ⟨g1, 0, none⟩), .pointer (some ⟨gN, 0, none⟩), .int .i64 cd, u4, u5, u6, u7, u8, u9, u10, u11, z12, z13, z14, z15, z16, z17, u18, u19, u20, u21, u22, u23, u24, u25, u26, u27, u28, u29, u30, u31, u32, u33, u34, u35, u36, u37, u38, u39, u40, u41, u42, u43, u44, u45, u46, u47, u48, u49, u50, u51, u52, u53, u54, u55, u56, u57, u58, u59, u60, u61, u62, u63, u64, u65, u66, u67, u68, u69, u70, u71, u72, u73, u74, u75, u76, u77, u78, u79, u80, u81, u82, u83, u84, u85, u86, u87, u88, u89, u90, u91, u92, u93, u94, u95, u96, u97, u98, u99, u100, u101, u102], ds⟩ V) :
    Code.wp Tryz.prog (part Tryz.f6 [1, 1, 0]) Q ⟨#[u0, .pointer (some ⟨g1, 0, none⟩), u2, u3, u4, u5, u6, u7, u8, u9, u10, u11, u12, u13, u14, u15, u16, u17, u18, u19, u20, u21, u22, u23, u24, u25, u26, u27, u28, u29, u30, u31, u32, u33, u34, u35, u36, u37, u38, u39, u40, u41, u42, u43, u44, u45, u46, u47, u48, u49, u50, u51, u52, u53, u54, u55, u56, u57, u58, u59, u60, u61, u62, u63, u64, u65, u66, u67, u68, u69, u70, u71, u72, u73, u74, u75, u76, u77, u78, u79, u80, u81, u82, u83, u84, u85, u86, u87, u88, u89, u90, u91, u92, u93, u94, u95, u96, u97, u98, u99, u100, u101, u102], ds⟩ w0 := by
  conv => arg 2; whnf
  have HQ := Lib.hid hQ
  have HC := Lib.hid hcall
  have HX := Lib.hid (And.intro hx hr)
  have HS : Hid (∀ V : World, Below w0.heap.size w0 V → (fun V : World => (V.cell? ⟨g1, 0, none⟩ = some (.int .i64 x.kind) ∧ V.cell? ⟨g1, 1, none⟩ = some (.string x.code) ∧ V.cell? ⟨g1, 2, none⟩ = some (.string x.value) ∧ V.cell? ⟨g1, 3, none⟩ = some (.string x.path) ∧ V.cell? ⟨g1, 4, none⟩ = some (.slice Ab x.bytes.length cb) ∧ V.cell? ⟨g1, 5, none⟩ = some (.slice Ak x.kids.length ck))) V) := Lib.hid (fun V hb => cells6 (hx.blk.below hb hx.lt))
  have HB0 : Hid (Below w0.heap.size w0 w0.drew) := Lib.hid (Below.refl _ _).drew
  clear hQ hcall hx hr
  unfold Nd.v at HC
  refine wp_region_noPanic ?_
  refine wp_region_held_drew (S := (fun V : World => (V.cell? ⟨g1, 0, none⟩ = some (.int .i64 x.kind) ∧ V.cell? ⟨g1, 1, none⟩ = some (.string x.code) ∧ V.cell? ⟨g1, 2, none⟩ = some (.string x.value) ∧ V.cell? ⟨g1, 3, none⟩ = some (.string x.path) ∧ V.cell? ⟨g1, 4, none⟩ = some (.slice Ab x.bytes.length cb) ∧ V.cell? ⟨g1, 5, none⟩ = some (.slice Ak x.kids.length ck)))) (by kernel_rfl) ?_ (fun hHeld0 => ?_)
  · exact HS.out _ HB0.out
  refine wpAnyH_take (i := 0) (v := ?_) rfl (by kernel_rfl) (by kernel_rfl) (by kernel_rfl) (fun _ _ _ h => h) (Or.inl ⟨by rfl, ?_⟩) hHeld0 ?_
  rotate_left
  · (intro w hSw; (try dsimp only at hSw); go_simp <;> with_reducible rfl)
  try simp only [Act.put, List.setIfInBounds_toArray, List.set_cons_zero, List.set_cons_succ]
  refine wpAnyH_ready (rs := [1, 6]) (by kernel_rfl) (by simp) ?_
  refine AllReadyH.cons rfl (fun K hK => ?_) ?_
  · go_simp
    refine (ref_n 9 _).mono ?_
    rintro e w1 ⟨rfl, hb⟩
    have HB1 := Lib.hid (HB0.out.trans (hb.mono HB0.out.size))
    clear hb
    refine hK.out _ _ ?_ (fun hHeld1 => ?_)
    · exact HS.out _ HB1.out
    clear hK K hHeld0
    try simp only [Act.put, List.setIfInBounds_toArray, List.set_cons_zero, List.set_cons_succ]
    refine wpAnyH_ready (rs := [2, 6]) (by kernel_rfl) (by simp) ?_
    refine AllReadyH.cons rfl (fun K hK => ?_) ?_
    · go_simp
      refine (HC.out _ (HX.out.1.node.below HB1.out) (HX.out.2.on HB1.out)).mono ?_
      rintro e w2 ⟨V', rfl, hnd, hb, hrw⟩
      have HB2 := Lib.hid (HB1.out.trans (hb.mono HB1.out.size))
      have HR := Lib.hid (fun r hm => Nat.le_trans HB1.out.size (hrw r hm))
      have HLT : Hid (∀ r ∈ rowsOf V', r < w2.heap.size) := Lib.hid (fun r hm => hnd.rows r hm)
      obtain ⟨A4, c4, A5, c5, rfl, hnd2⟩ := open_nd hnd
      have HN := Lib.hid hnd2
      clear hb hrw hnd hnd2
      refine hK.out _ _ ?_ (fun hHeld2 => ?_)
      · exact HS.out _ HB2.out
      clear hK K hHeld1
      try simp only [Act.put, List.setIfInBounds_toArray, List.set_cons_zero, List.set_cons_succ]
      refine wpAnyH_take (i := 3) (v := ?_) rfl (by kernel_rfl) (by kernel_rfl) (by kernel_rfl) (fun _ _ _ h => h) (Or.inl ⟨by rfl, ?_⟩) hHeld2 ?_
      rotate_left
      · (intro w hSw; (try dsimp only at hSw); go_simp <;> with_reducible rfl)
      try simp only [Act.put, List.setIfInBounds_toArray, List.set_cons_zero, List.set_cons_succ]
      refine wpAnyH_take (i := 4) (v := ?_) rfl (by kernel_rfl) (by kernel_rfl) (by kernel_rfl) (fun _ _ _ h => h) (Or.inl ⟨by rfl, ?_⟩) hHeld2 ?_
      rotate_left
      · (intro w hSw; (try dsimp only at hSw); go_simp <;> with_reducible rfl)
      try simp only [Act.put, List.setIfInBounds_toArray, List.set_cons_zero, List.set_cons_succ]
      refine wpAnyH_take (i := 5) (v := ?_) rfl (by kernel_rfl) (by kernel_rfl) (by kernel_rfl) (fun _ _ _ h => h) (Or.inl ⟨by rfl, ?_⟩) hHeld2 ?_
      rotate_left
      · (intro w hSw; (try dsimp only at hSw); go_simp <;> with_reducible rfl)
      try simp only [Act.put, List.setIfInBounds_toArray, List.set_cons_zero, List.set_cons_succ]
      refine wpAnyH_ready (rs := [6]) (by kernel_rfl) (by simp) ?_
      refine AllReadyH.cons rfl (fun K hK => ?_) ?_
      · go_simp
        have HB3 := Lib.hid (HB2.out.alloc HB2.out.size (.cells #[.int .i64 0, .string { data := #[] }, .string { data := #[] }, .string { data := #[] }, .slice none 0 0, .slice none 0 0] 26))
        have Q3 : Blk (w2.alloc (.cells #[.int .i64 0, .string { data := #[] }, .string { data := #[] }, .string { data := #[] }, .slice none 0 0, .slice none 0 0] 26)) (w2.heap.size) 26 #[.int .i64 0, .string { data := #[] }, .string { data := #[] }, .string { data := #[] }, .slice none 0 0, .slice none 0 0] := Blk.new _ _ _
        have LE3 : w0.heap.size ≤ w2.heap.size := HB2.out.size
        refine hK.out _ _ ?_ (fun hHeld3 => ?_)
        · exact HS.out _ HB3.out
        clear hK K hHeld2
        try simp only [Act.put, List.setIfInBounds_toArray, List.set_cons_zero, List.set_cons_succ]
        refine wpAnyH_ready (rs := [7]) (by kernel_rfl) (by simp) ?_
        refine AllReadyH.cons rfl (fun K hK => ?_) ?_
        · have hbx : BoxAt (w2.alloc (.cells #[.int .i64 y.kind, .string y.code, .string y.value, .string y.path, .slice A4 y.bytes.length c4, .slice A5 y.kids.length c5] 26)) (w2.heap.size) y A4 c4 A5 c5 := ⟨Blk.new _ _ _, HN.out.below (below_box _ _)⟩
          have hBV := HB2.out.alloc HB2.out.size (.cells #[.int .i64 y.kind, .string y.code, .string y.value, .string y.path, .slice A4 y.bytes.length c4, .slice A5 y.kids.length c5] 26)
          have hrw : ∀ r ∈ rowsOf (y.v A4 c4 A5 c5), w0.heap.size ≤ r ∧ r ≠ (w2.heap.size) := fun r hm => ⟨HR.out r hm, fun e => by have h2 := HLT.out r hm; omega⟩
          have HF := Lib.hid (And.intro hBV (And.intro hbx (And.intro LE3 hrw)))
          unfold Nd.v
          go_simp
          clear hrw hbx
          refine hK.out _ _ ?_ (fun hHeld4 => ?_)
          · exact HS.out _ hBV
          clear hK K hHeld3
          try simp only [Act.put, List.setIfInBounds_toArray, List.set_cons_zero, List.set_cons_succ]
          refine wpAnyH_take (i := 8) (v := ?_) rfl (by kernel_rfl) (by kernel_rfl) (by kernel_rfl) (fun _ _ _ h => h) (Or.inl ⟨by rfl, ?_⟩) hHeld4 ?_
          rotate_left
          · (intro w hSw; (try dsimp only at hSw); go_simp <;> with_reducible rfl)
          try simp only [Act.put, List.setIfInBounds_toArray, List.set_cons_zero, List.set_cons_succ]
          try simp only [Act.put, List.getElem_toArray, List.getElem_cons_succ, List.getElem_cons_zero, List.setIfInBounds_toArray, List.set_cons_zero, List.set_cons_succ]
          refine wpAnyH_done (by kernel_rfl) ?_ _
          refine NoPanic.normal (HQ.out _ _ _ _ _ _ _ _ _ _ _ _ HF.out.1 HF.out.2.1 ?_ ?_)
          · have := HF.out.2.2.1; simpa using this
          · exact HF.out.2.2.2
        exact AllReadyH.nil
      exact AllReadyH.nil
    refine AllReadyH.cons rfl (fun K hK => ?_) ?_
    · go_simp
      have HB5 := Lib.hid (HB1.out.alloc HB1.out.size (.cells #[.int .i64 0, .string { data := #[] }, .string { data := #[] }, .string { data := #[] }, .slice none 0 0, .slice none 0 0] 26))
      have Q5 : Blk (w1.alloc (.cells #[.int .i64 0, .string { data := #[] }, .string { data := #[] }, .string { data := #[] }, .slice none 0 0, .slice none 0 0] 26)) (w1.heap.size) 26 #[.int .i64 0, .string { data := #[] }, .string { data := #[] }, .string { data := #[] }, .slice none 0 0, .slice none 0 0] := Blk.new _ _ _
      have LE5 : w0.heap.size ≤ w1.heap.size := HB1.out.size
      refine hK.out _ _ ?_ (fun hHeld2 => ?_)
      · exact HS.out _ HB5.out
      clear hK K hHeld1
      try simp only [Act.put, List.setIfInBounds_toArray, List.set_cons_zero, List.set_cons_succ]
      refine wpAnyH_ready (rs := [2]) (by kernel_rfl) (by simp) ?_
      refine AllReadyH.cons rfl (fun K hK => ?_) ?_
      · go_simp
        refine (HC.out _ (HX.out.1.node.below HB5.out) (HX.out.2.on HB5.out)).mono ?_
        rintro e w6 ⟨V', rfl, hnd, hb, hrw⟩
        have HB6 := Lib.hid (HB5.out.trans (hb.mono HB5.out.size))
        have HR := Lib.hid (fun r hm => Nat.le_trans HB5.out.size (hrw r hm))
        have Q6 : Blk w6 (w1.heap.size) 26 #[.int .i64 0, .string { data := #[] }, .string { data := #[] }, .string { data := #[] }, .slice none 0 0, .slice none 0 0] := (Q5).below hb (Blk.lt (Q5))
        have HNO : Hid (∀ r ∈ rowsOf V', r ≠ (w1.heap.size)) := Lib.hid (fun r hm e => by have h1 := hrw r hm; have h2 := Blk.lt (Q5); omega)
        obtain ⟨A4, c4, A5, c5, rfl, hnd2⟩ := open_nd hnd
        have HN := Lib.hid hnd2
        clear hb hrw hnd hnd2
        refine hK.out _ _ ?_ (fun hHeld3 => ?_)
        · exact HS.out _ HB6.out
        clear hK K hHeld2
        try simp only [Act.put, List.setIfInBounds_toArray, List.set_cons_zero, List.set_cons_succ]
        refine wpAnyH_take (i := 3) (v := ?_) rfl (by kernel_rfl) (by kernel_rfl) (by kernel_rfl) (fun _ _ _ h => h) (Or.inl ⟨by rfl, ?_⟩) hHeld3 ?_
        rotate_left
        · (intro w hSw; (try dsimp only at hSw); go_simp <;> with_reducible rfl)
        try simp only [Act.put, List.setIfInBounds_toArray, List.set_cons_zero, List.set_cons_succ]
        refine wpAnyH_take (i := 4) (v := ?_) rfl (by kernel_rfl) (by kernel_rfl) (by kernel_rfl) (fun _ _ _ h => h) (Or.inl ⟨by rfl, ?_⟩) hHeld3 ?_
        rotate_left
        · (intro w hSw; (try dsimp only at hSw); go_simp <;> with_reducible rfl)
        try simp only [Act.put, List.setIfInBounds_toArray, List.set_cons_zero, List.set_cons_succ]
        refine wpAnyH_take (i := 5) (v := ?_) rfl (by kernel_rfl) (by kernel_rfl) (by kernel_rfl) (fun _ _ _ h => h) (Or.inl ⟨by rfl, ?_⟩) hHeld3 ?_
        rotate_left
        · (intro w hSw; (try dsimp only at hSw); go_simp <;> with_reducible rfl)
        try simp only [Act.put, List.setIfInBounds_toArray, List.set_cons_zero, List.set_cons_succ]
        refine wpAnyH_ready (rs := [7]) (by kernel_rfl) (by simp) ?_
        refine AllReadyH.cons rfl (fun K hK => ?_) ?_
        · have hz : Blk w6 (w1.heap.size) 26 #[.int .i64 0, .string { data := #[] }, .string { data := #[] }, .string { data := #[] }, .slice none 0 0, .slice none 0 0] := Q6
          obtain ⟨d0, d1, d2, d3, d4, d5⟩ := cells6 hz
          have fz0 := hz.frozen 0
          have fz1 := hz.frozen 1
          have fz2 := hz.frozen 2
          have fz3 := hz.frozen 3
          have fz4 := hz.frozen 4
          have fz5 := hz.frozen 5
          have l6 := hz.lt
          have hno : (w1.heap.size) ∉ rowsOf (y.v A4 c4 A5 c5) := fun hm => by have h1 := HR.out _ hm; exact HNO.out _ hm rfl
          obtain ⟨VV, hV, hg, hbx⟩ := store_node hz rfl HN.out hno
          have hBV := HB6.out.grown hg HB6.out.size (fun k e => by injection e with e; have := LE5; omega)
          have hrw : ∀ r ∈ rowsOf (y.v A4 c4 A5 c5), w0.heap.size ≤ r ∧ r ≠ (w1.heap.size) := fun r hm => ⟨HR.out r hm, fun e => hno (by rw [← e]; exact hm)⟩
          have HF := Lib.hid (And.intro hBV (And.intro hbx (And.intro LE5 hrw)))
          clear hrw
          unfold Nd.v
          go_simp
          rw [← hV]
          clear hV hz hno hg hbx
          refine hK.out _ _ ?_ (fun hHeld4 => ?_)
          · exact HS.out _ hBV
          clear hK K hHeld3
          try simp only [Act.put, List.setIfInBounds_toArray, List.set_cons_zero, List.set_cons_succ]
          refine wpAnyH_take (i := 8) (v := ?_) rfl (by kernel_rfl) (by kernel_rfl) (by kernel_rfl) (fun _ _ _ h => h) (Or.inl ⟨by rfl, ?_⟩) hHeld4 ?_
          rotate_left
          · (intro w hSw; (try dsimp only at hSw); go_simp <;> with_reducible rfl)
          try simp only [Act.put, List.setIfInBounds_toArray, List.set_cons_zero, List.set_cons_succ]
          try simp only [Act.put, List.getElem_toArray, List.getElem_cons_succ, List.getElem_cons_zero, List.setIfInBounds_toArray, List.set_cons_zero, List.set_cons_succ]
          refine wpAnyH_done (by kernel_rfl) ?_ _
          refine NoPanic.normal (HQ.out _ _ _ _ _ _ _ _ _ _ _ _ HF.out.1 HF.out.2.1 ?_ ?_)
          · have := HF.out.2.2.1; simpa using this
          · exact HF.out.2.2.2
        exact AllReadyH.nil
      exact AllReadyH.nil
    exact AllReadyH.nil
  refine AllReadyH.cons rfl (fun K hK => ?_) ?_
  · go_simp
    have HB8 := Lib.hid (HB0.out.alloc HB0.out.size (.cells #[.int .i64 0, .string { data := #[] }, .string { data := #[] }, .string { data := #[] }, .slice none 0 0, .slice none 0 0] 26))
    have Q8 : Blk (w0.drew.alloc (.cells #[.int .i64 0, .string { data := #[] }, .string { data := #[] }, .string { data := #[] }, .slice none 0 0, .slice none 0 0] 26)) (w0.heap.size) 26 #[.int .i64 0, .string { data := #[] }, .string { data := #[] }, .string { data := #[] }, .slice none 0 0, .slice none 0 0] := Blk.new _ _ _
    have LE8 : w0.heap.size ≤ w0.heap.size := HB0.out.size
    refine hK.out _ _ ?_ (fun hHeld1 => ?_)
    · exact HS.out _ HB8.out
    clear hK K hHeld0
    try simp only [Act.put, List.setIfInBounds_toArray, List.set_cons_zero, List.set_cons_succ]
    refine wpAnyH_ready (rs := [1]) (by kernel_rfl) (by simp) ?_
    refine AllReadyH.cons rfl (fun K hK => ?_) ?_
    · go_simp
      refine (ref_n 9 _).mono ?_
      rintro e w9 ⟨rfl, hb⟩
      have HB9 := Lib.hid (HB8.out.trans (hb.mono HB8.out.size))
      have Q9 : Blk w9 (w0.heap.size) 26 #[.int .i64 0, .string { data := #[] }, .string { data := #[] }, .string { data := #[] }, .slice none 0 0, .slice none 0 0] := (Q8).below hb (Blk.lt (Q8))
      clear hb
      refine hK.out _ _ ?_ (fun hHeld2 => ?_)
      · exact HS.out _ HB9.out
      clear hK K hHeld1
      try simp only [Act.put, List.setIfInBounds_toArray, List.set_cons_zero, List.set_cons_succ]
      refine wpAnyH_ready (rs := [2]) (by kernel_rfl) (by simp) ?_
      refine AllReadyH.cons rfl (fun K hK => ?_) ?_
      · go_simp
        refine (HC.out _ (HX.out.1.node.below HB9.out) (HX.out.2.on HB9.out)).mono ?_
        rintro e w10 ⟨V', rfl, hnd, hb, hrw⟩
        have HB10 := Lib.hid (HB9.out.trans (hb.mono HB9.out.size))
        have HR := Lib.hid (fun r hm => Nat.le_trans HB9.out.size (hrw r hm))
        have Q10 : Blk w10 (w0.heap.size) 26 #[.int .i64 0, .string { data := #[] }, .string { data := #[] }, .string { data := #[] }, .slice none 0 0, .slice none 0 0] := (Q9).below hb (Blk.lt (Q9))
        have HNO : Hid (∀ r ∈ rowsOf V', r ≠ (w0.heap.size)) := Lib.hid (fun r hm e => by have h1 := hrw r hm; have h2 := Blk.lt (Q9); omega)
        obtain ⟨A4, c4, A5, c5, rfl, hnd2⟩ := open_nd hnd
        have HN := Lib.hid hnd2
        clear hb hrw hnd hnd2
        refine hK.out _ _ ?_ (fun hHeld3 => ?_)
        · exact HS.out _ HB10.out
        clear hK K hHeld2
        try simp only [Act.put, List.setIfInBounds_toArray, List.set_cons_zero, List.set_cons_succ]
        refine wpAnyH_take (i := 3) (v := ?_) rfl (by kernel_rfl) (by kernel_rfl) (by kernel_rfl) (fun _ _ _ h => h) (Or.inl ⟨by rfl, ?_⟩) hHeld3 ?_
        rotate_left
        · (intro w hSw; (try dsimp only at hSw); go_simp <;> with_reducible rfl)
        try simp only [Act.put, List.setIfInBounds_toArray, List.set_cons_zero, List.set_cons_succ]
        refine wpAnyH_take (i := 4) (v := ?_) rfl (by kernel_rfl) (by kernel_rfl) (by kernel_rfl) (fun _ _ _ h => h) (Or.inl ⟨by rfl, ?_⟩) hHeld3 ?_
        rotate_left
        · (intro w hSw; (try dsimp only at hSw); go_simp <;> with_reducible rfl)
        try simp only [Act.put, List.setIfInBounds_toArray, List.set_cons_zero, List.set_cons_succ]
        refine wpAnyH_take (i := 5) (v := ?_) rfl (by kernel_rfl) (by kernel_rfl) (by kernel_rfl) (fun _ _ _ h => h) (Or.inl ⟨by rfl, ?_⟩) hHeld3 ?_
        rotate_left
        · (intro w hSw; (try dsimp only at hSw); go_simp <;> with_reducible rfl)
        try simp only [Act.put, List.setIfInBounds_toArray, List.set_cons_zero, List.set_cons_succ]
        refine wpAnyH_ready (rs := [7]) (by kernel_rfl) (by simp) ?_
        refine AllReadyH.cons rfl (fun K hK => ?_) ?_
        · have hz : Blk w10 (w0.heap.size) 26 #[.int .i64 0, .string { data := #[] }, .string { data := #[] }, .string { data := #[] }, .slice none 0 0, .slice none 0 0] := Q10
          obtain ⟨d0, d1, d2, d3, d4, d5⟩ := cells6 hz
          have fz0 := hz.frozen 0
          have fz1 := hz.frozen 1
          have fz2 := hz.frozen 2
          have fz3 := hz.frozen 3
          have fz4 := hz.frozen 4
          have fz5 := hz.frozen 5
          have l6 := hz.lt
          have hno : (w0.heap.size) ∉ rowsOf (y.v A4 c4 A5 c5) := fun hm => by have h1 := HR.out _ hm; exact HNO.out _ hm rfl
          obtain ⟨VV, hV, hg, hbx⟩ := store_node hz rfl HN.out hno
          have hBV := HB10.out.grown hg HB10.out.size (fun k e => by injection e with e; have := LE8; omega)
          have hrw : ∀ r ∈ rowsOf (y.v A4 c4 A5 c5), w0.heap.size ≤ r ∧ r ≠ (w0.heap.size) := fun r hm => ⟨HR.out r hm, fun e => hno (by rw [← e]; exact hm)⟩
          have HF := Lib.hid (And.intro hBV (And.intro hbx (And.intro LE8 hrw)))
          clear hrw
          unfold Nd.v
          go_simp
          rw [← hV]
          clear hV hz hno hg hbx
          refine hK.out _ _ ?_ (fun hHeld4 => ?_)
          · exact HS.out _ hBV
          clear hK K hHeld3
          try simp only [Act.put, List.setIfInBounds_toArray, List.set_cons_zero, List.set_cons_succ]
          refine wpAnyH_take (i := 8) (v := ?_) rfl (by kernel_rfl) (by kernel_rfl) (by kernel_rfl) (fun _ _ _ h => h) (Or.inl ⟨by rfl, ?_⟩) hHeld4 ?_
          rotate_left
          · (intro w hSw; (try dsimp only at hSw); go_simp <;> with_reducible rfl)
          try simp only [Act.put, List.setIfInBounds_toArray, List.set_cons_zero, List.set_cons_succ]
          try simp only [Act.put, List.getElem_toArray, List.getElem_cons_succ, List.getElem_cons_zero, List.setIfInBounds_toArray, List.set_cons_zero, List.set_cons_succ]
          refine wpAnyH_done (by kernel_rfl) ?_ _
          refine NoPanic.normal (HQ.out _ _ _ _ _ _ _ _ _ _ _ _ HF.out.1 HF.out.2.1 ?_ ?_)
          · have := HF.out.2.2.1; simpa using this
          · exact HF.out.2.2.2
        exact AllReadyH.nil
      exact AllReadyH.nil
    exact AllReadyH.nil
  exact AllReadyH.nil
set_option maxHeartbeats 3200000 in
set_option maxRecDepth 100000 in
theorem awk8 {u0 u1 u2 u3 u4 u5 u8 u9 u10 u11 u12 u13 u14 u15 u16 u17 u18 u19 u20 u21 u22 u23 u24 u25 u26 u27 u28 u29 u30 u31 u32 u33 u34 u35 u36 u37 u38 u39 u40 u41 u42 u43 u44 u45 u46 u47 u48 u49 u50 u51 u52 u53 u54 u55 u56 u57 u58 u59 u60 u61 u62 u63 u64 u65 u66 u67 u68 u69 u70 u71 u72 u73 u74 u75 u76 u77 u78 u79 u80 u81 u82 u83 u84 u85 u86 u87 u88 u89 u90 u91 u92 u93 u94 u95 u96 u97 u98 u99 u100 u101 u102 : Value} {ds : List Deferred} {Q : Exit → Act → World → Prop} (x y : Nd) (cd : Int) (Ab : Option Addr) (cb : Nat) (Ak : Option Addr) (ck : Nat) (g6 k : Nat) (w0 : World) (hx : BoxAt w0 g6 x Ab cb Ak ck) (hr : RoomsAt w0) (hk8 : IntKind.u8.wrap (k : Int) = (k : Int))
    (hcall : ∀ W : World, NdAt W x (x.v Ab cb Ak ck) → RoomsAt W → Calls Tryz.prog 16 #[x.v Ab cb Ak ck, .int .u8 (k : Int), refV ((k : Int), 1), .bool true] W (NdPair y cd W))
    (hQ : ∀ (z28 z29 z30 z31 z32 z33 z34 z35 z36 : Value) (gN : Nat) (Ab2 : Option Addr) (cb2 : Nat) (Ak2 : Option Addr) (ck2 : Nat) (V : World), Below w0.heap.size w0 V → BoxAt V gN y Ab2 cb2 Ak2 ck2 → w0.heap.size ≤ gN → (∀ r ∈ rowsOf (y.v Ab2 cb2 Ak2 ck2), w0.heap.size ≤ r ∧ r ≠ gN) → Q .normal ⟨#[u0, u1, u2, u3, u4, u5, .pointer (some ⟨g6, 0, none⟩), .int .i64 (k : Int), .pointer (some ⟨gN, 0, none⟩), .int .i64 cd, u10, u11, u12, u13, u14, u15, u16, u17, u18, u19, u20, u21, u22, u23, u24, u25, u26, u27, z28, z29, z30, z31, z32, z33, z34, z35, z36, u37, u38, u39, u40, u41, u42, u43, u44, u45, u46, u47, u48, u49, u50, u51, u52, u53, u54, u55, u56, u57, u58, u59, u60, u61, u62, u63, u64, u65, u66, u67, u68, u69, u70, u71, u72, u73, u74, u75, u76, u77, u78, u79, u80, u81, u82, u83, u84, u85, u86, u87, u88, u89, u90, u91, u92, u93, u94, u95, u96, u97, u98, u99, u100, u101, u102], ds⟩ V) :
    Code.wp Tryz.prog (part Tryz.f6 [1, 1, 1, 1, 1, 0, 1, 2, 2, 1, 0, 2, 0]) Q ⟨#[u0, u1, u2, u3, u4, u5, .pointer (some ⟨g6, 0, none⟩), .int .i64 (k : Int), u8, u9, u10, u11, u12, u13, u14, u15, u16, u17, u18, u19, u20, u21, u22, u23, u24, u25, u26, u27, u28, u29, u30, u31, u32, u33, u34, u35, u36, u37, u38, u39, u40, u41, u42, u43, u44, u45, u46, u47, u48, u49, u50, u51, u52, u53, u54, u55, u56, u57, u58, u59, u60, u61, u62, u63, u64, u65, u66, u67, u68, u69, u70, u71, u72, u73, u74, u75, u76, u77, u78, u79, u80, u81, u82, u83, u84, u85, u86, u87, u88, u89, u90, u91, u92, u93, u94, u95, u96, u97, u98, u99, u100, u101, u102], ds⟩ w0 := by
  conv => arg 2; whnf
  have HQ := Lib.hid hQ
  have HC := Lib.hid hcall
  have HX := Lib.hid (And.intro hx hr)
  have HS : Hid (∀ V : World, Below w0.heap.size w0 V → (fun V : World => (V.cell? ⟨g6, 0, none⟩ = some (.int .i64 x.kind) ∧ V.cell? ⟨g6, 1, none⟩ = some (.string x.code) ∧ V.cell? ⟨g6, 2, none⟩ = some (.string x.value) ∧ V.cell? ⟨g6, 3, none⟩ = some (.string x.path) ∧ V.cell? ⟨g6, 4, none⟩ = some (.slice Ab x.bytes.length cb) ∧ V.cell? ⟨g6, 5, none⟩ = some (.slice Ak x.kids.length ck))) V) := Lib.hid (fun V hb => cells6 (hx.blk.below hb hx.lt))
  have HB0 : Hid (Below w0.heap.size w0 w0.drew) := Lib.hid (Below.refl _ _).drew
  clear hQ hcall hx hr
  unfold Nd.v at HC
  refine wp_region_noPanic ?_
  refine wp_region_held_drew (S := (fun V : World => (V.cell? ⟨g6, 0, none⟩ = some (.int .i64 x.kind) ∧ V.cell? ⟨g6, 1, none⟩ = some (.string x.code) ∧ V.cell? ⟨g6, 2, none⟩ = some (.string x.value) ∧ V.cell? ⟨g6, 3, none⟩ = some (.string x.path) ∧ V.cell? ⟨g6, 4, none⟩ = some (.slice Ab x.bytes.length cb) ∧ V.cell? ⟨g6, 5, none⟩ = some (.slice Ak x.kids.length ck)))) (by kernel_rfl) ?_ (fun hHeld0 => ?_)
  · exact HS.out _ HB0.out
  refine wpAnyH_take (i := 0) (v := ?_) rfl (by kernel_rfl) (by kernel_rfl) (by kernel_rfl) (fun _ _ _ h => h) (Or.inl ⟨by rfl, ?_⟩) hHeld0 ?_
  rotate_left
  · (intro w hSw; (try dsimp only at hSw); go_simp <;> with_reducible rfl)
  try simp only [Act.put, List.setIfInBounds_toArray, List.set_cons_zero, List.set_cons_succ]
  refine wpAnyH_take (i := 1) (v := ?_) rfl (by kernel_rfl) (by kernel_rfl) (by kernel_rfl) (fun _ _ _ h => h) (Or.inl ⟨by rfl, ?_⟩) hHeld0 ?_
  rotate_left
  · (intro w hSw; (try dsimp only at hSw); go_simp <;> with_reducible rfl)
  try simp only [Act.put, List.setIfInBounds_toArray, List.set_cons_zero, List.set_cons_succ]
  refine wpAnyH_take (i := 2) (v := ?_) rfl (by kernel_rfl) (by kernel_rfl) (by kernel_rfl) (fun _ _ _ h => h) (Or.inl ⟨by rfl, ?_⟩) hHeld0 ?_
  rotate_left
  · (intro w hSw; (try dsimp only at hSw); go_simp <;> with_reducible rfl)
  try simp only [Act.put, List.setIfInBounds_toArray, List.set_cons_zero, List.set_cons_succ]
  refine wpAnyH_take (i := 3) (v := ?_) rfl (by kernel_rfl) (by kernel_rfl) (by kernel_rfl) (fun _ _ _ h => h) (Or.inl ⟨by rfl, ?_⟩) hHeld0 ?_
  rotate_left
  · (intro w hSw; (try dsimp only at hSw); go_simp <;> with_reducible rfl)
  try simp only [Act.put, List.setIfInBounds_toArray, List.set_cons_zero, List.set_cons_succ]
  refine wpAnyH_ready (rs := [4, 9]) (by kernel_rfl) (by simp) ?_
  refine AllReadyH.cons rfl (fun K hK => ?_) ?_
  · go_simp
    refine (ref_n (k : Int) _).mono ?_
    rintro e w1 ⟨rfl, hb⟩
    have HB1 := Lib.hid (HB0.out.trans (hb.mono HB0.out.size))
    clear hb
    refine hK.out _ _ ?_ (fun hHeld1 => ?_)
    · exact HS.out _ HB1.out
    clear hK K hHeld0
    try simp only [Act.put, List.setIfInBounds_toArray, List.set_cons_zero, List.set_cons_succ]
    refine wpAnyH_ready (rs := [5, 9]) (by kernel_rfl) (by simp) ?_
    refine AllReadyH.cons rfl (fun K hK => ?_) ?_
    · go_simp
      try simp only [hk8]
      refine (HC.out _ (HX.out.1.node.below HB1.out) (HX.out.2.on HB1.out)).mono ?_
      rintro e w2 ⟨V', rfl, hnd, hb, hrw⟩
      have HB2 := Lib.hid (HB1.out.trans (hb.mono HB1.out.size))
      have HR := Lib.hid (fun r hm => Nat.le_trans HB1.out.size (hrw r hm))
      have HLT : Hid (∀ r ∈ rowsOf V', r < w2.heap.size) := Lib.hid (fun r hm => hnd.rows r hm)
      obtain ⟨A4, c4, A5, c5, rfl, hnd2⟩ := open_nd hnd
      have HN := Lib.hid hnd2
      clear hb hrw hnd hnd2
      refine hK.out _ _ ?_ (fun hHeld2 => ?_)
      · exact HS.out _ HB2.out
      clear hK K hHeld1
      try simp only [Act.put, List.setIfInBounds_toArray, List.set_cons_zero, List.set_cons_succ]
      refine wpAnyH_take (i := 6) (v := ?_) rfl (by kernel_rfl) (by kernel_rfl) (by kernel_rfl) (fun _ _ _ h => h) (Or.inl ⟨by rfl, ?_⟩) hHeld2 ?_
      rotate_left
      · (intro w hSw; (try dsimp only at hSw); go_simp <;> with_reducible rfl)
      try simp only [Act.put, List.setIfInBounds_toArray, List.set_cons_zero, List.set_cons_succ]
      refine wpAnyH_take (i := 7) (v := ?_) rfl (by kernel_rfl) (by kernel_rfl) (by kernel_rfl) (fun _ _ _ h => h) (Or.inl ⟨by rfl, ?_⟩) hHeld2 ?_
      rotate_left
      · (intro w hSw; (try dsimp only at hSw); go_simp <;> with_reducible rfl)
      try simp only [Act.put, List.setIfInBounds_toArray, List.set_cons_zero, List.set_cons_succ]
      refine wpAnyH_take (i := 8) (v := ?_) rfl (by kernel_rfl) (by kernel_rfl) (by kernel_rfl) (fun _ _ _ h => h) (Or.inl ⟨by rfl, ?_⟩) hHeld2 ?_
      rotate_left
      · (intro w hSw; (try dsimp only at hSw); go_simp <;> with_reducible rfl)
      try simp only [Act.put, List.setIfInBounds_toArray, List.set_cons_zero, List.set_cons_succ]
      refine wpAnyH_ready (rs := [9]) (by kernel_rfl) (by simp) ?_
      refine AllReadyH.cons rfl (fun K hK => ?_) ?_
      · go_simp
        have HB3 := Lib.hid (HB2.out.alloc HB2.out.size (.cells #[.int .i64 0, .string { data := #[] }, .string { data := #[] }, .string { data := #[] }, .slice none 0 0, .slice none 0 0] 26))
        have Q3 : Blk (w2.alloc (.cells #[.int .i64 0, .string { data := #[] }, .string { data := #[] }, .string { data := #[] }, .slice none 0 0, .slice none 0 0] 26)) (w2.heap.size) 26 #[.int .i64 0, .string { data := #[] }, .string { data := #[] }, .string { data := #[] }, .slice none 0 0, .slice none 0 0] := Blk.new _ _ _
        have LE3 : w0.heap.size ≤ w2.heap.size := HB2.out.size
        refine hK.out _ _ ?_ (fun hHeld3 => ?_)
        · exact HS.out _ HB3.out
        clear hK K hHeld2
        try simp only [Act.put, List.setIfInBounds_toArray, List.set_cons_zero, List.set_cons_succ]
        refine wpAnyH_ready (rs := [10]) (by kernel_rfl) (by simp) ?_
        refine AllReadyH.cons rfl (fun K hK => ?_) ?_
        · have hbx : BoxAt (w2.alloc (.cells #[.int .i64 y.kind, .string y.code, .string y.value, .string y.path, .slice A4 y.bytes.length c4, .slice A5 y.kids.length c5] 26)) (w2.heap.size) y A4 c4 A5 c5 := ⟨Blk.new _ _ _, HN.out.below (below_box _ _)⟩
          have hBV := HB2.out.alloc HB2.out.size (.cells #[.int .i64 y.kind, .string y.code, .string y.value, .string y.path, .slice A4 y.bytes.length c4, .slice A5 y.kids.length c5] 26)
          have hrw : ∀ r ∈ rowsOf (y.v A4 c4 A5 c5), w0.heap.size ≤ r ∧ r ≠ (w2.heap.size) := fun r hm => ⟨HR.out r hm, fun e => by have h2 := HLT.out r hm; omega⟩
          have HF := Lib.hid (And.intro hBV (And.intro hbx (And.intro LE3 hrw)))
          unfold Nd.v
          go_simp
          clear hrw hbx
          refine hK.out _ _ ?_ (fun hHeld4 => ?_)
          · exact HS.out _ hBV
          clear hK K hHeld3
          try simp only [Act.put, List.setIfInBounds_toArray, List.set_cons_zero, List.set_cons_succ]
          refine wpAnyH_take (i := 11) (v := ?_) rfl (by kernel_rfl) (by kernel_rfl) (by kernel_rfl) (fun _ _ _ h => h) (Or.inl ⟨by rfl, ?_⟩) hHeld4 ?_
          rotate_left
          · (intro w hSw; (try dsimp only at hSw); go_simp <;> with_reducible rfl)
          try simp only [Act.put, List.setIfInBounds_toArray, List.set_cons_zero, List.set_cons_succ]
          try simp only [Act.put, List.getElem_toArray, List.getElem_cons_succ, List.getElem_cons_zero, List.setIfInBounds_toArray, List.set_cons_zero, List.set_cons_succ]
          refine wpAnyH_done (by kernel_rfl) ?_ _
          refine NoPanic.normal (HQ.out _ _ _ _ _ _ _ _ _ _ _ _ _ _ _ HF.out.1 HF.out.2.1 ?_ ?_)
          · have := HF.out.2.2.1; simpa using this
          · exact HF.out.2.2.2
        exact AllReadyH.nil
      exact AllReadyH.nil
    refine AllReadyH.cons rfl (fun K hK => ?_) ?_
    · go_simp
      have HB5 := Lib.hid (HB1.out.alloc HB1.out.size (.cells #[.int .i64 0, .string { data := #[] }, .string { data := #[] }, .string { data := #[] }, .slice none 0 0, .slice none 0 0] 26))
      have Q5 : Blk (w1.alloc (.cells #[.int .i64 0, .string { data := #[] }, .string { data := #[] }, .string { data := #[] }, .slice none 0 0, .slice none 0 0] 26)) (w1.heap.size) 26 #[.int .i64 0, .string { data := #[] }, .string { data := #[] }, .string { data := #[] }, .slice none 0 0, .slice none 0 0] := Blk.new _ _ _
      have LE5 : w0.heap.size ≤ w1.heap.size := HB1.out.size
      refine hK.out _ _ ?_ (fun hHeld2 => ?_)
      · exact HS.out _ HB5.out
      clear hK K hHeld1
      try simp only [Act.put, List.setIfInBounds_toArray, List.set_cons_zero, List.set_cons_succ]
      refine wpAnyH_ready (rs := [5]) (by kernel_rfl) (by simp) ?_
      refine AllReadyH.cons rfl (fun K hK => ?_) ?_
      · go_simp
        try simp only [hk8]
        refine (HC.out _ (HX.out.1.node.below HB5.out) (HX.out.2.on HB5.out)).mono ?_
        rintro e w6 ⟨V', rfl, hnd, hb, hrw⟩
        have HB6 := Lib.hid (HB5.out.trans (hb.mono HB5.out.size))
        have HR := Lib.hid (fun r hm => Nat.le_trans HB5.out.size (hrw r hm))
        have Q6 : Blk w6 (w1.heap.size) 26 #[.int .i64 0, .string { data := #[] }, .string { data := #[] }, .string { data := #[] }, .slice none 0 0, .slice none 0 0] := (Q5).below hb (Blk.lt (Q5))
        have HNO : Hid (∀ r ∈ rowsOf V', r ≠ (w1.heap.size)) := Lib.hid (fun r hm e => by have h1 := hrw r hm; have h2 := Blk.lt (Q5); omega)
        obtain ⟨A4, c4, A5, c5, rfl, hnd2⟩ := open_nd hnd
        have HN := Lib.hid hnd2
        clear hb hrw hnd hnd2
        refine hK.out _ _ ?_ (fun hHeld3 => ?_)
        · exact HS.out _ HB6.out
        clear hK K hHeld2
        try simp only [Act.put, List.setIfInBounds_toArray, List.set_cons_zero, List.set_cons_succ]
        refine wpAnyH_take (i := 6) (v := ?_) rfl (by kernel_rfl) (by kernel_rfl) (by kernel_rfl) (fun _ _ _ h => h) (Or.inl ⟨by rfl, ?_⟩) hHeld3 ?_
        rotate_left
        · (intro w hSw; (try dsimp only at hSw); go_simp <;> with_reducible rfl)
        try simp only [Act.put, List.setIfInBounds_toArray, List.set_cons_zero, List.set_cons_succ]
        refine wpAnyH_take (i := 7) (v := ?_) rfl (by kernel_rfl) (by kernel_rfl) (by kernel_rfl) (fun _ _ _ h => h) (Or.inl ⟨by rfl, ?_⟩) hHeld3 ?_
        rotate_left
        · (intro w hSw; (try dsimp only at hSw); go_simp <;> with_reducible rfl)
        try simp only [Act.put, List.setIfInBounds_toArray, List.set_cons_zero, List.set_cons_succ]
        refine wpAnyH_take (i := 8) (v := ?_) rfl (by kernel_rfl) (by kernel_rfl) (by kernel_rfl) (fun _ _ _ h => h) (Or.inl ⟨by rfl, ?_⟩) hHeld3 ?_
        rotate_left
        · (intro w hSw; (try dsimp only at hSw); go_simp <;> with_reducible rfl)
        try simp only [Act.put, List.setIfInBounds_toArray, List.set_cons_zero, List.set_cons_succ]
        refine wpAnyH_ready (rs := [10]) (by kernel_rfl) (by simp) ?_
        refine AllReadyH.cons rfl (fun K hK => ?_) ?_
        · have hz : Blk w6 (w1.heap.size) 26 #[.int .i64 0, .string { data := #[] }, .string { data := #[] }, .string { data := #[] }, .slice none 0 0, .slice none 0 0] := Q6
          obtain ⟨d0, d1, d2, d3, d4, d5⟩ := cells6 hz
          have fz0 := hz.frozen 0
          have fz1 := hz.frozen 1
          have fz2 := hz.frozen 2
          have fz3 := hz.frozen 3
          have fz4 := hz.frozen 4
          have fz5 := hz.frozen 5
          have l6 := hz.lt
          have hno : (w1.heap.size) ∉ rowsOf (y.v A4 c4 A5 c5) := fun hm => by have h1 := HR.out _ hm; exact HNO.out _ hm rfl
          obtain ⟨VV, hV, hg, hbx⟩ := store_node hz rfl HN.out hno
          have hBV := HB6.out.grown hg HB6.out.size (fun k e => by injection e with e; have := LE5; omega)
          have hrw : ∀ r ∈ rowsOf (y.v A4 c4 A5 c5), w0.heap.size ≤ r ∧ r ≠ (w1.heap.size) := fun r hm => ⟨HR.out r hm, fun e => hno (by rw [← e]; exact hm)⟩
          have HF := Lib.hid (And.intro hBV (And.intro hbx (And.intro LE5 hrw)))
          clear hrw
          unfold Nd.v
          go_simp
          rw [← hV]
          clear hV hz hno hg hbx
          refine hK.out _ _ ?_ (fun hHeld4 => ?_)
          · exact HS.out _ hBV
          clear hK K hHeld3
          try simp only [Act.put, List.setIfInBounds_toArray, List.set_cons_zero, List.set_cons_succ]
          refine wpAnyH_take (i := 11) (v := ?_) rfl (by kernel_rfl) (by kernel_rfl) (by kernel_rfl) (fun _ _ _ h => h) (Or.inl ⟨by rfl, ?_⟩) hHeld4 ?_
          rotate_left
          · (intro w hSw; (try dsimp only at hSw); go_simp <;> with_reducible rfl)
          try simp only [Act.put, List.setIfInBounds_toArray, List.set_cons_zero, List.set_cons_succ]
          try simp only [Act.put, List.getElem_toArray, List.getElem_cons_succ, List.getElem_cons_zero, List.setIfInBounds_toArray, List.set_cons_zero, List.set_cons_succ]
          refine wpAnyH_done (by kernel_rfl) ?_ _
          refine NoPanic.normal (HQ.out _ _ _ _ _ _ _ _ _ _ _ _ _ _ _ HF.out.1 HF.out.2.1 ?_ ?_)
          · have := HF.out.2.2.1; simpa using this
          · exact HF.out.2.2.2
        exact AllReadyH.nil
      exact AllReadyH.nil
    exact AllReadyH.nil
  refine AllReadyH.cons rfl (fun K hK => ?_) ?_
  · go_simp
    have HB8 := Lib.hid (HB0.out.alloc HB0.out.size (.cells #[.int .i64 0, .string { data := #[] }, .string { data := #[] }, .string { data := #[] }, .slice none 0 0, .slice none 0 0] 26))
    have Q8 : Blk (w0.drew.alloc (.cells #[.int .i64 0, .string { data := #[] }, .string { data := #[] }, .string { data := #[] }, .slice none 0 0, .slice none 0 0] 26)) (w0.heap.size) 26 #[.int .i64 0, .string { data := #[] }, .string { data := #[] }, .string { data := #[] }, .slice none 0 0, .slice none 0 0] := Blk.new _ _ _
    have LE8 : w0.heap.size ≤ w0.heap.size := HB0.out.size
    refine hK.out _ _ ?_ (fun hHeld1 => ?_)
    · exact HS.out _ HB8.out
    clear hK K hHeld0
    try simp only [Act.put, List.setIfInBounds_toArray, List.set_cons_zero, List.set_cons_succ]
    refine wpAnyH_ready (rs := [4]) (by kernel_rfl) (by simp) ?_
    refine AllReadyH.cons rfl (fun K hK => ?_) ?_
    · go_simp
      refine (ref_n (k : Int) _).mono ?_
      rintro e w9 ⟨rfl, hb⟩
      have HB9 := Lib.hid (HB8.out.trans (hb.mono HB8.out.size))
      have Q9 : Blk w9 (w0.heap.size) 26 #[.int .i64 0, .string { data := #[] }, .string { data := #[] }, .string { data := #[] }, .slice none 0 0, .slice none 0 0] := (Q8).below hb (Blk.lt (Q8))
      clear hb
      refine hK.out _ _ ?_ (fun hHeld2 => ?_)
      · exact HS.out _ HB9.out
      clear hK K hHeld1
      try simp only [Act.put, List.setIfInBounds_toArray, List.set_cons_zero, List.set_cons_succ]
      refine wpAnyH_ready (rs := [5]) (by kernel_rfl) (by simp) ?_
      refine AllReadyH.cons rfl (fun K hK => ?_) ?_
      · go_simp
        try simp only [hk8]
        refine (HC.out _ (HX.out.1.node.below HB9.out) (HX.out.2.on HB9.out)).mono ?_
        rintro e w10 ⟨V', rfl, hnd, hb, hrw⟩
        have HB10 := Lib.hid (HB9.out.trans (hb.mono HB9.out.size))
        have HR := Lib.hid (fun r hm => Nat.le_trans HB9.out.size (hrw r hm))
        have Q10 : Blk w10 (w0.heap.size) 26 #[.int .i64 0, .string { data := #[] }, .string { data := #[] }, .string { data := #[] }, .slice none 0 0, .slice none 0 0] := (Q9).below hb (Blk.lt (Q9))
        have HNO : Hid (∀ r ∈ rowsOf V', r ≠ (w0.heap.size)) := Lib.hid (fun r hm e => by have h1 := hrw r hm; have h2 := Blk.lt (Q9); omega)
        obtain ⟨A4, c4, A5, c5, rfl, hnd2⟩ := open_nd hnd
        have HN := Lib.hid hnd2
        clear hb hrw hnd hnd2
        refine hK.out _ _ ?_ (fun hHeld3 => ?_)
        · exact HS.out _ HB10.out
        clear hK K hHeld2
        try simp only [Act.put, List.setIfInBounds_toArray, List.set_cons_zero, List.set_cons_succ]
        refine wpAnyH_take (i := 6) (v := ?_) rfl (by kernel_rfl) (by kernel_rfl) (by kernel_rfl) (fun _ _ _ h => h) (Or.inl ⟨by rfl, ?_⟩) hHeld3 ?_
        rotate_left
        · (intro w hSw; (try dsimp only at hSw); go_simp <;> with_reducible rfl)
        try simp only [Act.put, List.setIfInBounds_toArray, List.set_cons_zero, List.set_cons_succ]
        refine wpAnyH_take (i := 7) (v := ?_) rfl (by kernel_rfl) (by kernel_rfl) (by kernel_rfl) (fun _ _ _ h => h) (Or.inl ⟨by rfl, ?_⟩) hHeld3 ?_
        rotate_left
        · (intro w hSw; (try dsimp only at hSw); go_simp <;> with_reducible rfl)
        try simp only [Act.put, List.setIfInBounds_toArray, List.set_cons_zero, List.set_cons_succ]
        refine wpAnyH_take (i := 8) (v := ?_) rfl (by kernel_rfl) (by kernel_rfl) (by kernel_rfl) (fun _ _ _ h => h) (Or.inl ⟨by rfl, ?_⟩) hHeld3 ?_
        rotate_left
        · (intro w hSw; (try dsimp only at hSw); go_simp <;> with_reducible rfl)
        try simp only [Act.put, List.setIfInBounds_toArray, List.set_cons_zero, List.set_cons_succ]
        refine wpAnyH_ready (rs := [10]) (by kernel_rfl) (by simp) ?_
        refine AllReadyH.cons rfl (fun K hK => ?_) ?_
        · have hz : Blk w10 (w0.heap.size) 26 #[.int .i64 0, .string { data := #[] }, .string { data := #[] }, .string { data := #[] }, .slice none 0 0, .slice none 0 0] := Q10
          obtain ⟨d0, d1, d2, d3, d4, d5⟩ := cells6 hz
          have fz0 := hz.frozen 0
          have fz1 := hz.frozen 1
          have fz2 := hz.frozen 2
          have fz3 := hz.frozen 3
          have fz4 := hz.frozen 4
          have fz5 := hz.frozen 5
          have l6 := hz.lt
          have hno : (w0.heap.size) ∉ rowsOf (y.v A4 c4 A5 c5) := fun hm => by have h1 := HR.out _ hm; exact HNO.out _ hm rfl
          obtain ⟨VV, hV, hg, hbx⟩ := store_node hz rfl HN.out hno
          have hBV := HB10.out.grown hg HB10.out.size (fun k e => by injection e with e; have := LE8; omega)
          have hrw : ∀ r ∈ rowsOf (y.v A4 c4 A5 c5), w0.heap.size ≤ r ∧ r ≠ (w0.heap.size) := fun r hm => ⟨HR.out r hm, fun e => hno (by rw [← e]; exact hm)⟩
          have HF := Lib.hid (And.intro hBV (And.intro hbx (And.intro LE8 hrw)))
          clear hrw
          unfold Nd.v
          go_simp
          rw [← hV]
          clear hV hz hno hg hbx
          refine hK.out _ _ ?_ (fun hHeld4 => ?_)
          · exact HS.out _ hBV
          clear hK K hHeld3
          try simp only [Act.put, List.setIfInBounds_toArray, List.set_cons_zero, List.set_cons_succ]
          refine wpAnyH_take (i := 11) (v := ?_) rfl (by kernel_rfl) (by kernel_rfl) (by kernel_rfl) (fun _ _ _ h => h) (Or.inl ⟨by rfl, ?_⟩) hHeld4 ?_
          rotate_left
          · (intro w hSw; (try dsimp only at hSw); go_simp <;> with_reducible rfl)
          try simp only [Act.put, List.setIfInBounds_toArray, List.set_cons_zero, List.set_cons_succ]
          try simp only [Act.put, List.getElem_toArray, List.getElem_cons_succ, List.getElem_cons_zero, List.setIfInBounds_toArray, List.set_cons_zero, List.set_cons_succ]
          refine wpAnyH_done (by kernel_rfl) ?_ _
          refine NoPanic.normal (HQ.out _ _ _ _ _ _ _ _ _ _ _ _ _ _ _ HF.out.1 HF.out.2.1 ?_ ?_)
          · have := HF.out.2.2.1; simpa using this
          · exact HF.out.2.2.2
        exact AllReadyH.nil
      exact AllReadyH.nil
    exact AllReadyH.nil
  exact AllReadyH.nil
end Go.Proofs.YtgjgcbemgmkncaaGreatDoor
namespace Go.Proofs.YtgjgcbemgmkncaaGreatDoor
open Go.RowKit Go.Shelf
set_option linter.unusedVariables false
set_option maxRecDepth 20000
set_option linter.unusedSimpArgs false

/-- A box with a node. -/
structure NB where
  g : Nat
  x : Nd
  Ab : Option Addr
  cb : Nat
  Ak : Option Addr
  ck : Nat
def NB.at_ (b : NB) (W : World) : Prop := BoxAt W b.g b.x b.Ab b.cb b.Ak b.ck
def NB.rows (b : NB) : List Nat := rowsOf (b.x.v b.Ab b.cb b.Ak b.ck)
/-- The world of a law: what was there is as it was, the table of rooms stands, and so do some boxes. -/
structure Ctx (w : World) (bs : List NB) (W : World) : Prop where
  below : Below w.heap.size w W
  rooms : RoomsAt W
  box : ∀ b ∈ bs, w.heap.size ≤ b.g ∧ b.at_ W
theorem Ctx.start {w : World} (hr : RoomsAt w) : Ctx w [] w := ⟨Below.refl _ _, hr, fun b hb => by cases hb⟩
theorem Ctx.on {w W W' : World} {bs : List NB} (h : Ctx w bs W) (hb : Below W.heap.size W W') : Ctx w bs W' :=
  ⟨h.below.trans (hb.mono h.below.size), h.rooms.on hb, fun b hm => ⟨(h.box b hm).1, (h.box b hm).2.below hb⟩⟩
theorem Ctx.push {w W W' : World} {bs : List NB} (h : Ctx w bs W) (hb : Below W.heap.size W W') {g : Nat} {x : Nd} {Ab Ak : Option Addr} {cb ck : Nat} (hx : BoxAt W' g x Ab cb Ak ck) (hg : W.heap.size ≤ g) : Ctx w (⟨g, x, Ab, cb, Ak, ck⟩ :: bs) W' :=
  ⟨(h.on hb).below, (h.on hb).rooms, fun b hm => by
    rcases List.mem_cons.1 hm with rfl | hm
    · exact ⟨Nat.le_trans h.below.size hg, hx⟩
    · exact (h.on hb).box b hm⟩
theorem Ctx.new {w W : World} {bs : List NB} (h : Ctx w bs W) {x : Nd} {Ab Ak : Option Addr} {cb ck : Nat} (hx : NdAt W x (x.v Ab cb Ak ck)) : Ctx w (⟨W.heap.size, x, Ab, cb, Ak, ck⟩ :: bs) (W.alloc (.cells (x.c Ab cb Ak ck) 26)) :=
  h.push (below_box _ _) ⟨Blk.new _ _ _, hx.below (below_box _ _)⟩ (Nat.le_refl _)
theorem Ctx.lt {w W : World} {bs : List NB} (h : Ctx w bs W) : ∀ b ∈ bs, b.g < W.heap.size ∧ ∀ r ∈ b.rows, r < W.heap.size := fun b hm => ⟨(h.box b hm).2.lt, (h.box b hm).2.node.rows⟩
section
variable {w W : World} {bs : List NB} {q0 q1 q2 q3 : NB} {g : Nat} {x : Nd} {Ab Ak : Option Addr} {cb ck : Nat}
theorem Ctx.b0 (h : Ctx w (⟨g, x, Ab, cb, Ak, ck⟩ :: bs) W) : BoxAt W g x Ab cb Ak ck := (h.box ⟨g, x, Ab, cb, Ak, ck⟩ (by simp)).2
theorem Ctx.g0 (h : Ctx w (⟨g, x, Ab, cb, Ak, ck⟩ :: bs) W) : w.heap.size ≤ g := (h.box ⟨g, x, Ab, cb, Ak, ck⟩ (by simp)).1
theorem Ctx.b1 (h : Ctx w (q0 :: ⟨g, x, Ab, cb, Ak, ck⟩ :: bs) W) : BoxAt W g x Ab cb Ak ck := (h.box ⟨g, x, Ab, cb, Ak, ck⟩ (by simp)).2
theorem Ctx.b2 (h : Ctx w (q0 :: q1 :: ⟨g, x, Ab, cb, Ak, ck⟩ :: bs) W) : BoxAt W g x Ab cb Ak ck := (h.box ⟨g, x, Ab, cb, Ak, ck⟩ (by simp)).2
theorem Ctx.b3 (h : Ctx w (q0 :: q1 :: q2 :: ⟨g, x, Ab, cb, Ak, ck⟩ :: bs) W) : BoxAt W g x Ab cb Ak ck := (h.box ⟨g, x, Ab, cb, Ak, ck⟩ (by simp)).2
theorem Ctx.b4 (h : Ctx w (q0 :: q1 :: q2 :: q3 :: ⟨g, x, Ab, cb, Ak, ck⟩ :: bs) W) : BoxAt W g x Ab cb Ak ck := (h.box ⟨g, x, Ab, cb, Ak, ck⟩ (by simp)).2
end
/-- A store into a box that is none of these, nor a row of one of these. -/
theorem Ctx.off {w W V : World} {bs : List NB} (h : Ctx w bs W) (hr0 : RoomsAt w) {g : Nat} (hg : W.grownBy V (some g)) (hlo : w.heap.size ≤ g) (hn : ∀ b ∈ bs, b.g ≠ g ∧ g ∉ b.rows) : Ctx w bs V := by
  have hb : Below w.heap.size w V := h.below.grown hg h.below.size (fun k e => by injection e with e; omega)
  exact ⟨hb, hr0.on hb, fun b hm => ⟨(h.box b hm).1, (h.box b hm).2.off hg (hn b hm).1 (hn b hm).2⟩⟩
theorem node_reads {W : World} {x : Nd} {Ab Ak : Option Addr} {cb ck : Nat} (h : NdAt W x (x.v Ab cb Ak ck)) : x.wf ∧ Reads W W.heap.size 1 Ab x.bytes.length (x.bytes.flatMap nrow) ∧ Reads W W.heap.size 2 Ak x.kids.length (x.kids.flatMap rrow) := by
  obtain ⟨h0, A, c, A', c', he, h2, h3⟩ := h
  unfold Nd.v at he
  injection he with he
  simp at he
  obtain ⟨⟨rfl, rfl⟩, rfl, rfl⟩ := he
  exact ⟨h0, h2, h3⟩
theorem box_byte0 {W : World} {g b : Nat} {l : List Nat} {x : Nd} {Ab Ak : Option Addr} {cb ck : Nat} (h : BoxAt W g x Ab cb Ak ck) (hb : x.bytes = b :: l) : ∃ ad, Ab = some ad ∧ W.cell? (ad.add 0) = some (.int .u8 (b : Int)) := by
  have h2 := (node_reads h.node).2.1
  rw [hb] at h2
  obtain ⟨ad, e, _, h3⟩ := byte_at h2 (k := 0) (by simp)
  exact ⟨ad, e, h3⟩
theorem awk_four (w : World) : Reads (w.alloc (.cells #[.int .u8 1, .int .u8 2, .int .u8 3, .int .u8 4] 5)) (w.alloc (.cells #[.int .u8 1, .int .u8 2, .int .u8 3, .int .u8 4] 5)).heap.size 1 (some ⟨w.heap.size, 0, none⟩) [1, 2, 3, 4].length ([1, 2, 3, 4].flatMap nrow) :=
  ⟨rfl, fun _ => ⟨_, rfl, by simp, cell_list_blk (Blk.new w 5 _)⟩⟩
set_option maxHeartbeats 3200000 in
set_option maxRecDepth 100000 in
theorem awake_n (w : World) (hr : RoomsAt w) : Calls Tryz.prog 6 #[] w (BoolEnd true w) := by
  have c0 := (Ctx.start hr).on (below_box w (.cells #[.int .u8 1, .int .u8 2, .int .u8 3, .int .u8 4] 5))
  have hi : Calls Tryz.prog 13 #[.int .i64 2, .string { data := #[] }, .slice (some ⟨w.heap.size, 0, none⟩) 4 4] (w.alloc (.cells #[.int .u8 1, .int .u8 2, .int .u8 3, .int .u8 4] 5)) (InnerEnd n4 (some ⟨w.heap.size, 0, none⟩) (w.alloc (.cells #[.int .u8 1, .int .u8 2, .int .u8 3, .int .u8 4] 5))) :=
    linner_n 2 { data := #[] } (some ⟨w.heap.size, 0, none⟩) 4 [1, 2, 3, 4] _ (by decide) (by decide) (awk_four w) (by decide) (by decide)
  have HI := Lib.hid hi
  have HR := Lib.hid hr
  have C0 := Lib.hid c0
  clear hi c0 hr
  go_enter Tryz.func6, Tryz.ntmps6
  go_wp2_with fail
  refine HI.out.mono ?_
  rintro e w1 ⟨V', rfl, hnd, hb, hrw⟩
  obtain ⟨A1, c1, A2, c2, rfl, hnd⟩ := open_nd hnd
  have D1 := (C0.out.on hb).new hnd
  have C1 := Lib.hid D1
  have HA := Lib.hid (And.intro n5_add (And.intro n4_full (And.intro n4_right (show n4.kind ≠ 1 by decide))))
  clear hb hrw HI C0 hnd D1
  generalize n4 = m at C1 HA ⊢
  unfold Nd.v
  go_wp2_with fail
  refine awk2 m n5 0 A1 c1 A2 c2 w1.heap.size _ C1.out.b0 C1.out.rooms (fun W h1 h2 => ?_) (fun z12 z13 z14 z15 z16 z17 g2 B1 d1 B2 d2 V hb hx hg hrw => ?_)
  · have := Add_n m _ 0 (9, 1) false W h1 h2 (by decide) (by unfold refOk; decide)
    rw [HA.out.1] at this
    exact this
  have D2 := C1.out.push hb hx hg
  have HK := Lib.hid n4b_cut
  have HK2 : Hid (n5.kind = 3 ∧ n5.kids.length = 5 ∧ n5.bytes = [0, 1, 2, 3, 4]) := Lib.hid ⟨rfl, rfl, rfl⟩
  refine (‹∀ (a : Act) (w : World), Code.wp Tryz.prog _ _ a w → _› _ _ ?_)
  have C2 := Lib.hid D2
  have hmm := HA.out.2
  have HM := Lib.hid hmm
  clear hb hx hg hrw D2 C1 HA hmm
  generalize n5 = a at C2 HK HK2 ⊢
  have hcut := Cut_n a _ 3 false V C2.out.b0.node C2.out.rooms (by decide)
  rw [HK.out] at hcut
  have HCU := Lib.hid hcut
  obtain ⟨e0, e1, e2, e3, e4, e5⟩ := C2.out.b0.cells
  clear hcut HK
  unfold Nd.v at HCU
  go_wp2_with fail
  refine HCU.out.mono ?_
  rintro e w3 ⟨V', rfl, hnd, hb, hrw⟩
  obtain ⟨A3, c3, A4, c4, rfl, hnd⟩ := open_nd hnd
  have D3 := (C2.out.on hb).new hnd
  have C3 := Lib.hid D3
  have HB : Hid (n4b.kind = 2 ∧ n4b.kids.length = 4) := Lib.hid ⟨rfl, rfl⟩
  clear hb hrw hnd D3 C2 HCU e0 e1 e2 e3 e4 e5
  generalize n4b = b at C3 HB ⊢
  have HI5 : Hid (∀ W : World, Calls Tryz.prog 13 #[.int .i64 5, .string { data := #[] }, .slice none 0 0] W (InnerEnd (topN 0) none W)) := Lib.hid (fun W => by
    have := linner_n 5 { data := #[] } none 0 [] W (by decide) (by decide) Reads.none_ (by simp) (by decide)
    rw [topN_zero] at this
    exact this)
  unfold Nd.v
  go_wp2_with fail
  refine (HI5.out _).mono ?_
  rintro e w5 ⟨V', rfl, hnd, hb, hrw⟩
  obtain ⟨A5, c5, A6, c6, rfl, hnd⟩ := open_nd hnd
  have D4 := C3.out.on hb
  have hoff : ∀ q ∈ [(⟨w3.heap.size, b, A3, c3, A4, c4⟩ : NB), ⟨g2, a, B1, d1, B2, d2⟩, ⟨w1.heap.size, m, A1, c1, A2, c2⟩], q.g ≠ w5.heap.size ∧ w5.heap.size ∉ q.rows := fun q hm => by
    have h1 := D4.lt q hm
    exact ⟨Nat.ne_of_lt h1.1, fun h2 => Nat.lt_irrefl _ (h1.2 _ h2)⟩
  have HOFF := Lib.hid (And.intro hoff D4.below.size)
  have hnr := hnd.rows
  have h0 : Hid (Ctx w [⟨w3.heap.size, b, A3, c3, A4, c4⟩, ⟨g2, a, B1, d1, B2, d2⟩, ⟨w1.heap.size, m, A1, c1, A2, c2⟩] (w5.alloc (.cells ((topN 0).c A5 c5 A6 c6) 26)) ∧ BoxAt (w5.alloc (.cells ((topN 0).c A5 c5 A6 c6) 26)) w5.heap.size (topN 0) A5 c5 A6 c6 ∧ w5.heap.size ∉ rowsOf ((topN 0).v A5 c5 A6 c6)) :=
    Lib.hid ⟨D4.on (below_box _ _), ⟨Blk.new _ _ _, hnd.below (below_box _ _)⟩, fun h2 => Nat.lt_irrefl _ (hnr _ h2)⟩
  clear hb hrw hnd D4 hoff hnr C3 HI5
  unfold Nd.c at h0
  unfold Nd.v at h0 ⊢
  go_wp2_with fail
  go_loopw [7] (fun i wr => ∃ k : Nat, k ≤ 17 ∧ i = .int .i64 k ∧ ∃ A c A' c', Hid (Ctx w [⟨w3.heap.size, b, A3, c3, A4, c4⟩, ⟨g2, a, B1, d1, B2, d2⟩, ⟨w1.heap.size, m, A1, c1, A2, c2⟩] wr ∧ BoxAt wr w5.heap.size (topN k) A c A' c' ∧ w5.heap.size ∉ rowsOf ((topN k).v A c A' c'))) (fun i _ => 17 - (intOf i).toNat)
  case atStart => exact ⟨0, by omega, rfl, _, _, _, _, h0⟩
  case round =>
    obtain ⟨k, hk, rfl, A, c, A', c', HW⟩ := hrel
    clear h0
    by_cases hlt : k < 17
    · have i1 : (k : Int) < 17 := by omega
      go_wp2_with fail
      refine awk8 (topN k) (topN (k + 1)) 0 A c A' c' w5.heap.size k wr HW.out.2.1 HW.out.1.rooms (IntWalk.u8_in _ (by omega)) (fun W h1 h2 => ?_) (fun z28 z29 z30 z31 z32 z33 z34 z35 z36 g8 B3 d3 B4 d4 V2 hb hx hg hrw => ?_)
      · have := Add_n (topN k) _ k ((k : Int), 1) true W h1 h2 (by omega) (by unfold refOk; dsimp only; omega)
        rw [topN_add (by omega)] at this
        exact this
      refine (‹∀ (a : Act) (w : World), Code.wp Tryz.prog _ _ a w → _› _ _ ?_)
      have hbx := HW.out.2.1.below hb
      have hno : w5.heap.size ∉ rowsOf ((topN (k + 1)).v B3 d3 B4 d4) := fun h2 => by
        have h3 := (hrw _ h2).1
        have h4 := HW.out.2.1.lt
        omega
      obtain ⟨VV, hV, hgr, hbn⟩ := store_node (W := V2) (g := w5.heap.size) (t := 26) hbx.blk rfl hx.node hno
      have HF := Lib.hid (And.intro ((HW.out.1.on hb).off HR.out hgr HOFF.out.2 HOFF.out.1) (And.intro hbn hno))
      obtain ⟨n0, n1, n2, n3, n4, n5⟩ := hx.cells
      obtain ⟨d0, d1', d2', d3', d4', d5'⟩ := hbx.cells
      obtain ⟨fz0, fz1, fz2, fz3, fz4, fz5⟩ := hbx.frozen
      have l6 := hbx.lt
      clear hb hx hg hrw hbx hno hgr hbn HW
      go_wp2
      rw [← hV]
      go_roundw
      case rel => exact ⟨k + 1, by omega, by go_num, _, _, _, _, HF⟩
      case measure => simp [intOf]; omega
    · obtain rfl : k = 17 := by omega
      have HT : Hid ((topN 17).isAnchor = true ∧ (topN 17).isRight = false ∧ (topN 17).kind = 5 ∧ (topN 17).kids.length = 17) := Lib.hid ⟨top17_anchor, top17_right, rfl, top17_len⟩
      generalize topN 17 = t at HW HT
      have D5 : Ctx w [⟨w5.heap.size, t, A, c, A', c'⟩, ⟨w3.heap.size, b, A3, c3, A4, c4⟩, ⟨g2, a, B1, d1, B2, d2⟩, ⟨w1.heap.size, m, A1, c1, A2, c2⟩] wr := ⟨HW.out.1.below, HW.out.1.rooms, fun q hm => by
        rcases List.mem_cons.1 hm with rfl | hm
        · exact ⟨HOFF.out.2, HW.out.2.1⟩
        · exact HW.out.1.box q hm⟩
      have C5 := Lib.hid D5
      clear D5 HW HOFF
      have hfu := Full_n m _ wr C5.out.b3.node C5.out.rooms
      rw [HM.out.1] at hfu
      have HFU := Lib.hid hfu
      obtain ⟨e0, e1, e2, e3, e4, e5⟩ := C5.out.b3.cells
      clear hfu
      unfold Nd.v at HFU
      go_wp2_with fail
      refine HFU.out.mono ?_
      rintro e wa ⟨rfl, hb⟩
      have C6 := Lib.hid (C5.out.on hb)
      clear hb C5 HFU e0 e1 e2 e3 e4 e5
      have hfu := Right_no m _ wa C6.out.b3.node C6.out.rooms HM.out.2.2
      rw [HM.out.2.1] at hfu
      have HFU := Lib.hid hfu
      obtain ⟨e0, e1, e2, e3, e4, e5⟩ := C6.out.b3.cells
      clear hfu
      unfold Nd.v at HFU
      go_wp2_with fail
      refine HFU.out.mono ?_
      rintro e wb ⟨rfl, hb⟩
      have C7 := Lib.hid (C6.out.on hb)
      clear hb C6 HFU e0 e1 e2 e3 e4 e5
      obtain ⟨ad, rfl, b0⟩ := box_byte0 C7.out.b2 HK2.out.2.2
      have b0' : wb.cell? ad = some (.int .u8 ((0 : Nat) : Int)) := b0
      obtain ⟨e0, e1, e2, e3, e4, e5⟩ := C7.out.b2.cells
      obtain ⟨x0, x1, x2, x3, x4, x5⟩ := C7.out.b1.cells
      obtain ⟨t0, t1, t2, t3, t4, t5⟩ := C7.out.b0.cells
      rw [HK2.out.1] at e0
      rw [HK2.out.2.2] at e4
      rw [HK2.out.2.1] at e5
      rw [HB.out.1] at x0
      rw [HB.out.2] at x5
      have hfu := Anchor_n t _ wb C7.out.b0.node C7.out.rooms
      rw [HT.out.1] at hfu
      have HFU := Lib.hid hfu
      clear hfu
      unfold Nd.v at HFU
      have kt := HT.out.2.2.1
      have lt := HT.out.2.2.2
      rw [kt] at t0 HFU
      rw [lt] at t5 HFU
      go_wp2_with fail
      refine HFU.out.mono ?_
      rintro e wc ⟨rfl, hb⟩
      have C8 := Lib.hid (C7.out.on hb)
      clear hb C7 HFU e0 e1 e2 e3 e4 e5 x0 x1 x2 x3 x4 x5 t0 t1 t2 t3 t4 t5 b0 b0'
      have hfu := Right_no t _ wc C8.out.b0.node C8.out.rooms (by rw [kt]; decide)
      rw [HT.out.2.1] at hfu
      have HFU := Lib.hid hfu
      obtain ⟨e0, e1, e2, e3, e4, e5⟩ := C8.out.b0.cells
      clear hfu
      unfold Nd.v at HFU
      rw [kt] at e0 HFU
      rw [lt] at e5 HFU
      go_wp2_with fail
      refine HFU.out.mono ?_
      rintro e wd ⟨rfl, hb⟩
      have HE := Lib.hid (C8.out.on hb).below
      clear hb C8 HFU e0 e1 e2 e3 e4 e5
      go_wp2
      go_ret
      exact ⟨rfl, HE.out⟩
end Go.Proofs.YtgjgcbemgmkncaaGreatDoor
namespace Go.Proofs.YtgjgcbemgmkncaaGreatDoor
open Go.RowKit Go.Shelf
set_option linter.unusedVariables false
set_option maxRecDepth 20000
set_option linter.unusedSimpArgs false

def pNd : Nd := ⟨0, { data := #[] }, { data := #[] }, { data := #[112] }, [], []⟩
def hasL (f : Kids) : List Value := (List.range 256).map fun b => .bool (f b).isSome
section
variable {w W W' V : World} {g5 g6 g7 : Nat} {f g : Kids}
end
end Go.Proofs.YtgjgcbemgmkncaaGreatDoor
namespace Go.Proofs.YtgjgcbemgmkncaaGreatDoor
open Go.RowKit Go.Shelf
set_option linter.unusedVariables false
set_option linter.unusedSimpArgs false

theorem mrep_turn {o : ManyO} {room : Nat} {f : Kids} (h : o.rep room f) {b p : Nat} (hb : b < 256) (hp : p < room) (hat : o.at_ b = p + 1) (hu : o.used p = true) (r : Int × Int) : (o.setRef p r).rep room (setK f b (some r)) := by
  refine ⟨?_, ?_, ?_, ?_⟩
  · intro x q hx hq
    dsimp only [ManyO.setRef, setR, setK] at hq ⊢
    by_cases hxb : x = b
    · rw [if_pos hxb] at hq
      subst hxb
      injection hq with hq
      exact ⟨p, hp, hat, hu, by rw [if_pos rfl, hq]⟩
    · rw [if_neg hxb] at hq
      obtain ⟨p', h1, h2, h3, h4⟩ := h.some_ x q hx hq
      have hne : p' ≠ p := fun e => hxb (h.inj x b hx hb (by rw [h2, hat, e]) (by omega))
      exact ⟨p', h1, h2, h3, by rw [if_neg hne]; exact h4⟩
  · intro x hx hq
    dsimp only [ManyO.setRef, setK] at hq ⊢
    by_cases hxb : x = b
    · rw [if_pos hxb] at hq; cases hq
    · rw [if_neg hxb] at hq; exact h.none_ x hx hq
  · exact h.inj
  · exact h.onto
theorem MBlk.turned {w : World} {g gr gu room : Nat} {o : ManyO} (h : MBlk w g gr gu room o) {p : Nat} (r : Int × Int) (hp : p < room) :
    MBlk ((w.setCell ⟨gr, p * 2, none⟩ (.int .i64 r.1)).setCell ⟨gr, p * 2 + 1, none⟩ (.int .u32 r.2)) g gr gu room (o.setRef p r) := by
  obtain ⟨h1, h2, h3⟩ := h
  have n1 : g ≠ gr := blk_neF h1 h2 (by decide)
  have n3 : gr ≠ gu := blk_neF h2 h3 (by decide)
  refine ⟨(h1.far (p := ⟨gr, p * 2, none⟩) n1 (.int .i64 r.1)).far (p := ⟨gr, p * 2 + 1, none⟩) n1 (.int .u32 r.2), ?_, (h3.far (p := ⟨gr, p * 2, none⟩) (Ne.symm n3) (.int .i64 r.1)).far (p := ⟨gr, p * 2 + 1, none⟩) (Ne.symm n3) (.int .u32 r.2)⟩
  have k := (h2.set_ (p * 2) (.int .i64 r.1)).set_ (p * 2 + 1) (.int .u32 r.2)
  rw [List.setIfInBounds_toArray, List.setIfInBounds_toArray, rcells_set o room p r hp] at k
  exact k
set_option maxHeartbeats 1600000 in
set_option maxRecDepth 100000 in
theorem Turn_m (g gr gu room : Nat) (f : Kids) (b : Nat) (r : Int × Int) (w : World) (h : ManyAt w g gr gu room f) (hb : b < 256) :
    Calls Tryz.prog 130 #[.pointer (some ⟨g, 0, none⟩), .int .u8 (b : Int), refV r] w (ManyEnd (.int .i64 (turnK f b r).1) g gr gu room (turnK f b r).2 w) := by
  have hlt := h.lt
  have h1 := h.below (below_box w (.cells #[.int .i64 r.1, .int .u32 r.2] 29))
  have HT := Lib.hid (there_m h1)
  have HH := Lib.hid (has_m h1 hb)
  have H1 := Lib.hid h1
  have i1 : (0 : Int) ≤ (b : Int) := by omega
  have i2 : (b : Int) ≤ 255 := by omega
  have sw : IntKind.i64.wrap (b : Int) = (b : Int) := IntWalk.i64_in _ (by omega)
  unfold turnK
  cases hf : f b with
  | none =>
    rw [hf] at HH
    simp only [Option.isSome_none] at HH
    clear hf h h1
    rw [if_neg (by simp)]
    dsimp only
    unfold refV
    go_enter Tryz.func130, Tryz.ntmps130
    go_wp2_with fail
    refine HT.out.mono ?_
    rintro e w1 ⟨rfl, rfl⟩
    go_wp2_with fail
    refine HH.out.mono ?_
    rintro e w2 ⟨rfl, rfl⟩
    go_wp2
    go_ret
    exact ⟨rfl, H1.out, (Three.refl g gr gu w).alloc _⟩
  | some q =>
    rw [hf] at HH
    simp only [Option.isSome_some] at HH
    rw [if_pos (by simp)]
    dsimp only
    have hr := Blk.new w 29 #[.int .i64 r.1, .int .u32 r.2]
    obtain ⟨o, o1, o2, o3, o4⟩ := h1
    obtain ⟨p, k1, k2, k3, k4⟩ := o1.some_ b q hb hf
    have HL := Lib.hid (fun V hV => mref g gr gu room o b p V hV hb k1 o4 k2)
    have HM1 := Lib.hid o2
    have m2 : w.heap.size ≠ gr := by omega
    have b0 : (w.alloc (.cells #[.int .i64 r.1, .int .u32 r.2] 29)).cell? ⟨w.heap.size, 0, none⟩ = some (.int .i64 r.1) := hr.cell 0
    have b1 : (w.alloc (.cells #[.int .i64 r.1, .int .u32 r.2] 29)).cell? ⟨w.heap.size, 1, none⟩ = some (.int .u32 r.2) := hr.cell 1
    have HB := Lib.hid (And.intro b0 b1)
    have HW : Hid (∀ k, ManyAt ((((w.alloc (.cells #[.int .i64 r.1, .int .u32 r.2] 29)).drew.drewN k).setCell ⟨gr, p * 2, none⟩ (.int .i64 r.1)).setCell ⟨gr, p * 2 + 1, none⟩ (.int .u32 r.2)) g gr gu room (setK f b (some r))) := Lib.hid (fun k => ⟨_, mrep_turn o1 hb k1 k2 k3 r, (o2.drew.drewN k).turned r k1, o3, o4⟩)
    have HT3 : Hid (∀ k, Three g gr gu w ((((w.alloc (.cells #[.int .i64 r.1, .int .u32 r.2] 29)).drew.drewN k).setCell ⟨gr, p * 2, none⟩ (.int .i64 r.1)).setCell ⟨gr, p * 2 + 1, none⟩ (.int .u32 r.2))) := Lib.hid (fun k => by
      have h0 : Three g gr gu w ((w.alloc (.cells #[.int .i64 r.1, .int .u32 r.2] 29)).drew.drewN k) := by
        have := (Three.refl g gr gu w).alloc (.cells #[.int .i64 r.1, .int .u32 r.2] 29)
        exact ⟨this.os, this.tape, this.output, this.size, this.block⟩
      exact (h0.setCell ⟨gr, p * 2, none⟩ _ (.inr (.inl rfl))).setCell ⟨gr, p * 2 + 1, none⟩ _ (.inr (.inl rfl)))
    obtain ⟨c2, c3⟩ := o2.ref k1
    have HC := Lib.hid (And.intro c2 c3)
    have HF := Lib.hid (And.intro o2.2.1 o2.2.1.lt)
    clear hf h o1 o2 k2 k3 k4 hr b0 b1 c2 c3
    unfold refV
    go_enter Tryz.func130, Tryz.ntmps130
    go_wp2_with fail
    refine HT.out.mono ?_
    rintro e w1 ⟨rfl, rfl⟩
    go_wp2_with fail
    refine HH.out.mono ?_
    rintro e w2 ⟨rfl, rfl⟩
    go_wp2_with fail
    refine wp_region_held_drew (S := (fun V : World => V.cell? ⟨w.heap.size, 0, none⟩ = some (.int .i64 r.1) ∧ V.cell? ⟨w.heap.size, 1, none⟩ = some (.int .u32 r.2))) (by kernel_rfl) ?_ (fun hHeld0 => ?_)
    · exact ⟨HB.out.1, HB.out.2⟩
    refine wpAnyH_take (i := 0) (v := ?_) rfl (by kernel_rfl) (by kernel_rfl) (by kernel_rfl) (fun _ _ _ h => h) (Or.inl ⟨by rfl, ?_⟩) hHeld0 ?_
    rotate_left
    · (intro w hSw; (try dsimp only at hSw); go_simp <;> with_reducible rfl)
    try simp only [Act.put, List.setIfInBounds_toArray, List.set_cons_zero, List.set_cons_succ]
    refine wpAnyH_take (i := 1) (v := ?_) rfl (by kernel_rfl) (by kernel_rfl) (by kernel_rfl) (fun _ _ _ h => h) (Or.inl ⟨by rfl, ?_⟩) hHeld0 ?_
    rotate_left
    · (intro w hSw; (try dsimp only at hSw); go_simp <;> with_reducible rfl)
    try simp only [Act.put, List.setIfInBounds_toArray, List.set_cons_zero, List.set_cons_succ]
    refine wpAnyH_take (i := 2) (v := ?_) rfl (by kernel_rfl) (by kernel_rfl) (by kernel_rfl) (fun _ _ _ h => h) (Or.inl ⟨by rfl, ?_⟩) hHeld0 ?_
    rotate_left
    · (intro w hSw; (try dsimp only at hSw); go_simp <;> with_reducible rfl)
    try simp only [Act.put, List.setIfInBounds_toArray, List.set_cons_zero, List.set_cons_succ]
    refine wpAnyH_take (i := 3) (v := ?_) rfl (by kernel_rfl) (by kernel_rfl) (by kernel_rfl) (fun _ _ _ h => h) (Or.inl ⟨by rfl, ?_⟩) hHeld0 ?_
    rotate_left
    · (intro w hSw; (try dsimp only at hSw); go_simp <;> with_reducible rfl)
    try simp only [Act.put, List.setIfInBounds_toArray, List.set_cons_zero, List.set_cons_succ]
    refine wpAnyH_take (i := 4) (v := ?_) rfl (by kernel_rfl) (by kernel_rfl) (by kernel_rfl) (fun _ _ _ h => h) (Or.inl ⟨by rfl, ?_⟩) hHeld0 ?_
    rotate_left
    · (intro w hSw; (try dsimp only at hSw); go_simp <;> with_reducible rfl)
    try simp only [Act.put, List.setIfInBounds_toArray, List.set_cons_zero, List.set_cons_succ]
    refine wpAnyH_take (i := 6) (v := ?_) rfl (by kernel_rfl) (by kernel_rfl) (by kernel_rfl) (fun _ _ _ h => h) (Or.inl ⟨by rfl, ?_⟩) hHeld0 ?_
    rotate_left
    · (intro w hSw; (try dsimp only at hSw); go_simp <;> with_reducible rfl)
    try simp only [Act.put, List.setIfInBounds_toArray, List.set_cons_zero, List.set_cons_succ]
    refine wpAnyH_ready (rs := [5]) (by kernel_rfl) (by simp) ?_
    refine AllReadyH.cons rfl (fun K hK => ?_) ?_
    · go_simp
      refine (HL.out _ HM1.out.drew).mono ?_
      rintro e w3 ⟨rfl, k, rfl⟩
      have hm := HM1.out.drew.drewN k
      have hw := HW.out k
      have ht := HT3.out k
      have hbb : ((w.alloc (.cells #[.int .i64 r.1, .int .u32 r.2] 29)).drew.drewN k).cell? ⟨w.heap.size, 0, none⟩ = some (.int .i64 r.1) ∧ ((w.alloc (.cells #[.int .i64 r.1, .int .u32 r.2] 29)).drew.drewN k).cell? ⟨w.heap.size, 1, none⟩ = some (.int .u32 r.2) := ⟨HB.out.1, HB.out.2⟩
      generalize ((w.alloc (.cells #[.int .i64 r.1, .int .u32 r.2] 29)).drew.drewN k) = w4 at hm hw ht hbb ⊢
      refine hK.out _ _ ?_ (fun hHeld1 => ?_)
      · exact hbb
      clear hK K hHeld0
      try simp only [Act.put, List.setIfInBounds_toArray, List.set_cons_zero, List.set_cons_succ]
      refine wpAnyH_take (i := 7) (v := ?_) rfl (by kernel_rfl) (by kernel_rfl) (by kernel_rfl) (fun _ _ _ h => h) (Or.inl ⟨by rfl, ?_⟩) hHeld1 ?_
      rotate_left
      · (intro w hSw; (try dsimp only at hSw); go_simp <;> with_reducible rfl)
      try simp only [Act.put, List.setIfInBounds_toArray, List.set_cons_zero, List.set_cons_succ]
      refine wpAnyH_ready (rs := [8]) (by kernel_rfl) (by simp) ?_
      refine AllReadyH.cons rfl (fun K hK => ?_) ?_
      · obtain ⟨d0, d1⟩ := hm.ref k1
        have fz0 := hm.2.1.frozen (p * 2)
        have fz1 := hm.2.1.frozen (p * 2 + 1)
        have l6 := hm.2.1.lt
        have HQ := Lib.hid (And.intro hw ht)
        have hbn : ((w4.setCell ⟨gr, p * 2, none⟩ (.int .i64 r.1)).setCell ⟨gr, p * 2 + 1, none⟩ (.int .u32 r.2)).cell? ⟨w.heap.size, 0, none⟩ = some (.int .i64 r.1) ∧ ((w4.setCell ⟨gr, p * 2, none⟩ (.int .i64 r.1)).setCell ⟨gr, p * 2 + 1, none⟩ (.int .u32 r.2)).cell? ⟨w.heap.size, 1, none⟩ = some (.int .u32 r.2) := by
          constructor
          · rw [World.cell?_of_block ((Below.heap_setCell _ _ _ _ m2).trans (Below.heap_setCell _ _ _ _ m2))]; exact hbb.1
          · rw [World.cell?_of_block ((Below.heap_setCell _ _ _ _ m2).trans (Below.heap_setCell _ _ _ _ m2))]; exact hbb.2
        clear hm hw ht
        go_simp
        refine hK.out _ _ ?_ (fun hHeld2 => ?_)
        · exact hbn
        clear hK K hHeld1
        try simp only [Act.put, List.setIfInBounds_toArray, List.set_cons_zero, List.set_cons_succ]
        refine wpAnyH_done (by kernel_rfl) ?_ _
        refine (‹∀ (a : Act) (w : World), Code.wp Tryz.prog _ _ a w → _› _ _ ?_)
        go_wp2
        go_ret
        exact ⟨rfl, HQ.out.1, HQ.out.2⟩
      exact AllReadyH.nil
    exact AllReadyH.nil
end Go.Proofs.YtgjgcbemgmkncaaGreatDoor
