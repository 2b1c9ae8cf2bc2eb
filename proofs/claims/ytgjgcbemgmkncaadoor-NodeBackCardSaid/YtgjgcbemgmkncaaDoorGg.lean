/-
  Layer 9: Full, Find.
  burgagekit's SameBytes, SameRefs, SameNode.
  burgagekit's SameNode.
  Layer 9: the law's ref and inner.
  Layer 9: the chapter's examples (no program in sight).
  Layer 9: a node in a box, and what is stored beside it.
  Layer 9: a node's value opened.
-/
import Derived.Test.YtgjgcbemgmkncaaDoorGf
namespace Go.Proofs.YtgjgcbemgmkncaaDoor
open Go.RowKit Go.Shelf
set_option linter.unusedVariables false
set_option linter.unusedSimpArgs false

def Nd.full (x : Nd) : Bool := x.may && ((x.kids.length : Int) == roomN x.kind)
set_option maxHeartbeats 1600000 in
set_option maxRecDepth 100000 in
theorem Full_n (x : Nd) (V : Value) (w : World) (h : NdAt w x V) (hr : RoomsAt w) : Calls Tryd.prog 18 #[V] w (BoolEnd x.full w) := by
  have h' := h
  obtain ⟨hwf, Ab, cb, Ak, ck, rfl, _, _⟩ := h'
  have b1 := below_box w (.cells #[.int .i64 x.kind, .string x.code, .string x.value, .string x.path, .slice Ab x.bytes.length cb, .slice Ak x.kids.length ck] 27)
  have HM := Lib.hid (may_n x _ (w.alloc (.cells #[.int .i64 x.kind, .string x.code, .string x.value, .string x.path, .slice Ab x.bytes.length cb, .slice Ak x.kids.length ck] 27)).drew (h.below b1.drew) (hr.on b1.drew))
  have HB := Lib.hid (And.intro b1 (And.intro (Blk.new w 27 #[.int .i64 x.kind, .string x.code, .string x.value, .string x.path, .slice Ab x.bytes.length cb, .slice Ak x.kids.length ck]) (hr.on b1)))
  clear h hr b1 hwf
  unfold Nd.v at HM ⊢
  cases hm : x.may with
  | false =>
    rw [hm] at HM
    have E : Hid (x.full = false) := Lib.hid (by unfold Nd.full; rw [hm]; rfl)
    clear hm
    go_enter Tryd.func18, Tryd.ntmps18
    go_wp2_with fail
    refine wp_region_held_drew (S := (fun V : World => V.cell? ⟨w.heap.size, 0, none⟩ = some (.int .i64 x.kind) ∧ V.cell? ⟨w.heap.size, 1, none⟩ = some (.string x.code) ∧ V.cell? ⟨w.heap.size, 2, none⟩ = some (.string x.value) ∧ V.cell? ⟨w.heap.size, 3, none⟩ = some (.string x.path) ∧ V.cell? ⟨w.heap.size, 4, none⟩ = some (.slice Ab x.bytes.length cb) ∧ V.cell? ⟨w.heap.size, 5, none⟩ = some (.slice Ak x.kids.length ck))) (by kernel_rfl) ?_ (fun hHeld0 => ?_)
    · exact cells6 HB.out.2.1.drew
    refine wpAnyH_take (i := 0) (v := ?_) rfl (by kernel_rfl) (by kernel_rfl) (by kernel_rfl) (fun _ _ _ h => h) (Or.inl ⟨by rfl, ?_⟩) hHeld0 ?_
    rotate_left
    · (intro w hSw; (try dsimp only at hSw); go_simp <;> with_reducible rfl)
    try simp only [Act.put, List.setIfInBounds_toArray, List.set_cons_zero, List.set_cons_succ]
    refine wpAnyH_take (i := 1) (v := ?_) rfl (by kernel_rfl) (by kernel_rfl) (by kernel_rfl) (fun _ _ _ h => h) (Or.inl ⟨by rfl, ?_⟩) hHeld0 ?_
    rotate_left
    · (intro w hSw; (try dsimp only at hSw); go_simp <;> with_reducible rfl)
    try simp only [Act.put, List.setIfInBounds_toArray, List.set_cons_zero, List.set_cons_succ]
    refine wpAnyH_ready (rs := [2]) (by kernel_rfl) (by simp) ?_
    refine AllReadyH.cons rfl (fun K hK => ?_) ?_
    · go_simp
      refine HM.out.mono ?_
      rintro e w1 ⟨rfl, hb⟩
      have H3 := Lib.hid (And.intro (HB.out.1.trans (Below.trans ((Below.refl _ _).drew) hb |>.mono HB.out.1.size)) (And.intro (HB.out.2.1.below ((Below.refl _ _).drew.trans hb) (by simp)) (HB.out.2.2.on ((Below.refl _ _).drew.trans hb))))
      clear hb
      refine hK.out _ _ ?_ (fun hHeld1 => ?_)
      · exact cells6 H3.out.2.1
      clear hK K hHeld0
      try simp only [Act.put, List.setIfInBounds_toArray, List.set_cons_zero, List.set_cons_succ]
      refine wpAnyH_take (i := 3) (v := ?_) rfl (by kernel_rfl) (by kernel_rfl) (by kernel_rfl) (fun _ _ _ h => h) (Or.inl ⟨by rfl, ?_⟩) hHeld1 ?_
      rotate_left
      · (intro w hSw; (try dsimp only at hSw); go_simp <;> with_reducible rfl)
      try simp only [Act.put, List.setIfInBounds_toArray, List.set_cons_zero, List.set_cons_succ]
      refine wpAnyH_take (i := 4) (v := undef) rfl (by kernel_rfl) (by kernel_rfl) (by kernel_rfl) (fun _ _ _ h => h) (Or.inr ⟨by kernel_rfl, rfl⟩) hHeld1 ?_
      try simp only [Act.put, List.setIfInBounds_toArray, List.set_cons_zero, List.set_cons_succ]
      refine wpAnyH_take (i := 5) (v := undef) rfl (by kernel_rfl) (by kernel_rfl) (by kernel_rfl) (fun _ _ _ h => h) (Or.inr ⟨by kernel_rfl, rfl⟩) hHeld1 ?_
      try simp only [Act.put, List.setIfInBounds_toArray, List.set_cons_zero, List.set_cons_succ]
      refine wpAnyH_take (i := 6) (v := undef) rfl (by kernel_rfl) (by kernel_rfl) (by kernel_rfl) (fun _ _ _ h => h) (Or.inr ⟨by kernel_rfl, rfl⟩) hHeld1 ?_
      try simp only [Act.put, List.setIfInBounds_toArray, List.set_cons_zero, List.set_cons_succ]
      refine wpAnyH_take (i := 7) (v := undef) rfl (by kernel_rfl) (by kernel_rfl) (by kernel_rfl) (fun _ _ _ h => h) (Or.inr ⟨by kernel_rfl, rfl⟩) hHeld1 ?_
      try simp only [Act.put, List.setIfInBounds_toArray, List.set_cons_zero, List.set_cons_succ]
      refine wpAnyH_take (i := 8) (v := undef) rfl (by kernel_rfl) (by kernel_rfl) (by kernel_rfl) (fun _ _ _ h => h) (Or.inr ⟨by kernel_rfl, rfl⟩) hHeld1 ?_
      try simp only [Act.put, List.setIfInBounds_toArray, List.set_cons_zero, List.set_cons_succ]
      refine wpAnyH_take (i := 9) (v := undef) rfl (by kernel_rfl) (by kernel_rfl) (by kernel_rfl) (fun _ _ _ h => h) (Or.inr ⟨by kernel_rfl, rfl⟩) hHeld1 ?_
      try simp only [Act.put, List.setIfInBounds_toArray, List.set_cons_zero, List.set_cons_succ]
      refine wpAnyH_take (i := 10) (v := undef) rfl (by kernel_rfl) (by kernel_rfl) (by kernel_rfl) (fun _ _ _ h => h) (Or.inr ⟨by kernel_rfl, rfl⟩) hHeld1 ?_
      try simp only [Act.put, List.setIfInBounds_toArray, List.set_cons_zero, List.set_cons_succ]
      refine wpAnyH_take (i := 11) (v := ?_) rfl (by kernel_rfl) (by kernel_rfl) (by kernel_rfl) (fun _ _ _ h => h) (Or.inl ⟨by rfl, ?_⟩) hHeld1 ?_
      rotate_left
      · (intro w hSw; (try dsimp only at hSw); go_simp <;> with_reducible rfl)
      try simp only [Act.put, List.setIfInBounds_toArray, List.set_cons_zero, List.set_cons_succ]
      refine wpAnyH_take (i := 12) (v := ?_) rfl (by kernel_rfl) (by kernel_rfl) (by kernel_rfl) (fun _ _ _ h => h) (Or.inl ⟨by rfl, ?_⟩) hHeld1 ?_
      rotate_left
      · (intro w hSw; (try dsimp only at hSw); go_simp <;> with_reducible rfl)
      try simp only [Act.put, List.setIfInBounds_toArray, List.set_cons_zero, List.set_cons_succ]
      try simp only [Act.put, List.getElem_toArray, List.getElem_cons_succ, List.getElem_cons_zero, List.setIfInBounds_toArray, List.set_cons_zero, List.set_cons_succ]
      refine wpAnyH_done (by kernel_rfl) ?_ _
      refine (‹∀ (a : Act) (w : World), Code.wp Tryd.prog _ _ a w → _› _ _ ?_)
      go_wp2
      go_ret
      exact ⟨ret_bool (by rw [E.out]), H3.out.1⟩
    exact AllReadyH.nil
  | true =>
    rw [hm] at HM
    have E : Hid (x.full = ((x.kids.length : Int) == roomN x.kind)) := Lib.hid (by unfold Nd.full; rw [hm]; rfl)
    clear hm
    go_enter Tryd.func18, Tryd.ntmps18
    go_wp2_with fail
    refine wp_region_held_drew (S := (fun V : World => V.cell? ⟨w.heap.size, 0, none⟩ = some (.int .i64 x.kind) ∧ V.cell? ⟨w.heap.size, 1, none⟩ = some (.string x.code) ∧ V.cell? ⟨w.heap.size, 2, none⟩ = some (.string x.value) ∧ V.cell? ⟨w.heap.size, 3, none⟩ = some (.string x.path) ∧ V.cell? ⟨w.heap.size, 4, none⟩ = some (.slice Ab x.bytes.length cb) ∧ V.cell? ⟨w.heap.size, 5, none⟩ = some (.slice Ak x.kids.length ck))) (by kernel_rfl) ?_ (fun hHeld0 => ?_)
    · exact cells6 HB.out.2.1.drew
    refine wpAnyH_take (i := 0) (v := ?_) rfl (by kernel_rfl) (by kernel_rfl) (by kernel_rfl) (fun _ _ _ h => h) (Or.inl ⟨by rfl, ?_⟩) hHeld0 ?_
    rotate_left
    · (intro w hSw; (try dsimp only at hSw); go_simp <;> with_reducible rfl)
    try simp only [Act.put, List.setIfInBounds_toArray, List.set_cons_zero, List.set_cons_succ]
    refine wpAnyH_take (i := 1) (v := ?_) rfl (by kernel_rfl) (by kernel_rfl) (by kernel_rfl) (fun _ _ _ h => h) (Or.inl ⟨by rfl, ?_⟩) hHeld0 ?_
    rotate_left
    · (intro w hSw; (try dsimp only at hSw); go_simp <;> with_reducible rfl)
    try simp only [Act.put, List.setIfInBounds_toArray, List.set_cons_zero, List.set_cons_succ]
    refine wpAnyH_ready (rs := [2]) (by kernel_rfl) (by simp) ?_
    refine AllReadyH.cons rfl (fun K hK => ?_) ?_
    · go_simp
      refine HM.out.mono ?_
      rintro e w1 ⟨rfl, hb⟩
      have H3 := Lib.hid (And.intro (HB.out.1.trans (Below.trans ((Below.refl _ _).drew) hb |>.mono HB.out.1.size)) (And.intro (HB.out.2.1.below ((Below.refl _ _).drew.trans hb) (by simp)) (HB.out.2.2.on ((Below.refl _ _).drew.trans hb))))
      clear hb
      refine hK.out _ _ ?_ (fun hHeld1 => ?_)
      · exact cells6 H3.out.2.1
      clear hK K hHeld0
      try simp only [Act.put, List.setIfInBounds_toArray, List.set_cons_zero, List.set_cons_succ]
      refine wpAnyH_take (i := 3) (v := ?_) rfl (by kernel_rfl) (by kernel_rfl) (by kernel_rfl) (fun _ _ _ h => h) (Or.inl ⟨by rfl, ?_⟩) hHeld1 ?_
      rotate_left
      · (intro w hSw; (try dsimp only at hSw); go_simp <;> with_reducible rfl)
      try simp only [Act.put, List.setIfInBounds_toArray, List.set_cons_zero, List.set_cons_succ]
      refine wpAnyH_take (i := 4) (v := ?_) rfl (by kernel_rfl) (by kernel_rfl) (by kernel_rfl) (fun _ _ _ h => h) (Or.inl ⟨by rfl, ?_⟩) hHeld1 ?_
      rotate_left
      · (intro w hSw; (try dsimp only at hSw); go_simp <;> with_reducible rfl)
      try simp only [Act.put, List.setIfInBounds_toArray, List.set_cons_zero, List.set_cons_succ]
      refine wpAnyH_take (i := 5) (v := ?_) rfl (by kernel_rfl) (by kernel_rfl) (by kernel_rfl) (fun _ _ _ h => h) (Or.inl ⟨by rfl, ?_⟩) hHeld1 ?_
      rotate_left
      · (intro w hSw; (try dsimp only at hSw); go_simp <;> with_reducible rfl)
      try simp only [Act.put, List.setIfInBounds_toArray, List.set_cons_zero, List.set_cons_succ]
      refine wpAnyH_take (i := 6) (v := ?_) rfl (by kernel_rfl) (by kernel_rfl) (by kernel_rfl) (fun _ _ _ h => h) (Or.inl ⟨by rfl, ?_⟩) hHeld1 ?_
      rotate_left
      · (intro w hSw; (try dsimp only at hSw); go_simp <;> with_reducible rfl)
      try simp only [Act.put, List.setIfInBounds_toArray, List.set_cons_zero, List.set_cons_succ]
      refine wpAnyH_take (i := 7) (v := ?_) rfl (by kernel_rfl) (by kernel_rfl) (by kernel_rfl) (fun _ _ _ h => h) (Or.inl ⟨by rfl, ?_⟩) hHeld1 ?_
      rotate_left
      · (intro w hSw; (try dsimp only at hSw); go_simp <;> with_reducible rfl)
      try simp only [Act.put, List.setIfInBounds_toArray, List.set_cons_zero, List.set_cons_succ]
      refine wpAnyH_take (i := 8) (v := ?_) rfl (by kernel_rfl) (by kernel_rfl) (by kernel_rfl) (fun _ _ _ h => h) (Or.inl ⟨by rfl, ?_⟩) hHeld1 ?_
      rotate_left
      · (intro w hSw; (try dsimp only at hSw); go_simp <;> with_reducible rfl)
      try simp only [Act.put, List.setIfInBounds_toArray, List.set_cons_zero, List.set_cons_succ]
      refine wpAnyH_ready (rs := [9]) (by kernel_rfl) (by simp) ?_
      refine AllReadyH.cons rfl (fun K hK => ?_) ?_
      · go_simp
        with_reducible refine (room_n x.kind w1 H3.out.2.2).mono ?_
        rintro e w2 ⟨rfl, rfl⟩
        refine hK.out _ _ ?_ (fun hHeld2 => ?_)
        · exact cells6 H3.out.2.1
        clear hK K hHeld1
        try simp only [Act.put, List.setIfInBounds_toArray, List.set_cons_zero, List.set_cons_succ]
        refine wpAnyH_take (i := 10) (v := ?_) rfl (by kernel_rfl) (by kernel_rfl) (by kernel_rfl) (fun _ _ _ h => h) (Or.inl ⟨by rfl, ?_⟩) hHeld2 ?_
        rotate_left
        · (intro w hSw; (try dsimp only at hSw); go_simp <;> with_reducible rfl)
        try simp only [Act.put, List.setIfInBounds_toArray, List.set_cons_zero, List.set_cons_succ]
        refine wpAnyH_take (i := 11) (v := ?_) rfl (by kernel_rfl) (by kernel_rfl) (by kernel_rfl) (fun _ _ _ h => h) (Or.inl ⟨by rfl, ?_⟩) hHeld2 ?_
        rotate_left
        · (intro w hSw; (try dsimp only at hSw); go_simp <;> with_reducible rfl)
        try simp only [Act.put, List.setIfInBounds_toArray, List.set_cons_zero, List.set_cons_succ]
        refine wpAnyH_take (i := 12) (v := ?_) rfl (by kernel_rfl) (by kernel_rfl) (by kernel_rfl) (fun _ _ _ h => h) (Or.inl ⟨by rfl, ?_⟩) hHeld2 ?_
        rotate_left
        · (intro w hSw; (try dsimp only at hSw); go_simp <;> with_reducible rfl)
        try simp only [Act.put, List.setIfInBounds_toArray, List.set_cons_zero, List.set_cons_succ]
        try simp only [Act.put, List.getElem_toArray, List.getElem_cons_succ, List.getElem_cons_zero, List.setIfInBounds_toArray, List.set_cons_zero, List.set_cons_succ]
        refine wpAnyH_done (by kernel_rfl) ?_ _
        refine (‹∀ (a : Act) (w : World), Code.wp Tryd.prog _ _ a w → _› _ _ ?_)
        go_wp2
        go_ret
        exact ⟨ret_bool (by rw [E.out]), H3.out.1⟩
      exact AllReadyH.nil
    exact AllReadyH.nil
/-- Find's world behind its boxes. -/
structure FindW (w : World) (x : Nd) (CE : Array Value) (W : World) : Prop where
  below : Below w.heap.size w W
  box : Blk W w.heap.size 27 CE
  out : Blk W (w.heap.size + 1) 35 #[.int .i64 0, .int .u32 0]
  parts : Blk W (w.heap.size + 1 + 1) 49 CE
  node : NdAt W x (.agg CE)
  rooms : RoomsAt W
  size : w.heap.size + 3 ≤ W.heap.size
theorem FindW.on {w W W' : World} {x : Nd} {CE : Array Value} (h : FindW w x CE W) (hb : Below W.heap.size W W') : FindW w x CE W' :=
  ⟨h.below.trans (hb.mono h.below.size), h.box.below hb h.box.lt, h.out.below hb h.out.lt, h.parts.below hb h.parts.lt, h.node.below hb, h.rooms.on hb, Nat.le_trans h.size hb.size⟩
theorem FindW.drew {w W : World} {x : Nd} {CE : Array Value} (h : FindW w x CE W) : FindW w x CE W.drew := ⟨h.below.drew, h.box.drew, h.out.drew, h.parts.drew, h.node, h.rooms, h.size⟩
theorem find_start (w : World) (x : Nd) (CE : Array Value) (h : NdAt w x (.agg CE)) (hr : RoomsAt w) : FindW w x CE (((w.alloc (.cells CE 27)).alloc (.cells #[.int .i64 0, .int .u32 0] 35)).alloc (.cells CE 49)) := by
  have b4 : Below w.heap.size w (((w.alloc (.cells CE 27)).alloc (.cells #[.int .i64 0, .int .u32 0] 35)).alloc (.cells CE 49)) := (((Below.refl _ w).alloc (Nat.le_refl _) _).alloc (by simp) _).alloc (by simp; omega) _
  refine ⟨b4, ((Blk.new w 27 CE).alloc _).alloc _, ?_, ?_, h.below b4, hr.on b4, by simp⟩
  · have q := (Blk.new (w.alloc (.cells CE 27)) 35 #[.int .i64 0, .int .u32 0]).alloc (.cells CE 49)
    rw [World.size_alloc] at q
    exact q
  · have q := Blk.new ((w.alloc (.cells CE 27)).alloc (.cells #[.int .i64 0, .int .u32 0] 35)) 49 CE
    rw [World.size_alloc, World.size_alloc] at q
    exact q
theorem findS {w W : World} {x : Nd} {Ab Ak : Option Addr} {cb ck : Nat} (h : FindW w x #[.int .i64 x.kind, .string x.code, .string x.value, .string x.path, .slice Ab x.bytes.length cb, .slice Ak x.kids.length ck] W) : (W.cell? ⟨w.heap.size + 1 + 1, 0, none⟩ = some (.int .i64 x.kind) ∧ W.cell? ⟨w.heap.size + 1 + 1, 1, none⟩ = some (.string x.code) ∧ W.cell? ⟨w.heap.size + 1 + 1, 2, none⟩ = some (.string x.value) ∧ W.cell? ⟨w.heap.size + 1 + 1, 3, none⟩ = some (.string x.path) ∧ W.cell? ⟨w.heap.size + 1 + 1, 4, none⟩ = some (.slice Ab x.bytes.length cb) ∧ W.cell? ⟨w.heap.size + 1 + 1, 5, none⟩ = some (.slice Ak x.kids.length ck)) ∧ W.cell? ⟨w.heap.size, 0, none⟩ = some (.int .i64 x.kind) := ⟨cells6 h.parts, h.box.cell 0⟩
theorem findS_off {w W V : World} {x : Nd} {Ab Ak : Option Addr} {cb ck : Nat} (h : FindW w x #[.int .i64 x.kind, .string x.code, .string x.value, .string x.path, .slice Ab x.bytes.length cb, .slice Ak x.kids.length ck] W) (hg : W.grownBy V (some (w.heap.size + 1))) : (V.cell? ⟨w.heap.size + 1 + 1, 0, none⟩ = some (.int .i64 x.kind) ∧ V.cell? ⟨w.heap.size + 1 + 1, 1, none⟩ = some (.string x.code) ∧ V.cell? ⟨w.heap.size + 1 + 1, 2, none⟩ = some (.string x.value) ∧ V.cell? ⟨w.heap.size + 1 + 1, 3, none⟩ = some (.string x.path) ∧ V.cell? ⟨w.heap.size + 1 + 1, 4, none⟩ = some (.slice Ab x.bytes.length cb) ∧ V.cell? ⟨w.heap.size + 1 + 1, 5, none⟩ = some (.slice Ak x.kids.length ck)) ∧ V.cell? ⟨w.heap.size, 0, none⟩ = some (.int .i64 x.kind) := by
  have e0 : ∀ i, V.cell? ⟨w.heap.size, i, none⟩ = W.cell? ⟨w.heap.size, i, none⟩ := fun i => World.cell?_of_block (hg.block w.heap.size h.box.lt (fun e => by have e2 : w.heap.size = w.heap.size + 1 := Option.some.inj e; omega))
  have e2 : ∀ i, V.cell? ⟨w.heap.size + 1 + 1, i, none⟩ = W.cell? ⟨w.heap.size + 1 + 1, i, none⟩ := fun i => World.cell?_of_block (hg.block (w.heap.size + 1 + 1) h.parts.lt (fun e => by have e2 : w.heap.size + 1 + 1 = w.heap.size + 1 := Option.some.inj e; omega))
  simp only [e0, e2]
  exact findS h
theorem two_stores {W : World} {b : Nat} {t : TypeId} {d0 d1 : Value} (v0 v1 : Value) (h : Blk W b t #[d0, d1]) :
    ∃ V, V = (W.setCell ⟨b, 0, none⟩ v0).setCell ⟨b, 1, none⟩ v1 ∧ W.grownBy V (some b) ∧ Blk V b t #[v0, v1] := by
  refine ⟨_, rfl, grown_setCell (grown_setCell ⟨rfl, rfl, rfl, Nat.le_refl _, fun _ _ _ => rfl⟩ _ _) _ _, ?_⟩
  have q := (h.set_ 0 v0).set_ 1 v1
  simpa using q
theorem find_iface {W : World} {iv : Value} {room : Int} {f : Kids} {bl : List Nat} (b : Nat) (h : RowAt W iv room f bl) (hb : b < 256) : ∃ (T : TypeId) (g fid : Nat), iv = .iface T (.pointer (some ⟨g, 0, none⟩)) ∧ (∀ V : World, (method 244 T (.pointer (some ⟨g, 0, none⟩)) "Find").run Tryd.prog V = .ok (fid, .pointer (some ⟨g, 0, none⟩)) V) ∧ (∀ args V, (callFunc fid args).run Tryd.prog V = .ok (.enter fid args) V) ∧
    Calls Tryd.prog fid #[.pointer (some ⟨g, 0, none⟩), .int .u8 (b : Int)] W (TwoEnd (optV (f b)) (.bool (f b).isSome) W) := by
  rcases h with ⟨g, rfl, rfl, hf⟩ | ⟨g, gr, gu, n, rfl, rfl, rfl, hf⟩
  · exact ⟨_, g, _, rfl, few_Find_me g, enters_of Tryd.func73 (by kernel_rfl) rfl, Find_k g room f b W hf hb⟩
  · exact ⟨_, g, _, rfl, many_Find_me g, enters_of Tryd.func88 (by kernel_rfl) rfl, Find_m g gr gu n f b W hf hb⟩
def findN (x : Nd) (b : Nat) : Option (Int × Int) := if x.may = true then x.row (roomN x.kind) b else none
set_option maxHeartbeats 1600000 in
set_option maxRecDepth 100000 in
theorem Find_n (x : Nd) (V : Value) (b : Nat) (w : World) (h : NdAt w x V) (hr : RoomsAt w) (hb256 : b < 256) : Calls Tryd.prog 15 #[V, .int .u8 (b : Int)] w (TwoEnd (optV (findN x b)) (.bool (findN x b).isSome) w) := by
  have h' := h
  obtain ⟨hwf, Ab, cb, Ak, ck, rfl, _, _⟩ := h'
  have h4 := find_start w x #[.int .i64 x.kind, .string x.code, .string x.value, .string x.path, .slice Ab x.bytes.length cb, .slice Ak x.kids.length ck] h hr
  have HM := Lib.hid (may_n x _ _ h4.node h4.rooms)
  have H4 := Lib.hid h4
  cases hm : x.may with
  | false =>
    rw [hm] at HM
    have E : findN x b = none := by unfold findN; rw [if_neg (by rw [hm]; simp)]
    rw [E]
    clear E hwf h hr h4 hm
    unfold Nd.v optV refV at *
    simp only [Option.getD_none, Option.isSome_none]
    go_enter Tryd.func15, Tryd.ntmps15
    go_wp2_with fail
    refine HM.out.mono ?_
    rintro e w1 ⟨rfl, hb⟩
    have H7B := Lib.hid (H4.out.on hb)
    clear hb HM H4
    have d0 := H7B.out.out.cell 0
    have d1 := H7B.out.out.cell 1
    have fz0 := H7B.out.out.frozen 0
    have fz1 := H7B.out.out.frozen 1
    have l6 := H7B.out.out.lt
    simp at d0 d1
    obtain ⟨VV, hV, hg, q6⟩ := two_stores (.int .i64 0) (.int .u32 0) H7B.out.out
    go_wp2
    rw [← hV]
    clear hV d0 d1 fz0 fz1
    have c0 := q6.cell 0
    have c1 := q6.cell 1
    simp at c0 c1
    exact bodyPost_ret (v := .tuple #[.agg #[.int .i64 0, .int .u32 0], .bool false]) (by simp [results, Tryd.results15, go_sem, c0, c1]) rfl ⟨rfl, H7B.out.below.grown hg H7B.out.below.size (fun k e => by injection e with e; omega)⟩
  | true =>
    rw [hm] at HM
    have hin := inner_parts (may_inner hm)
    have hroom := roomOk_of (room_kind hin.1)
    have E : findN x b = x.row (roomN x.kind) b := by unfold findN; rw [if_pos hm]
    rw [E]
    obtain ⟨room, hrm⟩ : ∃ room, roomN x.kind = room := ⟨_, rfl⟩
    rw [hrm] at hroom ⊢
    obtain ⟨o, ho⟩ : ∃ o, x.row room b = o := ⟨_, rfl⟩
    rw [ho]
    unfold Nd.row at ho
    have HP := Lib.hid (And.intro hroom (And.intro hin (And.intro hrm ho)))
    clear E hwf h hr h4 hm hroom hin hrm ho
    unfold Nd.v optV refV at *
    go_enter Tryd.func15, Tryd.ntmps15
    go_wp2_with fail
    refine HM.out.mono ?_
    rintro e w3 ⟨rfl, hb⟩
    have H3 := Lib.hid (H4.out.on hb)
    clear hb HM H4
    have HRO := Lib.hid (room_n x.kind w3.drew H3.out.drew.rooms)
    rw [HP.out.2.2.1] at HRO
    have HLA := Lib.hid (laid_n x _ room w3.drew H3.out.drew.node HP.out.1 (by have := HP.out.2.1.2.2.2.2.1; omega))
    go_wp2_with fail
    refine wp_region_held_drew (S := (fun V : World => (V.cell? ⟨w.heap.size + 1 + 1, 0, none⟩ = some (.int .i64 x.kind) ∧ V.cell? ⟨w.heap.size + 1 + 1, 1, none⟩ = some (.string x.code) ∧ V.cell? ⟨w.heap.size + 1 + 1, 2, none⟩ = some (.string x.value) ∧ V.cell? ⟨w.heap.size + 1 + 1, 3, none⟩ = some (.string x.path) ∧ V.cell? ⟨w.heap.size + 1 + 1, 4, none⟩ = some (.slice Ab x.bytes.length cb) ∧ V.cell? ⟨w.heap.size + 1 + 1, 5, none⟩ = some (.slice Ak x.kids.length ck)) ∧ V.cell? ⟨w.heap.size, 0, none⟩ = some (.int .i64 x.kind))) (by kernel_rfl) ?_ (fun hHeld0 => ?_)
    · exact findS H3.out.drew
    refine wpAnyH_take (i := 0) (v := ?_) rfl (by kernel_rfl) (by kernel_rfl) (by kernel_rfl) (fun _ _ _ h => h) (Or.inl ⟨by rfl, ?_⟩) hHeld0 ?_
    rotate_left
    · (intro w hSw; (try dsimp only at hSw); go_simp <;> with_reducible rfl)
    try simp only [Act.put, List.setIfInBounds_toArray, List.set_cons_zero, List.set_cons_succ]
    refine wpAnyH_take (i := 1) (v := ?_) rfl (by kernel_rfl) (by kernel_rfl) (by kernel_rfl) (fun _ _ _ h => h) (Or.inl ⟨by rfl, ?_⟩) hHeld0 ?_
    rotate_left
    · (intro w hSw; (try dsimp only at hSw); go_simp <;> with_reducible rfl)
    try simp only [Act.put, List.setIfInBounds_toArray, List.set_cons_zero, List.set_cons_succ]
    refine wpAnyH_take (i := 2) (v := ?_) rfl (by kernel_rfl) (by kernel_rfl) (by kernel_rfl) (fun _ _ _ h => h) (Or.inl ⟨by rfl, ?_⟩) hHeld0 ?_
    rotate_left
    · (intro w hSw; (try dsimp only at hSw); go_simp <;> with_reducible rfl)
    try simp only [Act.put, List.setIfInBounds_toArray, List.set_cons_zero, List.set_cons_succ]
    refine wpAnyH_take (i := 5) (v := ?_) rfl (by kernel_rfl) (by kernel_rfl) (by kernel_rfl) (fun _ _ _ h => h) (Or.inl ⟨by rfl, ?_⟩) hHeld0 ?_
    rotate_left
    · (intro w hSw; (try dsimp only at hSw); go_simp <;> with_reducible rfl)
    try simp only [Act.put, List.setIfInBounds_toArray, List.set_cons_zero, List.set_cons_succ]
    refine wpAnyH_ready (rs := [3]) (by kernel_rfl) (by simp) ?_
    refine AllReadyH.cons rfl (fun K hK => ?_) ?_
    · go_simp
      with_reducible refine HRO.out.mono ?_
      rintro e w4 ⟨rfl, rfl⟩
      refine hK.out _ _ ?_ (fun hHeld1 => ?_)
      · exact findS H3.out.drew
      clear hK K hHeld0
      try simp only [Act.put, List.setIfInBounds_toArray, List.set_cons_zero, List.set_cons_succ]
      refine wpAnyH_ready (rs := [4]) (by kernel_rfl) (by simp) ?_
      refine AllReadyH.cons rfl (fun K hK => ?_) ?_
      · go_simp
        refine HLA.out.mono ?_
        rintro e w5 ⟨iv, bl, rfl, hrow, hbl, hb5⟩
        have H5 := Lib.hid (H3.out.drew.on hb5)
        obtain ⟨TT, g, fid, rfl, hme, hen, hput⟩ := find_iface b hrow hb256
        rw [HP.out.2.2.2] at hput
        unfold optV refV at hput
        have HPU := Lib.hid hput
        clear hput hrow hbl hb5
        refine hK.out _ _ ?_ (fun hHeld2 => ?_)
        · exact findS H5.out
        clear hK K hHeld1
        try simp only [Act.put, List.setIfInBounds_toArray, List.set_cons_zero, List.set_cons_succ]
        refine wpAnyH_ready (rs := [6]) (by kernel_rfl) (by simp) ?_
        refine AllReadyH.cons rfl (fun K hK => ?_) ?_
        · go_simp
          refine HPU.out.mono ?_
          rintro e w6 ⟨rfl, hb6⟩
          have H7B := Lib.hid (H5.out.on hb6)
          clear hb6 hme hen
          refine hK.out _ _ ?_ (fun hHeld3 => ?_)
          · exact findS H7B.out
          clear hK K hHeld2
          try simp only [Act.put, List.setIfInBounds_toArray, List.set_cons_zero, List.set_cons_succ]
          refine wpAnyH_take (i := 7) (v := ?_) rfl (by kernel_rfl) (by kernel_rfl) (by kernel_rfl) (fun _ _ _ h => h) (Or.inl ⟨by rfl, ?_⟩) hHeld3 ?_
          rotate_left
          · (intro w hSw; (try dsimp only at hSw); go_simp <;> with_reducible rfl)
          try simp only [Act.put, List.setIfInBounds_toArray, List.set_cons_zero, List.set_cons_succ]
          refine wpAnyH_take (i := 8) (v := ?_) rfl (by kernel_rfl) (by kernel_rfl) (by kernel_rfl) (fun _ _ _ h => h) (Or.inl ⟨by rfl, ?_⟩) hHeld3 ?_
          rotate_left
          · (intro w hSw; (try dsimp only at hSw); go_simp <;> with_reducible rfl)
          try simp only [Act.put, List.setIfInBounds_toArray, List.set_cons_zero, List.set_cons_succ]
          refine wpAnyH_ready (rs := [9]) (by kernel_rfl) (by simp) ?_
          refine AllReadyH.cons rfl (fun K hK => ?_) ?_
          · have d0 := H7B.out.out.cell 0
            have d1 := H7B.out.out.cell 1
            have fz0 := H7B.out.out.frozen 0
            have fz1 := H7B.out.out.frozen 1
            have l6 := H7B.out.out.lt
            simp at d0 d1
            obtain ⟨VV, hV, hg, q6⟩ := two_stores (.int .i64 (o.getD (0, 0)).1) (.int .u32 (o.getD (0, 0)).2) H7B.out.out
            go_simp
            rw [← hV]
            clear hV d0 d1 fz0 fz1
            refine hK.out _ _ ?_ (fun hHeld4 => ?_)
            · exact findS_off H7B.out hg
            clear hK K hHeld3
            try simp only [Act.put, List.setIfInBounds_toArray, List.set_cons_zero, List.set_cons_succ]
            refine wpAnyH_take (i := 10) (v := ?_) rfl (by kernel_rfl) (by kernel_rfl) (by kernel_rfl) (fun _ _ _ h => h) (Or.inl ⟨by rfl, ?_⟩) hHeld4 ?_
            rotate_left
            · (intro w hSw; (try dsimp only at hSw); go_simp <;> with_reducible rfl)
            try simp only [Act.put, List.setIfInBounds_toArray, List.set_cons_zero, List.set_cons_succ]
            try simp only [Act.put, List.getElem_toArray, List.getElem_cons_succ, List.getElem_cons_zero, List.setIfInBounds_toArray, List.set_cons_zero, List.set_cons_succ]
            refine wpAnyH_done (by kernel_rfl) ?_ _
            refine (‹∀ (a : Act) (w : World), Code.wp Tryd.prog _ _ a w → _› _ _ ?_)
            have c0 := q6.cell 0
            have c1 := q6.cell 1
            simp at c0 c1
            go_wp2
            exact bodyPost_ret (v := .tuple #[.agg #[.int .i64 (o.getD (0, 0)).1, .int .u32 (o.getD (0, 0)).2], .bool o.isSome]) (by simp [results, Tryd.results15, go_sem, c0, c1]) rfl ⟨rfl, H7B.out.below.grown hg H7B.out.below.size (fun k e => by injection e with e; omega)⟩
          exact AllReadyH.nil
        exact AllReadyH.nil
      exact AllReadyH.nil
    exact AllReadyH.nil
end Go.Proofs.YtgjgcbemgmkncaaDoor
namespace Go.Proofs.YtgjgcbemgmkncaaDoor
open Go.RowKit Go.Shelf
set_option linter.unusedVariables false
set_option linter.unusedSimpArgs false

theorem ne_at {α : Type} {a b : List α} {k : Nat} (h1 : k < a.length) (h2 : k < b.length) (h : a[k] ≠ b[k]) : a ≠ b := fun e => by subst e; exact h rfl
theorem take_at {α : Type} {a b : List α} {k : Nat} (h1 : k < a.length) (h2 : k < b.length) (h : a.take k = b.take k) (he : a[k] = b[k]) : a.take (k + 1) = b.take (k + 1) := by
  rw [List.take_succ_eq_append_getElem h1, List.take_succ_eq_append_getElem h2, h, he]
set_option maxHeartbeats 1600000 in
theorem SameBytes_n (a b : List Nat) (A B : Option Addr) (ca cb : Nat) (w : World) (ha : Reads w w.heap.size 1 A a.length (a.flatMap nrow)) (hb : Reads w w.heap.size 1 B b.length (b.flatMap nrow)) (hla : a.length ≤ 9223372036854775807) :
    Calls Tryd.prog 27 #[.slice A a.length ca, .slice B b.length cb] w (BoolEnd (decide (a = b)) w) := by
  by_cases hlen : a.length = b.length
  · have HA := Lib.hid (And.intro ha hb)
    have HL := Lib.hid hlen
    have hl : ((a.length : Int) != (b.length : Int)) = false := by simp [hlen]
    clear ha hb hlen
    go_enter Tryd.func27, Tryd.ntmps27
    go_wp2_with fail
    go_loopw [5] (fun i wr => ∃ k : Nat, k ≤ a.length ∧ i = .int .i64 k ∧ Hid (a.take k = b.take k) ∧ ∃ n, wr = w.drewN n) (fun i _ => a.length - (intOf i).toNat)
    case atStart => exact ⟨0, Nat.zero_le _, rfl, Lib.hid (by simp), 0, rfl⟩
    case round =>
      obtain ⟨k, hk, rfl, HT, n, rfl⟩ := hrel
      by_cases hlt : k < a.length
      · have hlt2 : k < b.length := by have := HL.out; omega
        obtain ⟨aa, rfl, haa, c0⟩ := byte_at HA.out.1 hlt
        obtain ⟨bb, rfl, hbb, c1⟩ := byte_at HA.out.2 hlt2
        have i1 : (0 : Int) ≤ (k : Int) := by omega
        have i2 : (k : Int) < (a.length : Int) := by omega
        have i3 : (k : Int) < (b.length : Int) := by omega
        have HN := Lib.hid (ne_at hlt hlt2)
        have HY := Lib.hid (take_at hlt hlt2 HT.out)
        generalize a[k] = x at c0 HN HY
        generalize b[k] = y at c1 HN HY
        by_cases hxy : x = y
        · have hne : ((x : Int) != (y : Int)) = false := by simp [hxy]
          have E := Lib.hid (HY.out hxy)
          clear HN HY hxy
          go_wp2_with fail
          go_quiet (fail)
          go_wp2
          go_roundw
          case rel => exact ⟨k + 1, by omega, by go_num, E, _, rfl⟩
          case measure => simp [intOf]; omega
        · have hne : ((x : Int) != (y : Int)) = true := by simp; omega
          have E : Hid (decide (a = b) = false) := Lib.hid (by simp [HN.out hxy])
          clear HN HY hxy
          go_wp2_with fail
          go_quiet (fail)
          go_wp2
          go_ret
          exact ⟨ret_bool E.out.symm, below_drewN (below_drewN (Below.refl _ _) _) _⟩
      · obtain rfl : k = a.length := by omega
        have E : Hid (decide (a = b) = true) := Lib.hid (by
          have h := HT.out
          rw [List.take_of_length_le (Nat.le_refl _), List.take_of_length_le (by have := HL.out; omega)] at h
          simp [h])
        have i2 : ¬ ((a.length : Int) < (a.length : Int)) := by omega
        go_wp2
        go_ret
        exact ⟨ret_bool E.out.symm, below_drewN (Below.refl _ _) _⟩
  · have hl : ((a.length : Int) != (b.length : Int)) = true := by simp; omega
    have E : Hid (decide (a = b) = false) := Lib.hid (by simp; intro e; exact hlen (by rw [e]))
    clear ha hb hlen
    go_enter Tryd.func27, Tryd.ntmps27
    go_wp2
    go_ret
    exact ⟨ret_bool E.out.symm, Below.refl _ _⟩
theorem ref_at2 {w : World} {B k : Nat} {A : Option Addr} {l : List (Int × Int)} (h : Reads w B 2 A l.length (l.flatMap rrow)) (hk : k < l.length) : ∃ ad, A = some ad ∧ ad.block < B ∧ w.cell? (ad.add (k * 2)) = some (.int .i64 (l[k]).1) ∧ w.cell? (ad.add (k * 2 + 1)) = some (.int .u32 (l[k]).2) ∧ w.cell? ⟨ad.block, (ad.add (k * 2)).off + 1, none⟩ = some (.int .u32 (l[k]).2) ∧ w.cell? ((ad.add (k * 2)).add 1) = some (.int .u32 (l[k]).2) ∧ w.cell? ⟨(ad.add (k * 2)).block, (ad.add (k * 2)).off + 1, none⟩ = some (.int .u32 (l[k]).2) := by
  obtain ⟨ad, e, hb, c1, c2⟩ := ref_at h hk
  have e1 : (ad.add (k * 2)).add 1 = ad.add (k * 2 + 1) := by
    simp [Addr.add]
    split <;> simp_all <;> omega
  have e2 : (⟨(ad.add (k * 2)).block, (ad.add (k * 2)).off + 1, none⟩ : Addr) = ad.add (k * 2 + 1) := by
    simp [Addr.add]
    split <;> simp_all <;> omega
  have e3 : (⟨ad.block, (ad.add (k * 2)).off + 1, none⟩ : Addr) = ad.add (k * 2 + 1) := by
    rw [← e2, block_of_add]
  exact ⟨ad, e, hb, c1, c2, by rw [e3]; exact c2, by rw [e1]; exact c2, by rw [e2]; exact c2⟩
set_option maxHeartbeats 1600000 in
theorem SameRefs_n (a b : List (Int × Int)) (A B : Option Addr) (ca cb : Nat) (w : World) (ha : Reads w w.heap.size 2 A a.length (a.flatMap rrow)) (hb : Reads w w.heap.size 2 B b.length (b.flatMap rrow)) (hla : a.length ≤ 9223372036854775807) :
    Calls Tryd.prog 28 #[.slice A a.length ca, .slice B b.length cb] w (BoolEnd (decide (a = b)) w) := by
  by_cases hlen : a.length = b.length
  · have HA := Lib.hid (And.intro ha hb)
    have HL := Lib.hid hlen
    have hl : ((a.length : Int) != (b.length : Int)) = false := by simp [hlen]
    clear ha hb hlen
    go_enter Tryd.func28, Tryd.ntmps28
    go_wp2_with fail
    go_loopw [5] (fun i wr => ∃ k : Nat, k ≤ a.length ∧ i = .int .i64 k ∧ Hid (a.take k = b.take k) ∧ ∃ n, wr = w.drewN n) (fun i _ => a.length - (intOf i).toNat)
    case atStart => exact ⟨0, Nat.zero_le _, rfl, Lib.hid (by simp), 0, rfl⟩
    case round =>
      obtain ⟨k, hk, rfl, HT, n, rfl⟩ := hrel
      by_cases hlt : k < a.length
      · have hlt2 : k < b.length := by have := HL.out; omega
        obtain ⟨aa, rfl, haa, c0, c0a, c0b, c0c, c0d⟩ := ref_at2 HA.out.1 hlt
        obtain ⟨bb, rfl, hbb, c1, c1a, c1b, c1c, c1d⟩ := ref_at2 HA.out.2 hlt2
        have i1 : (0 : Int) ≤ (k : Int) := by omega
        have i2 : (k : Int) < (a.length : Int) := by omega
        have i3 : (k : Int) < (b.length : Int) := by omega
        have HN := Lib.hid (ne_at hlt hlt2)
        have HY := Lib.hid (take_at hlt hlt2 HT.out)
        generalize a[k] = x at c0 c0a c0b c0c c0d HN HY
        generalize b[k] = y at c1 c1a c1b c1c c1d HN HY
        obtain ⟨x1, x2⟩ := x
        obtain ⟨y1, y2⟩ := y
        dsimp only at c0 c0a c0b c0c c0d c1 c1a c1b c1c c1d
        by_cases h1 : x1 = y1
        · have e1 : (x1 == y1) = true := by simp [h1]
          by_cases h2 : x2 = y2
          · have e2 : (x2 == y2) = true := by simp [h2]
            have E := Lib.hid (HY.out (by rw [h1, h2]))
            clear HN HY h1 h2
            go_wp2_with fail
            go_quiet (fail)
            go_wp2
            go_roundw
            case rel => exact ⟨k + 1, by omega, by go_num, E, _, rfl⟩
            case measure => simp [intOf]; omega
          · have e2 : (x2 == y2) = false := by simp [h2]
            have E : Hid (decide (a = b) = false) := Lib.hid (by simp [HN.out (fun e => h2 (by cases e; rfl))])
            clear HN HY h1 h2
            go_wp2_with fail
            go_quiet (fail)
            go_wp2
            go_ret
            exact ⟨ret_bool E.out.symm, below_drewN (below_drewN (Below.refl _ _) _) _⟩
        · have e1 : (x1 == y1) = false := by simp [h1]
          have E : Hid (decide (a = b) = false) := Lib.hid (by simp [HN.out (fun e => h1 (by cases e; rfl))])
          clear HN HY h1
          go_wp2_with fail
          go_quiet (fail)
          go_wp2
          go_ret
          exact ⟨ret_bool E.out.symm, below_drewN (below_drewN (Below.refl _ _) _) _⟩
      · obtain rfl : k = a.length := by omega
        have E : Hid (decide (a = b) = true) := Lib.hid (by
          have h := HT.out
          rw [List.take_of_length_le (Nat.le_refl _), List.take_of_length_le (by have := HL.out; omega)] at h
          simp [h])
        have i2 : ¬ ((a.length : Int) < (a.length : Int)) := by omega
        go_wp2
        go_ret
        exact ⟨ret_bool E.out.symm, below_drewN (Below.refl _ _) _⟩
  · have hl : ((a.length : Int) != (b.length : Int)) = true := by simp; omega
    have E : Hid (decide (a = b) = false) := Lib.hid (by simp; intro e; exact hlen (by rw [e]))
    clear ha hb hlen
    go_enter Tryd.func28, Tryd.ntmps28
    go_wp2
    go_ret
    exact ⟨ret_bool E.out.symm, Below.refl _ _⟩
end Go.Proofs.YtgjgcbemgmkncaaDoor
namespace Go.Proofs.YtgjgcbemgmkncaaDoor
open Go.RowKit Go.Shelf
set_option linter.unusedVariables false
set_option linter.unusedSimpArgs false

def sameN (x y : Nd) : Bool := (x.kind == y.kind) && (x.code.toList == y.code.toList) && (x.value.toList == y.value.toList) && (x.path.toList == y.path.toList) && decide (x.bytes = y.bytes) && decide (x.kids = y.kids)
theorem sameN_refl (x : Nd) : sameN x x = true := by simp [sameN]
set_option maxHeartbeats 1600000 in
theorem SameNode_n (x y : Nd) (V U : Value) (w : World) (h : NdAt w x V) (h' : NdAt w y U) : Calls Tryd.prog 13 #[V, U] w (BoolEnd (sameN x y) w) := by
  obtain ⟨hwf, Ab, cb, Ak, ck, rfl, hb, hk⟩ := h
  obtain ⟨hwf', Bb, db, Bk, dk, rfl, hb', hk'⟩ := h'
  have b2 : Below w.heap.size w ((w.alloc (.cells #[.int .i64 x.kind, .string x.code, .string x.value, .string x.path, .slice Ab x.bytes.length cb, .slice Ak x.kids.length ck] 27)).alloc (.cells #[.int .i64 y.kind, .string y.code, .string y.value, .string y.path, .slice Bb y.bytes.length db, .slice Bk y.kids.length dk] 27)) := ((Below.refl _ w).alloc (Nat.le_refl _) _).alloc (by simp) _
  have q1 := (Blk.new w 27 #[.int .i64 x.kind, .string x.code, .string x.value, .string x.path, .slice Ab x.bytes.length cb, .slice Ak x.kids.length ck]).alloc (.cells #[.int .i64 y.kind, .string y.code, .string y.value, .string y.path, .slice Bb y.bytes.length db, .slice Bk y.kids.length dk] 27)
  have q2 := Blk.new (w.alloc (.cells #[.int .i64 x.kind, .string x.code, .string x.value, .string x.path, .slice Ab x.bytes.length cb, .slice Ak x.kids.length ck] 27)) 27 #[.int .i64 y.kind, .string y.code, .string y.value, .string y.path, .slice Bb y.bytes.length db, .slice Bk y.kids.length dk]
  rw [World.size_alloc] at q2
  have HB := Lib.hid (SameBytes_n x.bytes y.bytes Ab Bb cb db ((w.alloc (.cells #[.int .i64 x.kind, .string x.code, .string x.value, .string x.path, .slice Ab x.bytes.length cb, .slice Ak x.kids.length ck] 27)).alloc (.cells #[.int .i64 y.kind, .string y.code, .string y.value, .string y.path, .slice Bb y.bytes.length db, .slice Bk y.kids.length dk] 27)) ((hb.below b2).more b2.size) ((hb'.below b2).more b2.size) hwf.lb)
  have HQ := Lib.hid (And.intro b2 (And.intro q1 (And.intro q2 (And.intro hk (And.intro hk' hwf.lk)))))
  clear hb hk hb' hk' hwf hwf' b2 q1 q2
  unfold Nd.v
  obtain ⟨s0, hs0⟩ : ∃ s, s = sameN x y := ⟨_, rfl⟩
  rw [← hs0]
  have HS := Lib.hid hs0
  clear hs0
  cases e0 : (x.kind == y.kind) with
  | false =>
    go_enter Tryd.func13, Tryd.ntmps13
    go_wp2
    go_ret
    exact ⟨ret_bool (by rw [HS.out]; simp [sameN, *]), HQ.out.1⟩
  | true =>
    cases e1 : (x.code.toList == y.code.toList) with
    | false =>
      go_enter Tryd.func13, Tryd.ntmps13
      go_wp2
      go_ret
      exact ⟨ret_bool (by rw [HS.out]; simp [sameN, *]), HQ.out.1⟩
    | true =>
      cases e2 : (x.value.toList == y.value.toList) with
      | false =>
        go_enter Tryd.func13, Tryd.ntmps13
        go_wp2
        go_ret
        exact ⟨ret_bool (by rw [HS.out]; simp [sameN, *]), HQ.out.1⟩
      | true =>
        cases e3 : (x.path.toList == y.path.toList) with
        | false =>
          go_enter Tryd.func13, Tryd.ntmps13
          go_wp2
          go_ret
          exact ⟨ret_bool (by rw [HS.out]; simp [sameN, *]), HQ.out.1⟩
        | true =>
          have E : Hid (s0 = (decide (x.bytes = y.bytes) && decide (x.kids = y.kids))) := Lib.hid (by rw [HS.out]; simp only [sameN, e0, e1, e2, e3, Bool.true_and])
          clear HS
          obtain ⟨sb, hsb⟩ : ∃ s, s = decide (x.bytes = y.bytes) := ⟨_, rfl⟩
          rw [← hsb] at HB E
          clear hsb
          go_enter Tryd.func13, Tryd.ntmps13
          go_wp2_with fail
          refine HB.out.mono ?_
          rintro e w1 ⟨rfl, hb1⟩
          have hbw := HQ.out.1.trans (hb1.mono HQ.out.1.size)
          have HW := Lib.hid hbw
          have HK := Lib.hid (SameRefs_n x.kids y.kids Ak Bk ck dk w1 ((HQ.out.2.2.2.1.below hbw).more hbw.size) ((HQ.out.2.2.2.2.1.below hbw).more hbw.size) HQ.out.2.2.2.2.2)
          obtain ⟨c0, c1, c2, c3, c4, c5⟩ := cells6 (HQ.out.2.1.below hb1 (by simp; omega))
          obtain ⟨d0, d1, d2, d3, d4, d5⟩ := cells6 (HQ.out.2.2.1.below hb1 (by simp))
          clear HB HQ hb1 hbw
          cases sb with
          | false =>
            go_wp2
            go_ret
            exact ⟨ret_bool (by rw [E.out]; rfl), HW.out⟩
          | true =>
            go_wp2_with fail
            refine HK.out.mono ?_
            rintro e w2 ⟨rfl, hb2⟩
            have HE := Lib.hid (HW.out.trans (hb2.mono HW.out.size))
            clear HK HW hb2
            go_wp2
            go_ret
            exact ⟨ret_bool (by rw [E.out]; simp), HE.out⟩
end Go.Proofs.YtgjgcbemgmkncaaDoor
namespace Go.Proofs.YtgjgcbemgmkncaaDoor
open Go.RowKit Go.Shelf
set_option linter.unusedVariables false
set_option linter.unusedSimpArgs false

theorem ref_n (n : Int) (w : World) : Calls Tryd.prog 8 #[.int .i64 n] w (fun e w' => e = .returned (refV (n, 1)) ∧ Below w.heap.size w w') := by
  have hq := Blk.new w 35 #[.int .i64 n, .int .u32 1]
  have c0 := hq.cell 0
  have c1 := hq.cell 1
  simp at c0 c1
  have hr := Blk.new w 35 #[.int .i64 0, .int .u32 0]
  have r0 := hr.cell 0
  have r1 := hr.cell 1
  have fz0 := hr.frozen 0
  have fz1 := hr.frozen 1
  have lr := hr.lt
  simp at r0 r1
  have hb := below_box w (.cells #[.int .i64 0, .int .u32 0] 35)
  have HB := Lib.hid ((hb.setCell (p := ⟨w.heap.size, 0, none⟩) (Nat.le_refl _) (.int .i64 n)).setCell (p := ⟨w.heap.size, 1, none⟩) (Nat.le_refl _) (.int .u32 1))
  have hrn := (hr.set_ 0 (.int .i64 n)).set_ 1 (.int .u32 1)
  have q0 := hrn.cell 0
  have q1 := hrn.cell 1
  simp at q0 q1
  clear hq hr hb hrn c0 c1
  go_enter Tryd.func8, Tryd.ntmps8
  go_wp2_with fail
  exact bodyPost_ret (v := refV (n, 1)) (by simp [results, Tryd.results8, go_sem, refV, *]) rfl ⟨rfl, below_box w _⟩
/-- What inner makes. -/
def innerNd (k : Int) (p : ByteArray) (l : List Nat) : Nd := ⟨k, { data := #[] }, { data := #[] }, p, l, (List.range l.length).map fun (i : Nat) => ((i : Int), (1 : Int))⟩
def refsTo (i : Nat) : List (Int × Int) := (List.range i).map fun (j : Nat) => ((j : Int), (1 : Int))
theorem refsTo_succ (i : Nat) : (refsTo (i + 1)).flatMap rrow = (refsTo i).flatMap rrow ++ [.int .i64 i, .int .u32 1] := by
  unfold refsTo
  rw [List.range_succ, List.map_append, List.flatMap_append]
  rfl
/-- A node that has been made: its rows lie in new blocks, or where the bytes came from. -/
def InnerEnd (y : Nd) (Ab : Option Addr) (w : World) (e : Ending) (w' : World) : Prop := ∃ V', e = .returned V' ∧ NdAt w' y V' ∧ Below w.heap.size w w' ∧ ∀ g ∈ rowsOf V', w.heap.size ≤ g ∨ ∃ ad, Ab = some ad ∧ g = ad.block
/-- inner's world. -/
structure InnW (w : World) (k : Int) (p : ByteArray) (Ab : Option Addr) (cb : Nat) (l : List Nat) (i : Nat) (v5 w5 : Value) (j : Nat) (W : World) : Prop where
  below : Below w.heap.size w W
  out : Blk W w.heap.size 27 #[.int .i64 0, .string { data := #[] }, .string { data := #[] }, .string { data := #[] }, .slice none 0 0, .slice none 0 0]
  node : Blk W (w.heap.size + 1) 27 #[.int .i64 k, .string { data := #[] }, .string { data := #[] }, .string p, .slice Ab l.length cb, v5]
  row : W.ownsRow (w.heap.size + 2) 35 2 w5 j ((refsTo j).flatMap rrow)
  size : w.heap.size + 2 ≤ W.heap.size
section
variable {w W W' : World} {k : Int} {p : ByteArray} {Ab : Option Addr} {cb : Nat} {l : List Nat} {i j : Nat} {v5 w5 : Value}
theorem InnW.on (h : InnW w k p Ab cb l i v5 w5 j W) (hb : Below W.heap.size W W') : InnW w k p Ab cb l i v5 w5 j W' :=
  ⟨h.below.trans (hb.mono h.below.size), h.out.below hb h.out.lt, h.node.below hb h.node.lt, h.row.kept (World.grownBy_of_below hb) (by cases w5.ownBlock <;> simp), Nat.le_trans h.size hb.size⟩
theorem InnW.drew (h : InnW w k p Ab cb l i v5 w5 j W) : InnW w k p Ab cb l i v5 w5 j W.drew := h.on (Below.refl _ _).drew
theorem InnW.lt5 (h : InnW w k p Ab cb l i v5 w5 j W) : ∀ g, w5.ownBlock = some g → w.heap.size + 2 ≤ g ∧ g < W.heap.size := fun g e => h.row.lt g e
end
set_option maxHeartbeats 3200000 in
set_option maxRecDepth 100000 in
theorem linner_n (k : Int) (p : ByteArray) (Ab : Option Addr) (cb : Nat) (l : List Nat) (w : World) (hk : -9223372036854775808 ≤ k ∧ k ≤ 9223372036854775807) (hp : p.size ≤ 9223372036854775807) (hl : Reads w w.heap.size 1 Ab l.length (l.flatMap nrow)) (hl2 : ∀ b ∈ l, b < 256) (hlen : l.length ≤ 4096) :
    Calls Tryd.prog 6 #[.int .i64 k, .string p, .slice Ab l.length cb] w (InnerEnd (innerNd k p l) Ab w) := by
  have h0 : InnW w k p Ab cb l 0 (.slice none 0 0) (.slice none 0 0) 0 ((w.alloc (.cells #[.int .i64 0, .string { data := #[] }, .string { data := #[] }, .string { data := #[] }, .slice none 0 0, .slice none 0 0] 27)).alloc (.cells #[.int .i64 k, .string { data := #[] }, .string { data := #[] }, .string p, .slice Ab l.length cb, .slice none 0 0] 27)) := by
    refine ⟨((Below.refl _ w).alloc (Nat.le_refl _) _).alloc (by simp) _, (Blk.new w 27 #[.int .i64 0, .string { data := #[] }, .string { data := #[] }, .string { data := #[] }, .slice none 0 0, .slice none 0 0]).alloc _, ?_, World.ownsRow_nil _ _ _ _, by simp⟩
    have q := Blk.new (w.alloc (.cells #[.int .i64 0, .string { data := #[] }, .string { data := #[] }, .string { data := #[] }, .slice none 0 0, .slice none 0 0] 27)) 27 #[.int .i64 k, .string { data := #[] }, .string { data := #[] }, .string p, .slice Ab l.length cb, .slice none 0 0]
    rw [World.size_alloc] at q
    exact q
  have HL := Lib.hid (And.intro hk (And.intro hp (And.intro hl hl2)))
  clear hk hp hl hl2
  obtain ⟨j0, hj, hj0, hj1, hj2⟩ := info_parts infoRef3
  have HJ := Lib.hid (And.intro hj (And.intro hj0 (And.intro hj1 hj2)))
  clear hj hj0 hj1 hj2
  have H0 := Lib.hid h0
  have h1 := h0.node.lt
  clear h0
  go_enter Tryd.func6, Tryd.ntmps6
  go_wp2_with fail
  go_loopw [8] (fun i wr => ∃ k' : Nat, k' ≤ l.length ∧ i = .int .i64 k' ∧ ∃ v5, Hid (InnW w k p Ab cb l 0 v5 v5 k' wr)) (fun i _ => l.length - (intOf i).toNat)
  case atStart => exact ⟨0, Nat.zero_le _, rfl, _, H0⟩
  case round =>
    obtain ⟨i, hi, rfl, v5, HW⟩ := hrel
    by_cases hlt : i < l.length
    · have i1 : (i : Int) < (l.length : Int) := by omega
      have P0 := HW.out.drew
      clear H0
      go_wp2_with fail
      refine wp_region_L 7 (fun V : World => V.cell? ⟨w.heap.size + 1, 5, none⟩ = some v5) (by kernel_rfl) ?_
      refine wpAnyL_take (i := 0) (v := ?_) rfl (by kernel_rfl) (by kernel_rfl) (by kernel_rfl) (by kernel_rfl) (fun _ _ _ h => h) (Or.inl ⟨by rfl, ?_⟩) (P0.node.cell 5) ?_
      rotate_left
      · (intro w hSw; (try dsimp only at hSw); go_simp <;> with_reducible rfl)
      try simp only [Act.put, List.setIfInBounds_toArray, List.set_cons_zero, List.set_cons_succ]
      refine wpAnyL_take (i := 1) (v := ?_) rfl (by kernel_rfl) (by kernel_rfl) (by kernel_rfl) (by kernel_rfl) (fun _ _ _ h => h) (Or.inl ⟨by rfl, ?_⟩) (P0.node.cell 5) ?_
      rotate_left
      · (intro w hSw; (try dsimp only at hSw); go_simp <;> with_reducible rfl)
      try simp only [Act.put, List.setIfInBounds_toArray, List.set_cons_zero, List.set_cons_succ]
      refine wpAnyL_take (i := 2) (v := ?_) rfl (by kernel_rfl) (by kernel_rfl) (by kernel_rfl) (by kernel_rfl) (fun _ _ _ h => h) (Or.inl ⟨by rfl, ?_⟩) (P0.node.cell 5) ?_
      rotate_left
      · (intro w hSw; (try dsimp only at hSw); go_simp <;> with_reducible rfl)
      try simp only [Act.put, List.setIfInBounds_toArray, List.set_cons_zero, List.set_cons_succ]
      refine wpAnyL_ready (rs := [3]) (by kernel_rfl) (by simp) ?_
      refine AllL.cons rfl (fun K hK => ?_) AllL.nil
      go_simp
      refine (ref_n (i : Int) _).mono ?_
      rintro e w3 ⟨rfl, hb3⟩
      have P1 := P0.on hb3
      clear hb3 P0
      unfold refV
      refine hK.out _ _ (fun _ => P1.node.cell 5) ?_
      clear hK K
      try simp only [Act.put, List.setIfInBounds_toArray, List.set_cons_zero, List.set_cons_succ]
      refine wpAnyL_ready (rs := [4]) (by kernel_rfl) (by simp) ?_
      refine AllL.cons rfl (fun K hK => ?_) AllL.nil
      go_simp
      have hb4 := below_box w3 (.cells #[.int .i64 (i : Int), .int .u32 1] 35)
      have T4 := Blk.new w3 35 #[.int .i64 (i : Int), .int .u32 1]
      have P2 := P1.on hb4
      clear hb4 P1
      refine hK.out _ _ (fun _ => P2.node.cell 5) ?_
      clear hK K
      try simp only [Act.put, List.setIfInBounds_toArray, List.set_cons_zero, List.set_cons_succ]
      refine wpAnyL_ready (rs := [5]) (by kernel_rfl) (by simp) ?_
      refine AllL.cons rfl (fun K hK => ?_) AllL.nil
      rw [if_pos (by kernel_rfl)]
      refine wp_append_fresh _ (.tmp 20) (.tmp 23) 25 rfl (w.heap.size + 2) 35 j0 (.agg #[.int .i64 0, .int .u32 0]) 2 16 Tryd.underlying25 HJ.out.1 HJ.out.2.1 HJ.out.2.2.1 HJ.out.2.2.2 rfl (by decide) v5 i ((refsTo i).flatMap rrow) rfl P2.row ⟨w3.heap.size, 0, none⟩ 1 1 [.int .i64 (i : Int), .int .u32 1] rfl rfl (cell_list_blk T4) (by simp [Value.oneCell']) (by decide) (by unfold maxLen; omega) (by omega) P2.size ?_
      intro w5 W5 ho hg hf
      obtain ⟨g5, c5, rfl⟩ := ownsRow_succ ho
      have hn6 : some (w.heap.size + 1) ≠ v5.ownBlock := fun e => by have := (P2.lt5 _ e.symm).1; omega
      have hn5 : some w.heap.size ≠ v5.ownBlock := fun e => by have := (P2.lt5 _ e.symm).1; omega
      have P3 : InnW w k p Ab cb l 0 v5 (.slice (some ⟨g5, 0, none⟩) (i + 1) c5) (i + 1) W5 := ⟨P2.below.grown hg P2.below.size (fun g e => by have := (P2.lt5 _ e).1; omega), P2.out.grown hg hn5, P2.node.grown hg hn6, by rw [refsTo_succ]; exact ho, Nat.le_trans P2.size hg.size⟩
      clear ho hg hf P2 T4
      refine hK.out _ _ (fun _ => P3.node.cell 5) ?_
      clear hK K
      try simp only [Act.put, List.setIfInBounds_toArray, List.set_cons_zero, List.set_cons_succ]
      refine wpAnyL_take (i := 6) (v := ?_) rfl (by kernel_rfl) (by kernel_rfl) (by kernel_rfl) (by kernel_rfl) (fun _ _ _ h => h) (Or.inl ⟨by rfl, ?_⟩) (P3.node.cell 5) ?_
      rotate_left
      · (intro w hSw; (try dsimp only at hSw); go_simp <;> with_reducible rfl)
      try simp only [Act.put, List.setIfInBounds_toArray, List.set_cons_zero, List.set_cons_succ]
      refine wpAnyL_ready (rs := [7]) (by kernel_rfl) (by simp) ?_
      refine AllL.cons rfl (fun K hK => ?_) AllL.nil
      have f5 := P3.node.frozen 5
      have e5 := P3.node.cell 5
      simp at e5
      have l5 := P3.node.lt
      have hn6 : some (w.heap.size + 1) ≠ (Value.slice (some ⟨g5, 0, none⟩) (i + 1) c5).ownBlock := fun e => by have := (P3.lt5 _ e.symm).1; omega
      have hg5 : W5.grownBy (W5.setCell ⟨w.heap.size + 1, 5, none⟩ (.slice (some ⟨g5, 0, none⟩) (i + 1) c5)) (some (w.heap.size + 1)) := grown_setCell ⟨rfl, rfl, rfl, Nat.le_refl _, fun _ _ _ => rfl⟩ 5 (.slice (some ⟨g5, 0, none⟩) (i + 1) c5)
      have P4 : InnW w k p Ab cb l 0 (.slice (some ⟨g5, 0, none⟩) (i + 1) c5) (.slice (some ⟨g5, 0, none⟩) (i + 1) c5) (i + 1) (W5.setCell ⟨w.heap.size + 1, 5, none⟩ (.slice (some ⟨g5, 0, none⟩) (i + 1) c5)) := ⟨P3.below.grown hg5 P3.below.size (fun g e => by injection e with e; omega), P3.out.grown hg5 (fun e => by injection e with e; omega), by have q := P3.node.set_ 5 (.slice (some ⟨g5, 0, none⟩) (i + 1) c5); simpa using q, P3.row.kept hg5 (.inr (Ne.symm hn6)), by simpa [World.setCell] using P3.size⟩
      have HP4 := Lib.hid P4
      clear P3 P4 hg5 hn6 hn5
      go_simp
      refine hK.out _ _ (fun h => Bool.noConfusion (show true = false from h)) ?_
      clear hK K e5 f5 l5
      try simp only [Act.put, List.setIfInBounds_toArray, List.set_cons_zero, List.set_cons_succ]
      refine wpAnyL_done (by kernel_rfl) ?_ _
      refine (‹∀ (a : Act) (w : World), Code.wp Tryd.prog _ _ a w → _› _ _ ?_)
      go_wp2
      go_roundw
      case rel => exact ⟨i + 1, by omega, by go_num, (.slice (some ⟨g5, 0, none⟩) (i + 1) c5), HP4⟩
      case measure => simp [intOf]; omega
    · obtain rfl : i = l.length := by omega
      have i1 : ¬ ((l.length : Int) < (l.length : Int)) := by omega
      obtain ⟨n0, n1, n2, n3, n4, n5⟩ := cells6 HW.out.node
      obtain ⟨d0, d1, d2, d3, d4, d5⟩ := cells6 HW.out.out
      have fz0 := HW.out.out.frozen 0
      have fz1 := HW.out.out.frozen 1
      have fz2 := HW.out.out.frozen 2
      have fz3 := HW.out.out.frozen 3
      have fz4 := HW.out.out.frozen 4
      have fz5 := HW.out.out.frozen 5
      have l6 := HW.out.out.lt
      obtain ⟨VV, hV, hg, q6⟩ := six_stores (.int .i64 k) (.string { data := #[] }) (.string { data := #[] }) (.string p) (.slice Ab l.length cb) v5 HW.out.out
      have hs : ∃ A5 c5, v5 = .slice A5 l.length c5 ∧ ∀ ad, A5 = some ad → w.heap.size + 2 ≤ ad.block := by
        rcases HW.out.row.2 with ⟨rfl, e⟩ | ⟨g, cap, cur, rfl, hbg, _⟩
        · exact ⟨none, 0, by rw [e], fun ad e => by cases e⟩
        · exact ⟨some ⟨g, 0, none⟩, cap, rfl, fun ad e => by injection e with e; subst e; exact hbg⟩
      obtain ⟨A5, c5, rfl, hA5⟩ := hs
      have HG := Lib.hid (And.intro hg hA5)
      clear hg hA5
      go_wp2
      rw [← hV]
      clear hV d0 d1 d2 d3 d4 d5 fz0 fz1 fz2 fz3 fz4 fz5 n0 n1 n2 n3 n4 n5
      obtain ⟨c0, c1, c2, c3, c4, c6⟩ := cells6 q6
      have hkl : (innerNd k p l).kids.length = l.length := by simp [innerNd]
      have hr5 := reads_own HW.out.row
      have hbV := HW.out.below.grown HG.out.1 HW.out.below.size (fun g e => by injection e with e; omega)
      refine bodyPost_ret (v := .agg #[.int .i64 k, .string { data := #[] }, .string { data := #[] }, .string p, .slice Ab l.length cb, .slice A5 l.length c5]) (by simp [results, Tryd.results6, go_sem, c0, c1, c2, c3, c4, c6]) rfl ⟨_, rfl, ⟨⟨HL.out.1, HL.out.2.2.2, ?_, ?_, ?_, ?_, ?_, HL.out.2.1⟩, Ab, cb, A5, c5, ?_, ?_, ?_⟩, hbV, ?_⟩
      · intro r hr
        obtain ⟨j, hj, rfl⟩ := List.mem_map.1 hr
        have := List.mem_range.1 hj
        exact ⟨⟨by dsimp only; omega, by dsimp only; omega⟩, by dsimp only; decide, by dsimp only; decide⟩
      · show l.length ≤ _; omega
      · rw [hkl]; omega
      · exact Nat.zero_le _
      · exact Nat.zero_le _
      · unfold Nd.v; rw [hkl]; rfl
      · exact (HL.out.2.2.1.below hbV).more hbV.size
      · rw [hkl]; exact reads_off hr5 HG.out.1 (fun ad e => by have := HG.out.2 ad e; omega)
      · intro g hg
        rcases mem_rowsOf hg with ⟨ad, e, _, rfl⟩ | ⟨ad, e, _, rfl⟩
        · exact .inr ⟨ad, e, rfl⟩
        · have := HG.out.2 ad e; exact .inl (by omega)
end Go.Proofs.YtgjgcbemgmkncaaDoor
namespace Go.Proofs.YtgjgcbemgmkncaaDoor
open Go.RowKit Go.Shelf
set_option linter.unusedVariables false
set_option linter.unusedSimpArgs false

def f4 : Kids := fun i => if 1 ≤ i ∧ i ≤ 4 then some ((i : Int) - 1, 1) else none
def f5 : Kids := setK f4 0 (some (9, 1))
def n4 : Nd := innerNd 2 { data := #[] } [1, 2, 3, 4]
def n5 : Nd := ⟨3, { data := #[] }, { data := #[] }, { data := #[] }, [0, 1, 2, 3, 4], [(9, 1), (0, 1), (1, 1), (2, 1), (3, 1)]⟩
def n4b : Nd := ⟨2, { data := #[] }, { data := #[] }, { data := #[] }, [0, 1, 2, 4], [(9, 1), (0, 1), (1, 1), (3, 1)]⟩
theorem f4_ok : KidsOk f4 := by
  refine ⟨fun b hb => ?_, fun b r h => ?_⟩
  · unfold f4; rw [if_neg (by omega)]
  · unfold f4 at h
    split at h
    · rename_i hc
      injection h with h; subst h
      refine ⟨?_, ⟨?_, ?_⟩, ?_⟩
      · unfold kidN; simp; omega
      · dsimp only; omega
      · dsimp only; omega
      · dsimp only; omega
    · cases h
theorem f5_ok : KidsOk f5 := f4_ok.set (by decide) (by decide) (by unfold refOk; decide)
theorem n4_eq : n4 = ofNd zeroNd f4 2 := by kernel_rfl
theorem n5_eq : n5 = ofNd zeroNd f5 3 := by kernel_rfl
theorem n4b_eq : n4b = ofNd zeroNd (setK f5 3 none) 2 := by kernel_rfl
theorem f4_cnt : cntK f4 = 4 := by kernel_rfl
theorem f5_cnt : cntK f5 = 5 := by kernel_rfl
theorem f4_kind : kindK f4 = 2 := by unfold kindK; rw [f4_cnt]; rfl
theorem f5_kind : kindK f5 = 3 := by unfold kindK; rw [f5_cnt]; rfl
theorem n5_add : addN n4 0 (9, 1) false = (n5, 0) := by
  rw [n4_eq, ← f4_kind, add_low (9, 1) (by decide) f4_ok (by decide) (by rw [f4_cnt]; decide) (by decide), if_neg (by decide), n5_eq]
  show (ofNd zeroNd f5 (kindK f5), (0 : Int)) = _
  rw [f5_kind]
theorem n4b_cut : cutN n5 3 false = (n4b, 0) := by
  have hk : kindK (setK f5 3 none) = 2 := by
    unfold kindK
    rw [show cntK (setK f5 3 none) = 4 by kernel_rfl]; rfl
  rw [n5_eq, ← f5_kind, cut_low (by decide) f5_ok (by decide) (by rw [f5_cnt]; decide), if_pos (by decide), hk, n4b_eq]
theorem n4_full : n4.full = true := by
  unfold Nd.full
  rw [show n4.may = true by rw [n4_eq, ← f4_kind]; exact (right_low f4_ok (by decide) (by rw [f4_cnt]; decide)).2]
  rfl
theorem n4_right : n4.isRight = true := by rw [n4_eq, ← f4_kind]; exact (right_low f4_ok (by decide) (by rw [f4_cnt]; decide)).1
/-- The first so many bytes. -/
def topK (k : Nat) : Kids := fun i => if i < k then some ((i : Int), 1) else none
def topN (k : Nat) : Nd := ofNd zeroNd (topK k) 5
theorem topK_ok {k : Nat} (hk : k ≤ 256) : KidsOk (topK k) := by
  refine ⟨fun b hb => ?_, fun b r h => ?_⟩
  · unfold topK; rw [if_neg (by omega)]
  · unfold topK at h
    split at h
    · injection h with h; subst h
      refine ⟨?_, ⟨?_, ?_⟩, ?_⟩
      · unfold kidN; simp; omega
      · dsimp only; omega
      · dsimp only; omega
      · dsimp only; omega
    · cases h
theorem topK_succ (k : Nat) : setK (topK k) k (some ((k : Int), 1)) = topK (k + 1) := by
  funext i
  unfold setK topK
  by_cases h : i = k
  · subst h; rw [if_pos rfl, if_pos (by omega)]
  · rw [if_neg h]
    by_cases h2 : i < k
    · rw [if_pos h2, if_pos (by omega)]
    · rw [if_neg h2, if_neg (by omega)]
theorem topN_zero : innerNd 5 { data := #[] } [] = topN 0 := by kernel_rfl
theorem topN_add {k : Nat} (hk : k < 256) : addN (topN k) k ((k : Int), 1) true = (topN (k + 1), 0) := by
  unfold topN
  rw [add_top ((k : Int), 1) hk (topK_ok (by omega)) rfl (by unfold kidN; simp; omega), if_neg (by unfold topK; rw [if_neg (by omega)]; simp), topK_succ]
theorem top17_cnt : cntK (topK 17) = 17 := by kernel_rfl
theorem top17_anchor : (topN 17).isAnchor = true := (may_top (topK_ok (by decide)) rfl).2
theorem top17_right : (topN 17).isRight = false := by
  unfold topN
  rw [right_ofNd (topK_ok (by decide)) (by decide) (by decide), top17_cnt]
  rfl
theorem top17_len : (topN 17).kids.length = 17 := by unfold topN; rw [(len_ofNd _ _ _).1, top17_cnt]
end Go.Proofs.YtgjgcbemgmkncaaDoor
namespace Go.Proofs.YtgjgcbemgmkncaaDoor
open Go.RowKit Go.Shelf
set_option linter.unusedVariables false
set_option linter.unusedSimpArgs false

theorem reads_off2 {W V : World} {size n c : Nat} {A : Option Addr} {xs : List Value} (h : Reads W W.heap.size size A n xs) (hg : W.grownBy V (some c)) (hne : 0 < n → ∀ ad, A = some ad → ad.block ≠ c) : Reads V V.heap.size size A n xs := by
  refine ⟨h.1, fun hn => ?_⟩
  obtain ⟨ad, e, hb, hc⟩ := h.2 hn
  refine ⟨ad, e, Nat.lt_of_lt_of_le hb hg.size, fun j u hu => ?_⟩
  have hbl : (ad.add j).block = ad.block := block_of_add ad j
  refine (World.cell?_of_block ?_).trans (hc j u hu)
  rw [hbl]
  exact hg.block _ hb (fun e2 => hne hn ad e (by injection e2))
theorem rows_mem4 {v0 v1 v2 v3 : Value} {ad : Addr} {A5 : Option Addr} {l4 l5 c4 c5 : Nat} (h : 0 < l4) : ad.block ∈ rowsOf (.agg #[v0, v1, v2, v3, .slice (some ad) l4 c4, .slice A5 l5 c5]) := by
  obtain ⟨m, rfl⟩ : ∃ m, l4 = m + 1 := ⟨l4 - 1, by omega⟩
  show _ ∈ blkOf (some (.slice (some ad) (m + 1) c4)) ++ _
  simp [blkOf]
theorem rows_mem5 {v0 v1 v2 v3 : Value} {ad : Addr} {A4 : Option Addr} {l4 l5 c4 c5 : Nat} (h : 0 < l5) : ad.block ∈ rowsOf (.agg #[v0, v1, v2, v3, .slice A4 l4 c4, .slice (some ad) l5 c5]) := by
  obtain ⟨m, rfl⟩ : ∃ m, l5 = m + 1 := ⟨l5 - 1, by omega⟩
  show _ ∈ _ ++ blkOf (some (.slice (some ad) (m + 1) c5))
  simp [blkOf]
theorem NdAt.rows {W : World} {x : Nd} {V : Value} (h : NdAt W x V) : ∀ g ∈ rowsOf V, g < W.heap.size := by
  obtain ⟨_, Ab, cb, Ak, ck, rfl, h2, h3⟩ := h
  intro g hg
  rcases mem_rowsOf hg with ⟨ad, e, hl, rfl⟩ | ⟨ad, e, hl, rfl⟩
  · obtain ⟨ad', e', hb, _⟩ := h2.2 hl
    rw [e] at e'; injection e' with e'; subst e'; exact hb
  · obtain ⟨ad', e', hb, _⟩ := h3.2 hl
    rw [e] at e'; injection e' with e'; subst e'; exact hb
theorem NdAt.off {W W' : World} {x : Nd} {V : Value} {g : Nat} (h : NdAt W x V) (hg : W.grownBy W' (some g)) (hn : g ∉ rowsOf V) : NdAt W' x V := by
  obtain ⟨h0, Ab, cb, Ak, ck, rfl, h2, h3⟩ := h
  refine ⟨h0, Ab, cb, Ak, ck, rfl, reads_off2 h2 hg (fun hl ad e => ?_), reads_off2 h3 hg (fun hl ad e => ?_)⟩
  · subst e; intro e2; exact hn (e2 ▸ rows_mem4 hl)
  · subst e; intro e2; exact hn (e2 ▸ rows_mem5 hl)
/-- A node's cells. -/
def Nd.c (x : Nd) (Ab : Option Addr) (cb : Nat) (Ak : Option Addr) (ck : Nat) : Array Value := #[.int .i64 x.kind, .string x.code, .string x.value, .string x.path, .slice Ab x.bytes.length cb, .slice Ak x.kids.length ck]
theorem v_eq (x : Nd) (Ab : Option Addr) (cb : Nat) (Ak : Option Addr) (ck : Nat) : x.v Ab cb Ak ck = .agg (x.c Ab cb Ak ck) := rfl
/-- The node x lies in block g. -/
structure BoxAt (W : World) (g : Nat) (x : Nd) (Ab : Option Addr) (cb : Nat) (Ak : Option Addr) (ck : Nat) : Prop where
  blk : Blk W g 27 (x.c Ab cb Ak ck)
  node : NdAt W x (x.v Ab cb Ak ck)
section
variable {W W' : World} {g : Nat} {x : Nd} {Ab Ak : Option Addr} {cb ck : Nat}
theorem BoxAt.below (h : BoxAt W g x Ab cb Ak ck) (hb : Below W.heap.size W W') : BoxAt W' g x Ab cb Ak ck := ⟨h.blk.below hb h.blk.lt, h.node.below hb⟩
theorem BoxAt.off (h : BoxAt W g x Ab cb Ak ck) {c : Nat} (hg : W.grownBy W' (some c)) (hne : g ≠ c) (hn : c ∉ rowsOf (x.v Ab cb Ak ck)) : BoxAt W' g x Ab cb Ak ck :=
  ⟨h.blk.grown hg (fun e => hne (by injection e)), h.node.off hg hn⟩
theorem BoxAt.cells (h : BoxAt W g x Ab cb Ak ck) : W.cell? ⟨g, 0, none⟩ = some (.int .i64 x.kind) ∧ W.cell? ⟨g, 1, none⟩ = some (.string x.code) ∧ W.cell? ⟨g, 2, none⟩ = some (.string x.value) ∧ W.cell? ⟨g, 3, none⟩ = some (.string x.path) ∧ W.cell? ⟨g, 4, none⟩ = some (.slice Ab x.bytes.length cb) ∧ W.cell? ⟨g, 5, none⟩ = some (.slice Ak x.kids.length ck) := cells6 h.blk
theorem BoxAt.lt (h : BoxAt W g x Ab cb Ak ck) : g < W.heap.size := h.blk.lt
theorem BoxAt.frozen (h : BoxAt W g x Ab cb Ak ck) : W.frozen? ⟨g, 0, none⟩ = false ∧ W.frozen? ⟨g, 1, none⟩ = false ∧ W.frozen? ⟨g, 2, none⟩ = false ∧ W.frozen? ⟨g, 3, none⟩ = false ∧ W.frozen? ⟨g, 4, none⟩ = false ∧ W.frozen? ⟨g, 5, none⟩ = false :=
  ⟨h.blk.frozen 0, h.blk.frozen 1, h.blk.frozen 2, h.blk.frozen 3, h.blk.frozen 4, h.blk.frozen 5⟩
/-- The six stores of a node into a box. -/
theorem store_node {d0 d1 d2 d3 d4 d5 : Value} {t : TypeId} (hq : Blk W g t #[d0, d1, d2, d3, d4, d5]) (ht : t = 27) (h : NdAt W x (x.v Ab cb Ak ck)) (hn : g ∉ rowsOf (x.v Ab cb Ak ck)) :
    ∃ V, V = (((((W.setCell ⟨g, 0, none⟩ (.int .i64 x.kind)).setCell ⟨g, 1, none⟩ (.string x.code)).setCell ⟨g, 2, none⟩ (.string x.value)).setCell ⟨g, 3, none⟩ (.string x.path)).setCell ⟨g, 4, none⟩ (.slice Ab x.bytes.length cb)).setCell ⟨g, 5, none⟩ (.slice Ak x.kids.length ck) ∧ W.grownBy V (some g) ∧ BoxAt V g x Ab cb Ak ck := by
  subst ht
  obtain ⟨V, hV, hg, hq2⟩ := six_stores (.int .i64 x.kind) (.string x.code) (.string x.value) (.string x.path) (.slice Ab x.bytes.length cb) (.slice Ak x.kids.length ck) hq
  exact ⟨V, hV, hg, hq2, h.off hg hn⟩
end
end Go.Proofs.YtgjgcbemgmkncaaDoor
namespace Go.Proofs.YtgjgcbemgmkncaaDoor
open Go.RowKit Go.Shelf
set_option linter.unusedVariables false
set_option linter.unusedSimpArgs false

theorem open_nd {W : World} {x : Nd} {V : Value} (h : NdAt W x V) : ∃ Ab cb Ak ck, V = x.v Ab cb Ak ck ∧ NdAt W x (x.v Ab cb Ak ck) := by
  have h' := h
  obtain ⟨_, Ab, cb, Ak, ck, rfl, _, _⟩ := h'
  exact ⟨Ab, cb, Ak, ck, rfl, h⟩
end Go.Proofs.YtgjgcbemgmkncaaDoor
