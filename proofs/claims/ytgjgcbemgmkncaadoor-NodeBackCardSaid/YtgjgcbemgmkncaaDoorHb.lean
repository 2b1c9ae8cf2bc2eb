/-
  Layer 8: Turn.
  Layer 9: Turn.
  Layer 9: every inner node is made of kids; great; Find and Turn of such a node.
  NodeBack: what stands between its stages.
  NodeBack: the last three regions.
  NodeBack: the kinds and what Turn said.
  NodeBack: the loop: a region.
  NodeBack: the loop: the comparison.
  NodeBack: the loop.
-/
import Derived.Test.YtgjgcbemgmkncaaDoorGb
import Derived.Test.YtgjgcbemgmkncaaDoorGf
import Derived.Test.YtgjgcbemgmkncaaDoorGi
import Derived.Test.YtgjgcbemgmkncaaDoorHa
import Derived.Test.YtgjgcbemgmkncaaDoorGg
namespace Go.Proofs.YtgjgcbemgmkncaaDoor
open Go.RowKit Go.Shelf
set_option linter.unusedVariables false
set_option linter.unusedSimpArgs false

theorem mrep_turn {o : ManyO} {room : Nat} {f : Kids} (h : o.rep room f) {b p : Nat} (hb : b < 256) (hp : p < room) (hat : o.at_ b = p + 1) (hu : o.used p = true) (r : Int × Int) : (o.setRef p r).rep room (setK f b (some r)) := by
  refine ⟨?_, ?_, ?_, ?_⟩
  · intro x q hx hq
    dsimp only [ManyO.setRef, setR, setK] at hq ⊢
    by_cases hxb : x = b
    · rw [if_pos hxb] at hq
      subst hxb
      injection hq with hq
      exact ⟨p, hp, hat, hu, by rw [if_pos rfl, hq]⟩
    · rw [if_neg hxb] at hq
      obtain ⟨p', h1, h2, h3, h4⟩ := h.some_ x q hx hq
      have hne : p' ≠ p := fun e => hxb (h.inj x b hx hb (by rw [h2, hat, e]) (by omega))
      exact ⟨p', h1, h2, h3, by rw [if_neg hne]; exact h4⟩
  · intro x hx hq
    dsimp only [ManyO.setRef, setK] at hq ⊢
    by_cases hxb : x = b
    · rw [if_pos hxb] at hq; cases hq
    · rw [if_neg hxb] at hq; exact h.none_ x hx hq
  · exact h.inj
  · exact h.onto
theorem MBlk.turned {w : World} {g gr gu room : Nat} {o : ManyO} (h : MBlk w g gr gu room o) {p : Nat} (r : Int × Int) (hp : p < room) :
    MBlk ((w.setCell ⟨gr, p * 2, none⟩ (.int .i64 r.1)).setCell ⟨gr, p * 2 + 1, none⟩ (.int .u32 r.2)) g gr gu room (o.setRef p r) := by
  obtain ⟨h1, h2, h3⟩ := h
  have n1 : g ≠ gr := blk_neF h1 h2 (by decide)
  have n3 : gr ≠ gu := blk_neF h2 h3 (by decide)
  refine ⟨(h1.far (p := ⟨gr, p * 2, none⟩) n1 (.int .i64 r.1)).far (p := ⟨gr, p * 2 + 1, none⟩) n1 (.int .u32 r.2), ?_, (h3.far (p := ⟨gr, p * 2, none⟩) (Ne.symm n3) (.int .i64 r.1)).far (p := ⟨gr, p * 2 + 1, none⟩) (Ne.symm n3) (.int .u32 r.2)⟩
  have k := (h2.set_ (p * 2) (.int .i64 r.1)).set_ (p * 2 + 1) (.int .u32 r.2)
  rw [List.setIfInBounds_toArray, List.setIfInBounds_toArray, rcells_set o room p r hp] at k
  exact k
set_option maxHeartbeats 1600000 in
set_option maxRecDepth 100000 in
theorem Turn_m (g gr gu room : Nat) (f : Kids) (b : Nat) (r : Int × Int) (w : World) (h : ManyAt w g gr gu room f) (hb : b < 256) :
    Calls Tryd.prog 93 #[.pointer (some ⟨g, 0, none⟩), .int .u8 (b : Int), refV r] w (ManyEnd (.int .i64 (turnK f b r).1) g gr gu room (turnK f b r).2 w) := by
  have hlt := h.lt
  have h1 := h.below (below_box w (.cells #[.int .i64 r.1, .int .u32 r.2] 35))
  have HT := Lib.hid (there_m h1)
  have HH := Lib.hid (has_m h1 hb)
  have H1 := Lib.hid h1
  have i1 : (0 : Int) ≤ (b : Int) := by omega
  have i2 : (b : Int) ≤ 255 := by omega
  have sw : IntKind.i64.wrap (b : Int) = (b : Int) := IntWalk.i64_in _ (by omega)
  unfold turnK
  cases hf : f b with
  | none =>
    rw [hf] at HH
    simp only [Option.isSome_none] at HH
    clear hf h h1
    rw [if_neg (by simp)]
    dsimp only
    unfold refV
    go_enter Tryd.func93, Tryd.ntmps93
    go_wp2_with fail
    refine HT.out.mono ?_
    rintro e w1 ⟨rfl, rfl⟩
    go_wp2_with fail
    refine HH.out.mono ?_
    rintro e w2 ⟨rfl, rfl⟩
    go_wp2
    go_ret
    exact ⟨rfl, H1.out, (Three.refl g gr gu w).alloc _⟩
  | some q =>
    rw [hf] at HH
    simp only [Option.isSome_some] at HH
    rw [if_pos (by simp)]
    dsimp only
    have hr := Blk.new w 35 #[.int .i64 r.1, .int .u32 r.2]
    obtain ⟨o, o1, o2, o3, o4⟩ := h1
    obtain ⟨p, k1, k2, k3, k4⟩ := o1.some_ b q hb hf
    have HL := Lib.hid (fun V hV => mref g gr gu room o b p V hV hb k1 o4 k2)
    have HM1 := Lib.hid o2
    have m2 : w.heap.size ≠ gr := by omega
    have b0 : (w.alloc (.cells #[.int .i64 r.1, .int .u32 r.2] 35)).cell? ⟨w.heap.size, 0, none⟩ = some (.int .i64 r.1) := hr.cell 0
    have b1 : (w.alloc (.cells #[.int .i64 r.1, .int .u32 r.2] 35)).cell? ⟨w.heap.size, 1, none⟩ = some (.int .u32 r.2) := hr.cell 1
    have HB := Lib.hid (And.intro b0 b1)
    have HW : Hid (∀ k, ManyAt ((((w.alloc (.cells #[.int .i64 r.1, .int .u32 r.2] 35)).drew.drewN k).setCell ⟨gr, p * 2, none⟩ (.int .i64 r.1)).setCell ⟨gr, p * 2 + 1, none⟩ (.int .u32 r.2)) g gr gu room (setK f b (some r))) := Lib.hid (fun k => ⟨_, mrep_turn o1 hb k1 k2 k3 r, (o2.drew.drewN k).turned r k1, o3, o4⟩)
    have HT3 : Hid (∀ k, Three g gr gu w ((((w.alloc (.cells #[.int .i64 r.1, .int .u32 r.2] 35)).drew.drewN k).setCell ⟨gr, p * 2, none⟩ (.int .i64 r.1)).setCell ⟨gr, p * 2 + 1, none⟩ (.int .u32 r.2))) := Lib.hid (fun k => by
      have h0 : Three g gr gu w ((w.alloc (.cells #[.int .i64 r.1, .int .u32 r.2] 35)).drew.drewN k) := by
        have := (Three.refl g gr gu w).alloc (.cells #[.int .i64 r.1, .int .u32 r.2] 35)
        exact ⟨this.os, this.tape, this.output, this.size, this.block⟩
      exact (h0.setCell ⟨gr, p * 2, none⟩ _ (.inr (.inl rfl))).setCell ⟨gr, p * 2 + 1, none⟩ _ (.inr (.inl rfl)))
    obtain ⟨c2, c3⟩ := o2.ref k1
    have HC := Lib.hid (And.intro c2 c3)
    have HF := Lib.hid (And.intro o2.2.1 o2.2.1.lt)
    clear hf h o1 o2 k2 k3 k4 hr b0 b1 c2 c3
    unfold refV
    go_enter Tryd.func93, Tryd.ntmps93
    go_wp2_with fail
    refine HT.out.mono ?_
    rintro e w1 ⟨rfl, rfl⟩
    go_wp2_with fail
    refine HH.out.mono ?_
    rintro e w2 ⟨rfl, rfl⟩
    go_wp2_with fail
    refine wp_region_held_drew (S := (fun V : World => V.cell? ⟨w.heap.size, 0, none⟩ = some (.int .i64 r.1) ∧ V.cell? ⟨w.heap.size, 1, none⟩ = some (.int .u32 r.2))) (by kernel_rfl) ?_ (fun hHeld0 => ?_)
    · exact ⟨HB.out.1, HB.out.2⟩
    refine wpAnyH_take (i := 0) (v := ?_) rfl (by kernel_rfl) (by kernel_rfl) (by kernel_rfl) (fun _ _ _ h => h) (Or.inl ⟨by rfl, ?_⟩) hHeld0 ?_
    rotate_left
    · (intro w hSw; (try dsimp only at hSw); go_simp <;> with_reducible rfl)
    try simp only [Act.put, List.setIfInBounds_toArray, List.set_cons_zero, List.set_cons_succ]
    refine wpAnyH_take (i := 1) (v := ?_) rfl (by kernel_rfl) (by kernel_rfl) (by kernel_rfl) (fun _ _ _ h => h) (Or.inl ⟨by rfl, ?_⟩) hHeld0 ?_
    rotate_left
    · (intro w hSw; (try dsimp only at hSw); go_simp <;> with_reducible rfl)
    try simp only [Act.put, List.setIfInBounds_toArray, List.set_cons_zero, List.set_cons_succ]
    refine wpAnyH_take (i := 2) (v := ?_) rfl (by kernel_rfl) (by kernel_rfl) (by kernel_rfl) (fun _ _ _ h => h) (Or.inl ⟨by rfl, ?_⟩) hHeld0 ?_
    rotate_left
    · (intro w hSw; (try dsimp only at hSw); go_simp <;> with_reducible rfl)
    try simp only [Act.put, List.setIfInBounds_toArray, List.set_cons_zero, List.set_cons_succ]
    refine wpAnyH_take (i := 3) (v := ?_) rfl (by kernel_rfl) (by kernel_rfl) (by kernel_rfl) (fun _ _ _ h => h) (Or.inl ⟨by rfl, ?_⟩) hHeld0 ?_
    rotate_left
    · (intro w hSw; (try dsimp only at hSw); go_simp <;> with_reducible rfl)
    try simp only [Act.put, List.setIfInBounds_toArray, List.set_cons_zero, List.set_cons_succ]
    refine wpAnyH_take (i := 4) (v := ?_) rfl (by kernel_rfl) (by kernel_rfl) (by kernel_rfl) (fun _ _ _ h => h) (Or.inl ⟨by rfl, ?_⟩) hHeld0 ?_
    rotate_left
    · (intro w hSw; (try dsimp only at hSw); go_simp <;> with_reducible rfl)
    try simp only [Act.put, List.setIfInBounds_toArray, List.set_cons_zero, List.set_cons_succ]
    refine wpAnyH_take (i := 6) (v := ?_) rfl (by kernel_rfl) (by kernel_rfl) (by kernel_rfl) (fun _ _ _ h => h) (Or.inl ⟨by rfl, ?_⟩) hHeld0 ?_
    rotate_left
    · (intro w hSw; (try dsimp only at hSw); go_simp <;> with_reducible rfl)
    try simp only [Act.put, List.setIfInBounds_toArray, List.set_cons_zero, List.set_cons_succ]
    refine wpAnyH_ready (rs := [5]) (by kernel_rfl) (by simp) ?_
    refine AllReadyH.cons rfl (fun K hK => ?_) ?_
    · go_simp
      refine (HL.out _ HM1.out.drew).mono ?_
      rintro e w3 ⟨rfl, k, rfl⟩
      have hm := HM1.out.drew.drewN k
      have hw := HW.out k
      have ht := HT3.out k
      have hbb : ((w.alloc (.cells #[.int .i64 r.1, .int .u32 r.2] 35)).drew.drewN k).cell? ⟨w.heap.size, 0, none⟩ = some (.int .i64 r.1) ∧ ((w.alloc (.cells #[.int .i64 r.1, .int .u32 r.2] 35)).drew.drewN k).cell? ⟨w.heap.size, 1, none⟩ = some (.int .u32 r.2) := ⟨HB.out.1, HB.out.2⟩
      generalize ((w.alloc (.cells #[.int .i64 r.1, .int .u32 r.2] 35)).drew.drewN k) = w4 at hm hw ht hbb ⊢
      refine hK.out _ _ ?_ (fun hHeld1 => ?_)
      · exact hbb
      clear hK K hHeld0
      try simp only [Act.put, List.setIfInBounds_toArray, List.set_cons_zero, List.set_cons_succ]
      refine wpAnyH_take (i := 7) (v := ?_) rfl (by kernel_rfl) (by kernel_rfl) (by kernel_rfl) (fun _ _ _ h => h) (Or.inl ⟨by rfl, ?_⟩) hHeld1 ?_
      rotate_left
      · (intro w hSw; (try dsimp only at hSw); go_simp <;> with_reducible rfl)
      try simp only [Act.put, List.setIfInBounds_toArray, List.set_cons_zero, List.set_cons_succ]
      refine wpAnyH_ready (rs := [8]) (by kernel_rfl) (by simp) ?_
      refine AllReadyH.cons rfl (fun K hK => ?_) ?_
      · obtain ⟨d0, d1⟩ := hm.ref k1
        have fz0 := hm.2.1.frozen (p * 2)
        have fz1 := hm.2.1.frozen (p * 2 + 1)
        have l6 := hm.2.1.lt
        have HQ := Lib.hid (And.intro hw ht)
        have hbn : ((w4.setCell ⟨gr, p * 2, none⟩ (.int .i64 r.1)).setCell ⟨gr, p * 2 + 1, none⟩ (.int .u32 r.2)).cell? ⟨w.heap.size, 0, none⟩ = some (.int .i64 r.1) ∧ ((w4.setCell ⟨gr, p * 2, none⟩ (.int .i64 r.1)).setCell ⟨gr, p * 2 + 1, none⟩ (.int .u32 r.2)).cell? ⟨w.heap.size, 1, none⟩ = some (.int .u32 r.2) := by
          constructor
          · rw [World.cell?_of_block ((Below.heap_setCell _ _ _ _ m2).trans (Below.heap_setCell _ _ _ _ m2))]; exact hbb.1
          · rw [World.cell?_of_block ((Below.heap_setCell _ _ _ _ m2).trans (Below.heap_setCell _ _ _ _ m2))]; exact hbb.2
        clear hm hw ht
        go_simp
        refine hK.out _ _ ?_ (fun hHeld2 => ?_)
        · exact hbn
        clear hK K hHeld1
        try simp only [Act.put, List.setIfInBounds_toArray, List.set_cons_zero, List.set_cons_succ]
        refine wpAnyH_done (by kernel_rfl) ?_ _
        refine (‹∀ (a : Act) (w : World), Code.wp Tryd.prog _ _ a w → _› _ _ ?_)
        go_wp2
        go_ret
        exact ⟨rfl, HQ.out.1, HQ.out.2⟩
      exact AllReadyH.nil
    exact AllReadyH.nil
end Go.Proofs.YtgjgcbemgmkncaaDoor
namespace Go.Proofs.YtgjgcbemgmkncaaDoor
open Go.RowKit Go.Shelf
set_option linter.unusedVariables false
set_option linter.unusedSimpArgs false

def turnN (x : Nd) (b : Nat) (r : Int × Int) : Nd × Int :=
  if x.may = false ∨ kidN r = false then (zeroNd, 4)
  else if (turnK (x.row (roomN x.kind)) b r).1 = 0 then (ofNd x (turnK (x.row (roomN x.kind)) b r).2 x.kind, 0)
  else (zeroNd, (turnK (x.row (roomN x.kind)) b r).1)
theorem turn_refOk {f : Kids} (hf : ∀ b r, f b = some r → refOk r) (c : Nat) {r : Int × Int} (hr : refOk r) : ∀ b q, (turnK f c r).2 b = some q → refOk q := by
  unfold turnK
  split
  · exact set_refOk hf c hr
  · exact hf
theorem turn_iface {W : World} {iv : Value} {room : Int} {f : Kids} {bl : List Nat} (b : Nat) (r : Int × Int) (h : RowAt W iv room f bl) (hb : b < 256) : ∃ (T : TypeId) (g fid : Nat), iv = .iface T (.pointer (some ⟨g, 0, none⟩)) ∧ (∀ V : World, (method 244 T (.pointer (some ⟨g, 0, none⟩)) "Turn").run Tryd.prog V = .ok (fid, .pointer (some ⟨g, 0, none⟩)) V) ∧ (∀ args V, (callFunc fid args).run Tryd.prog V = .ok (.enter fid args) V) ∧
    Calls Tryd.prog fid #[.pointer (some ⟨g, 0, none⟩), .int .u8 (b : Int), refV r] W (RowEndI (.int .i64 (turnK f b r).1) iv room (turnK f b r).2 bl W) := by
  rcases h with ⟨g, rfl, rfl, hf⟩ | ⟨g, gr, gu, n, rfl, rfl, rfl, hf⟩
  · refine ⟨_, g, _, rfl, few_Turn_me g, enters_of Tryd.func78 (by kernel_rfl) rfl, (Turn_k g room f b r W hf hb).mono ?_⟩
    rintro e w' ⟨rfl, h1, h2⟩
    exact ⟨rfl, .inl ⟨g, rfl, rfl, h1⟩, kept_grown h2⟩
  · refine ⟨_, g, _, rfl, many_Turn_me g, enters_of Tryd.func93 (by kernel_rfl) rfl, (Turn_m g gr gu n f b r W hf hb).mono ?_⟩
    rintro e w' ⟨rfl, h1, h2⟩
    exact ⟨rfl, .inr ⟨g, gr, gu, n, rfl, rfl, rfl, h1⟩, kept_three h2⟩
set_option maxHeartbeats 3200000 in
set_option maxRecDepth 100000 in
theorem turn_no (x : Nd) (V : Value) (b : Nat) (r : Int × Int) (w : World) (h : NdAt w x V) (hr : RoomsAt w) (hno : x.may = false ∨ kidN r = false) : Calls Tryd.prog 16 #[V, .int .u8 (b : Int), refV r] w (NdPair zeroNd 4 w) := by
  have h' := h
  obtain ⟨hwf, Ab, cb, Ak, ck, rfl, _, _⟩ := h'
  have h4 := add_start w x r #[.int .i64 x.kind, .string x.code, .string x.value, .string x.path, .slice Ab x.bytes.length cb, .slice Ak x.kids.length ck] h hr
  have HM := Lib.hid (may_n x _ _ h4.node h4.rooms)
  have H4 := Lib.hid h4
  have HN := Lib.hid hno
  clear hwf h hr h4 hno
  unfold Nd.v refV at *
  have HC := H4
  cases hm : x.may with
  | false =>
    rw [hm] at HM
    go_enter Tryd.func16, Tryd.ntmps16
    go_wp2_with fail
    refine HM.out.mono ?_
    rintro e w1 ⟨rfl, hb⟩
    have H5 := Lib.hid (H4.out.on hb)
    obtain ⟨d0, d1, d2, d3, d4, d5⟩ := cells6 H5.out.out
    have f0 := H5.out.out.frozen 0
    have f1 := H5.out.out.frozen 1
    have f2 := H5.out.out.frozen 2
    have f3 := H5.out.out.frozen 3
    have f4 := H5.out.out.frozen 4
    have f5 := H5.out.out.frozen 5
    have l6 := H5.out.out.lt
    clear hb HM H4 HC
    obtain ⟨V, hV, hg, q6⟩ := six_stores (.int .i64 0) (.string { data := #[] }) (.string { data := #[] }) (.string { data := #[] }) (.slice none 0 0) (.slice none 0 0) H5.out.out
    go_wp2
    rw [← hV]
    clear hV d0 d1 d2 d3 d4 d5 f0 f1 f2 f3 f4 f5
    obtain ⟨c0, c1, c2, c3, c4, c5⟩ := cells6 q6
    exact bodyPost_ret (v := .tuple #[.agg #[.int .i64 0, .string { data := #[] }, .string { data := #[] }, .string { data := #[] }, .slice none 0 0, .slice none 0 0], .int .i64 4]) (by simp [results, Tryd.results16, go_sem, c0, c1, c2, c3, c4, c5]) rfl ⟨_, rfl, zeroNd_at V, H5.out.below.grown hg H5.out.below.size (fun k e => by injection e with e; omega), rowsOf_zero⟩
  | true =>
    rw [hm] at HM
    have hkid : kidN r = false := by
      rcases HN.out with e | e
      · rw [hm] at e; cases e
      · exact e
    go_enter Tryd.func16, Tryd.ntmps16
    go_wp2_with fail
    refine HM.out.mono ?_
    rintro e w1 ⟨rfl, hb⟩
    have H6 := Lib.hid (H4.out.on hb)
    have r0 : w1.cell? ⟨w.heap.size + 1, 0, none⟩ = some (.int .i64 r.1) := H6.out.ref.cell 0
    have r1 : w1.cell? ⟨w.heap.size + 1, 1, none⟩ = some (.int .u32 r.2) := H6.out.ref.cell 1
    have hk := kid_n r w1
    rw [hkid] at hk
    unfold refV at hk
    have HK := Lib.hid hk
    clear hb HM H4 HC hk hkid hm
    go_wp2_with fail
    refine HK.out.mono ?_
    rintro e w2 ⟨rfl, hb⟩
    have H5 := Lib.hid (H6.out.on hb)
    obtain ⟨d0, d1, d2, d3, d4, d5⟩ := cells6 H5.out.out
    have f0 := H5.out.out.frozen 0
    have f1 := H5.out.out.frozen 1
    have f2 := H5.out.out.frozen 2
    have f3 := H5.out.out.frozen 3
    have f4 := H5.out.out.frozen 4
    have f5 := H5.out.out.frozen 5
    have l6 := H5.out.out.lt
    clear hb HK H6 r0 r1
    obtain ⟨V, hV, hg, q6⟩ := six_stores (.int .i64 0) (.string { data := #[] }) (.string { data := #[] }) (.string { data := #[] }) (.slice none 0 0) (.slice none 0 0) H5.out.out
    go_wp2
    rw [← hV]
    clear hV d0 d1 d2 d3 d4 d5 f0 f1 f2 f3 f4 f5
    obtain ⟨c0, c1, c2, c3, c4, c5⟩ := cells6 q6
    exact bodyPost_ret (v := .tuple #[.agg #[.int .i64 0, .string { data := #[] }, .string { data := #[] }, .string { data := #[] }, .slice none 0 0, .slice none 0 0], .int .i64 4]) (by simp [results, Tryd.results16, go_sem, c0, c1, c2, c3, c4, c5]) rfl ⟨_, rfl, zeroNd_at V, H5.out.below.grown hg H5.out.below.size (fun k e => by injection e with e; omega), rowsOf_zero⟩

set_option maxHeartbeats 3200000 in
set_option maxRecDepth 100000 in
theorem turn_yes (x : Nd) (V : Value) (b : Nat) (r : Int × Int) (w : World) (h : NdAt w x V) (hr : RoomsAt w) (hb256 : b < 256) (hrok : refOk r) (hm : x.may = true) (hkd : kidN r = true) (hz : (turnK (x.row (roomN x.kind)) b r).1 = 0) : Calls Tryd.prog 16 #[V, .int .u8 (b : Int), refV r] w (fun e w' => NdPair (turnN x b r).1 (turnN x b r).2 w e w') := by
  have hin := inner_parts (may_inner hm)
  have hx2 : turnN x b r = (ofNd x (turnK (x.row (roomN x.kind)) b r).2 x.kind, 0) := by
    unfold turnN
    rw [if_neg (by rw [hm, hkd]; simp), if_pos hz]
  rw [hx2]
  clear hx2
  have hroom := roomOk_of (room_kind hin.1)
  have hpo := turn_refOk (row_refOk h.1 (roomN x.kind)) b hrok
  have h' := h
  obtain ⟨hwf, Ab, cb, Ak, ck, rfl, _, _⟩ := h'
  have h4 := add_start w x r #[.int .i64 x.kind, .string x.code, .string x.value, .string x.path, .slice Ab x.bytes.length cb, .slice Ak x.kids.length ck] h hr
  have HM := Lib.hid (may_n x _ _ h4.node h4.rooms)
  rw [hm] at HM
  have H4 := Lib.hid h4
  obtain ⟨room, hrm⟩ : ∃ room, roomN x.kind = room := ⟨_, rfl⟩
  rw [hrm] at hroom hpo hz ⊢
  obtain ⟨pc, hpc⟩ : ∃ pc, (turnK (x.row room) b r).1 = pc := ⟨_, rfl⟩
  obtain ⟨f2, hf2⟩ : ∃ f2, (turnK (x.row room) b r).2 = f2 := ⟨_, rfl⟩
  rw [hpc] at hz
  rw [hf2]
  rw [hf2] at hpo
  have HZ : Hid ((pc != 0) = false) := Lib.hid (by simp [hz])
  clear hz
  unfold Nd.row at hpc hf2
  have HPC := Lib.hid (And.intro hpc hf2)
  clear hpc hf2
  have HP := Lib.hid (And.intro hpo (And.intro hroom (And.intro hwf (And.intro hin (And.intro hrm (And.intro h hr))))))
  clear hwf h hr h4 hroom hpo hin hm hrm
  have hkk := fun W => kid_n r W
  rw [hkd] at hkk
  have HKK := Lib.hid hkk
  clear hkk hkd
  unfold Nd.v refV at *
  go_enter Tryd.func16, Tryd.ntmps16
  go_wp2_with fail
  refine HM.out.mono ?_
  rintro e w1 ⟨rfl, hb⟩
  have H6 := Lib.hid (H4.out.on hb)
  have r0 : w1.cell? ⟨w.heap.size + 1, 0, none⟩ = some (.int .i64 r.1) := H6.out.ref.cell 0
  have r1 : w1.cell? ⟨w.heap.size + 1, 1, none⟩ = some (.int .u32 r.2) := H6.out.ref.cell 1
  have HK := Lib.hid (HKK.out w1)
  clear hb HM H4 HKK
  go_wp2_with fail
  refine HK.out.mono ?_
  rintro e w3 ⟨rfl, hb⟩
  have H3 := Lib.hid (H6.out.on hb)
  clear hb HK H6 r0 r1
  have HRO := Lib.hid (room_n x.kind w3.drew H3.out.drew.rooms)
  rw [HP.out.2.2.2.2.1] at HRO
  have HLA := Lib.hid (laid_n x _ room w3.drew H3.out.drew.node HP.out.2.1 (by have := HP.out.2.2.2.1.2.2.2.2.1; omega))
  go_wp2_with fail
  refine wp_region_held_drew (S := (fun V : World => (V.cell? ⟨w.heap.size + 1 + 1 + 1, 0, none⟩ = some (.int .i64 x.kind) ∧ V.cell? ⟨w.heap.size + 1 + 1 + 1, 1, none⟩ = some (.string x.code) ∧ V.cell? ⟨w.heap.size + 1 + 1 + 1, 2, none⟩ = some (.string x.value) ∧ V.cell? ⟨w.heap.size + 1 + 1 + 1, 3, none⟩ = some (.string x.path) ∧ V.cell? ⟨w.heap.size + 1 + 1 + 1, 4, none⟩ = some (.slice Ab x.bytes.length cb) ∧ V.cell? ⟨w.heap.size + 1 + 1 + 1, 5, none⟩ = some (.slice Ak x.kids.length ck)) ∧ V.cell? ⟨w.heap.size, 0, none⟩ = some (.int .i64 x.kind))) (by kernel_rfl) ?_ (fun hHeld0 => ?_)
  · exact addS H3.out.drew
  refine wpAnyH_take (i := 0) (v := ?_) rfl (by kernel_rfl) (by kernel_rfl) (by kernel_rfl) (fun _ _ _ h => h) (Or.inl ⟨by rfl, ?_⟩) hHeld0 ?_
  rotate_left
  · (intro w hSw; (try dsimp only at hSw); go_simp <;> with_reducible rfl)
  try simp only [Act.put, List.setIfInBounds_toArray, List.set_cons_zero, List.set_cons_succ]
  refine wpAnyH_take (i := 1) (v := ?_) rfl (by kernel_rfl) (by kernel_rfl) (by kernel_rfl) (fun _ _ _ h => h) (Or.inl ⟨by rfl, ?_⟩) hHeld0 ?_
  rotate_left
  · (intro w hSw; (try dsimp only at hSw); go_simp <;> with_reducible rfl)
  try simp only [Act.put, List.setIfInBounds_toArray, List.set_cons_zero, List.set_cons_succ]
  refine wpAnyH_take (i := 2) (v := ?_) rfl (by kernel_rfl) (by kernel_rfl) (by kernel_rfl) (fun _ _ _ h => h) (Or.inl ⟨by rfl, ?_⟩) hHeld0 ?_
  rotate_left
  · (intro w hSw; (try dsimp only at hSw); go_simp <;> with_reducible rfl)
  try simp only [Act.put, List.setIfInBounds_toArray, List.set_cons_zero, List.set_cons_succ]
  refine wpAnyH_ready (rs := [3]) (by kernel_rfl) (by simp) ?_
  refine AllReadyH.cons rfl (fun K hK => ?_) ?_
  · go_simp
    with_reducible refine HRO.out.mono ?_
    rintro e w4 ⟨rfl, rfl⟩
    refine hK.out _ _ ?_ (fun hHeld1 => ?_)
    · exact addS H3.out.drew
    clear hK K hHeld0
    try simp only [Act.put, List.setIfInBounds_toArray, List.set_cons_zero, List.set_cons_succ]
    refine wpAnyH_ready (rs := [4]) (by kernel_rfl) (by simp) ?_
    refine AllReadyH.cons rfl (fun K hK => ?_) ?_
    · go_simp
      refine HLA.out.mono ?_
      rintro e w5 ⟨iv, bl, rfl, hrow, hbl, hb5⟩
      have H7 := Lib.hid (And.intro hrow (And.intro hbl (And.intro (H3.out.drew.on hb5) hb5.size)))
      clear hrow hbl hb5
      refine hK.out _ _ ?_ (fun hHeld2 => ?_)
      · exact addS H7.out.2.2.1
      clear hK K hHeld1
      try simp only [Act.put, List.setIfInBounds_toArray, List.set_cons_zero, List.set_cons_succ]
      refine wpAnyH_take (i := 5) (v := ?_) rfl (by kernel_rfl) (by kernel_rfl) (by kernel_rfl) (fun _ _ _ h => h) (Or.inl ⟨by rfl, ?_⟩) hHeld2 ?_
      rotate_left
      · (intro w hSw; (try dsimp only at hSw); go_simp <;> with_reducible rfl)
      try simp only [Act.put, List.setIfInBounds_toArray, List.set_cons_zero, List.set_cons_succ]
      refine wpAnyH_done (by kernel_rfl) ?_ _
      refine (‹∀ (a : Act) (w : World), Code.wp Tryd.prog _ _ a w → _› _ _ ?_)
      obtain ⟨TT, g, fid, rfl, hme, hen, hput⟩ := turn_iface b r H7.out.1 hb256
      have hbl := H7.out.2.1
      have HA5 := Lib.hid H7.out.2.2.1
      have hs7 := H7.out.2.2.2
      have hs3 := H3.out.size
      have r0 : w5.cell? ⟨w.heap.size + 1, 0, none⟩ = some (.int .i64 r.1) := HA5.out.ref.cell 0
      have r1 : w5.cell? ⟨w.heap.size + 1, 1, none⟩ = some (.int .u32 r.2) := HA5.out.ref.cell 1
      have hpo := HP.out.1
      rw [HPC.out.1, HPC.out.2] at hput
      unfold refV at hput
      have HPU := Lib.hid hput
      have HX := Lib.hid (And.intro hbl (And.intro hs7 (And.intro hs3 hpo)))
      clear hput hbl hs7 hs3 hpo H7 HLA HRO
      go_simp
      go_wp2_with fail
      refine HPU.out.mono ?_
      rintro e w6 ⟨rfl, hrow6, hk6⟩
      have h8 : AddW w x r #[.int .i64 x.kind, .string x.code, .string x.value, .string x.path, .slice Ab x.bytes.length cb, .slice Ak x.kids.length ck] w6 := HA5.out.kept hk6 (fun c hc => by have h1 := HX.out.1 c hc; have h2 := HX.out.2.2.1; simp at h1; omega) HP.out.2.2.2.2.2.1 HP.out.2.2.2.2.2.2
      have H8 := Lib.hid h8
      have H8S := h8.size
      have HOF := Lib.hid (of_row x _ w6 h8.node _ room f2 _ hrow6 x.kind HP.out.2.2.1.kind HX.out.2.2.2)
      obtain ⟨p0, p1, p2, p3, p4, p5⟩ := cells6 h8.parts
      have k0 : w6.cell? ⟨w.heap.size, 0, none⟩ = some (.int .i64 x.kind) := h8.box.cell 0
      have hzb := HZ.out
      clear h8 hrow6 hk6 HPU hme hen HA5 r0 r1
      go_wp2_with fail
      refine HOF.out.mono ?_
      rintro e w7 ⟨V', rfl, hnd, hb7⟩
      have H9 := Lib.hid (H8.out.on hb7)
      obtain ⟨hwf', A4, c4', A5, c5', rfl, hr4, hr5, ha4, ha5⟩ := hnd
      have HND := Lib.hid (And.intro hwf' (And.intro hr4 (And.intro hr5 (And.intro ha4 ha5))))
      obtain ⟨d0, d1, d2, d3, d4, d5⟩ := cells6 H9.out.out
      have fz0 := H9.out.out.frozen 0
      have fz1 := H9.out.out.frozen 1
      have fz2 := H9.out.out.frozen 2
      have fz3 := H9.out.out.frozen 3
      have fz4 := H9.out.out.frozen 4
      have fz5 := H9.out.out.frozen 5
      have l6 := H9.out.out.lt
      obtain ⟨VV, hV, hg, q6⟩ := six_stores (.int .i64 (ofNd x f2 x.kind).kind) (.string (ofNd x f2 x.kind).code) (.string (ofNd x f2 x.kind).value) (.string (ofNd x f2 x.kind).path) (.slice A4 (ofNd x f2 x.kind).bytes.length c4') (.slice A5 (ofNd x f2 x.kind).kids.length c5') H9.out.out
      clear k0 hwf' hr4 hr5 ha4 ha5 HOF H8 hb7 p0 p1 p2 p3 p4 p5
      unfold Nd.v
      go_wp2
      rw [← hV]
      clear hV d0 d1 d2 d3 d4 d5 fz0 fz1 fz2 fz3 fz4 fz5
      obtain ⟨c0, c1, c2, c3, c4, c5⟩ := cells6 q6
      exact bodyPost_ret (v := .tuple #[.agg #[.int .i64 (ofNd x f2 x.kind).kind, .string (ofNd x f2 x.kind).code, .string (ofNd x f2 x.kind).value, .string (ofNd x f2 x.kind).path, .slice A4 (ofNd x f2 x.kind).bytes.length c4', .slice A5 (ofNd x f2 x.kind).kids.length c5'], .int .i64 0]) (by simp [results, Tryd.results16, go_sem, c0, c1, c2, c3, c4, c5]) rfl ⟨_, rfl, ⟨HND.out.1, A4, c4', A5, c5', rfl, reads_off HND.out.2.1 hg (fun ad e => by have := HND.out.2.2.2.1 ad e; have := H8S; omega), reads_off HND.out.2.2.1 hg (fun ad e => by have := HND.out.2.2.2.2 ad e; have := H8S; omega)⟩, H9.out.below.grown hg H9.out.below.size (fun k e => by injection e with e; omega), rowsOf_v (fun ad e => by have h1 := HND.out.2.2.2.1 ad e; have h2 := H8S; omega) (fun ad e => by have h1 := HND.out.2.2.2.2 ad e; have h2 := H8S; omega)⟩
    exact AllReadyH.nil
  exact AllReadyH.nil
set_option maxHeartbeats 3200000 in
set_option maxRecDepth 100000 in
theorem turn_err (x : Nd) (V : Value) (b : Nat) (r : Int × Int) (w : World) (h : NdAt w x V) (hr : RoomsAt w) (hb256 : b < 256) (hrok : refOk r) (hm : x.may = true) (hkd : kidN r = true) (hz : (turnK (x.row (roomN x.kind)) b r).1 ≠ 0) : Calls Tryd.prog 16 #[V, .int .u8 (b : Int), refV r] w (fun e w' => NdPair (turnN x b r).1 (turnN x b r).2 w e w') := by
  have hin := inner_parts (may_inner hm)
  have hx2 : turnN x b r = (zeroNd, (turnK (x.row (roomN x.kind)) b r).1) := by
    unfold turnN
    rw [if_neg (by rw [hm, hkd]; simp), if_neg hz]
  rw [hx2]
  clear hx2
  have hroom := roomOk_of (room_kind hin.1)
  have hpo := turn_refOk (row_refOk h.1 (roomN x.kind)) b hrok
  have h' := h
  obtain ⟨hwf, Ab, cb, Ak, ck, rfl, _, _⟩ := h'
  have h4 := add_start w x r #[.int .i64 x.kind, .string x.code, .string x.value, .string x.path, .slice Ab x.bytes.length cb, .slice Ak x.kids.length ck] h hr
  have HM := Lib.hid (may_n x _ _ h4.node h4.rooms)
  rw [hm] at HM
  have H4 := Lib.hid h4
  obtain ⟨room, hrm⟩ : ∃ room, roomN x.kind = room := ⟨_, rfl⟩
  rw [hrm] at hroom hpo hz ⊢
  obtain ⟨pc, hpc⟩ : ∃ pc, (turnK (x.row room) b r).1 = pc := ⟨_, rfl⟩
  obtain ⟨f2, hf2⟩ : ∃ f2, (turnK (x.row room) b r).2 = f2 := ⟨_, rfl⟩
  rw [hpc] at hz
  rw [hpc]
  rw [hf2] at hpo
  have HZ : Hid ((pc != 0) = true) := Lib.hid (by simp [hz])
  clear hz
  unfold Nd.row at hpc hf2
  have HPC := Lib.hid (And.intro hpc hf2)
  clear hpc hf2
  have HP := Lib.hid (And.intro hpo (And.intro hroom (And.intro hwf (And.intro hin (And.intro hrm (And.intro h hr))))))
  clear hwf h hr h4 hroom hpo hin hm hrm
  have hkk := fun W => kid_n r W
  rw [hkd] at hkk
  have HKK := Lib.hid hkk
  clear hkk hkd
  unfold Nd.v refV at *
  go_enter Tryd.func16, Tryd.ntmps16
  go_wp2_with fail
  refine HM.out.mono ?_
  rintro e w1 ⟨rfl, hb⟩
  have H6 := Lib.hid (H4.out.on hb)
  have r0 : w1.cell? ⟨w.heap.size + 1, 0, none⟩ = some (.int .i64 r.1) := H6.out.ref.cell 0
  have r1 : w1.cell? ⟨w.heap.size + 1, 1, none⟩ = some (.int .u32 r.2) := H6.out.ref.cell 1
  have HK := Lib.hid (HKK.out w1)
  clear hb HM H4 HKK
  go_wp2_with fail
  refine HK.out.mono ?_
  rintro e w3 ⟨rfl, hb⟩
  have H3 := Lib.hid (H6.out.on hb)
  clear hb HK H6 r0 r1
  have HRO := Lib.hid (room_n x.kind w3.drew H3.out.drew.rooms)
  rw [HP.out.2.2.2.2.1] at HRO
  have HLA := Lib.hid (laid_n x _ room w3.drew H3.out.drew.node HP.out.2.1 (by have := HP.out.2.2.2.1.2.2.2.2.1; omega))
  go_wp2_with fail
  refine wp_region_held_drew (S := (fun V : World => (V.cell? ⟨w.heap.size + 1 + 1 + 1, 0, none⟩ = some (.int .i64 x.kind) ∧ V.cell? ⟨w.heap.size + 1 + 1 + 1, 1, none⟩ = some (.string x.code) ∧ V.cell? ⟨w.heap.size + 1 + 1 + 1, 2, none⟩ = some (.string x.value) ∧ V.cell? ⟨w.heap.size + 1 + 1 + 1, 3, none⟩ = some (.string x.path) ∧ V.cell? ⟨w.heap.size + 1 + 1 + 1, 4, none⟩ = some (.slice Ab x.bytes.length cb) ∧ V.cell? ⟨w.heap.size + 1 + 1 + 1, 5, none⟩ = some (.slice Ak x.kids.length ck)) ∧ V.cell? ⟨w.heap.size, 0, none⟩ = some (.int .i64 x.kind))) (by kernel_rfl) ?_ (fun hHeld0 => ?_)
  · exact addS H3.out.drew
  refine wpAnyH_take (i := 0) (v := ?_) rfl (by kernel_rfl) (by kernel_rfl) (by kernel_rfl) (fun _ _ _ h => h) (Or.inl ⟨by rfl, ?_⟩) hHeld0 ?_
  rotate_left
  · (intro w hSw; (try dsimp only at hSw); go_simp <;> with_reducible rfl)
  try simp only [Act.put, List.setIfInBounds_toArray, List.set_cons_zero, List.set_cons_succ]
  refine wpAnyH_take (i := 1) (v := ?_) rfl (by kernel_rfl) (by kernel_rfl) (by kernel_rfl) (fun _ _ _ h => h) (Or.inl ⟨by rfl, ?_⟩) hHeld0 ?_
  rotate_left
  · (intro w hSw; (try dsimp only at hSw); go_simp <;> with_reducible rfl)
  try simp only [Act.put, List.setIfInBounds_toArray, List.set_cons_zero, List.set_cons_succ]
  refine wpAnyH_take (i := 2) (v := ?_) rfl (by kernel_rfl) (by kernel_rfl) (by kernel_rfl) (fun _ _ _ h => h) (Or.inl ⟨by rfl, ?_⟩) hHeld0 ?_
  rotate_left
  · (intro w hSw; (try dsimp only at hSw); go_simp <;> with_reducible rfl)
  try simp only [Act.put, List.setIfInBounds_toArray, List.set_cons_zero, List.set_cons_succ]
  refine wpAnyH_ready (rs := [3]) (by kernel_rfl) (by simp) ?_
  refine AllReadyH.cons rfl (fun K hK => ?_) ?_
  · go_simp
    with_reducible refine HRO.out.mono ?_
    rintro e w4 ⟨rfl, rfl⟩
    refine hK.out _ _ ?_ (fun hHeld1 => ?_)
    · exact addS H3.out.drew
    clear hK K hHeld0
    try simp only [Act.put, List.setIfInBounds_toArray, List.set_cons_zero, List.set_cons_succ]
    refine wpAnyH_ready (rs := [4]) (by kernel_rfl) (by simp) ?_
    refine AllReadyH.cons rfl (fun K hK => ?_) ?_
    · go_simp
      refine HLA.out.mono ?_
      rintro e w5 ⟨iv, bl, rfl, hrow, hbl, hb5⟩
      have H7 := Lib.hid (And.intro hrow (And.intro hbl (And.intro (H3.out.drew.on hb5) hb5.size)))
      clear hrow hbl hb5
      refine hK.out _ _ ?_ (fun hHeld2 => ?_)
      · exact addS H7.out.2.2.1
      clear hK K hHeld1
      try simp only [Act.put, List.setIfInBounds_toArray, List.set_cons_zero, List.set_cons_succ]
      refine wpAnyH_take (i := 5) (v := ?_) rfl (by kernel_rfl) (by kernel_rfl) (by kernel_rfl) (fun _ _ _ h => h) (Or.inl ⟨by rfl, ?_⟩) hHeld2 ?_
      rotate_left
      · (intro w hSw; (try dsimp only at hSw); go_simp <;> with_reducible rfl)
      try simp only [Act.put, List.setIfInBounds_toArray, List.set_cons_zero, List.set_cons_succ]
      refine wpAnyH_done (by kernel_rfl) ?_ _
      refine (‹∀ (a : Act) (w : World), Code.wp Tryd.prog _ _ a w → _› _ _ ?_)
      obtain ⟨TT, g, fid, rfl, hme, hen, hput⟩ := turn_iface b r H7.out.1 hb256
      have hbl := H7.out.2.1
      have HA5 := Lib.hid H7.out.2.2.1
      have hs7 := H7.out.2.2.2
      have hs3 := H3.out.size
      have r0 : w5.cell? ⟨w.heap.size + 1, 0, none⟩ = some (.int .i64 r.1) := HA5.out.ref.cell 0
      have r1 : w5.cell? ⟨w.heap.size + 1, 1, none⟩ = some (.int .u32 r.2) := HA5.out.ref.cell 1
      have hpo := HP.out.1
      rw [HPC.out.1, HPC.out.2] at hput
      unfold refV at hput
      have HPU := Lib.hid hput
      have HX := Lib.hid (And.intro hbl (And.intro hs7 (And.intro hs3 hpo)))
      clear hput hbl hs7 hs3 hpo H7 HLA HRO
      go_simp
      go_wp2_with fail
      refine HPU.out.mono ?_
      rintro e w6 ⟨rfl, hrow6, hk6⟩
      have h8 : AddW w x r #[.int .i64 x.kind, .string x.code, .string x.value, .string x.path, .slice Ab x.bytes.length cb, .slice Ak x.kids.length ck] w6 := HA5.out.kept hk6 (fun c hc => by have h1 := HX.out.1 c hc; have h2 := HX.out.2.2.1; simp at h1; omega) HP.out.2.2.2.2.2.1 HP.out.2.2.2.2.2.2
      have H8 := Lib.hid h8
      have hzb := HZ.out
      clear h8 hrow6 hk6 HPU hme hen HA5 r0 r1
      obtain ⟨d0, d1, d2, d3, d4, d5⟩ := cells6 H8.out.out
      have fz0 := H8.out.out.frozen 0
      have fz1 := H8.out.out.frozen 1
      have fz2 := H8.out.out.frozen 2
      have fz3 := H8.out.out.frozen 3
      have fz4 := H8.out.out.frozen 4
      have fz5 := H8.out.out.frozen 5
      have l6 := H8.out.out.lt
      obtain ⟨VV, hV, hg, q6⟩ := six_stores (.int .i64 0) (.string { data := #[] }) (.string { data := #[] }) (.string { data := #[] }) (.slice none 0 0) (.slice none 0 0) H8.out.out
      go_wp2
      rw [← hV]
      clear hV d0 d1 d2 d3 d4 d5 fz0 fz1 fz2 fz3 fz4 fz5
      obtain ⟨c0, c1, c2, c3, c4, c5⟩ := cells6 q6
      exact bodyPost_ret (v := .tuple #[.agg #[.int .i64 0, .string { data := #[] }, .string { data := #[] }, .string { data := #[] }, .slice none 0 0, .slice none 0 0], .int .i64 pc]) (by simp [results, Tryd.results16, go_sem, c0, c1, c2, c3, c4, c5]) rfl ⟨_, rfl, zeroNd_at VV, H8.out.below.grown hg H8.out.below.size (fun k e => by injection e with e; omega), rowsOf_zero⟩
    exact AllReadyH.nil
  exact AllReadyH.nil
theorem Turn_n (x : Nd) (V : Value) (b : Nat) (r : Int × Int) (w : World) (h : NdAt w x V) (hr : RoomsAt w) (hb : b < 256) (hrok : refOk r) : Calls Tryd.prog 16 #[V, .int .u8 (b : Int), refV r] w (NdPair (turnN x b r).1 (turnN x b r).2 w) := by
  by_cases hno : x.may = false ∨ kidN r = false
  · have e : turnN x b r = (zeroNd, 4) := by unfold turnN; rw [if_pos hno]
    rw [e]
    exact turn_no x V b r w h hr hno
  · have hm : x.may = true := by
      cases hm : x.may with
      | true => rfl
      | false => exact absurd (.inl hm) hno
    have hk : kidN r = true := by
      cases hk : kidN r with
      | true => rfl
      | false => exact absurd (.inr hk) hno
    by_cases hz : (turnK (x.row (roomN x.kind)) b r).1 = 0
    · exact turn_yes x V b r w h hr hb hrok hm hk hz
    · exact turn_err x V b r w h hr hb hrok hm hk hz
end Go.Proofs.YtgjgcbemgmkncaaDoor
namespace Go.Proofs.YtgjgcbemgmkncaaDoor
open Go.RowKit Go.Shelf
set_option linter.unusedVariables false
set_option linter.unusedSimpArgs false

theorem bytes_nil {s : ByteArray} (h : s.toList.isEmpty = true) : s = { data := #[] } := by
  rw [ByteArray.toList_eq] at h
  obtain ⟨⟨l⟩⟩ := s
  simp at h
  subst h
  rfl
theorem lookup_no {a : Nat} : ∀ {l : List (Nat × (Int × Int))}, (∀ p ∈ l, p.1 ≠ a) → l.lookup a = none
  | [], _ => rfl
  | p :: l, h => by
    have h1 : (a == p.1) = false := by have := h p (by simp); simp; omega
    rw [List.lookup, h1]
    exact lookup_no (fun q hq => h q (by simp [hq]))
theorem lookup_mem {a : Nat} {r : Int × Int} : ∀ {l : List (Nat × (Int × Int))}, l.lookup a = some r → (a, r) ∈ l
  | [], h => by cases h
  | p :: l, h => by
    rw [List.lookup] at h
    cases h1 : (a == p.1) with
    | true =>
      rw [h1] at h
      injection h with h
      have h2 : a = p.1 := by simpa using h1
      subst h2 h
      simp
    | false =>
      rw [h1] at h
      exact List.mem_cons_of_mem _ (lookup_mem h)
/-- A list that rises is the list of its kids. -/
theorem high_lookup (n : Nat) : ∀ (a : Nat) (l : List (Nat × (Int × Int))), 256 - a = n → l.Pairwise (fun p q => p.1 < q.1) → (∀ p ∈ l, a ≤ p.1 ∧ p.1 < 256) → highK (fun b => l.lookup b) a = l := by
  induction n with
  | zero =>
    intro a l ha _ hl
    have h0 : l = [] := by
      cases l with
      | nil => rfl
      | cons p l => have := hl p (by simp); omega
    subst h0
    exact kidsIn_no fun _ _ => rfl
  | succ n ih =>
    intro a l ha hp hl
    have ha2 : a < 256 := by omega
    rw [high_succ _ a ha2]
    cases l with
    | nil =>
      simp only [List.lookup, Option.map_none, Option.toList_none, List.nil_append]
      exact kidsIn_no fun _ _ => rfl
    | cons p l =>
      obtain ⟨hp1, hp2⟩ := List.pairwise_cons.1 hp
      by_cases he : p.1 = a
      · have h1 : (p :: l).lookup a = some p.2 := by
          rw [List.lookup, show (a == p.1) = true by simp [he]]
        rw [h1]
        simp only [Option.map_some, Option.toList_some, List.singleton_append]
        have h2 : highK (fun b => (p :: l).lookup b) (a + 1) = highK (fun b => l.lookup b) (a + 1) := kidsIn_congr fun b hb => by
          have := (mem_drop_range hb).1
          rw [List.lookup, show (b == p.1) = false by simp; omega]
        rw [h2, ih (a + 1) l (by omega) hp2 (fun q hq => ⟨by have := hp1 q hq; omega, (hl q (by simp [hq])).2⟩), ← he]
      · have hgt : ∀ q ∈ p :: l, a < q.1 := by
          have h0 := hl p (by simp)
          intro q hq
          rcases List.mem_cons.1 hq with rfl | hq
          · omega
          · have := hp1 q hq; omega
        rw [lookup_no (fun q hq => by have := hgt q hq; omega)]
        simp only [Option.map_none, Option.toList_none, List.nil_append]
        exact ih (a + 1) (p :: l) (by omega) hp (fun q hq => ⟨hgt q hq, (hl q hq).2⟩)
theorem rising_pairwise : ∀ {l : List Nat}, risingN l = true → l.Pairwise (· < ·)
  | [], _ => List.Pairwise.nil
  | [a], _ => List.pairwise_singleton _ _
  | a :: b :: l, h => by
    unfold risingN at h
    rw [Bool.and_eq_true, decide_eq_true_eq] at h
    have ih := rising_pairwise h.2
    refine List.pairwise_cons.2 ⟨fun c hc => ?_, ih⟩
    rcases List.mem_cons.1 hc with rfl | hc
    · exact h.1
    · have := (List.pairwise_cons.1 ih).1 c hc; omega
theorem inner_norm {x : Nd} (hx : x.wf) (h : x.isInner = true) : ∃ f, KidsOk f ∧ x = ofNd x f x.kind := by
  obtain ⟨h1, h2, h3, h4, h5, h6, h7, h8⟩ := inner_parts h
  have hp : (x.bytes.zip x.kids).Pairwise (fun p q => p.1 < q.1) := by
    have := rising_pairwise h7
    rw [← List.map_fst_zip (l₁ := x.bytes) (l₂ := x.kids) (by omega), List.pairwise_map] at this
    exact this
  have hk : kidsOf (fun b => (x.bytes.zip x.kids).lookup b) = x.bytes.zip x.kids := by
    have h1 := high_lookup 256 0 (x.bytes.zip x.kids) rfl hp (fun p hq => ⟨Nat.zero_le _, hx.bytes _ (List.of_mem_zip hq).1⟩)
    have h0 : lowK (fun b => (x.bytes.zip x.kids).lookup b) 0 = [] := kidsIn_no fun _ hb => by cases hb
    rw [kids_split _ 0 (Nat.zero_le _), h1, h0, List.nil_append]
  refine ⟨fun b => (x.bytes.zip x.kids).lookup b, ⟨fun b hb => lookup_no fun p hq => ?_, fun b r hr => ?_⟩, ?_⟩
  · have := hx.bytes _ (List.of_mem_zip hq).1; omega
  · have := (List.of_mem_zip (lookup_mem hr)).2
    exact ⟨List.all_eq_true.1 h8 r this, hx.refs r this⟩
  · have e1 := bytes_ofNd x (fun b => (x.bytes.zip x.kids).lookup b) x.kind
    have e2 := kids_ofNd x (fun b => (x.bytes.zip x.kids).lookup b) x.kind
    rw [hk, List.map_fst_zip (by omega)] at e1
    rw [hk, List.map_snd_zip (by omega)] at e2
    obtain ⟨k, c, v, p, b, ks⟩ := x
    have e3 := bytes_nil h2
    have e4 := bytes_nil h3
    dsimp only at e3 e4
    subst e3 e4
    show _ = (⟨_, _, _, _, _, _⟩ : Nd)
    unfold ofNd at e1 e2
    dsimp only at e1 e2
    rw [e1, e2]
theorem right_norm {x : Nd} (hx : x.wf) (h : x.isRight = true) : ∃ f, KidsOk f ∧ 2 ≤ cntK f ∧ x.path.size ≤ 34 ∧ x = ofNd x f (kindK f) := by
  unfold Nd.isRight Nd.manyN Nd.fitsN at h
  rw [Bool.and_eq_true, Bool.and_eq_true, decide_eq_true_eq, decide_eq_true_eq] at h
  obtain ⟨⟨h1, h2⟩, h3⟩ := h
  obtain ⟨f, hf, he⟩ := inner_norm hx h1
  have hc : x.kids.length = cntK f := by
    have := (len_ofNd x f x.kind).1
    rw [← he] at this
    exact this
  refine ⟨f, hf, by omega, (inner_parts h1).2.2.2.1, ?_⟩
  have hk : kindK f = x.kind := by unfold kindK; rw [← hc]; exact h3
  rw [hk]
  exact he
theorem find_low {x : Nd} {f : Kids} (hf : KidsOk f) (hp : x.path.size ≤ 34) (h2 : 2 ≤ cntK f) (b : Nat) : findN (ofNd x f (kindK f)) b = f b := by
  unfold findN
  rw [if_pos (right_low hf hp h2).2, show (ofNd x f (kindK f)).kind = kindK f from rfl, row_ofNd hf (kindK_room f).1]
theorem kind_same {f : Kids} {b : Nat} (hb : b < 256) {q : Int × Int} (hq : f b = some q) (r : Int × Int) : cntK (setK f b (some r)) = cntK f := by
  unfold cntK
  rw [kids_set f b _ hb, kids_at f b hb, hq]
  simp
theorem turn_low {x : Nd} {f : Kids} (hf : KidsOk f) (hp : x.path.size ≤ 34) (h2 : 2 ≤ cntK f) {b : Nat} (hb : b < 256) (r : Int × Int) :
    turnN (ofNd x f (kindK f)) b r = if kidN r = false then (zeroNd, 4) else if (f b).isSome = true then (ofNd x (setK f b (some r)) (kindK (setK f b (some r))), 0) else (zeroNd, 5) := by
  unfold turnN
  rw [(right_low hf hp h2).2, show (ofNd x f (kindK f)).kind = kindK f from rfl, row_ofNd hf (kindK_room f).1]
  cases hk : kidN r with
  | false => simp
  | true =>
    simp only [Bool.true_eq_false, or_self, if_false]
    unfold turnK
    cases hfb : f b with
    | none => simp
    | some q =>
      have : kindK (setK f b (some r)) = kindK f := by unfold kindK; rw [kind_same hb hfb]
      rw [this]
      simp [ofNd_ofNd]
theorem add_low2 {x : Nd} {f : Kids} {b : Nat} (r : Int × Int) (hb : b < 256) (hf : KidsOk f) (hp : x.path.size ≤ 34) (h2 : 2 ≤ cntK f) :
    addN (ofNd x f (kindK f)) b r false = if kidN r = false then (zeroNd, 4) else if (f b).isSome = true then (zeroNd, 8) else (ofNd x (setK f b (some r)) (kindK (setK f b (some r))), 0) := by
  cases hk : kidN r with
  | false => unfold addN; rw [if_pos (.inr hk)]; simp
  | true => rw [add_low r hb hf hp h2 hk, if_neg (show ¬ (true = false) by simp)]
theorem full_low {x : Nd} {f : Kids} (hf : KidsOk f) (hp : x.path.size ≤ 34) (h2 : 2 ≤ cntK f) : (ofNd x f (kindK f)).full = ((cntK f : Int) == roomN (kindK f)) := by
  unfold Nd.full
  rw [(right_low hf hp h2).2, (len_ofNd x f _).1, Bool.true_and]
  rfl
/-- The kind changes just where the node is full. -/
theorem kind_grows {f g : Kids} (hc : cntK g = cntK f + 1) (hle : cntK g ≤ 256) : (kindK g == kindK f) = !((cntK f : Int) == roomN (kindK f)) := by
  unfold kindK
  rw [hc]
  have h0 : cntK f + 1 ≤ 256 := by omega
  generalize cntK f = n at h0
  unfold ofN
  by_cases h1 : n + 1 ≤ 4
  · simp [roomN, show ¬ ((n : Int) + 1 < 0) by omega, show ¬ ((n : Int) < 0) by omega, show (n : Int) + 1 ≤ 4 by omega, show (n : Int) ≤ 4 by omega]; omega
  · by_cases h2 : n + 1 ≤ 16
    · by_cases h3 : n ≤ 4
      · simp [roomN, show ¬ ((n : Int) + 1 < 0) by omega, show ¬ ((n : Int) < 0) by omega, show ¬ ((n : Int) + 1 ≤ 4) by omega, show (n : Int) + 1 ≤ 16 by omega, show (n : Int) ≤ 4 by omega]; omega
      · simp [roomN, show ¬ ((n : Int) + 1 < 0) by omega, show ¬ ((n : Int) < 0) by omega, show ¬ ((n : Int) + 1 ≤ 4) by omega, show (n : Int) + 1 ≤ 16 by omega, show ¬ ((n : Int) ≤ 4) by omega, show (n : Int) ≤ 16 by omega]; omega
    · by_cases h3 : n + 1 ≤ 48
      · by_cases h4 : n ≤ 16
        · simp [roomN, show ¬ ((n : Int) + 1 < 0) by omega, show ¬ ((n : Int) < 0) by omega, show ¬ ((n : Int) + 1 ≤ 4) by omega, show ¬ ((n : Int) + 1 ≤ 16) by omega, show (n : Int) + 1 ≤ 48 by omega, show ¬ ((n : Int) ≤ 4) by omega, show (n : Int) ≤ 16 by omega]; omega
        · simp [roomN, show ¬ ((n : Int) + 1 < 0) by omega, show ¬ ((n : Int) < 0) by omega, show ¬ ((n : Int) + 1 ≤ 4) by omega, show ¬ ((n : Int) + 1 ≤ 16) by omega, show (n : Int) + 1 ≤ 48 by omega, show ¬ ((n : Int) ≤ 4) by omega, show ¬ ((n : Int) ≤ 16) by omega, show (n : Int) ≤ 48 by omega]; omega
      · by_cases h4 : n ≤ 48
        · simp [roomN, show ¬ ((n : Int) + 1 < 0) by omega, show ¬ ((n : Int) < 0) by omega, show ¬ ((n : Int) + 1 ≤ 4) by omega, show ¬ ((n : Int) + 1 ≤ 16) by omega, show ¬ ((n : Int) + 1 ≤ 48) by omega, show (n : Int) + 1 ≤ 256 by omega, show ¬ ((n : Int) ≤ 4) by omega, show ¬ ((n : Int) ≤ 16) by omega, show (n : Int) ≤ 48 by omega]; omega
        · simp [roomN, show ¬ ((n : Int) + 1 < 0) by omega, show ¬ ((n : Int) < 0) by omega, show ¬ ((n : Int) + 1 ≤ 4) by omega, show ¬ ((n : Int) + 1 ≤ 16) by omega, show ¬ ((n : Int) + 1 ≤ 48) by omega, show (n : Int) + 1 ≤ 256 by omega, show ¬ ((n : Int) ≤ 4) by omega, show ¬ ((n : Int) ≤ 16) by omega, show ¬ ((n : Int) ≤ 48) by omega, show (n : Int) ≤ 256 by omega]; omega
theorem set_back {f : Kids} {b : Nat} {r : Option (Int × Int)} (h : f b = none) : setK (setK f b r) b none = f := by
  funext i
  unfold setK
  by_cases hi : i = b
  · subst hi; rw [if_pos rfl, h]
  · rw [if_neg hi, if_neg hi]
theorem set_twice {f : Kids} {b : Nat} {r s : Option (Int × Int)} : setK (setK f b s) b r = setK f b r := by
  funext i
  unfold setK
  by_cases hi : i = b
  · rw [if_pos hi, if_pos hi]
  · rw [if_neg hi, if_neg hi, if_neg hi]
/-! ### great -/
def greatS (x : Nd) : Bool := decide (IntKind.i64.wrap (IntKind.i64.wrap ((x.code.size : Int) + (x.value.size : Int)) + (x.path.size : Int)) > 400)
def greatN (x : Nd) : Bool := decide (400 < x.bytes.length) || decide (400 < x.kids.length) || greatS x
set_option maxHeartbeats 800000 in
theorem great_n (x : Nd) (V : Value) (w : World) (h : NdAt w x V) : Calls Tryd.prog 14 #[V] w (BoolEnd (greatN x) w) := by
  obtain ⟨_, Ab, cb, Ak, ck, rfl, _, _⟩ := h
  unfold Nd.v
  by_cases h1 : 400 < x.bytes.length
  · have e1 : (x.bytes.length : Int) > 400 := by omega
    have E : Hid (greatN x = true) := Lib.hid (by unfold greatN; simp [h1])
    clear h1
    go_enter Tryd.func14, Tryd.ntmps14
    go_wp2
    go_ret
    exact ⟨ret_bool (by rw [E.out]), (Below.refl _ _).alloc (Nat.le_refl _) _⟩
  · have e1 : ¬ ((x.bytes.length : Int) > 400) := by omega
    by_cases h2 : 400 < x.kids.length
    · have e2 : (x.kids.length : Int) > 400 := by omega
      have E : Hid (greatN x = true) := Lib.hid (by unfold greatN; simp [h2])
      clear h1 h2
      go_enter Tryd.func14, Tryd.ntmps14
      go_wp2
      go_ret
      exact ⟨ret_bool (by rw [E.out]), (Below.refl _ _).alloc (Nat.le_refl _) _⟩
    · have e2 : ¬ ((x.kids.length : Int) > 400) := by omega
      have E : Hid (greatN x = greatS x) := Lib.hid (by unfold greatN; simp [h1, h2])
      clear h1 h2
      go_enter Tryd.func14, Tryd.ntmps14
      go_wp2
      go_ret
      exact ⟨ret_bool (by rw [E.out]; unfold greatS; first | rfl | simp [IntKind.wrap_i64, wrap64]), (Below.refl _ _).alloc (Nat.le_refl _) _⟩
end Go.Proofs.YtgjgcbemgmkncaaDoor
namespace Go.Proofs.YtgjgcbemgmkncaaDoor
open Go.RowKit Go.Shelf
set_option linter.unusedVariables false
set_option linter.unusedSimpArgs false

/-- A Ref in a box. -/
def RefBox (W : World) (g : Nat) (r : Int × Int) : Prop := Blk W g 35 #[.int .i64 r.1, .int .u32 r.2]
structure BkW (w : World) (bs : List NB) (rs : List (Nat × (Int × Int))) (W : World) : Prop where
  ctx : Ctx w bs W
  ref : ∀ p ∈ rs, RefBox W p.1 p.2
section
variable {w W W' : World} {bs : List NB} {rs : List (Nat × (Int × Int))} {q0 q1 q2 : Nat × (Int × Int)} {g : Nat} {r : Int × Int}
theorem BkW.on (h : BkW w bs rs W) (hb : Below W.heap.size W W') : BkW w bs rs W' := ⟨h.ctx.on hb, fun p hm => (h.ref p hm).below hb (h.ref p hm).lt⟩
theorem BkW.new (h : BkW w bs rs W) {x : Nd} {Ab Ak : Option Addr} {cb ck : Nat} (hx : NdAt W x (x.v Ab cb Ak ck)) : BkW w (⟨W.heap.size, x, Ab, cb, Ak, ck⟩ :: bs) rs (W.alloc (.cells (x.c Ab cb Ak ck) 27)) :=
  ⟨h.ctx.new hx, (h.on (below_box _ _)).ref⟩
theorem BkW.newR (h : BkW w bs rs W) (r : Int × Int) : BkW w bs ((W.heap.size, r) :: rs) (W.alloc (.cells #[.int .i64 r.1, .int .u32 r.2] 35)) :=
  ⟨h.ctx.on (below_box _ _), fun p hm => by
    rcases List.mem_cons.1 hm with rfl | hm
    · exact Blk.new _ _ _
    · exact (h.on (below_box _ _)).ref p hm⟩
theorem RefBox.cells (h : RefBox W g r) : W.cell? ⟨g, 0, none⟩ = some (.int .i64 r.1) ∧ W.cell? ⟨g, 1, none⟩ = some (.int .u32 r.2) := ⟨Blk.cell h 0, Blk.cell h 1⟩
theorem BkW.r0 (h : BkW w bs ((g, r) :: rs) W) : RefBox W g r := h.ref (g, r) (by simp)
theorem BkW.r1 (h : BkW w bs (q0 :: (g, r) :: rs) W) : RefBox W g r := h.ref (g, r) (by simp)
theorem BkW.r2 (h : BkW w bs (q0 :: q1 :: (g, r) :: rs) W) : RefBox W g r := h.ref (g, r) (by simp)
theorem BkW.r3 (h : BkW w bs (q0 :: q1 :: q2 :: (g, r) :: rs) W) : RefBox W g r := h.ref (g, r) (by simp)
theorem BkW.drop0 {b : NB} (h : BkW w (b :: bs) rs W) : BkW w bs rs W := ⟨⟨h.ctx.below, h.ctx.rooms, fun q hm => h.ctx.box q (List.mem_cons_of_mem _ hm)⟩, h.ref⟩
theorem BkW.dropR (h : BkW w bs (q0 :: rs) W) : BkW w bs rs W := ⟨h.ctx, fun q hm => h.ref q (List.mem_cons_of_mem _ hm)⟩
theorem BkW.swap {b c : NB} (h : BkW w (b :: c :: bs) rs W) : BkW w (c :: b :: bs) rs W := ⟨⟨h.ctx.below, h.ctx.rooms, fun q hm => h.ctx.box q (by simp only [List.mem_cons] at hm ⊢; exact hm.elim (fun e => .inr (.inl e)) fun e => e.elim (fun e => .inl e) fun e => .inr (.inr e))⟩, h.ref⟩
end
def BackRet (w : World) (ds : List Deferred) (Q : Exit → Act → World → Prop) : Prop := ∀ (u0 u1 u2 u3 u4 u5 u6 u7 u9 u10 u11 u12 u13 u14 u15 u16 u17 u18 u19 u20 u21 u22 u23 u24 u25 u26 u27 u28 u29 u30 u31 u32 u33 u34 u35 u36 u37 u38 u39 u40 u41 u42 u43 u44 u45 u46 u47 u48 u49 u50 u51 u52 u53 u54 u55 u56 u57 u58 u59 u60 u61 u62 u63 u64 u65 u66 u67 u68 u69 u70 u71 u72 u73 u74 u75 u76 u77 u78 u79 u80 u81 u82 u83 u84 u85 u86 u87 u88 u89 u90 u91 u92 u93 u94 u95 u96 u97 u98 u99 u100 u101 u102 u103 u104 u105 u106 u107 u108 u109 u110 u111 u112 u113 u114 u115 u116 u117 u118 u119 u120 u121 u122 u123 u124 u125 u126 u127 u128 u129 u130 u131 u132 u133 u134 u135 u136 u137 u138 u139 u140 u141 u142 u143 u144 u145 u146 u147 u148 u149 u150 u151 u152 u153 u154 u155 u156 u157 u158 u159 u160 u161 u162 u163 u164 u165 u166 u167 u168 u169 u170 u171 u172 u173 u174 u175 u176 u177 u178 u179 u180 u181 u182 u183 u184 u185 u186 u187 u188 u189 u190 u191 u192 u193 u194 u195 u196 u197 u198 u199 u200 u201 u202 u203 u204 u205 u206 u207 u208 u209 : Value) (W : World), Below w.heap.size w W → Q .ret ⟨#[u0, u1, u2, u3, u4, u5, u6, u7, .bool true, u9, u10, u11, u12, u13, u14, u15, u16, u17, u18, u19, u20, u21, u22, u23, u24, u25, u26, u27, u28, u29, u30, u31, u32, u33, u34, u35, u36, u37, u38, u39, u40, u41, u42, u43, u44, u45, u46, u47, u48, u49, u50, u51, u52, u53, u54, u55, u56, u57, u58, u59, u60, u61, u62, u63, u64, u65, u66, u67, u68, u69, u70, u71, u72, u73, u74, u75, u76, u77, u78, u79, u80, u81, u82, u83, u84, u85, u86, u87, u88, u89, u90, u91, u92, u93, u94, u95, u96, u97, u98, u99, u100, u101, u102, u103, u104, u105, u106, u107, u108, u109, u110, u111, u112, u113, u114, u115, u116, u117, u118, u119, u120, u121, u122, u123, u124, u125, u126, u127, u128, u129, u130, u131, u132, u133, u134, u135, u136, u137, u138, u139, u140, u141, u142, u143, u144, u145, u146, u147, u148, u149, u150, u151, u152, u153, u154, u155, u156, u157, u158, u159, u160, u161, u162, u163, u164, u165, u166, u167, u168, u169, u170, u171, u172, u173, u174, u175, u176, u177, u178, u179, u180, u181, u182, u183, u184, u185, u186, u187, u188, u189, u190, u191, u192, u193, u194, u195, u196, u197, u198, u199, u200, u201, u202, u203, u204, u205, u206, u207, u208, u209], ds⟩ W
end Go.Proofs.YtgjgcbemgmkncaaDoor
namespace Go.Proofs.YtgjgcbemgmkncaaDoor
open Go.RowKit Go.Shelf
set_option linter.unusedVariables false
set_option linter.unusedSimpArgs false

set_option maxHeartbeats 12800000 in
set_option maxRecDepth 100000 in
theorem bkF {u0 u2 u3 u5 u8 u9 u10 u12 u13 u14 u15 u16 u18 u19 u20 u21 u22 u23 u24 u25 u26 u27 u28 u29 u30 u31 u32 u33 u34 u35 u36 u37 u38 u39 u40 u41 u42 u43 u44 u45 u46 u47 u48 u49 u50 u51 u52 u53 u54 u55 u56 u57 u58 u59 u60 u61 u62 u63 u64 u65 u66 u67 u68 u69 u70 u71 u72 u73 u74 u75 u76 u77 u78 u79 u80 u81 u82 u83 u84 u85 u86 u87 u88 u89 u90 u91 u92 u93 u94 u95 u96 u97 u98 u99 u100 u101 u102 u103 u104 u105 u106 u107 u108 u109 u110 u111 u112 u113 u114 u115 u116 u117 u118 u119 u120 u121 u122 u123 u124 u125 u126 u127 u128 u129 u130 u131 u132 u133 u134 u135 u136 u137 u138 u139 u140 u141 u142 u143 u144 u145 u146 u147 u148 u149 u150 u151 u152 u153 u154 u155 u156 u157 u158 u159 u160 u161 u162 u163 u164 u165 u166 u167 u168 u169 u170 u171 u172 u173 u174 u175 u176 u177 u178 u179 u180 u181 u182 u183 u184 u185 u186 u187 u188 u189 u190 u191 u192 u193 u194 u195 u196 u197 u198 u199 u200 u201 u202 u203 u204 u205 u206 u207 u208 u209 : Value} {ds : List Deferred} {Q : Exit → Act → World → Prop} (b gn gr gs gm gt : Nat) (r s : Int × Int) (n m t : Nd) (Ab Ak Ab2 Ak2 Ab3 Ak3 : Option Addr) (cb ck cb2 ck2 cb3 ck3 : Nat) (w w0 : World)
    (hS : BkW w [⟨gt, t, Ab3, cb3, Ak3, ck3⟩, ⟨gm, m, Ab2, cb2, Ak2, ck2⟩, ⟨gn, n, Ab, cb, Ak, ck⟩] [(gr, r), (gs, s)] w0) (hb256 : b < 256) (hrok : refOk r) (hfind : findN t b = some s) (hturn : turnN t b r = (m, 0)) (hQ : BackRet w ds Q) :
    Code.wp Tryd.prog (part Tryd.f4 [1, 1, 1, 1, 1, 1, 1, 1, 1, 1, 1, 1, 1]) Q ⟨#[u0, .int .u8 (b : Int), u2, u3, .pointer (some ⟨gn, 0, none⟩), u5, .pointer (some ⟨gr, 0, none⟩), .pointer (some ⟨gs, 0, none⟩), u8, u9, u10, .pointer (some ⟨gm, 0, none⟩), u12, u13, u14, u15, u16, .pointer (some ⟨gt, 0, none⟩), u18, u19, u20, u21, u22, u23, u24, u25, u26, u27, u28, u29, u30, u31, u32, u33, u34, u35, u36, u37, u38, u39, u40, u41, u42, u43, u44, u45, u46, u47, u48, u49, u50, u51, u52, u53, u54, u55, u56, u57, u58, u59, u60, u61, u62, u63, u64, u65, u66, u67, u68, u69, u70, u71, u72, u73, u74, u75, u76, u77, u78, u79, u80, u81, u82, u83, u84, u85, u86, u87, u88, u89, u90, u91, u92, u93, u94, u95, u96, u97, u98, u99, u100, u101, u102, u103, u104, u105, u106, u107, u108, u109, u110, u111, u112, u113, u114, u115, u116, u117, u118, u119, u120, u121, u122, u123, u124, u125, u126, u127, u128, u129, u130, u131, u132, u133, u134, u135, u136, u137, u138, u139, u140, u141, u142, u143, u144, u145, u146, u147, u148, u149, u150, u151, u152, u153, u154, u155, u156, u157, u158, u159, u160, u161, u162, u163, u164, u165, u166, u167, u168, u169, u170, u171, u172, u173, u174, u175, u176, u177, u178, u179, u180, u181, u182, u183, u184, u185, u186, u187, u188, u189, u190, u191, u192, u193, u194, u195, u196, u197, u198, u199, u200, u201, u202, u203, u204, u205, u206, u207, u208, u209], ds⟩ w0 := by
  conv => arg 2; whnf
  have HQ := Lib.hid hQ
  clear hQ
  have HS := Lib.hid hS
  have hf := Find_n t _ b w0 hS.ctx.b0.node hS.ctx.rooms hb256
  rw [hfind] at hf
  have HF := Lib.hid hf
  have HT := Lib.hid hturn
  obtain ⟨e0, e1, e2, e3, e4, e5⟩ := hS.ctx.b0.cells
  clear hS hf hfind hturn
  unfold Nd.v optV refV at HF
  refine wp_seq_k fun K1 hK => ?_
  have HK1 := Lib.hid hK
  clear hK
  go_wp2_with fail
  refine HF.out.mono ?_
  rintro e w1 ⟨rfl, hb⟩
  have S1 := Lib.hid ((HS.out.on hb).newR s)
  clear hb HS HF e0 e1 e2 e3 e4 e5
  go_wp2_with fail
  refine HK1.out _ _ ?_
  clear HK1
  refine wp_seq_k fun K2 hK => ?_
  have HK2 := Lib.hid hK
  clear hK
  obtain ⟨e0, e1, e2, e3, e4, e5⟩ := S1.out.ctx.b0.cells
  obtain ⟨f0, f1⟩ := S1.out.r1.cells
  have hf := Turn_n t _ b r _ S1.out.ctx.b0.node S1.out.ctx.rooms hb256 hrok
  rw [HT.out] at hf
  have HF := Lib.hid hf
  clear hf HT
  unfold Nd.v refV at HF
  generalize w1.alloc _ = w2 at S1 HF e0 e1 e2 e3 e4 e5 f0 f1 ⊢
  go_wp2_with fail
  refine HF.out.mono ?_
  rintro e w3 ⟨V', rfl, hnd, hb, hrw⟩
  obtain ⟨A4, c4, A5, c5, rfl, hnd⟩ := open_nd hnd
  have S2 := Lib.hid ((S1.out.on hb).new hnd)
  clear hb hrw hnd HF S1 e0 e1 e2 e3 e4 e5 f0 f1
  unfold Nd.v
  go_wp2_with fail
  refine HK2.out _ _ ?_
  clear HK2
  unfold Nd.c at S2
  generalize w3.alloc _ = w4 at S2 ⊢
  refine wp_seq_k fun K3 hK => ?_
  have HK3 := Lib.hid hK
  clear hK
  obtain ⟨e0, e1, e2, e3, e4, e5⟩ := S2.out.ctx.b0.cells
  obtain ⟨m0, m1, m2, m3, m4, m5⟩ := S2.out.ctx.b2.cells
  obtain ⟨z0, z1⟩ := S2.out.r0.cells
  obtain ⟨s0, s1⟩ := S2.out.r2.cells
  have hf := SameNode_n m m _ _ _ S2.out.ctx.b0.node S2.out.ctx.b2.node
  rw [sameN_refl] at hf
  have HF := Lib.hid hf
  clear hf
  unfold Nd.v at HF
  go_wp2_with fail
  refine HF.out.mono ?_
  rintro e w5 ⟨rfl, hb⟩
  have S3 := Lib.hid (S2.out.on hb).ctx.below
  clear hb HF S2 e0 e1 e2 e3 e4 e5 m0 m1 m2 m3 m4 m5 z0 z1 s0 s1
  go_wp2_with fail
  refine HK3.out _ _ ?_
  clear HK3
  go_wp2_with fail
  exact HQ.out _ _ _ _ _ _ _ _ _ _ _ _ _ _ _ _ _ _ _ _ _ _ _ _ _ _ _ _ _ _ _ _ _ _ _ _ _ _ _ _ _ _ _ _ _ _ _ _ _ _ _ _ _ _ _ _ _ _ _ _ _ _ _ _ _ _ _ _ _ _ _ _ _ _ _ _ _ _ _ _ _ _ _ _ _ _ _ _ _ _ _ _ _ _ _ _ _ _ _ _ _ _ _ _ _ _ _ _ _ _ _ _ _ _ _ _ _ _ _ _ _ _ _ _ _ _ _ _ _ _ _ _ _ _ _ _ _ _ _ _ _ _ _ _ _ _ _ _ _ _ _ _ _ _ _ _ _ _ _ _ _ _ _ _ _ _ _ _ _ _ _ _ _ _ _ _ _ _ _ _ _ _ _ _ _ _ _ _ _ _ _ _ _ _ _ _ _ _ _ _ _ _ _ _ _ _ _ _ _ _ S3.out
end Go.Proofs.YtgjgcbemgmkncaaDoor
namespace Go.Proofs.YtgjgcbemgmkncaaDoor
open Go.RowKit Go.Shelf
set_option linter.unusedVariables false
set_option linter.unusedSimpArgs false

set_option maxHeartbeats 12800000 in
set_option maxRecDepth 100000 in
theorem bkE {u0 u2 u3 u5 u8 u9 u10 u12 u13 u14 u15 u16 u19 u20 u21 u22 u23 u24 u25 u26 u27 u28 u29 u30 u31 u32 u33 u34 u35 u36 u37 u38 u39 u40 u41 u42 u43 u44 u45 u46 u47 u48 u49 u50 u51 u52 u53 u54 u55 u56 u57 u58 u59 u60 u61 u62 u63 u64 u65 u66 u67 u68 u69 u70 u71 u72 u73 u74 u75 u76 u77 u78 u79 u80 u81 u82 u83 u84 u85 u86 u87 u88 u89 u90 u91 u92 u93 u94 u95 u96 u97 u98 u99 u100 u101 u102 u103 u104 u105 u106 u107 u108 u109 u110 u111 u112 u113 u114 u115 u116 u117 u118 u119 u120 u121 u122 u123 u124 u125 u126 u127 u128 u129 u130 u131 u132 u133 u134 u135 u136 u137 u138 u139 u140 u141 u142 u143 u144 u145 u146 u147 u148 u149 u150 u151 u152 u153 u154 u155 u156 u157 u158 u159 u160 u161 u162 u163 u164 u165 u166 u167 u168 u169 u170 u171 u172 u173 u174 u175 u176 u177 u178 u179 u180 u181 u182 u183 u184 u185 u186 u187 u188 u189 u190 u191 u192 u193 u194 u195 u196 u197 u198 u199 u200 u201 u202 u203 u204 u205 u206 u207 u208 u209 : Value} {ds : List Deferred} {Q : Exit → Act → World → Prop} (b gn gr gs gm gt : Nat) (r s : Int × Int) (n m t : Nd) (Ab Ak Ab2 Ak2 Ab3 Ak3 : Option Addr) (cb ck cb2 ck2 cb3 ck3 : Nat) (w w0 : World) (c : Int)
    (hS : BkW w [⟨gt, t, Ab3, cb3, Ak3, ck3⟩, ⟨gm, m, Ab2, cb2, Ak2, ck2⟩, ⟨gn, n, Ab, cb, Ak, ck⟩] [(gr, r), (gs, s)] w0) (hb256 : b < 256) (hrok : refOk r) (hc : c = 4 ∨ c = 0 ∧ findN t b = some s ∧ turnN t b r = (m, 0)) (hQ : BackRet w ds Q) :
    Code.wp Tryd.prog (part Tryd.f4 [1, 1, 1, 1, 1, 1, 1, 1, 1, 1, 1, 1]) Q ⟨#[u0, .int .u8 (b : Int), u2, u3, .pointer (some ⟨gn, 0, none⟩), u5, .pointer (some ⟨gr, 0, none⟩), .pointer (some ⟨gs, 0, none⟩), u8, u9, u10, .pointer (some ⟨gm, 0, none⟩), u12, u13, u14, u15, u16, .pointer (some ⟨gt, 0, none⟩), .int .i64 c, u19, u20, u21, u22, u23, u24, u25, u26, u27, u28, u29, u30, u31, u32, u33, u34, u35, u36, u37, u38, u39, u40, u41, u42, u43, u44, u45, u46, u47, u48, u49, u50, u51, u52, u53, u54, u55, u56, u57, u58, u59, u60, u61, u62, u63, u64, u65, u66, u67, u68, u69, u70, u71, u72, u73, u74, u75, u76, u77, u78, u79, u80, u81, u82, u83, u84, u85, u86, u87, u88, u89, u90, u91, u92, u93, u94, u95, u96, u97, u98, u99, u100, u101, u102, u103, u104, u105, u106, u107, u108, u109, u110, u111, u112, u113, u114, u115, u116, u117, u118, u119, u120, u121, u122, u123, u124, u125, u126, u127, u128, u129, u130, u131, u132, u133, u134, u135, u136, u137, u138, u139, u140, u141, u142, u143, u144, u145, u146, u147, u148, u149, u150, u151, u152, u153, u154, u155, u156, u157, u158, u159, u160, u161, u162, u163, u164, u165, u166, u167, u168, u169, u170, u171, u172, u173, u174, u175, u176, u177, u178, u179, u180, u181, u182, u183, u184, u185, u186, u187, u188, u189, u190, u191, u192, u193, u194, u195, u196, u197, u198, u199, u200, u201, u202, u203, u204, u205, u206, u207, u208, u209], ds⟩ w0 := by
  conv => arg 2; whnf
  have HQ := Lib.hid hQ
  clear hQ
  refine wp_seq_k fun K1 hK => ?_
  have HK1 := Lib.hid hK
  clear hK
  rcases hc with rfl | ⟨rfl, hfind, hturn⟩
  · have HB := Lib.hid hS.ctx.below
    clear hS
    go_wp2_with fail
    exact HQ.out _ _ _ _ _ _ _ _ _ _ _ _ _ _ _ _ _ _ _ _ _ _ _ _ _ _ _ _ _ _ _ _ _ _ _ _ _ _ _ _ _ _ _ _ _ _ _ _ _ _ _ _ _ _ _ _ _ _ _ _ _ _ _ _ _ _ _ _ _ _ _ _ _ _ _ _ _ _ _ _ _ _ _ _ _ _ _ _ _ _ _ _ _ _ _ _ _ _ _ _ _ _ _ _ _ _ _ _ _ _ _ _ _ _ _ _ _ _ _ _ _ _ _ _ _ _ _ _ _ _ _ _ _ _ _ _ _ _ _ _ _ _ _ _ _ _ _ _ _ _ _ _ _ _ _ _ _ _ _ _ _ _ _ _ _ _ _ _ _ _ _ _ _ _ _ _ _ _ _ _ _ _ _ _ _ _ _ _ _ _ _ _ _ _ _ _ _ _ _ _ _ _ _ _ _ _ _ _ _ _ HB.out
  · have HS := Lib.hid hS
    have HF := Lib.hid (And.intro hfind hturn)
    clear hS hfind hturn
    go_wp2_with fail
    refine HK1.out _ _ ?_
    clear HK1
    exact bkF b gn gr gs gm gt r s n m t Ab Ak Ab2 Ak2 Ab3 Ak3 cb ck cb2 ck2 cb3 ck3 w w0 HS.out hb256 hrok HF.out.1 HF.out.2 HQ.out
set_option maxHeartbeats 12800000 in
set_option maxRecDepth 100000 in
theorem bkD {u0 u2 u3 u5 u8 u9 u10 u12 u13 u14 u15 u16 u19 u20 u21 u22 u23 u24 u25 u26 u27 u28 u29 u30 u31 u32 u33 u34 u35 u36 u37 u38 u39 u40 u41 u42 u43 u44 u45 u46 u47 u48 u49 u50 u51 u52 u53 u54 u55 u56 u57 u58 u59 u60 u61 u62 u63 u64 u65 u66 u67 u68 u69 u70 u71 u72 u73 u74 u75 u76 u77 u78 u79 u80 u81 u82 u83 u84 u85 u86 u87 u88 u89 u90 u91 u92 u93 u94 u95 u96 u97 u98 u99 u100 u101 u102 u103 u104 u105 u106 u107 u108 u109 u110 u111 u112 u113 u114 u115 u116 u117 u118 u119 u120 u121 u122 u123 u124 u125 u126 u127 u128 u129 u130 u131 u132 u133 u134 u135 u136 u137 u138 u139 u140 u141 u142 u143 u144 u145 u146 u147 u148 u149 u150 u151 u152 u153 u154 u155 u156 u157 u158 u159 u160 u161 u162 u163 u164 u165 u166 u167 u168 u169 u170 u171 u172 u173 u174 u175 u176 u177 u178 u179 u180 u181 u182 u183 u184 u185 u186 u187 u188 u189 u190 u191 u192 u193 u194 u195 u196 u197 u198 u199 u200 u201 u202 u203 u204 u205 u206 u207 u208 u209 : Value} {ds : List Deferred} {Q : Exit → Act → World → Prop} (b gn gr gs gm gt : Nat) (r s : Int × Int) (n m t : Nd) (Ab Ak Ab2 Ak2 Ab3 Ak3 : Option Addr) (cb ck cb2 ck2 cb3 ck3 : Nat) (w w0 : World) (c : Int)
    (hS : BkW w [⟨gt, t, Ab3, cb3, Ak3, ck3⟩, ⟨gm, m, Ab2, cb2, Ak2, ck2⟩, ⟨gn, n, Ab, cb, Ak, ck⟩] [(gr, r), (gs, s)] w0) (hb256 : b < 256) (hrok : refOk r) (hc : c = 4 ∨ c = 0 ∧ findN t b = some s ∧ turnN t b r = (m, 0)) (hk : (m.kind == n.kind) = !n.full) (hQ : BackRet w ds Q) :
    Code.wp Tryd.prog (part Tryd.f4 [1, 1, 1, 1, 1, 1, 1, 1, 1, 1, 1]) Q ⟨#[u0, .int .u8 (b : Int), u2, u3, .pointer (some ⟨gn, 0, none⟩), u5, .pointer (some ⟨gr, 0, none⟩), .pointer (some ⟨gs, 0, none⟩), u8, u9, u10, .pointer (some ⟨gm, 0, none⟩), u12, u13, u14, u15, u16, .pointer (some ⟨gt, 0, none⟩), .int .i64 c, u19, u20, u21, u22, u23, u24, u25, u26, u27, u28, u29, u30, u31, u32, u33, u34, u35, u36, u37, u38, u39, u40, u41, u42, u43, u44, u45, u46, u47, u48, u49, u50, u51, u52, u53, u54, u55, u56, u57, u58, u59, u60, u61, u62, u63, u64, u65, u66, u67, u68, u69, u70, u71, u72, u73, u74, u75, u76, u77, u78, u79, u80, u81, u82, u83, u84, u85, u86, u87, u88, u89, u90, u91, u92, u93, u94, u95, u96, u97, u98, u99, u100, u101, u102, u103, u104, u105, u106, u107, u108, u109, u110, u111, u112, u113, u114, u115, u116, u117, u118, u119, u120, u121, u122, u123, u124, u125, u126, u127, u128, u129, u130, u131, u132, u133, u134, u135, u136, u137, u138, u139, u140, u141, u142, u143, u144, u145, u146, u147, u148, u149, u150, u151, u152, u153, u154, u155, u156, u157, u158, u159, u160, u161, u162, u163, u164, u165, u166, u167, u168, u169, u170, u171, u172, u173, u174, u175, u176, u177, u178, u179, u180, u181, u182, u183, u184, u185, u186, u187, u188, u189, u190, u191, u192, u193, u194, u195, u196, u197, u198, u199, u200, u201, u202, u203, u204, u205, u206, u207, u208, u209], ds⟩ w0 := by
  conv => arg 2; whnf
  have HQ := Lib.hid hQ
  clear hQ
  refine wp_seq_k fun K1 hK => ?_
  have HK1 := Lib.hid hK
  clear hK
  have hf := Full_n n _ w0 hS.ctx.b2.node hS.ctx.rooms
  obtain ⟨e0, e1, e2, e3, e4, e5⟩ := hS.ctx.b2.cells
  obtain ⟨m0, m1, m2, m3, m4, m5⟩ := hS.ctx.b1.cells
  have HS := Lib.hid (And.intro hS hc)
  clear hS hc
  cases hfu : n.full with
  | false =>
    rw [hfu] at hf hk
    have hk2 : m.kind = n.kind := by simpa using hk
    rw [hk2] at m0
    have HF := Lib.hid hf
    clear hf hk hk2 hfu
    unfold Nd.v at HF
    go_wp2_with fail
    refine HF.out.mono ?_
    rintro e w1 ⟨rfl, hb⟩
    have S1 := Lib.hid (HS.out.1.on hb)
    have HC := Lib.hid HS.out.2
    clear hb HS HF e0 e1 e2 e3 e4 e5 m0 m1 m2 m3 m4 m5
    go_wp2_with fail
    refine HK1.out _ _ ?_
    clear HK1
    exact bkE b gn gr gs gm gt r s n m t Ab Ak Ab2 Ak2 Ab3 Ak3 cb ck cb2 ck2 cb3 ck3 w w1 c S1.out hb256 hrok HC.out HQ.out
  | true =>
    rw [hfu] at hf hk
    have hk2 : ¬ (m.kind = n.kind) := by simpa using hk
    have HF := Lib.hid hf
    clear hf hk hfu
    unfold Nd.v at HF
    go_wp2_with fail
    refine HF.out.mono ?_
    rintro e w1 ⟨rfl, hb⟩
    have S1 := Lib.hid (HS.out.1.on hb)
    have HC := Lib.hid HS.out.2
    obtain ⟨e0', e1', e2', e3', e4', e5'⟩ := S1.out.ctx.b2.cells
    obtain ⟨m0', m1', m2', m3', m4', m5'⟩ := S1.out.ctx.b1.cells
    clear hb HS HF e0 e1 e2 e3 e4 e5 m0 m1 m2 m3 m4 m5
    go_wp2_with fail
    refine HK1.out _ _ ?_
    clear HK1
    exact bkE b gn gr gs gm gt r s n m t Ab Ak Ab2 Ak2 Ab3 Ak3 cb ck cb2 ck2 cb3 ck3 w w1 c S1.out hb256 hrok HC.out HQ.out
end Go.Proofs.YtgjgcbemgmkncaaDoor
namespace Go.Proofs.YtgjgcbemgmkncaaDoor
open Go.RowKit Go.Shelf
set_option linter.unusedVariables false
set_option linter.unusedSimpArgs false

set_option maxHeartbeats 12800000 in
set_option maxRecDepth 100000 in
theorem bk17 {u0 u1 u2 u3 u5 u6 u7 u8 u9 u10 u12 u13 u14 u15 u16 u17 u18 u20 u21 u22 u23 u24 u25 u26 u27 u28 u29 u30 u31 u32 u33 u34 u35 u36 u37 u38 u39 u40 u41 u42 u43 u44 u45 u46 u47 u48 u49 u50 u51 u52 u53 u54 u55 u56 u57 u58 u59 u60 u61 u62 u63 u64 u65 u66 u67 u68 u69 u70 u71 u72 u73 u74 u75 u76 u77 u78 u79 u80 u81 u82 u83 u84 u85 u86 u87 u88 u89 u90 u91 u92 u93 u94 u95 u96 u97 u98 u99 u100 u101 u102 u103 u104 u105 u106 u107 u108 u109 u110 u111 u112 u113 u114 u115 u116 u117 u118 u119 u120 u121 u122 u123 u124 u125 u126 u127 u128 u129 u130 u131 u132 u133 u134 u135 u136 u137 u138 u139 u140 u141 u142 u143 u144 u145 u146 u147 u148 u149 u150 u151 u152 u153 u154 u155 u156 u157 u158 u159 u160 u161 u162 u163 u164 u165 u166 u167 u168 u169 u170 u171 u172 u173 u174 u175 u176 u177 u178 u179 u180 u181 u182 u183 u184 u185 u186 u187 u188 u189 u190 u191 u192 u193 u194 u195 u196 u197 u198 u199 u200 u201 u202 u203 u204 u205 u206 u207 u208 u209 : Value} {ds : List Deferred} {Q : Exit → Act → World → Prop} (gn gm i bi cb cb2 ck2 : Nat) (n m : Nd) (ad : Addr) (Ab2 Ak2 : Option Addr) (q : Int × Int) (ok : Bool) (w0 : World) (hx : BoxAt w0 gm m Ab2 cb2 Ak2 ck2) (hr : RoomsAt w0) (hc4 : w0.cell? ⟨gn, 4, none⟩ = some (.slice (some ad) n.bytes.length cb)) (hgn : gn < w0.heap.size) (hadl : ad.block < w0.heap.size) (hbyte : w0.cell? (ad.add i) = some (.int .u8 (bi : Int))) (i1 : (0 : Int) ≤ (i : Int)) (i2 : (i : Int) < (n.bytes.length : Int))
    (hcall : ∀ W : World, NdAt W m (m.v Ab2 cb2 Ak2 ck2) → RoomsAt W → Calls Tryd.prog 15 #[m.v Ab2 cb2 Ak2 ck2, .int .u8 (bi : Int)] W (TwoEnd (refV q) (.bool ok) W))
    (hQ : ∀ (z136 z137 z138 z139 z140 z141 z142 z143 z144 z145 : Value) (gN : Nat) (V : World), Below w0.heap.size w0 V → RefBox V gN q → Q .normal ⟨#[u0, u1, u2, u3, .pointer (some ⟨gn, 0, none⟩), u5, u6, u7, u8, u9, u10, .pointer (some ⟨gm, 0, none⟩), u12, u13, u14, u15, u16, u17, u18, .int .i64 (i : Int), .pointer (some ⟨gN, 0, none⟩), .bool ok, u22, u23, u24, u25, u26, u27, u28, u29, u30, u31, u32, u33, u34, u35, u36, u37, u38, u39, u40, u41, u42, u43, u44, u45, u46, u47, u48, u49, u50, u51, u52, u53, u54, u55, u56, u57, u58, u59, u60, u61, u62, u63, u64, u65, u66, u67, u68, u69, u70, u71, u72, u73, u74, u75, u76, u77, u78, u79, u80, u81, u82, u83, u84, u85, u86, u87, u88, u89, u90, u91, u92, u93, u94, u95, u96, u97, u98, u99, u100, u101, u102, u103, u104, u105, u106, u107, u108, u109, u110, u111, u112, u113, u114, u115, u116, u117, u118, u119, u120, u121, u122, u123, u124, u125, u126, u127, u128, u129, u130, u131, u132, u133, u134, u135, z136, z137, z138, z139, z140, z141, z142, z143, z144, z145, u146, u147, u148, u149, u150, u151, u152, u153, u154, u155, u156, u157, u158, u159, u160, u161, u162, u163, u164, u165, u166, u167, u168, u169, u170, u171, u172, u173, u174, u175, u176, u177, u178, u179, u180, u181, u182, u183, u184, u185, u186, u187, u188, u189, u190, u191, u192, u193, u194, u195, u196, u197, u198, u199, u200, u201, u202, u203, u204, u205, u206, u207, u208, u209], ds⟩ V) :
    Code.wp Tryd.prog (part Tryd.f4 [1, 1, 1, 1, 1, 1, 1, 1, 1, 1, 0, 1, 2, 2, 1, 0, 2, 0]) Q ⟨#[u0, u1, u2, u3, .pointer (some ⟨gn, 0, none⟩), u5, u6, u7, u8, u9, u10, .pointer (some ⟨gm, 0, none⟩), u12, u13, u14, u15, u16, u17, u18, .int .i64 (i : Int), u20, u21, u22, u23, u24, u25, u26, u27, u28, u29, u30, u31, u32, u33, u34, u35, u36, u37, u38, u39, u40, u41, u42, u43, u44, u45, u46, u47, u48, u49, u50, u51, u52, u53, u54, u55, u56, u57, u58, u59, u60, u61, u62, u63, u64, u65, u66, u67, u68, u69, u70, u71, u72, u73, u74, u75, u76, u77, u78, u79, u80, u81, u82, u83, u84, u85, u86, u87, u88, u89, u90, u91, u92, u93, u94, u95, u96, u97, u98, u99, u100, u101, u102, u103, u104, u105, u106, u107, u108, u109, u110, u111, u112, u113, u114, u115, u116, u117, u118, u119, u120, u121, u122, u123, u124, u125, u126, u127, u128, u129, u130, u131, u132, u133, u134, u135, u136, u137, u138, u139, u140, u141, u142, u143, u144, u145, u146, u147, u148, u149, u150, u151, u152, u153, u154, u155, u156, u157, u158, u159, u160, u161, u162, u163, u164, u165, u166, u167, u168, u169, u170, u171, u172, u173, u174, u175, u176, u177, u178, u179, u180, u181, u182, u183, u184, u185, u186, u187, u188, u189, u190, u191, u192, u193, u194, u195, u196, u197, u198, u199, u200, u201, u202, u203, u204, u205, u206, u207, u208, u209], ds⟩ w0 := by
  conv => arg 2; whnf
  have HQ := Lib.hid hQ
  have HC := Lib.hid hcall
  have HX := Lib.hid (And.intro hx hr)
  have HS : Hid (∀ V : World, Below w0.heap.size w0 V → (fun V : World => (V.cell? ⟨gm, 0, none⟩ = some (.int .i64 m.kind) ∧ V.cell? ⟨gm, 1, none⟩ = some (.string m.code) ∧ V.cell? ⟨gm, 2, none⟩ = some (.string m.value) ∧ V.cell? ⟨gm, 3, none⟩ = some (.string m.path) ∧ V.cell? ⟨gm, 4, none⟩ = some (.slice Ab2 m.bytes.length cb2) ∧ V.cell? ⟨gm, 5, none⟩ = some (.slice Ak2 m.kids.length ck2)) ∧ V.cell? ⟨gn, 4, none⟩ = some (.slice (some ad) n.bytes.length cb) ∧ V.cell? (ad.add i) = some (.int .u8 (bi : Int))) V) := Lib.hid (fun V hb => ⟨cells6 (hx.blk.below hb hx.lt), (hb.cell (p := ⟨gn, 4, none⟩) hgn).trans hc4, (hb.cell (p := ad.add i) (by rw [block_of_add]; exact hadl)).trans hbyte⟩)
  have HB0 : Hid (Below w0.heap.size w0 w0.drew) := Lib.hid (Below.refl _ _).drew
  clear hQ hcall hx hr hc4 hbyte
  unfold Nd.v at HC
  refine wp_region_noPanic ?_
  refine wp_region_held_drew (S := (fun V : World => (V.cell? ⟨gm, 0, none⟩ = some (.int .i64 m.kind) ∧ V.cell? ⟨gm, 1, none⟩ = some (.string m.code) ∧ V.cell? ⟨gm, 2, none⟩ = some (.string m.value) ∧ V.cell? ⟨gm, 3, none⟩ = some (.string m.path) ∧ V.cell? ⟨gm, 4, none⟩ = some (.slice Ab2 m.bytes.length cb2) ∧ V.cell? ⟨gm, 5, none⟩ = some (.slice Ak2 m.kids.length ck2)) ∧ V.cell? ⟨gn, 4, none⟩ = some (.slice (some ad) n.bytes.length cb) ∧ V.cell? (ad.add i) = some (.int .u8 (bi : Int)))) (by kernel_rfl) ?_ (fun hHeld0 => ?_)
  · exact HS.out _ HB0.out
  refine wpAnyH_take (i := 0) (v := ?_) rfl (by kernel_rfl) (by kernel_rfl) (by kernel_rfl) (fun _ _ _ h => h) (Or.inl ⟨by rfl, ?_⟩) hHeld0 ?_
  rotate_left
  · (intro w hSw; (try dsimp only at hSw); go_simp <;> with_reducible rfl)
  try simp only [Act.put, List.setIfInBounds_toArray, List.set_cons_zero, List.set_cons_succ]
  refine wpAnyH_take (i := 1) (v := ?_) rfl (by kernel_rfl) (by kernel_rfl) (by kernel_rfl) (fun _ _ _ h => h) (Or.inl ⟨by rfl, ?_⟩) hHeld0 ?_
  rotate_left
  · (intro w hSw; (try dsimp only at hSw); go_simp <;> with_reducible rfl)
  try simp only [Act.put, List.setIfInBounds_toArray, List.set_cons_zero, List.set_cons_succ]
  refine wpAnyH_take (i := 2) (v := ?_) rfl (by kernel_rfl) (by kernel_rfl) (by kernel_rfl) (fun _ _ _ h => h) (Or.inl ⟨by rfl, ?_⟩) hHeld0 ?_
  rotate_left
  · (intro w hSw; (try dsimp only at hSw); go_simp <;> with_reducible rfl)
  try simp only [Act.put, List.setIfInBounds_toArray, List.set_cons_zero, List.set_cons_succ]
  refine wpAnyH_take (i := 3) (v := ?_) rfl (by kernel_rfl) (by kernel_rfl) (by kernel_rfl) (fun _ _ _ h => h) (Or.inl ⟨by rfl, ?_⟩) hHeld0 ?_
  rotate_left
  · (intro w hSw; (try dsimp only at hSw); go_simp <;> with_reducible rfl)
  try simp only [Act.put, List.setIfInBounds_toArray, List.set_cons_zero, List.set_cons_succ]
  refine wpAnyH_take (i := 4) (v := ?_) rfl (by kernel_rfl) (by kernel_rfl) (by kernel_rfl) (fun _ _ _ h => h) (Or.inl ⟨by rfl, ?_⟩) hHeld0 ?_
  rotate_left
  · (intro w hSw; (try dsimp only at hSw); go_simp <;> with_reducible rfl)
  try simp only [Act.put, List.setIfInBounds_toArray, List.set_cons_zero, List.set_cons_succ]
  refine wpAnyH_take (i := 5) (v := ?_) rfl (by kernel_rfl) (by kernel_rfl) (by kernel_rfl) (fun _ _ _ h => h) (Or.inl ⟨by rfl, ?_⟩) hHeld0 ?_
  rotate_left
  · (intro w hSw; (try dsimp only at hSw); go_simp <;> with_reducible rfl)
  try simp only [Act.put, List.setIfInBounds_toArray, List.set_cons_zero, List.set_cons_succ]
  refine wpAnyH_ready (rs := [6, 10]) (by kernel_rfl) (by simp) ?_
  refine AllReadyH.cons rfl (fun K hK => ?_) ?_
  · go_simp
    refine (HC.out _ (HX.out.1.node.below HB0.out) (HX.out.2.on HB0.out)).mono ?_
    rintro e w1 ⟨rfl, hb⟩
    have HB1 := Lib.hid (HB0.out.trans (hb.mono HB0.out.size))
    clear hb
    refine hK.out _ _ ?_ (fun hHeld1 => ?_)
    · exact HS.out _ HB1.out
    clear hK K hHeld0
    try simp only [Act.put, List.setIfInBounds_toArray, List.set_cons_zero, List.set_cons_succ]
    refine wpAnyH_take (i := 7) (v := ?_) rfl (by kernel_rfl) (by kernel_rfl) (by kernel_rfl) (fun _ _ _ h => h) (Or.inl ⟨by rfl, ?_⟩) hHeld1 ?_
    rotate_left
    · (intro w hSw; (try dsimp only at hSw); go_simp <;> with_reducible rfl)
    try simp only [Act.put, List.setIfInBounds_toArray, List.set_cons_zero, List.set_cons_succ]
    refine wpAnyH_take (i := 8) (v := ?_) rfl (by kernel_rfl) (by kernel_rfl) (by kernel_rfl) (fun _ _ _ h => h) (Or.inl ⟨by rfl, ?_⟩) hHeld1 ?_
    rotate_left
    · (intro w hSw; (try dsimp only at hSw); go_simp <;> with_reducible rfl)
    try simp only [Act.put, List.setIfInBounds_toArray, List.set_cons_zero, List.set_cons_succ]
    refine wpAnyH_take (i := 9) (v := ?_) rfl (by kernel_rfl) (by kernel_rfl) (by kernel_rfl) (fun _ _ _ h => h) (Or.inl ⟨by rfl, ?_⟩) hHeld1 ?_
    rotate_left
    · (intro w hSw; (try dsimp only at hSw); go_simp <;> with_reducible rfl)
    try simp only [Act.put, List.setIfInBounds_toArray, List.set_cons_zero, List.set_cons_succ]
    refine wpAnyH_ready (rs := [10]) (by kernel_rfl) (by simp) ?_
    refine AllReadyH.cons rfl (fun K hK => ?_) ?_
    · go_simp
      have HB2 := Lib.hid (HB1.out.alloc HB1.out.size (.cells #[.int .i64 0, .int .u32 0] 35))
      refine hK.out _ _ ?_ (fun hHeld2 => ?_)
      · exact HS.out _ HB2.out
      clear hK K hHeld1
      try simp only [Act.put, List.setIfInBounds_toArray, List.set_cons_zero, List.set_cons_succ]
      refine wpAnyH_ready (rs := [11]) (by kernel_rfl) (by simp) ?_
      refine AllReadyH.cons rfl (fun K hK => ?_) ?_
      · have hbx : RefBox (w1.alloc (.cells #[.int .i64 q.1, .int .u32 q.2] 35)) w1.heap.size q := Blk.new _ _ _
        have hBV := HB1.out.alloc HB1.out.size (.cells #[.int .i64 q.1, .int .u32 q.2] 35)
        have HF := Lib.hid (And.intro hBV hbx)
        go_simp
        clear hbx
        refine hK.out _ _ ?_ (fun hHeld3 => ?_)
        · exact HS.out _ hBV
        clear hK K hHeld2
        try simp only [Act.put, List.setIfInBounds_toArray, List.set_cons_zero, List.set_cons_succ]
        refine wpAnyH_take (i := 12) (v := ?_) rfl (by kernel_rfl) (by kernel_rfl) (by kernel_rfl) (fun _ _ _ h => h) (Or.inl ⟨by rfl, ?_⟩) hHeld3 ?_
        rotate_left
        · (intro w hSw; (try dsimp only at hSw); go_simp <;> with_reducible rfl)
        try simp only [Act.put, List.setIfInBounds_toArray, List.set_cons_zero, List.set_cons_succ]
        try simp only [Act.put, List.getElem_toArray, List.getElem_cons_succ, List.getElem_cons_zero, List.setIfInBounds_toArray, List.set_cons_zero, List.set_cons_succ]
        refine wpAnyH_done (by kernel_rfl) ?_ _
        refine NoPanic.normal (HQ.out _ _ _ _ _ _ _ _ _ _ _ _ HF.out.1 HF.out.2)
      exact AllReadyH.nil
    exact AllReadyH.nil
  refine AllReadyH.cons rfl (fun K hK => ?_) ?_
  · go_simp
    have HB3 := Lib.hid (HB0.out.alloc HB0.out.size (.cells #[.int .i64 0, .int .u32 0] 35))
    have Q3 : Blk (w0.drew.alloc (.cells #[.int .i64 0, .int .u32 0] 35)) w0.heap.size 35 #[.int .i64 0, .int .u32 0] := Blk.new _ _ _
    refine hK.out _ _ ?_ (fun hHeld1 => ?_)
    · exact HS.out _ HB3.out
    clear hK K hHeld0
    try simp only [Act.put, List.setIfInBounds_toArray, List.set_cons_zero, List.set_cons_succ]
    refine wpAnyH_ready (rs := [6]) (by kernel_rfl) (by simp) ?_
    refine AllReadyH.cons rfl (fun K hK => ?_) ?_
    · go_simp
      refine (HC.out _ (HX.out.1.node.below HB3.out) (HX.out.2.on HB3.out)).mono ?_
      rintro e w4 ⟨rfl, hb⟩
      have HB4 := Lib.hid (HB3.out.trans (hb.mono HB3.out.size))
      have Q4 : Blk w4 w0.heap.size 35 #[.int .i64 0, .int .u32 0] := Q3.below hb Q3.lt
      clear hb
      refine hK.out _ _ ?_ (fun hHeld2 => ?_)
      · exact HS.out _ HB4.out
      clear hK K hHeld1
      try simp only [Act.put, List.setIfInBounds_toArray, List.set_cons_zero, List.set_cons_succ]
      refine wpAnyH_take (i := 7) (v := ?_) rfl (by kernel_rfl) (by kernel_rfl) (by kernel_rfl) (fun _ _ _ h => h) (Or.inl ⟨by rfl, ?_⟩) hHeld2 ?_
      rotate_left
      · (intro w hSw; (try dsimp only at hSw); go_simp <;> with_reducible rfl)
      try simp only [Act.put, List.setIfInBounds_toArray, List.set_cons_zero, List.set_cons_succ]
      refine wpAnyH_take (i := 8) (v := ?_) rfl (by kernel_rfl) (by kernel_rfl) (by kernel_rfl) (fun _ _ _ h => h) (Or.inl ⟨by rfl, ?_⟩) hHeld2 ?_
      rotate_left
      · (intro w hSw; (try dsimp only at hSw); go_simp <;> with_reducible rfl)
      try simp only [Act.put, List.setIfInBounds_toArray, List.set_cons_zero, List.set_cons_succ]
      refine wpAnyH_take (i := 9) (v := ?_) rfl (by kernel_rfl) (by kernel_rfl) (by kernel_rfl) (fun _ _ _ h => h) (Or.inl ⟨by rfl, ?_⟩) hHeld2 ?_
      rotate_left
      · (intro w hSw; (try dsimp only at hSw); go_simp <;> with_reducible rfl)
      try simp only [Act.put, List.setIfInBounds_toArray, List.set_cons_zero, List.set_cons_succ]
      refine wpAnyH_ready (rs := [11]) (by kernel_rfl) (by simp) ?_
      refine AllReadyH.cons rfl (fun K hK => ?_) ?_
      · have hz : Blk w4 w0.heap.size 35 #[.int .i64 0, .int .u32 0] := Q4
        have d0 : w4.cell? ⟨w0.heap.size, 0, none⟩ = some (.int .i64 0) := hz.cell 0
        have d1 : w4.cell? ⟨w0.heap.size, 1, none⟩ = some (.int .u32 0) := hz.cell 1
        have fz0 := hz.frozen 0
        have fz1 := hz.frozen 1
        have l6 := hz.lt
        obtain ⟨VV, hV, hg, hbx⟩ := two_stores (.int .i64 q.1) (.int .u32 q.2) hz
        have hBV := HB4.out.grown hg HB4.out.size (fun k e => by injection e with e; omega)
        have HF : Hid (Below w0.heap.size w0 VV ∧ RefBox VV w0.heap.size q) := Lib.hid (And.intro hBV hbx)
        go_simp
        rw [← hV]
        clear hV hz hg hbx
        refine hK.out _ _ ?_ (fun hHeld3 => ?_)
        · exact HS.out _ hBV
        clear hK K hHeld2
        try simp only [Act.put, List.setIfInBounds_toArray, List.set_cons_zero, List.set_cons_succ]
        refine wpAnyH_take (i := 12) (v := ?_) rfl (by kernel_rfl) (by kernel_rfl) (by kernel_rfl) (fun _ _ _ h => h) (Or.inl ⟨by rfl, ?_⟩) hHeld3 ?_
        rotate_left
        · (intro w hSw; (try dsimp only at hSw); go_simp <;> with_reducible rfl)
        try simp only [Act.put, List.setIfInBounds_toArray, List.set_cons_zero, List.set_cons_succ]
        try simp only [Act.put, List.getElem_toArray, List.getElem_cons_succ, List.getElem_cons_zero, List.setIfInBounds_toArray, List.set_cons_zero, List.set_cons_succ]
        refine wpAnyH_done (by kernel_rfl) ?_ _
        refine NoPanic.normal (HQ.out _ _ _ _ _ _ _ _ _ _ _ _ HF.out.1 HF.out.2)
      exact AllReadyH.nil
    exact AllReadyH.nil
  exact AllReadyH.nil
end Go.Proofs.YtgjgcbemgmkncaaDoor
namespace Go.Proofs.YtgjgcbemgmkncaaDoor
open Go.RowKit Go.Shelf
set_option linter.unusedVariables false
set_option linter.unusedSimpArgs false

set_option maxHeartbeats 12800000 in
set_option maxRecDepth 100000 in
theorem bk18 {u0 u1 u2 u3 u5 u6 u7 u8 u9 u10 u11 u12 u13 u14 u15 u16 u17 u18 u22 u23 u24 u25 u26 u27 u28 u29 u30 u31 u32 u33 u34 u35 u36 u37 u38 u39 u40 u41 u42 u43 u44 u45 u46 u47 u48 u49 u50 u51 u52 u53 u54 u55 u56 u57 u58 u59 u60 u61 u62 u63 u64 u65 u66 u67 u68 u69 u70 u71 u72 u73 u74 u75 u76 u77 u78 u79 u80 u81 u82 u83 u84 u85 u86 u87 u88 u89 u90 u91 u92 u93 u94 u95 u96 u97 u98 u99 u100 u101 u102 u103 u104 u105 u106 u107 u108 u109 u110 u111 u112 u113 u114 u115 u116 u117 u118 u119 u120 u121 u122 u123 u124 u125 u126 u127 u128 u129 u130 u131 u132 u133 u134 u135 u136 u137 u138 u139 u140 u141 u142 u143 u144 u145 u146 u147 u148 u149 u150 u151 u152 u153 u154 u155 u156 u157 u158 u159 u160 u161 u162 u163 u164 u165 u166 u167 u168 u169 u170 u171 u172 u173 u174 u175 u176 u177 u178 u179 u180 u181 u182 u183 u184 u185 u186 u187 u188 u189 u190 u191 u192 u193 u194 u195 u196 u197 u198 u199 u200 u201 u202 u203 u204 u205 u206 u207 u208 u209 : Value} {ds : List Deferred} {Q : Exit → Act → World → Prop} (gn gy i : Nat) (n : Nd) (Ab Ak : Option Addr) (cb ck : Nat) (q : Int × Int) (w0 : World) (hx : BoxAt w0 gn n Ab cb Ak ck) (hy : RefBox w0 gy q) (hi : i < n.kids.length) (hq : n.kids[i] = q)
    (hQ : ∀ (z146 z147 z148 z149 z150 z151 z152 z153 z154 z155 z156 : Value) (V : World), Below w0.heap.size w0 V → Q .normal ⟨#[u0, u1, u2, u3, .pointer (some ⟨gn, 0, none⟩), u5, u6, u7, u8, u9, u10, u11, u12, u13, u14, u15, u16, u17, u18, .int .i64 (i : Int), .pointer (some ⟨gy, 0, none⟩), .bool true, u22, u23, u24, u25, u26, u27, u28, u29, u30, u31, u32, u33, u34, u35, u36, u37, u38, u39, u40, u41, u42, u43, u44, u45, u46, u47, u48, u49, u50, u51, u52, u53, u54, u55, u56, u57, u58, u59, u60, u61, u62, u63, u64, u65, u66, u67, u68, u69, u70, u71, u72, u73, u74, u75, u76, u77, u78, u79, u80, u81, u82, u83, u84, u85, u86, u87, u88, u89, u90, u91, u92, u93, u94, u95, u96, u97, u98, u99, u100, u101, u102, u103, u104, u105, u106, u107, u108, u109, u110, u111, u112, u113, u114, u115, u116, u117, u118, u119, u120, u121, u122, u123, u124, u125, u126, u127, u128, u129, u130, u131, u132, u133, u134, u135, u136, u137, u138, u139, u140, u141, u142, u143, u144, u145, z146, z147, z148, z149, z150, z151, z152, z153, z154, z155, z156, u157, u158, u159, u160, u161, u162, u163, u164, u165, u166, u167, u168, u169, u170, u171, u172, u173, u174, u175, u176, u177, u178, u179, u180, u181, u182, u183, u184, u185, u186, u187, u188, u189, u190, u191, u192, u193, u194, u195, u196, u197, u198, u199, u200, u201, u202, u203, u204, u205, u206, u207, u208, u209], ds⟩ V) :
    Code.wp Tryd.prog (part Tryd.f4 [1, 1, 1, 1, 1, 1, 1, 1, 1, 1, 0, 1, 2, 2, 1, 0, 2, 1]) Q ⟨#[u0, u1, u2, u3, .pointer (some ⟨gn, 0, none⟩), u5, u6, u7, u8, u9, u10, u11, u12, u13, u14, u15, u16, u17, u18, .int .i64 (i : Int), .pointer (some ⟨gy, 0, none⟩), .bool true, u22, u23, u24, u25, u26, u27, u28, u29, u30, u31, u32, u33, u34, u35, u36, u37, u38, u39, u40, u41, u42, u43, u44, u45, u46, u47, u48, u49, u50, u51, u52, u53, u54, u55, u56, u57, u58, u59, u60, u61, u62, u63, u64, u65, u66, u67, u68, u69, u70, u71, u72, u73, u74, u75, u76, u77, u78, u79, u80, u81, u82, u83, u84, u85, u86, u87, u88, u89, u90, u91, u92, u93, u94, u95, u96, u97, u98, u99, u100, u101, u102, u103, u104, u105, u106, u107, u108, u109, u110, u111, u112, u113, u114, u115, u116, u117, u118, u119, u120, u121, u122, u123, u124, u125, u126, u127, u128, u129, u130, u131, u132, u133, u134, u135, u136, u137, u138, u139, u140, u141, u142, u143, u144, u145, u146, u147, u148, u149, u150, u151, u152, u153, u154, u155, u156, u157, u158, u159, u160, u161, u162, u163, u164, u165, u166, u167, u168, u169, u170, u171, u172, u173, u174, u175, u176, u177, u178, u179, u180, u181, u182, u183, u184, u185, u186, u187, u188, u189, u190, u191, u192, u193, u194, u195, u196, u197, u198, u199, u200, u201, u202, u203, u204, u205, u206, u207, u208, u209], ds⟩ w0 := by
  conv => arg 2; whnf
  have HQ := Lib.hid hQ
  have h5 := hx.cells.2.2.2.2.2
  obtain ⟨y0, y1⟩ := hy.cells
  obtain ⟨ad, rfl, hab, c0, c0a, c0b, c0c, c0d⟩ := ref_at2 (node_reads hx.node).2.2 hi
  rw [hq] at c0 c0a c0b c0c c0d
  have i1 : (0 : Int) ≤ (i : Int) := by omega
  have i2 : (i : Int) < (n.kids.length : Int) := by omega
  obtain ⟨q1, q2⟩ := q
  dsimp only at y0 y1 c0 c0a c0b c0c c0d
  clear hQ hx hy hq hi hab
  refine wp_seq_k fun K1 hK => ?_
  have HK1 := Lib.hid hK
  clear hK
  go_quiet (fail)
  refine HK1.out _ _ ?_
  clear HK1
  go_wp2_with fail
  exact HQ.out _ _ _ _ _ _ _ _ _ _ _ _ (below_drewN (Below.refl _ _) _)
end Go.Proofs.YtgjgcbemgmkncaaDoor
namespace Go.Proofs.YtgjgcbemgmkncaaDoor
open Go.RowKit Go.Shelf
set_option linter.unusedVariables false
set_option linter.unusedSimpArgs false

set_option maxHeartbeats 12800000 in
set_option maxRecDepth 100000 in
theorem bkC {u0 u2 u3 u5 u8 u9 u10 u12 u13 u14 u15 u16 u19 u20 u21 u22 u23 u24 u25 u26 u27 u28 u29 u30 u31 u32 u33 u34 u35 u36 u37 u38 u39 u40 u41 u42 u43 u44 u45 u46 u47 u48 u49 u50 u51 u52 u53 u54 u55 u56 u57 u58 u59 u60 u61 u62 u63 u64 u65 u66 u67 u68 u69 u70 u71 u72 u73 u74 u75 u76 u77 u78 u79 u80 u81 u82 u83 u84 u85 u86 u87 u88 u89 u90 u91 u92 u93 u94 u95 u96 u97 u98 u99 u100 u101 u102 u103 u104 u105 u106 u107 u108 u109 u110 u111 u112 u113 u114 u115 u116 u117 u118 u119 u120 u121 u122 u123 u124 u125 u126 u127 u128 u129 u130 u131 u132 u133 u134 u135 u136 u137 u138 u139 u140 u141 u142 u143 u144 u145 u146 u147 u148 u149 u150 u151 u152 u153 u154 u155 u156 u157 u158 u159 u160 u161 u162 u163 u164 u165 u166 u167 u168 u169 u170 u171 u172 u173 u174 u175 u176 u177 u178 u179 u180 u181 u182 u183 u184 u185 u186 u187 u188 u189 u190 u191 u192 u193 u194 u195 u196 u197 u198 u199 u200 u201 u202 u203 u204 u205 u206 u207 u208 u209 : Value} {ds : List Deferred} {Q : Exit → Act → World → Prop} (b gn gr gs gm gt : Nat) (r s : Int × Int) (n m t : Nd) (Ab Ak Ab2 Ak2 Ab3 Ak3 : Option Addr) (cb ck cb2 ck2 cb3 ck3 : Nat) (w w0 : World) (c : Int)
    (hS : BkW w [⟨gt, t, Ab3, cb3, Ak3, ck3⟩, ⟨gm, m, Ab2, cb2, Ak2, ck2⟩, ⟨gn, n, Ab, cb, Ak, ck⟩] [(gr, r), (gs, s)] w0) (hr0 : RoomsAt w) (hb256 : b < 256) (hrok : refOk r) (hc : c = 4 ∨ c = 0 ∧ findN t b = some s ∧ turnN t b r = (m, 0)) (hk : (m.kind == n.kind) = !n.full) (hlen : n.bytes.length = n.kids.length) (hn256 : ∀ x ∈ n.bytes, x < 256) (hkids : ∀ i (h : i < n.bytes.length) (h2 : i < n.kids.length), findN m n.bytes[i] = some n.kids[i]) (hQ : BackRet w ds Q) :
    Code.wp Tryd.prog (part Tryd.f4 [1, 1, 1, 1, 1, 1, 1, 1, 1, 1]) Q ⟨#[u0, .int .u8 (b : Int), u2, u3, .pointer (some ⟨gn, 0, none⟩), u5, .pointer (some ⟨gr, 0, none⟩), .pointer (some ⟨gs, 0, none⟩), u8, u9, u10, .pointer (some ⟨gm, 0, none⟩), u12, u13, u14, u15, u16, .pointer (some ⟨gt, 0, none⟩), .int .i64 c, u19, u20, u21, u22, u23, u24, u25, u26, u27, u28, u29, u30, u31, u32, u33, u34, u35, u36, u37, u38, u39, u40, u41, u42, u43, u44, u45, u46, u47, u48, u49, u50, u51, u52, u53, u54, u55, u56, u57, u58, u59, u60, u61, u62, u63, u64, u65, u66, u67, u68, u69, u70, u71, u72, u73, u74, u75, u76, u77, u78, u79, u80, u81, u82, u83, u84, u85, u86, u87, u88, u89, u90, u91, u92, u93, u94, u95, u96, u97, u98, u99, u100, u101, u102, u103, u104, u105, u106, u107, u108, u109, u110, u111, u112, u113, u114, u115, u116, u117, u118, u119, u120, u121, u122, u123, u124, u125, u126, u127, u128, u129, u130, u131, u132, u133, u134, u135, u136, u137, u138, u139, u140, u141, u142, u143, u144, u145, u146, u147, u148, u149, u150, u151, u152, u153, u154, u155, u156, u157, u158, u159, u160, u161, u162, u163, u164, u165, u166, u167, u168, u169, u170, u171, u172, u173, u174, u175, u176, u177, u178, u179, u180, u181, u182, u183, u184, u185, u186, u187, u188, u189, u190, u191, u192, u193, u194, u195, u196, u197, u198, u199, u200, u201, u202, u203, u204, u205, u206, u207, u208, u209], ds⟩ w0 := by
  conv => arg 2; whnf
  have HQ := Lib.hid hQ
  clear hQ
  have HA := Lib.hid (And.intro hc (And.intro hk (And.intro hlen (And.intro hn256 hkids))))
  have H0 := Lib.hid hS
  clear hc hk hlen hn256 hkids hS
  refine wp_seq_k fun K1 hK => ?_
  have HK1 := Lib.hid hK
  clear hK
  go_wp2_with fail
  go_loopw [19] (fun i wr => ∃ k : Nat, k ≤ n.bytes.length ∧ i = .int .i64 k ∧ Hid (BkW w [⟨gt, t, Ab3, cb3, Ak3, ck3⟩, ⟨gm, m, Ab2, cb2, Ak2, ck2⟩, ⟨gn, n, Ab, cb, Ak, ck⟩] [(gr, r), (gs, s)] wr)) (fun i _ => n.bytes.length - (intOf i).toNat)
  case atStart => exact ⟨0, Nat.zero_le _, rfl, H0⟩
  case round =>
    obtain ⟨k, hk, rfl, HW⟩ := hrel
    clear H0
    by_cases hlt : k < n.bytes.length
    · have h4 := HW.out.ctx.b2.cells.2.2.2.2.1
      obtain ⟨ad, rfl, hab, hbyte⟩ := byte_at (node_reads HW.out.ctx.b2.node).2.1 hlt
      have i1 : (k : Int) < (n.bytes.length : Int) := by omega
      have hltk : k < n.kids.length := by have := HA.out.2.2.1; omega
      have hsz : n.bytes.length ≤ 9223372036854775807 := HW.out.ctx.b2.node.1.lb
      have hkd := HA.out.2.2.2.2 k hlt hltk
      have hby := HA.out.2.2.2.1 _ (List.getElem_mem hlt)
      refine wp_seq_k fun K2 hK => ?_
      have HK2 := Lib.hid hK
      clear hK
      go_wp2_with fail
      refine HK2.out _ _ ?_
      clear HK2
      refine wp_seq_k fun K3 hK => ?_
      have HK3 := Lib.hid hK
      clear hK
      refine wp_block ?_
      refine wp_seq_k fun K4 hK => ?_
      have HK4 := Lib.hid hK
      clear hK
      refine bk17 gn gm k n.bytes[k] cb cb2 ck2 n m ad Ab2 Ak2 n.kids[k] true wr HW.out.ctx.b1 HW.out.ctx.rooms h4 HW.out.ctx.b2.lt hab hbyte (by omega) i1 (fun W h1 h2 => ?_) (fun z136 z137 z138 z139 z140 z141 z142 z143 z144 z145 gN V hb hy => ?_)
      · have := Find_n m _ n.bytes[k] W h1 h2 hby
        rw [hkd] at this
        exact this
      refine HK4.out _ _ ?_
      clear HK4
      have S1 := HW.out.on hb
      refine bk18 gn gN k n (some ad) Ak cb ck n.kids[k] V S1.ctx.b2 hy hltk rfl (fun z146 z147 z148 z149 z150 z151 z152 z153 z154 z155 z156 V2 hb2 => ?_)
      have HN := Lib.hid (S1.on hb2)
      clear S1 hb hb2 hy HW hkd hby h4 hbyte hab
      refine HK3.out _ _ ?_
      clear HK3
      go_wp2
      go_roundw
      case rel => exact ⟨k + 1, by omega, by go_num, HN⟩
      case measure => simp [intOf]; omega
    · obtain rfl : k = n.bytes.length := by omega
      have i1 : ¬ ((n.bytes.length : Int) < (n.bytes.length : Int)) := by omega
      have h4 := HW.out.ctx.b2.cells.2.2.2.2.1
      go_wp2_with fail
      refine HK1.out _ _ ?_
      clear HK1 h4
      exact bkD b gn gr gs gm gt r s n m t Ab Ak Ab2 Ak2 Ab3 Ak3 cb ck cb2 ck2 cb3 ck3 w _ c HW.out hb256 hrok HA.out.1 HA.out.2.1 HQ.out
end Go.Proofs.YtgjgcbemgmkncaaDoor
