/-
  Layer 9: Turn.
  A range over an iterator that keeps its place in a cell of a block of its own, and that may end by a panic. Over any program.
  Package code: next.
  Package code: the iterator over a code's bytes: it stops, or panics.
  Package code: the closure that Decode defers.
  Package code: Decode.
  Package code: Is; package node: a leaf; Right of every node.
  Layer 9: every inner node is made of kids; great; Find and Turn of such a node.
  Layer 9: a node at work as kids; Find and Next as searches.
  The reference of layer 9: Room, Of, kid.
  The reference of layer 9: inner.
-/
import Derived.Test.YtgjgcbemgmkncaaGreatDoorPd
import Derived.Test.YtgjgcbemgmkncaaGreatDoorPe
import Derived.Test.YtgjgcbemgmkncaaGreatDoorPb
import Derived.RecoverIn
import Derived.Test.YtgjgcbemgmkncaaGreatDoorPc
namespace Go.Proofs.YtgjgcbemgmkncaaGreatDoor
open Go.RowKit Go.Shelf
set_option linter.unusedVariables false
set_option maxRecDepth 20000
set_option linter.unusedSimpArgs false

def turnN (x : Nd) (b : Nat) (r : Int × Int) : Nd × Int :=
  if x.may = false ∨ kidN r = false then (zeroNd, 4)
  else if (turnK (x.row (roomN x.kind)) b r).1 = 0 then (ofNd x (turnK (x.row (roomN x.kind)) b r).2 x.kind, 0)
  else (zeroNd, (turnK (x.row (roomN x.kind)) b r).1)
theorem turn_refOk {f : Kids} (hf : ∀ b r, f b = some r → refOk r) (c : Nat) {r : Int × Int} (hr : refOk r) : ∀ b q, (turnK f c r).2 b = some q → refOk q := by
  unfold turnK
  split
  · exact set_refOk hf c hr
  · exact hf
theorem turn_iface {W : World} {iv : Value} {room : Int} {f : Kids} {bl : List Nat} (b : Nat) (r : Int × Int) (h : RowAt W iv room f bl) (hb : b < 256) : ∃ (T : TypeId) (g fid : Nat), iv = .iface T (.pointer (some ⟨g, 0, none⟩)) ∧ (∀ V : World, (method 263 T (.pointer (some ⟨g, 0, none⟩)) "Turn").run Tryz.prog V = .ok (fid, .pointer (some ⟨g, 0, none⟩)) V) ∧ (∀ args V, (callFunc fid args).run Tryz.prog V = .ok (.enter fid args) V) ∧
    Calls Tryz.prog fid #[.pointer (some ⟨g, 0, none⟩), .int .u8 (b : Int), refV r] W (RowEndI (.int .i64 (turnK f b r).1) iv room (turnK f b r).2 bl W) := by
  rcases h with ⟨g, rfl, rfl, hf⟩ | ⟨g, gr, gu, n, rfl, rfl, rfl, hf⟩
  · refine ⟨_, g, _, rfl, few_Turn_me g, enters_of Tryz.func114 (by kernel_rfl) rfl, (Turn_k g room f b r W hf hb).mono ?_⟩
    rintro e w' ⟨rfl, h1, h2⟩
    exact ⟨rfl, .inl ⟨g, rfl, rfl, h1⟩, kept_grown h2⟩
  · refine ⟨_, g, _, rfl, many_Turn_me g, enters_of Tryz.func130 (by kernel_rfl) rfl, (Turn_m g gr gu n f b r W hf hb).mono ?_⟩
    rintro e w' ⟨rfl, h1, h2⟩
    exact ⟨rfl, .inr ⟨g, gr, gu, n, rfl, rfl, rfl, h1⟩, kept_three h2⟩
set_option maxHeartbeats 3200000 in
set_option maxRecDepth 100000 in
theorem turn_no (x : Nd) (V : Value) (b : Nat) (r : Int × Int) (w : World) (h : NdAt w x V) (hr : RoomsAt w) (hno : x.may = false ∨ kidN r = false) : Calls Tryz.prog 33 #[V, .int .u8 (b : Int), refV r] w (NdPair zeroNd 4 w) := by
  have h' := h
  obtain ⟨hwf, Ab, cb, Ak, ck, rfl, _, _⟩ := h'
  have h4 := add_start w x r #[.int .i64 x.kind, .string x.code, .string x.value, .string x.path, .slice Ab x.bytes.length cb, .slice Ak x.kids.length ck] h hr
  have HM := Lib.hid (may_n x _ _ h4.node h4.rooms)
  have H4 := Lib.hid h4
  have HN := Lib.hid hno
  clear hwf h hr h4 hno
  unfold Nd.v refV at *
  have HC := H4
  cases hm : x.may with
  | false =>
    rw [hm] at HM
    go_enter Tryz.func33, Tryz.ntmps33
    go_wp2_with fail
    refine HM.out.mono ?_
    rintro e w1 ⟨rfl, hb⟩
    have H5 := Lib.hid (H4.out.on hb)
    obtain ⟨d0, d1, d2, d3, d4, d5⟩ := cells6 H5.out.out
    have f0 := H5.out.out.frozen 0
    have f1 := H5.out.out.frozen 1
    have f2 := H5.out.out.frozen 2
    have f3 := H5.out.out.frozen 3
    have f4 := H5.out.out.frozen 4
    have f5 := H5.out.out.frozen 5
    have l6 := H5.out.out.lt
    clear hb HM H4 HC
    obtain ⟨V, hV, hg, q6⟩ := six_stores (.int .i64 0) (.string { data := #[] }) (.string { data := #[] }) (.string { data := #[] }) (.slice none 0 0) (.slice none 0 0) H5.out.out
    go_wp2
    rw [← hV]
    clear hV d0 d1 d2 d3 d4 d5 f0 f1 f2 f3 f4 f5
    obtain ⟨c0, c1, c2, c3, c4, c5⟩ := cells6 q6
    exact bodyPost_ret (v := .tuple #[.agg #[.int .i64 0, .string { data := #[] }, .string { data := #[] }, .string { data := #[] }, .slice none 0 0, .slice none 0 0], .int .i64 4]) (by simp [results, Tryz.results33, go_sem, c0, c1, c2, c3, c4, c5]) rfl ⟨_, rfl, zeroNd_at V, H5.out.below.grown hg H5.out.below.size (fun k e => by injection e with e; omega), rowsOf_zero⟩
  | true =>
    rw [hm] at HM
    have hkid : kidN r = false := by
      rcases HN.out with e | e
      · rw [hm] at e; cases e
      · exact e
    go_enter Tryz.func33, Tryz.ntmps33
    go_wp2_with fail
    refine HM.out.mono ?_
    rintro e w1 ⟨rfl, hb⟩
    have H6 := Lib.hid (H4.out.on hb)
    have r0 : w1.cell? ⟨w.heap.size + 1, 0, none⟩ = some (.int .i64 r.1) := H6.out.ref.cell 0
    have r1 : w1.cell? ⟨w.heap.size + 1, 1, none⟩ = some (.int .u32 r.2) := H6.out.ref.cell 1
    have hk := kid_n r w1
    rw [hkid] at hk
    unfold refV at hk
    have HK := Lib.hid hk
    clear hb HM H4 HC hk hkid hm
    go_wp2_with fail
    refine HK.out.mono ?_
    rintro e w2 ⟨rfl, hb⟩
    have H5 := Lib.hid (H6.out.on hb)
    obtain ⟨d0, d1, d2, d3, d4, d5⟩ := cells6 H5.out.out
    have f0 := H5.out.out.frozen 0
    have f1 := H5.out.out.frozen 1
    have f2 := H5.out.out.frozen 2
    have f3 := H5.out.out.frozen 3
    have f4 := H5.out.out.frozen 4
    have f5 := H5.out.out.frozen 5
    have l6 := H5.out.out.lt
    clear hb HK H6 r0 r1
    obtain ⟨V, hV, hg, q6⟩ := six_stores (.int .i64 0) (.string { data := #[] }) (.string { data := #[] }) (.string { data := #[] }) (.slice none 0 0) (.slice none 0 0) H5.out.out
    go_wp2
    rw [← hV]
    clear hV d0 d1 d2 d3 d4 d5 f0 f1 f2 f3 f4 f5
    obtain ⟨c0, c1, c2, c3, c4, c5⟩ := cells6 q6
    exact bodyPost_ret (v := .tuple #[.agg #[.int .i64 0, .string { data := #[] }, .string { data := #[] }, .string { data := #[] }, .slice none 0 0, .slice none 0 0], .int .i64 4]) (by simp [results, Tryz.results33, go_sem, c0, c1, c2, c3, c4, c5]) rfl ⟨_, rfl, zeroNd_at V, H5.out.below.grown hg H5.out.below.size (fun k e => by injection e with e; omega), rowsOf_zero⟩

set_option maxHeartbeats 3200000 in
set_option maxRecDepth 100000 in
theorem turn_yes (x : Nd) (V : Value) (b : Nat) (r : Int × Int) (w : World) (h : NdAt w x V) (hr : RoomsAt w) (hb256 : b < 256) (hrok : refOk r) (hm : x.may = true) (hkd : kidN r = true) (hz : (turnK (x.row (roomN x.kind)) b r).1 = 0) : Calls Tryz.prog 33 #[V, .int .u8 (b : Int), refV r] w (fun e w' => NdPair (turnN x b r).1 (turnN x b r).2 w e w') := by
  have hin := inner_parts (may_inner hm)
  have hx2 : turnN x b r = (ofNd x (turnK (x.row (roomN x.kind)) b r).2 x.kind, 0) := by
    unfold turnN
    rw [if_neg (by rw [hm, hkd]; simp), if_pos hz]
  rw [hx2]
  clear hx2
  have hroom := roomOk_of (room_kind hin.1)
  have hpo := turn_refOk (row_refOk h.1 (roomN x.kind)) b hrok
  have h' := h
  obtain ⟨hwf, Ab, cb, Ak, ck, rfl, _, _⟩ := h'
  have h4 := add_start w x r #[.int .i64 x.kind, .string x.code, .string x.value, .string x.path, .slice Ab x.bytes.length cb, .slice Ak x.kids.length ck] h hr
  have HM := Lib.hid (may_n x _ _ h4.node h4.rooms)
  rw [hm] at HM
  have H4 := Lib.hid h4
  obtain ⟨room, hrm⟩ : ∃ room, roomN x.kind = room := ⟨_, rfl⟩
  rw [hrm] at hroom hpo hz ⊢
  obtain ⟨pc, hpc⟩ : ∃ pc, (turnK (x.row room) b r).1 = pc := ⟨_, rfl⟩
  obtain ⟨f2, hf2⟩ : ∃ f2, (turnK (x.row room) b r).2 = f2 := ⟨_, rfl⟩
  rw [hpc] at hz
  rw [hf2]
  rw [hf2] at hpo
  have HZ : Hid ((pc != 0) = false) := Lib.hid (by simp [hz])
  clear hz
  unfold Nd.row at hpc hf2
  have HPC := Lib.hid (And.intro hpc hf2)
  clear hpc hf2
  have HP := Lib.hid (And.intro hpo (And.intro hroom (And.intro hwf (And.intro hin (And.intro hrm (And.intro h hr))))))
  clear hwf h hr h4 hroom hpo hin hm hrm
  have hkk := fun W => kid_n r W
  rw [hkd] at hkk
  have HKK := Lib.hid hkk
  clear hkk hkd
  unfold Nd.v refV at *
  go_enter Tryz.func33, Tryz.ntmps33
  go_wp2_with fail
  refine HM.out.mono ?_
  rintro e w1 ⟨rfl, hb⟩
  have H6 := Lib.hid (H4.out.on hb)
  have r0 : w1.cell? ⟨w.heap.size + 1, 0, none⟩ = some (.int .i64 r.1) := H6.out.ref.cell 0
  have r1 : w1.cell? ⟨w.heap.size + 1, 1, none⟩ = some (.int .u32 r.2) := H6.out.ref.cell 1
  have HK := Lib.hid (HKK.out w1)
  clear hb HM H4 HKK
  go_wp2_with fail
  refine HK.out.mono ?_
  rintro e w3 ⟨rfl, hb⟩
  have H3 := Lib.hid (H6.out.on hb)
  clear hb HK H6 r0 r1
  have HRO := Lib.hid (room_n x.kind w3.drew H3.out.drew.rooms)
  rw [HP.out.2.2.2.2.1] at HRO
  have HLA := Lib.hid (laid_n x _ room w3.drew H3.out.drew.node HP.out.2.1 (by have := HP.out.2.2.2.1.2.2.2.2.1; omega))
  go_wp2_with fail
  refine wp_region_held_drew (S := (fun V : World => (V.cell? ⟨w.heap.size + 1 + 1 + 1, 0, none⟩ = some (.int .i64 x.kind) ∧ V.cell? ⟨w.heap.size + 1 + 1 + 1, 1, none⟩ = some (.string x.code) ∧ V.cell? ⟨w.heap.size + 1 + 1 + 1, 2, none⟩ = some (.string x.value) ∧ V.cell? ⟨w.heap.size + 1 + 1 + 1, 3, none⟩ = some (.string x.path) ∧ V.cell? ⟨w.heap.size + 1 + 1 + 1, 4, none⟩ = some (.slice Ab x.bytes.length cb) ∧ V.cell? ⟨w.heap.size + 1 + 1 + 1, 5, none⟩ = some (.slice Ak x.kids.length ck)) ∧ V.cell? ⟨w.heap.size, 0, none⟩ = some (.int .i64 x.kind))) (by kernel_rfl) ?_ (fun hHeld0 => ?_)
  · exact addS H3.out.drew
  refine wpAnyH_take (i := 0) (v := ?_) rfl (by kernel_rfl) (by kernel_rfl) (by kernel_rfl) (fun _ _ _ h => h) (Or.inl ⟨by rfl, ?_⟩) hHeld0 ?_
  rotate_left
  · (intro w hSw; (try dsimp only at hSw); go_simp <;> with_reducible rfl)
  try simp only [Act.put, List.setIfInBounds_toArray, List.set_cons_zero, List.set_cons_succ]
  refine wpAnyH_take (i := 1) (v := ?_) rfl (by kernel_rfl) (by kernel_rfl) (by kernel_rfl) (fun _ _ _ h => h) (Or.inl ⟨by rfl, ?_⟩) hHeld0 ?_
  rotate_left
  · (intro w hSw; (try dsimp only at hSw); go_simp <;> with_reducible rfl)
  try simp only [Act.put, List.setIfInBounds_toArray, List.set_cons_zero, List.set_cons_succ]
  refine wpAnyH_take (i := 2) (v := ?_) rfl (by kernel_rfl) (by kernel_rfl) (by kernel_rfl) (fun _ _ _ h => h) (Or.inl ⟨by rfl, ?_⟩) hHeld0 ?_
  rotate_left
  · (intro w hSw; (try dsimp only at hSw); go_simp <;> with_reducible rfl)
  try simp only [Act.put, List.setIfInBounds_toArray, List.set_cons_zero, List.set_cons_succ]
  refine wpAnyH_ready (rs := [3]) (by kernel_rfl) (by simp) ?_
  refine AllReadyH.cons rfl (fun K hK => ?_) ?_
  · go_simp
    with_reducible refine HRO.out.mono ?_
    rintro e w4 ⟨rfl, rfl⟩
    refine hK.out _ _ ?_ (fun hHeld1 => ?_)
    · exact addS H3.out.drew
    clear hK K hHeld0
    try simp only [Act.put, List.setIfInBounds_toArray, List.set_cons_zero, List.set_cons_succ]
    refine wpAnyH_ready (rs := [4]) (by kernel_rfl) (by simp) ?_
    refine AllReadyH.cons rfl (fun K hK => ?_) ?_
    · go_simp
      refine HLA.out.mono ?_
      rintro e w5 ⟨iv, bl, rfl, hrow, hbl, hb5⟩
      have H7 := Lib.hid (And.intro hrow (And.intro hbl (And.intro (H3.out.drew.on hb5) hb5.size)))
      clear hrow hbl hb5
      refine hK.out _ _ ?_ (fun hHeld2 => ?_)
      · exact addS H7.out.2.2.1
      clear hK K hHeld1
      try simp only [Act.put, List.setIfInBounds_toArray, List.set_cons_zero, List.set_cons_succ]
      refine wpAnyH_take (i := 5) (v := ?_) rfl (by kernel_rfl) (by kernel_rfl) (by kernel_rfl) (fun _ _ _ h => h) (Or.inl ⟨by rfl, ?_⟩) hHeld2 ?_
      rotate_left
      · (intro w hSw; (try dsimp only at hSw); go_simp <;> with_reducible rfl)
      try simp only [Act.put, List.setIfInBounds_toArray, List.set_cons_zero, List.set_cons_succ]
      refine wpAnyH_done (by kernel_rfl) ?_ _
      refine (‹∀ (a : Act) (w : World), Code.wp Tryz.prog _ _ a w → _› _ _ ?_)
      obtain ⟨TT, g, fid, rfl, hme, hen, hput⟩ := turn_iface b r H7.out.1 hb256
      have hbl := H7.out.2.1
      have HA5 := Lib.hid H7.out.2.2.1
      have hs7 := H7.out.2.2.2
      have hs3 := H3.out.size
      have r0 : w5.cell? ⟨w.heap.size + 1, 0, none⟩ = some (.int .i64 r.1) := HA5.out.ref.cell 0
      have r1 : w5.cell? ⟨w.heap.size + 1, 1, none⟩ = some (.int .u32 r.2) := HA5.out.ref.cell 1
      have hpo := HP.out.1
      rw [HPC.out.1, HPC.out.2] at hput
      unfold refV at hput
      have HPU := Lib.hid hput
      have HX := Lib.hid (And.intro hbl (And.intro hs7 (And.intro hs3 hpo)))
      clear hput hbl hs7 hs3 hpo H7 HLA HRO
      go_simp
      go_wp2_with fail
      refine HPU.out.mono ?_
      rintro e w6 ⟨rfl, hrow6, hk6⟩
      have h8 : AddW w x r #[.int .i64 x.kind, .string x.code, .string x.value, .string x.path, .slice Ab x.bytes.length cb, .slice Ak x.kids.length ck] w6 := HA5.out.kept hk6 (fun c hc => by have h1 := HX.out.1 c hc; have h2 := HX.out.2.2.1; simp at h1; omega) HP.out.2.2.2.2.2.1 HP.out.2.2.2.2.2.2
      have H8 := Lib.hid h8
      have H8S := h8.size
      have HOF := Lib.hid (of_row x _ w6 h8.node _ room f2 _ hrow6 x.kind HP.out.2.2.1.kind HX.out.2.2.2)
      obtain ⟨p0, p1, p2, p3, p4, p5⟩ := cells6 h8.parts
      have k0 : w6.cell? ⟨w.heap.size, 0, none⟩ = some (.int .i64 x.kind) := h8.box.cell 0
      have hzb := HZ.out
      clear h8 hrow6 hk6 HPU hme hen HA5 r0 r1
      go_wp2_with fail
      refine HOF.out.mono ?_
      rintro e w7 ⟨V', rfl, hnd, hb7⟩
      have H9 := Lib.hid (H8.out.on hb7)
      obtain ⟨hwf', A4, c4', A5, c5', rfl, hr4, hr5, ha4, ha5⟩ := hnd
      have HND := Lib.hid (And.intro hwf' (And.intro hr4 (And.intro hr5 (And.intro ha4 ha5))))
      obtain ⟨d0, d1, d2, d3, d4, d5⟩ := cells6 H9.out.out
      have fz0 := H9.out.out.frozen 0
      have fz1 := H9.out.out.frozen 1
      have fz2 := H9.out.out.frozen 2
      have fz3 := H9.out.out.frozen 3
      have fz4 := H9.out.out.frozen 4
      have fz5 := H9.out.out.frozen 5
      have l6 := H9.out.out.lt
      obtain ⟨VV, hV, hg, q6⟩ := six_stores (.int .i64 (ofNd x f2 x.kind).kind) (.string (ofNd x f2 x.kind).code) (.string (ofNd x f2 x.kind).value) (.string (ofNd x f2 x.kind).path) (.slice A4 (ofNd x f2 x.kind).bytes.length c4') (.slice A5 (ofNd x f2 x.kind).kids.length c5') H9.out.out
      clear k0 hwf' hr4 hr5 ha4 ha5 HOF H8 hb7 p0 p1 p2 p3 p4 p5
      unfold Nd.v
      go_wp2
      rw [← hV]
      clear hV d0 d1 d2 d3 d4 d5 fz0 fz1 fz2 fz3 fz4 fz5
      obtain ⟨c0, c1, c2, c3, c4, c5⟩ := cells6 q6
      exact bodyPost_ret (v := .tuple #[.agg #[.int .i64 (ofNd x f2 x.kind).kind, .string (ofNd x f2 x.kind).code, .string (ofNd x f2 x.kind).value, .string (ofNd x f2 x.kind).path, .slice A4 (ofNd x f2 x.kind).bytes.length c4', .slice A5 (ofNd x f2 x.kind).kids.length c5'], .int .i64 0]) (by simp [results, Tryz.results33, go_sem, c0, c1, c2, c3, c4, c5]) rfl ⟨_, rfl, ⟨HND.out.1, A4, c4', A5, c5', rfl, reads_off HND.out.2.1 hg (fun ad e => by have := HND.out.2.2.2.1 ad e; have := H8S; omega), reads_off HND.out.2.2.1 hg (fun ad e => by have := HND.out.2.2.2.2 ad e; have := H8S; omega)⟩, H9.out.below.grown hg H9.out.below.size (fun k e => by injection e with e; omega), rowsOf_v (fun ad e => by have h1 := HND.out.2.2.2.1 ad e; have h2 := H8S; omega) (fun ad e => by have h1 := HND.out.2.2.2.2 ad e; have h2 := H8S; omega)⟩
    exact AllReadyH.nil
  exact AllReadyH.nil
set_option maxHeartbeats 3200000 in
set_option maxRecDepth 100000 in
theorem turn_err (x : Nd) (V : Value) (b : Nat) (r : Int × Int) (w : World) (h : NdAt w x V) (hr : RoomsAt w) (hb256 : b < 256) (hrok : refOk r) (hm : x.may = true) (hkd : kidN r = true) (hz : (turnK (x.row (roomN x.kind)) b r).1 ≠ 0) : Calls Tryz.prog 33 #[V, .int .u8 (b : Int), refV r] w (fun e w' => NdPair (turnN x b r).1 (turnN x b r).2 w e w') := by
  have hin := inner_parts (may_inner hm)
  have hx2 : turnN x b r = (zeroNd, (turnK (x.row (roomN x.kind)) b r).1) := by
    unfold turnN
    rw [if_neg (by rw [hm, hkd]; simp), if_neg hz]
  rw [hx2]
  clear hx2
  have hroom := roomOk_of (room_kind hin.1)
  have hpo := turn_refOk (row_refOk h.1 (roomN x.kind)) b hrok
  have h' := h
  obtain ⟨hwf, Ab, cb, Ak, ck, rfl, _, _⟩ := h'
  have h4 := add_start w x r #[.int .i64 x.kind, .string x.code, .string x.value, .string x.path, .slice Ab x.bytes.length cb, .slice Ak x.kids.length ck] h hr
  have HM := Lib.hid (may_n x _ _ h4.node h4.rooms)
  rw [hm] at HM
  have H4 := Lib.hid h4
  obtain ⟨room, hrm⟩ : ∃ room, roomN x.kind = room := ⟨_, rfl⟩
  rw [hrm] at hroom hpo hz ⊢
  obtain ⟨pc, hpc⟩ : ∃ pc, (turnK (x.row room) b r).1 = pc := ⟨_, rfl⟩
  obtain ⟨f2, hf2⟩ : ∃ f2, (turnK (x.row room) b r).2 = f2 := ⟨_, rfl⟩
  rw [hpc] at hz
  rw [hpc]
  rw [hf2] at hpo
  have HZ : Hid ((pc != 0) = true) := Lib.hid (by simp [hz])
  clear hz
  unfold Nd.row at hpc hf2
  have HPC := Lib.hid (And.intro hpc hf2)
  clear hpc hf2
  have HP := Lib.hid (And.intro hpo (And.intro hroom (And.intro hwf (And.intro hin (And.intro hrm (And.intro h hr))))))
  clear hwf h hr h4 hroom hpo hin hm hrm
  have hkk := fun W => kid_n r W
  rw [hkd] at hkk
  have HKK := Lib.hid hkk
  clear hkk hkd
  unfold Nd.v refV at *
  go_enter Tryz.func33, Tryz.ntmps33
  go_wp2_with fail
  refine HM.out.mono ?_
  rintro e w1 ⟨rfl, hb⟩
  have H6 := Lib.hid (H4.out.on hb)
  have r0 : w1.cell? ⟨w.heap.size + 1, 0, none⟩ = some (.int .i64 r.1) := H6.out.ref.cell 0
  have r1 : w1.cell? ⟨w.heap.size + 1, 1, none⟩ = some (.int .u32 r.2) := H6.out.ref.cell 1
  have HK := Lib.hid (HKK.out w1)
  clear hb HM H4 HKK
  go_wp2_with fail
  refine HK.out.mono ?_
  rintro e w3 ⟨rfl, hb⟩
  have H3 := Lib.hid (H6.out.on hb)
  clear hb HK H6 r0 r1
  have HRO := Lib.hid (room_n x.kind w3.drew H3.out.drew.rooms)
  rw [HP.out.2.2.2.2.1] at HRO
  have HLA := Lib.hid (laid_n x _ room w3.drew H3.out.drew.node HP.out.2.1 (by have := HP.out.2.2.2.1.2.2.2.2.1; omega))
  go_wp2_with fail
  refine wp_region_held_drew (S := (fun V : World => (V.cell? ⟨w.heap.size + 1 + 1 + 1, 0, none⟩ = some (.int .i64 x.kind) ∧ V.cell? ⟨w.heap.size + 1 + 1 + 1, 1, none⟩ = some (.string x.code) ∧ V.cell? ⟨w.heap.size + 1 + 1 + 1, 2, none⟩ = some (.string x.value) ∧ V.cell? ⟨w.heap.size + 1 + 1 + 1, 3, none⟩ = some (.string x.path) ∧ V.cell? ⟨w.heap.size + 1 + 1 + 1, 4, none⟩ = some (.slice Ab x.bytes.length cb) ∧ V.cell? ⟨w.heap.size + 1 + 1 + 1, 5, none⟩ = some (.slice Ak x.kids.length ck)) ∧ V.cell? ⟨w.heap.size, 0, none⟩ = some (.int .i64 x.kind))) (by kernel_rfl) ?_ (fun hHeld0 => ?_)
  · exact addS H3.out.drew
  refine wpAnyH_take (i := 0) (v := ?_) rfl (by kernel_rfl) (by kernel_rfl) (by kernel_rfl) (fun _ _ _ h => h) (Or.inl ⟨by rfl, ?_⟩) hHeld0 ?_
  rotate_left
  · (intro w hSw; (try dsimp only at hSw); go_simp <;> with_reducible rfl)
  try simp only [Act.put, List.setIfInBounds_toArray, List.set_cons_zero, List.set_cons_succ]
  refine wpAnyH_take (i := 1) (v := ?_) rfl (by kernel_rfl) (by kernel_rfl) (by kernel_rfl) (fun _ _ _ h => h) (Or.inl ⟨by rfl, ?_⟩) hHeld0 ?_
  rotate_left
  · (intro w hSw; (try dsimp only at hSw); go_simp <;> with_reducible rfl)
  try simp only [Act.put, List.setIfInBounds_toArray, List.set_cons_zero, List.set_cons_succ]
  refine wpAnyH_take (i := 2) (v := ?_) rfl (by kernel_rfl) (by kernel_rfl) (by kernel_rfl) (fun _ _ _ h => h) (Or.inl ⟨by rfl, ?_⟩) hHeld0 ?_
  rotate_left
  · (intro w hSw; (try dsimp only at hSw); go_simp <;> with_reducible rfl)
  try simp only [Act.put, List.setIfInBounds_toArray, List.set_cons_zero, List.set_cons_succ]
  refine wpAnyH_ready (rs := [3]) (by kernel_rfl) (by simp) ?_
  refine AllReadyH.cons rfl (fun K hK => ?_) ?_
  · go_simp
    with_reducible refine HRO.out.mono ?_
    rintro e w4 ⟨rfl, rfl⟩
    refine hK.out _ _ ?_ (fun hHeld1 => ?_)
    · exact addS H3.out.drew
    clear hK K hHeld0
    try simp only [Act.put, List.setIfInBounds_toArray, List.set_cons_zero, List.set_cons_succ]
    refine wpAnyH_ready (rs := [4]) (by kernel_rfl) (by simp) ?_
    refine AllReadyH.cons rfl (fun K hK => ?_) ?_
    · go_simp
      refine HLA.out.mono ?_
      rintro e w5 ⟨iv, bl, rfl, hrow, hbl, hb5⟩
      have H7 := Lib.hid (And.intro hrow (And.intro hbl (And.intro (H3.out.drew.on hb5) hb5.size)))
      clear hrow hbl hb5
      refine hK.out _ _ ?_ (fun hHeld2 => ?_)
      · exact addS H7.out.2.2.1
      clear hK K hHeld1
      try simp only [Act.put, List.setIfInBounds_toArray, List.set_cons_zero, List.set_cons_succ]
      refine wpAnyH_take (i := 5) (v := ?_) rfl (by kernel_rfl) (by kernel_rfl) (by kernel_rfl) (fun _ _ _ h => h) (Or.inl ⟨by rfl, ?_⟩) hHeld2 ?_
      rotate_left
      · (intro w hSw; (try dsimp only at hSw); go_simp <;> with_reducible rfl)
      try simp only [Act.put, List.setIfInBounds_toArray, List.set_cons_zero, List.set_cons_succ]
      refine wpAnyH_done (by kernel_rfl) ?_ _
      refine (‹∀ (a : Act) (w : World), Code.wp Tryz.prog _ _ a w → _› _ _ ?_)
      obtain ⟨TT, g, fid, rfl, hme, hen, hput⟩ := turn_iface b r H7.out.1 hb256
      have hbl := H7.out.2.1
      have HA5 := Lib.hid H7.out.2.2.1
      have hs7 := H7.out.2.2.2
      have hs3 := H3.out.size
      have r0 : w5.cell? ⟨w.heap.size + 1, 0, none⟩ = some (.int .i64 r.1) := HA5.out.ref.cell 0
      have r1 : w5.cell? ⟨w.heap.size + 1, 1, none⟩ = some (.int .u32 r.2) := HA5.out.ref.cell 1
      have hpo := HP.out.1
      rw [HPC.out.1, HPC.out.2] at hput
      unfold refV at hput
      have HPU := Lib.hid hput
      have HX := Lib.hid (And.intro hbl (And.intro hs7 (And.intro hs3 hpo)))
      clear hput hbl hs7 hs3 hpo H7 HLA HRO
      go_simp
      go_wp2_with fail
      refine HPU.out.mono ?_
      rintro e w6 ⟨rfl, hrow6, hk6⟩
      have h8 : AddW w x r #[.int .i64 x.kind, .string x.code, .string x.value, .string x.path, .slice Ab x.bytes.length cb, .slice Ak x.kids.length ck] w6 := HA5.out.kept hk6 (fun c hc => by have h1 := HX.out.1 c hc; have h2 := HX.out.2.2.1; simp at h1; omega) HP.out.2.2.2.2.2.1 HP.out.2.2.2.2.2.2
      have H8 := Lib.hid h8
      have hzb := HZ.out
      clear h8 hrow6 hk6 HPU hme hen HA5 r0 r1
      obtain ⟨d0, d1, d2, d3, d4, d5⟩ := cells6 H8.out.out
      have fz0 := H8.out.out.frozen 0
      have fz1 := H8.out.out.frozen 1
      have fz2 := H8.out.out.frozen 2
      have fz3 := H8.out.out.frozen 3
      have fz4 := H8.out.out.frozen 4
      have fz5 := H8.out.out.frozen 5
      have l6 := H8.out.out.lt
      obtain ⟨VV, hV, hg, q6⟩ := six_stores (.int .i64 0) (.string { data := #[] }) (.string { data := #[] }) (.string { data := #[] }) (.slice none 0 0) (.slice none 0 0) H8.out.out
      go_wp2
      rw [← hV]
      clear hV d0 d1 d2 d3 d4 d5 fz0 fz1 fz2 fz3 fz4 fz5
      obtain ⟨c0, c1, c2, c3, c4, c5⟩ := cells6 q6
      exact bodyPost_ret (v := .tuple #[.agg #[.int .i64 0, .string { data := #[] }, .string { data := #[] }, .string { data := #[] }, .slice none 0 0, .slice none 0 0], .int .i64 pc]) (by simp [results, Tryz.results33, go_sem, c0, c1, c2, c3, c4, c5]) rfl ⟨_, rfl, zeroNd_at VV, H8.out.below.grown hg H8.out.below.size (fun k e => by injection e with e; omega), rowsOf_zero⟩
    exact AllReadyH.nil
  exact AllReadyH.nil
theorem Turn_n (x : Nd) (V : Value) (b : Nat) (r : Int × Int) (w : World) (h : NdAt w x V) (hr : RoomsAt w) (hb : b < 256) (hrok : refOk r) : Calls Tryz.prog 33 #[V, .int .u8 (b : Int), refV r] w (NdPair (turnN x b r).1 (turnN x b r).2 w) := by
  by_cases hno : x.may = false ∨ kidN r = false
  · have e : turnN x b r = (zeroNd, 4) := by unfold turnN; rw [if_pos hno]
    rw [e]
    exact turn_no x V b r w h hr hno
  · have hm : x.may = true := by
      cases hm : x.may with
      | true => rfl
      | false => exact absurd (.inl hm) hno
    have hk : kidN r = true := by
      cases hk : kidN r with
      | true => rfl
      | false => exact absurd (.inr hk) hno
    by_cases hz : (turnK (x.row (roomN x.kind)) b r).1 = 0
    · exact turn_yes x V b r w h hr hb hrok hm hk hz
    · exact turn_err x V b r w h hr hb hrok hm hk hz
end Go.Proofs.YtgjgcbemgmkncaaGreatDoor
namespace Go.Proofs.YtgjgcbemgmkncaaGreatDoor
open Go.RowKit Go.Shelf
set_option linter.unusedVariables false
set_option maxRecDepth 20000

/-- The reader's block: the text, the place. -/
def rdC (s : ByteArray) (k : Nat) : Array Value := #[.string s, .int .i64 (k : Int)]
/-- A round keeps the reader and the box that leads there. -/
def KeepsR (gc gb : Nat) (W W' : World) : Prop := ∀ (t : TypeId) (cs : Array Value), (Blk W gc t cs → Blk W' gc t cs) ∧ (Blk W gb t cs → Blk W' gb t cs)
theorem KeepsR.trans {gc gb : Nat} {A B C : World} (h : KeepsR gc gb A B) (k : KeepsR gc gb B C) : KeepsR gc gb A C := fun t cs => ⟨fun hi => (k t cs).1 ((h t cs).1 hi), fun hi => (k t cs).2 ((h t cs).2 hi)⟩
theorem KeepsR.put {gc gb : Nat} (W : World) {l : Nat} (o o' : Obj) (h : W.heap[l]? = some o) (hc : o.isCells = false) : KeepsR gc gb W (W.putObj l o') := fun t cs => by
  have hone : ∀ g, Blk W g t cs → Blk (W.putObj l o') g t cs := fun g hk => by
    by_cases e : g = l
    · subst e
      unfold Blk at hk
      rw [h] at hk
      injection hk with hk
      subst hk
      cases hc
    · exact (World.putObj_heap_other e).trans hk
  exact ⟨hone gc, hone gb⟩
/-- Such an iterator's contract. -/
def SeqStopsP {α : Type} (F : Fence) (n : Nat) (P : Program) (g : Nat) (lb : Array Value) (encs : α → Array Value) (gc gb : Nat) (tr : TypeId) (s : ByteArray) (S : List α → Nat → Prop) (Sp : List α → Prop) (Sq : List PanicEntry → List α → Prop) (N : Nat) (w : World) (B0 : Nat) : Prop :=
  ∀ (l : Nat) (J Jx : List α → World → Prop) (W : World), Below w.heap.size w W → B0 ≤ W.heap.size → OwnFrom W.heap.size J → OwnFrom W.heap.size Jx → (∀ pre V v, J pre V → J pre (V.setCell ⟨gc, 1, none⟩ v)) →
    (∀ pre x W1, J pre W1 → pre.length < N → YieldAt F (n - 1) P l (encs x) W1 fun e W' => KeepsFrom B0 W1 W' ∧
      ((e = .returned (.bool true) ∧ J (pre ++ [x]) W' ∧ KeepsR gc gb W1 W') ∨ (e = .returned (.bool false) ∧ Jx (pre ++ [x]) W'))) →
    (∀ pre V, J pre V → pre.length < N) →
    J [] W → Blk W gc tr (rdC s 0) →
    CallsIn F n P g (#[.func (.yield l) #[] #[]] ++ lb) W fun e W' => ((∃ v, e = .returned v) ∧ ((∃ xs k, S xs k ∧ J xs W' ∧ Blk W' gc tr (rdC s k)) ∨ (∃ pre, Sp pre ∧ Jx pre W'))) ∨ (∃ ch pre, e = .panicked ch ∧ Sq ch pre ∧ J pre W')

section
variable {F : Fence} {n : Nat} {P : Program}
theorem wpIn_range_P {α : Type} {g : Operand} {ps : Array Tmp} {assign body : Code} {Q : Exit → Act → World → Prop} {a : Act} {w : World}
    (hro : F.round = none) (h1 : 1 ≤ n) {gf : Nat} {lb : Array Value} (hg : a.eval g = .func (.func gf) #[] lb) (hFg : F.fn gf) (eg : ∀ args w, (callFunc gf args).run P w = .ok (.enter gf args) w)
    {encs : α → Array Value} {gc gb : Nat} {tr : TypeId} {s : ByteArray} {S : List α → Nat → Prop} {Sp : List α → Prop} {Sq : List PanicEntry → List α → Prop} {N : Nat} {w0 : World} (hseq : SeqStopsP F (n - 1) P gf lb encs gc gb tr s S Sp Sq N w0 (w.heap.size + 2)) (hG0 : Blk w gc tr (rdC s 0)) (hb0 : Below w0.heap.size w0 w) (hps : ∀ x, (encs x).size = ps.size)
    (I : List α → World → Prop) (Ix : Code → List α → World → Prop) (hI : OwnFrom w.heap.size I) (hIx : ∀ c, OwnFrom w.heap.size (Ix c)) (hIg : ∀ pre V v, I pre V → I pre (V.setCell ⟨gc, 1, none⟩ v)) (hIn : ∀ pre V, I pre V → pre.length < N) (h0 : I [] w) (Ax : α → Act → World → Prop) (hAx : ∀ x a', OwnFrom w.heap.size (fun (_ : Unit) W => Ax x a' W))
    (hassign : ∀ (l : Nat) (pre : List α) (x : α) (W : World) (K : Act → World → Prop), I pre W → (∀ a' W', KeepsFrom w.heap.size W W' → KeepsR gc gb W W' → I pre W' → Ax x a' W' → K a' W') →
      assign.wpIn (F.inRound l) (n - 1 - 1) P (Exit.then K (fun _ _ _ => False)) { tmps := (ps.zip (encs x)).foldl (fun t (p, v) => t.setIfInBounds p v) a.tmps, defers := [] } W)
    (hbody : ∀ (l : Nat) (pre : List α) (x : α) (a' : Act) (W : World), w.heap.size ≤ l → (∃ r, W.heap[l]? = some (.loop r)) → I pre W → Ax x a' W → pre.length < N → body.wpIn (F.inRound l) (n - 1 - 1) P (ownPostG w.heap.size (KeepsR gc gb) I Ix (pre ++ [x]) W) a' W)
    (hdone : ∀ (D : Nat) (xs : List α) (k : Nat) (W : World), w.heap.size ≤ D → S xs k → I xs W → Blk W gc tr (rdC s k) → W.heap[D]? = some (.deferred (some [])) → Q .normal { a with defers := { target := .collected D, args := #[] } :: a.defers } W)
    (hstop : ∀ (D : Nat) (c : Code) (pre : List α) (W : World), w.heap.size ≤ D → Sp pre → Ix c pre W → W.heap[D]? = some (.deferred (some [])) → c.wpIn F n P Q { a with defers := { target := .collected D, args := #[] } :: a.defers } W)
    (hpanic : ∀ (D : Nat) (ch : List PanicEntry) (pre : List α) (W : World), w.heap.size ≤ D → Sq ch pre → I pre W → W.heap[D]? = some (.deferred (some [])) → Q (.panic ch) { a with defers := { target := .collected D, args := #[] } :: a.defers } W) :
    (Code.rangeFunc g ps assign body).wpIn F n P Q a w := by
  refine wpIn_rangeFunc fun fn hfn => ?_
  rw [hro]
  obtain ⟨mk, hmk⟩ : ∃ mk : LoopState → Option Code → Loop, ∀ s j, mk s j = { state := s, pending := j, fn, tmps := a.tmps, params := ps, assign, body, defers := w.heap.size } := ⟨_, fun _ _ => rfl⟩
  have hW : ∃ W1 : World, (Instr.enterLoop fn a.tmps ps assign body none).run P w = .ok (w.heap.size + 1, [{ target := .collected w.heap.size, args := #[] }]) W1 ∧ Kept2 w.heap.size (mk .ready none) W1 ∧ I [] W1 ∧ Below w0.heap.size w0 W1 ∧ w.heap.size + 2 ≤ W1.heap.size ∧ Blk W1 gc tr (rdC s 0) := by
    refine ⟨_, run_enterLoop_outer _ _ _ _ _, ⟨?_, ?_⟩, hI.alloc _ (hI.alloc _ h0), ?_, by simp, (hG0.alloc _).alloc _⟩
    · rw [hmk]
      have k := World.alloc_heap_new (w.alloc (.deferred (some []))) (.loop { state := .ready, pending := none, fn, tmps := a.tmps, params := ps, assign, body, defers := w.heap.size })
      rwa [World.size_alloc] at k
    · exact (Below.heap_alloc _ _ _ (by simp)).trans (World.alloc_heap_new w _)
    · exact (hb0.alloc hb0.size _).alloc (hb0.alloc hb0.size _).size _
  obtain ⟨W1, hent, hk1, hi1, hb1, hs1, hg1⟩ := hW
  have hgcl := hG0.lt
  refine ⟨_, _, W1, { target := .fn (.func gf) lb, args := #[.func (.yield (w.heap.size + 1)) #[] #[]] }, W1, gf, #[.func (.yield (w.heap.size + 1)) #[] #[]] ++ lb, W1, hent, ?_, ?_, ?_, fun _ => h1, ?_⟩
  · simp only [resolve, hg]
    simp [go_sem]
  · intro f' hf'
    simp [Target.leads] at hf'
    subst hf'
    exact hFg
  · simp [invoke, go_sem, eg]
  refine (hseq (w.heap.size + 1) (fun pre W => I pre W ∧ Kept2 w.heap.size (mk .ready none) W) (fun pre W => ∃ c, Ix c pre W ∧ Kept2 w.heap.size (mk .done (some c)) W) W1 hb1 hs1 ?_ ?_ ?_ ?_ (fun pre V hv => hIn pre V hv.1) ⟨hi1, hk1⟩ hg1).mono ?_
  · intro s A B row hs hgr hr
    exact ⟨hI s A B row hs.1 hgr (fun k e => ⟨by have := (hr k e).1; omega, (hr k e).2⟩), hs.2.own hgr (fun k e => by have := (hr k e).1; omega)⟩
  · intro s A B row hs hgr hr
    obtain ⟨c, hc, hk⟩ := hs
    exact ⟨c, hIx c s A B row hc hgr (fun k e => ⟨by have := (hr k e).1; omega, (hr k e).2⟩), hk.own hgr (fun k e => by have := (hr k e).1; omega)⟩
  · rintro pre V v ⟨hi, hk⟩
    exact ⟨hIg pre V v hi, ⟨(Below.heap_setCell _ _ _ _ (by have h1 : gc < w.heap.size := hgcl; show w.heap.size + 1 ≠ gc; omega)).trans hk.rec_, (Below.heap_setCell _ _ _ _ (by have h1 : gc < w.heap.size := hgcl; show w.heap.size ≠ gc; omega)).trans hk.def_⟩⟩
  · rintro pre x W ⟨hi, hk⟩ hlen
    have hy := run_yield (P := P) (args := encs x) hk.rec_ (by rw [hmk]; exact hps x)
    rw [hmk] at hy
    refine ⟨fn, _, assign, body, hy, roundIn_of_wpIn hfn (hassign _ pre x W _ hi fun a' Wa hkf hkp hia hax => ?_)⟩
    have hka := hk.from_ hkf
    refine ⟨_, run_beginRound hka.rec_ (by rw [hmk]), ?_⟩
    have hbusy : ({ mk .ready none with state := LoopState.busy } : Loop) = mk .busy none := by rw [hmk, hmk]
    rw [hbusy]
    have hkb := hka.put (mk .busy none)
    have hkp2 : KeepsR gc gb Wa (Wa.putObj (w.heap.size + 1) (.loop (mk .busy none))) := KeepsR.put _ _ _ hka.rec_ rfl
    refine wpIn_mono (hbody _ pre x a' _ (Nat.le_succ _) ⟨_, hkb.rec_⟩ (hI.putObj _ hia (Nat.le_succ _) hka.rec_ rfl) ((hAx x a').putObj (s := ()) _ hax (Nat.le_succ _) hka.rec_ rfl) hlen) ?_
    have kfin : ∀ {W3 : World}, KeepsFrom w.heap.size (Wa.putObj (w.heap.size + 1) (.loop (mk .busy none))) W3 → ∀ o, KeepsFrom (w.heap.size + 2) W (W3.putObj (w.heap.size + 1) o) := fun hk3 o =>
      (((keepsFrom_le hkf (by omega)).trans (keepsFrom_put _ _ (by omega))).trans (keepsFrom_le hk3 (by omega))).trans (keepsFrom_put _ _ (by omega))
    have leave : ∀ (c : Code) (W3 : World), KeepsFrom w.heap.size (Wa.putObj (w.heap.size + 1) (.loop (mk .busy none))) W3 → Ix c (pre ++ [x]) W3 →
        ∃ v w', (Instr.endRound (w.heap.size + 1) (some c)).run P W3 = .ok v w' ∧ KeepsFrom (w.heap.size + 2) W w' ∧ ((Ending.returned v = .returned (.bool true) ∧ (I (pre ++ [x]) w' ∧ Kept2 w.heap.size (mk .ready none) w') ∧ KeepsR gc gb W w') ∨ (Ending.returned v = .returned (.bool false) ∧ ∃ c, Ix c (pre ++ [x]) w' ∧ Kept2 w.heap.size (mk .done (some c)) w')) := by
      intro c W3 hk3 hx3
      have h3 := hkb.from_ hk3
      refine ⟨_, _, run_endRound (some c) h3.rec_, kfin hk3 _, .inr ⟨rfl, c, (hIx c).putObj _ hx3 (Nat.le_succ _) h3.rec_ rfl, ?_⟩⟩
      have : ({ mk .busy none with state := if (some c).isNone = true then LoopState.ready else LoopState.done, pending := some c } : Loop) = mk .done (some c) := by rw [hmk, hmk]; rfl
      rw [this]
      exact h3.put _
    intro e a3 W3 hp
    cases e with
    | normal =>
      obtain ⟨hk3, hkp3, hi3⟩ := hp
      have h3 := hkb.from_ hk3
      refine ⟨_, _, run_endRound none h3.rec_, kfin hk3 _, .inl ⟨rfl, ⟨hI.putObj _ hi3 (Nat.le_succ _) h3.rec_ rfl, ?_⟩, hkp.trans (hkp2.trans (KeepsR.trans hkp3 (KeepsR.put _ _ _ h3.rec_ rfl)))⟩⟩
      have : ({ mk .busy none with state := if (none : Option Code).isNone = true then LoopState.ready else LoopState.done, pending := none } : Loop) = mk .ready none := by rw [hmk, hmk]; rfl
      rw [this]
      exact h3.put _
    | ret => exact leave _ W3 hp.1 hp.2
    | exit id => exact leave _ W3 hp.1 hp.2
    | goto t => exact leave _ W3 hp.1 hp.2
    | panic ch => exact hp.elim
    | outgrown => exact hp.elim
  · rintro e W2 (⟨⟨v, rfl⟩, ⟨xs, kk, hS, ⟨hi, hk⟩, hgk⟩ | ⟨pre, hSp, c, hi, hk⟩⟩ | ⟨ch, pre, rfl, hSq, hi, hk⟩)
    · refine ⟨none, _, ?_, hdone _ xs kk _ (Nat.le_refl _) hS (hI.putObj (.loop { mk .ready none with state := .exhausted }) hi (Nat.le_succ _) hk.rec_ rfl) ((KeepsR.put (gc := gc) (gb := gb) _ _ (.loop { mk .ready none with state := .exhausted }) hk.rec_ rfl _ _).1 hgk) ((World.putObj_heap_other (by omega)).trans hk.def_)⟩
      have k := run_endLoop (P := P) hk.rec_ (by rw [hmk]; simp)
      rw [k, hmk]
    · refine ⟨some c, _, ?_, hstop _ c pre _ (Nat.le_refl _) hSp ((hIx c).putObj (.loop { mk .done (some c) with state := .exhausted }) hi (Nat.le_succ _) hk.rec_ rfl) ((World.putObj_heap_other (by omega)).trans hk.def_)⟩
      have k := run_endLoop (P := P) hk.rec_ (by rw [hmk]; simp)
      rw [k, hmk]
    · exact hpanic _ ch pre _ (Nat.le_refl _) hSq hi hk.def_
end
end Go.Proofs.YtgjgcbemgmkncaaGreatDoor
namespace Go.Proofs.YtgjgcbemgmkncaaGreatDoor
open Go.RowKit Go.Shelf
set_option linter.unusedVariables false
set_option maxRecDepth 20000
set_option linter.unusedSimpArgs false

/-- What the reader panics with. -/
def shapeP : List PanicEntry := [{ v := .iface 45 (.int .i64 4), recovered := false }]
set_option maxHeartbeats 1600000 in
theorem next_ok (g : Nat) (s : ByteArray) (k : Nat) (w : World) (h : Blk w g 121 (rdC s k)) (hk : k < s.size) (hs : s.size ≤ 9223372036854775807) :
    Calls Tryz.prog 92 #[.pointer (some ⟨g, 0, none⟩)] w (fun e w' => e = .returned (.int .u8 (s[k].toNat : Int)) ∧ ∃ a b, w' = (((w.drewN a).setCell ⟨g, 1, none⟩ (.int .i64 ((k : Int) + 1))).drewN b)) := by
  have c0 : w.cell? ⟨g, 0, none⟩ = some (.string s) := h.cell 0
  have c1 : w.cell? ⟨g, 1, none⟩ = some (.int .i64 (k : Int)) := h.cell 1
  have f1 := h.frozen 1
  have l1 := h.lt
  have e0 : (w.setCell ⟨g, 1, none⟩ (.int .i64 ((k : Int) + 1))).cell? ⟨g, 0, none⟩ = some (.string s) := (h.set_ 1 _).cell 0
  have e1 : (w.setCell ⟨g, 1, none⟩ (.int .i64 ((k : Int) + 1))).cell? ⟨g, 1, none⟩ = some (.int .i64 ((k : Int) + 1)) := (h.set_ 1 _).cell 1
  have i1 : ¬ ((k : Int) ≥ (s.size : Int)) := by omega
  have i2 : (0 : Int) ≤ (k : Int) := by omega
  have i3 : (k : Int) < (s.size : Int) := by omega
  have sw : IntKind.i64.wrap ((k : Int) + 1) = (k : Int) + 1 := IntWalk.i64_in _ (by omega)
  have sw2 : IntKind.i64.wrap ((k : Int) + 1 - 1) = (k : Int) := by rw [show (k : Int) + 1 - 1 = (k : Int) by omega]; exact IntWalk.i64_in _ (by omega)
  clear h
  go_enter Tryz.func92, Tryz.ntmps92
  go_wp2_with fail
  go_quiet (fail)
  go_wp2_with fail
  go_quiet (fail)
  go_wp2
  go_ret
  exact ⟨rfl, _, _, rfl⟩
set_option maxHeartbeats 1600000 in
theorem next_no (g : Nat) (s : ByteArray) (k : Nat) (w : World) (h : Blk w g 121 (rdC s k)) (hk : ¬ k < s.size) :
    Calls Tryz.prog 92 #[.pointer (some ⟨g, 0, none⟩)] w (fun e w' => e = .panicked shapeP ∧ ∃ a, w' = w.drewN a) := by
  have c0 : w.cell? ⟨g, 0, none⟩ = some (.string s) := h.cell 0
  have c1 : w.cell? ⟨g, 1, none⟩ = some (.int .i64 (k : Int)) := h.cell 1
  have i1 : (k : Int) ≥ (s.size : Int) := by omega
  clear h
  go_enter Tryz.func92, Tryz.ntmps92
  go_wp2_with fail
  go_quiet (fail)
  go_wp2
  exact ⟨rfl, rfl, _, rfl⟩
end Go.Proofs.YtgjgcbemgmkncaaGreatDoor
namespace Go.Proofs.YtgjgcbemgmkncaaGreatDoor
open Go.RowKit Go.Shelf
set_option linter.unusedVariables false
set_option maxRecDepth 20000
set_option linter.unusedSimpArgs false
attribute [local go_sem] Oper.semAt_some

/-- What a reader does at a place. -/
inductive RS where
  | panic
  | stop (p : Nat)
  | give (b : Fin 256) (p : Nat)
theorem u8_lt (b : UInt8) : b.toNat < 256 := b.toNat_lt
def rdStep (s : ByteArray) (p : Nat) : RS :=
  if h : p < s.size then
    if s[p].toNat = 0 then
      if h2 : p + 1 < s.size then
        if s[p + 1].toNat = 0 then .stop (p + 2) else if s[p + 1].toNat = 1 then .give 0 (p + 2) else .panic
      else .panic
    else .give ⟨s[p].toNat, u8_lt _⟩ (p + 1)
  else .panic
/-- Behind so many bytes it stands there. -/
inductive RdAt (s : ByteArray) : List (Fin 256) → Nat → Prop
  | nil : RdAt s [] 0
  | snoc {pre : List (Fin 256)} {p q : Nat} {b : Fin 256} : RdAt s pre p → rdStep s p = .give b q → RdAt s (pre ++ [b]) q
abbrev encC (b : Fin 256) : Array Value := #[.int .u8 (b.val : Int)]
def placeR (gc : Nat) (W : World) : Nat := match W.cell? ⟨gc, 1, none⟩ with
  | some (.int _ k) => k.toNat
  | _ => 0
theorem blk_drewN {W : World} {g : Nat} {t : TypeId} {cs : Array Value} (h : Blk W g t cs) (k : Nat) : Blk (W.drewN k) g t cs := h
/-- A byte has been read. -/
theorem read_one {gc gb : Nat} {s : ByteArray} {k a b : Nat} {W : World} (h : Blk W gc 121 (rdC s k)) (hb : Blk W gb 117 #[.pointer (some ⟨gc, 0, none⟩)]) :
    Blk (((W.drewN a).setCell ⟨gc, 1, none⟩ (.int .i64 ((k : Int) + 1))).drewN b) gc 121 (rdC s (k + 1)) ∧ Blk (((W.drewN a).setCell ⟨gc, 1, none⟩ (.int .i64 ((k : Int) + 1))).drewN b) gb 117 #[.pointer (some ⟨gc, 0, none⟩)] := by
  have hne : gc ≠ gb := blk_neF h hb (by decide)
  constructor
  · have q := (blk_drewN h a).set_ 1 (.int .i64 ((k : Int) + 1))
    have q2 := blk_drewN q b
    simpa [rdC] using q2
  · exact blk_drewN ((blk_drewN hb a).far (p := ⟨gc, 1, none⟩) (Ne.symm hne) _) b
theorem own_drewN {α : Type} {B : Nat} {J : List α → World → Prop} (h : OwnFrom B J) {pre : List α} {W : World} (hj : J pre W) (k : Nat) : J pre (W.drewN k) := h pre W (W.drewN k) none hj ⟨rfl, rfl, rfl, Nat.le_refl _, fun _ _ _ => rfl⟩ (fun r e => by cases e)
theorem read_J {α : Type} {B gc k a b : Nat} {J : List α → World → Prop} (h : OwnFrom B J) (hg : ∀ (pre : List α) (V : World) (v : Value), J pre V → J pre (V.setCell ⟨gc, 1, none⟩ v)) {pre : List α} {W : World} (hj : J pre W) :
    J pre (((W.drewN a).setCell ⟨gc, 1, none⟩ (.int .i64 ((k : Int) + 1))).drewN b) := own_drewN h (hg _ _ _ (own_drewN h hj a)) b
set_option maxHeartbeats 3200000 in
set_option maxRecDepth 100000 in
theorem key_stops (gc gb n N B0 : Nat) (s : ByteArray) (w : World) (hs : s.size ≤ 9223372036854775807) (hn : 2 ≤ n) (hgb : Blk w gb 117 #[.pointer (some ⟨gc, 0, none⟩)]) :
    SeqStopsP Fence.wide n Tryz.prog 91 #[.pointer (some ⟨gb, 0, none⟩)] encC gc gb 121 s (fun xs k => ∃ p, RdAt s xs p ∧ rdStep s p = .stop k) (fun pre => ∃ q, RdAt s pre q) (fun ch pre => ch = shapeP ∧ ∃ p, RdAt s pre p ∧ rdStep s p = .panic) N w B0 := fun l J Jx W hW hsz hJ hJx hJg hY hJn h0 hg0 => by
  have hgb1 := hgb.below hW hgb.lt
  have HJ := Lib.hid (And.intro hJ (And.intro hJx (And.intro hJg (And.intro hY (And.intro hJn h0)))))
  have HG := Lib.hid (And.intro hg0 hgb1)
  clear hJ hJx hJg hY hJn h0 hg0 hgb1 hgb
  refine callsIn_of_wp Tryz.func91 rfl trivial ?_ rfl
  simp only [Tryz.ntmps91, List.size_toArray, List.length_cons, List.length_nil, Nat.reduceAdd, Nat.reduceSub, Array.replicate_succ, Array.replicate_zero, List.push_toArray, List.append_toArray, List.nil_append, List.cons_append]
  gi_wp2_with (fail)
  gi_loopw [3] (fun _ wr => ∃ (pre : List (Fin 256)) (p : Nat), Hid (RdAt s pre p ∧ J pre wr ∧ Blk wr gc 121 (rdC s p) ∧ Blk wr gb 117 #[.pointer (some ⟨gc, 0, none⟩)])) (fun _ wr => s.size - placeR gc wr)
  case atStart => exact ⟨[], 0, Lib.hid ⟨.nil, HJ.out.2.2.2.2.2, HG.out.1, HG.out.2⟩⟩
  case round =>
    obtain ⟨pre, p, HW⟩ := hrel
    have cb : wr.cell? ⟨gb, 0, none⟩ = some (.pointer (some ⟨gc, 0, none⟩)) := HW.out.2.2.2.cell 0
    by_cases hp : p < s.size
    · have hc := next_ok gc s p wr HW.out.2.2.1 hp (by omega)
      by_cases hz : s[p].toNat = 0
      · rw [hz] at hc
        gi_wp2_with (fail)
        refine ⟨trivial, fun _ => by omega, ?_⟩
        refine (callsIn_wide.2 hc).mono ?_
        rintro e wn ⟨rfl, a1, b1, rfl⟩
        obtain ⟨g1, g2⟩ := read_one (a := a1) (b := b1) HW.out.2.2.1 HW.out.2.2.2
        have hJ1 := read_J (k := p) (a := a1) (b := b1) HJ.out.1 HJ.out.2.2.1 HW.out.2.1
        obtain ⟨V1, hV1⟩ : ∃ V1, V1 = (((wr.drewN a1).setCell ⟨gc, 1, none⟩ (.int .i64 ((p : Int) + 1))).drewN b1) := ⟨_, rfl⟩
        rw [← hV1] at g1 g2 hJ1 ⊢
        have HP0 := Lib.hid (And.intro hJ1 (And.intro g1 g2))
        have cb1 : V1.cell? ⟨gb, 0, none⟩ = some (.pointer (some ⟨gc, 0, none⟩)) := g2.cell 0
        clear hV1 g1 g2 hJ1 hc cb
        by_cases hp2 : p + 1 < s.size
        · have hc := next_ok gc s (p + 1) V1 HP0.out.2.1 hp2 (by omega)
          by_cases hy0 : s[p + 1].toNat = 0
          · rw [hy0] at hc
            have STEP : Hid (rdStep s p = .stop (p + 2)) := Lib.hid (by unfold rdStep; rw [dif_pos hp, if_pos hz, dif_pos hp2, if_pos hy0])
            clear hz hy0
            gi_wp2_with (fail)
            refine ⟨trivial, fun _ => by omega, ?_⟩
            refine (callsIn_wide.2 hc).mono ?_
            rintro e wn ⟨rfl, a2, b2, rfl⟩
            obtain ⟨g1, g2⟩ := read_one (a := a2) (b := b2) HP0.out.2.1 HP0.out.2.2
            have hJ1 := read_J (k := p + 1) (a := a2) (b := b2) HJ.out.1 HJ.out.2.2.1 HP0.out.1
            have HN := Lib.hid (And.intro hJ1 g1)
            clear g1 g2 hJ1 hc cb1
            gi_wp2
            refine bodyPost_ret (results_none rfl _ _ _) rfl ?_
            exact .inl ⟨⟨_, rfl⟩, .inl ⟨pre, p + 2, ⟨p, HW.out.1, STEP.out⟩, HN.out.1, HN.out.2⟩⟩
          · by_cases hy1 : s[p + 1].toNat = 1
            · rw [hy1] at hc
              have STEP : Hid (rdStep s p = .give 0 (p + 2)) := Lib.hid (by unfold rdStep; rw [dif_pos hp, if_pos hz, dif_pos hp2, if_neg hy0, if_pos hy1])
              clear hz hy0 hy1
              gi_wp2_with (fail)
              refine ⟨trivial, fun _ => by omega, ?_⟩
              refine (callsIn_wide.2 hc).mono ?_
              rintro e wn ⟨rfl, a2, b2, rfl⟩
              obtain ⟨g1, g2⟩ := read_one (a := a2) (b := b2) HP0.out.2.1 HP0.out.2.2
              have hJ1 := read_J (k := p + 1) (a := a2) (b := b2) HJ.out.1 HJ.out.2.2.1 HP0.out.1
              obtain ⟨V2, hV2⟩ : ∃ V2, V2 = (((V1.drewN a2).setCell ⟨gc, 1, none⟩ (.int .i64 (((p + 1 : Nat) : Int) + 1))).drewN b2) := ⟨_, rfl⟩
              rw [← hV2] at g1 g2 hJ1 ⊢
              have HP1 := Lib.hid (And.intro hJ1 (And.intro g1 g2))
              clear hV2 g1 g2 hJ1 hc cb1 HP0
              have hYd : YieldAt Fence.wide (n - 1) Tryz.prog l (encC (0 : Fin 256)) V2 (fun e W' => ∃ b : Bool, e = .returned (.bool b) ∧ Hid ((b = true → J (pre ++ [(0 : Fin 256)]) W' ∧ KeepsR gc gb V2 W') ∧ (b = false → Jx (pre ++ [(0 : Fin 256)]) W'))) :=
                (HJ.out.2.2.2.1 pre (0 : Fin 256) V2 HP1.out.1 (HJ.out.2.2.2.2.1 pre V2 HP1.out.1)).mono (fun e W' h => by
                  rcases h.2 with ⟨rfl, h1, h2⟩ | ⟨rfl, h1⟩
                  · exact ⟨true, rfl, Lib.hid ⟨fun _ => ⟨h1, h2⟩, fun e => by cases e⟩⟩
                  · exact ⟨false, rfl, Lib.hid ⟨fun e => by (cases e), fun _ => h1⟩⟩)
              obtain ⟨fn, tmps, assign, body, hy, hR⟩ := hYd
              dsimp only [encC] at hy
              try rw [show (((0 : Fin 256).val : Nat) : Int) = 0 from rfl] at hy
              have hn1 : 1 ≤ n := by omega
              gi_wp2_with (fail)
              refine hR.mono ?_
              rintro e W3 ⟨b, rfl, hP⟩
              cases b with
              | true =>
                obtain ⟨hJ3, hk3⟩ := hP.out.1 rfl
                have HN := Lib.hid (And.intro hJ3 (And.intro ((hk3 _ _).1 HP1.out.2.1) ((hk3 _ _).2 HP1.out.2.2)))
                have hpl : placeR gc W3 = (p + 2) := by unfold placeR; rw [show W3.cell? ⟨gc, 1, none⟩ = some (.int .i64 (((p + 2) : Nat) : Int)) from ((hk3 _ _).1 HP1.out.2.1).cell 1]; dsimp only; omega
                have hpl0 : placeR gc wr = p := by unfold placeR; rw [show wr.cell? ⟨gc, 1, none⟩ = some (.int .i64 (p : Int)) from HW.out.2.2.1.cell 1]; dsimp only; omega
                clear hJ3 hk3 hP hR hy
                gi_wp2
                go_roundw
                case rel => exact ⟨pre ++ [(0 : Fin 256)], (p + 2), Lib.hid ⟨.snoc HW.out.1 STEP.out, HN.out⟩⟩
                case measure => rw [hpl, hpl0]; omega
              | false =>
                have hx3 := hP.out.2 rfl
                have HN := Lib.hid hx3
                clear hx3 hP hR hy
                gi_wp2
                refine bodyPost_ret (results_none rfl _ _ _) rfl ?_
                exact .inl ⟨⟨_, rfl⟩, .inr ⟨pre ++ [(0 : Fin 256)], ⟨_, .snoc HW.out.1 STEP.out⟩, HN.out⟩⟩
            · have hy3 : s[p + 1].toNat < 256 := u8_lt _
              have STEP : Hid (rdStep s p = .panic) := Lib.hid (by unfold rdStep; rw [dif_pos hp, if_pos hz, dif_pos hp2, if_neg hy0, if_neg hy1])
              have n0 : ((s[p + 1].toNat : Int) == 0) = false := by simp; omega
              have n1 : ((s[p + 1].toNat : Int) == 1) = false := by simp; omega
              clear hz hy0 hy1 hy3
              gi_wp2_with (fail)
              refine ⟨trivial, fun _ => by omega, ?_⟩
              refine (callsIn_wide.2 hc).mono ?_
              rintro e wn ⟨rfl, a2, b2, rfl⟩
              have hJ1 := read_J (k := p + 1) (a := a2) (b := b2) HJ.out.1 HJ.out.2.2.1 HP0.out.1
              have HN := Lib.hid hJ1
              clear hJ1 hc cb1
              gi_wp2
              exact ⟨rfl, .inr ⟨shapeP, pre, rfl, ⟨rfl, p, HW.out.1, STEP.out⟩, HN.out⟩⟩
        · have hc := next_no gc s (p + 1) V1 HP0.out.2.1 hp2
          have STEP : Hid (rdStep s p = .panic) := Lib.hid (by unfold rdStep; rw [dif_pos hp, if_pos hz, dif_neg hp2])
          clear hz
          gi_wp2_with (fail)
          refine ⟨trivial, fun _ => by omega, ?_⟩
          refine (callsIn_wide.2 hc).mono ?_
          rintro e wn ⟨rfl, a2, rfl⟩
          have HN := Lib.hid (own_drewN HJ.out.1 HP0.out.1 a2)
          exact ⟨rfl, .inr ⟨shapeP, pre, rfl, ⟨rfl, p, HW.out.1, STEP.out⟩, HN.out⟩⟩
      · have STEP : Hid (rdStep s p = .give ⟨s[p].toNat, u8_lt _⟩ (p + 1)) := Lib.hid (by unfold rdStep; rw [dif_pos hp, if_neg hz])
        have z1 : ((s[p].toNat : Int) == 0) = false := by simp; omega
        clear hz
        gi_wp2_with (fail)
        refine ⟨trivial, fun _ => by omega, ?_⟩
        refine (callsIn_wide.2 hc).mono ?_
        rintro e wn ⟨rfl, a1, b1, rfl⟩
        obtain ⟨g1, g2⟩ := read_one (a := a1) (b := b1) HW.out.2.2.1 HW.out.2.2.2
        have hJ1 := read_J (k := p) (a := a1) (b := b1) HJ.out.1 HJ.out.2.2.1 HW.out.2.1
        obtain ⟨V1, hV1⟩ : ∃ V1, V1 = (((wr.drewN a1).setCell ⟨gc, 1, none⟩ (.int .i64 ((p : Int) + 1))).drewN b1) := ⟨_, rfl⟩
        rw [← hV1] at g1 g2 hJ1 ⊢
        have HP1 := Lib.hid (And.intro hJ1 (And.intro g1 g2))
        clear hV1 g1 g2 hJ1 hc cb
        have hYd : YieldAt Fence.wide (n - 1) Tryz.prog l (encC (⟨s[p].toNat, u8_lt s[p]⟩ : Fin 256)) V1 (fun e W' => ∃ b : Bool, e = .returned (.bool b) ∧ Hid ((b = true → J (pre ++ [(⟨s[p].toNat, u8_lt s[p]⟩ : Fin 256)]) W' ∧ KeepsR gc gb V1 W') ∧ (b = false → Jx (pre ++ [(⟨s[p].toNat, u8_lt s[p]⟩ : Fin 256)]) W'))) :=
          (HJ.out.2.2.2.1 pre (⟨s[p].toNat, u8_lt s[p]⟩ : Fin 256) V1 HP1.out.1 (HJ.out.2.2.2.2.1 pre V1 HP1.out.1)).mono (fun e W' h => by
            rcases h.2 with ⟨rfl, h1, h2⟩ | ⟨rfl, h1⟩
            · exact ⟨true, rfl, Lib.hid ⟨fun _ => ⟨h1, h2⟩, fun e => by cases e⟩⟩
            · exact ⟨false, rfl, Lib.hid ⟨fun e => by (cases e), fun _ => h1⟩⟩)
        obtain ⟨fn, tmps, assign, body, hy, hR⟩ := hYd
        dsimp only [encC] at hy
        try rw [show (((0 : Fin 256).val : Nat) : Int) = 0 from rfl] at hy
        have hn1 : 1 ≤ n := by omega
        gi_wp2_with (fail)
        refine hR.mono ?_
        rintro e W3 ⟨b, rfl, hP⟩
        cases b with
        | true =>
          obtain ⟨hJ3, hk3⟩ := hP.out.1 rfl
          have HN := Lib.hid (And.intro hJ3 (And.intro ((hk3 _ _).1 HP1.out.2.1) ((hk3 _ _).2 HP1.out.2.2)))
          have hpl : placeR gc W3 = (p + 1) := by unfold placeR; rw [show W3.cell? ⟨gc, 1, none⟩ = some (.int .i64 (((p + 1) : Nat) : Int)) from ((hk3 _ _).1 HP1.out.2.1).cell 1]; dsimp only; omega
          have hpl0 : placeR gc wr = p := by unfold placeR; rw [show wr.cell? ⟨gc, 1, none⟩ = some (.int .i64 (p : Int)) from HW.out.2.2.1.cell 1]; dsimp only; omega
          clear hJ3 hk3 hP hR hy
          gi_wp2
          go_roundw
          case rel => exact ⟨pre ++ [(⟨s[p].toNat, u8_lt s[p]⟩ : Fin 256)], (p + 1), Lib.hid ⟨.snoc HW.out.1 STEP.out, HN.out⟩⟩
          case measure => rw [hpl, hpl0]; omega
        | false =>
          have hx3 := hP.out.2 rfl
          have HN := Lib.hid hx3
          clear hx3 hP hR hy
          gi_wp2
          refine bodyPost_ret (results_none rfl _ _ _) rfl ?_
          exact .inl ⟨⟨_, rfl⟩, .inr ⟨pre ++ [(⟨s[p].toNat, u8_lt s[p]⟩ : Fin 256)], ⟨_, .snoc HW.out.1 STEP.out⟩, HN.out⟩⟩
    · have hc := next_no gc s p wr HW.out.2.2.1 hp
      have STEP : Hid (rdStep s p = .panic) := Lib.hid (by unfold rdStep; rw [dif_neg hp])
      gi_wp2_with (fail)
      refine ⟨trivial, fun _ => by omega, ?_⟩
      refine (callsIn_wide.2 hc).mono ?_
      rintro e wn ⟨rfl, a1, rfl⟩
      have HN := Lib.hid (own_drewN HJ.out.1 HW.out.2.1 a1)
      exact ⟨rfl, .inr ⟨shapeP, pre, rfl, ⟨rfl, p, HW.out.1, STEP.out⟩, HN.out⟩⟩
end Go.Proofs.YtgjgcbemgmkncaaGreatDoor
namespace Go.Proofs.YtgjgcbemgmkncaaGreatDoor
open Go.RowKit Go.Shelf
set_option linter.unusedVariables false
set_option maxRecDepth 20000
set_option linter.unusedSimpArgs false

theorem assert_yes (k : Int) (W : World) : (Instr.typeAssert (.iface 45 (.int .i64 k)) 20 45 true).run Tryz.prog W = .ok (.tuple #[.int .i64 k, .bool true]) W := by kernel_rfl
theorem assert_no (W : World) : (Instr.typeAssert .nilIface 20 45 true).run Tryz.prog W = .ok (.tuple #[.int .i64 0, .bool false]) W := by kernel_rfl
set_option maxRecDepth 100000 in
theorem catch_panic (b2 b3 n : Nat) (k0 : ByteArray) (e0 : Int) (w : World) (hk : Blk w b2 9 #[.string k0]) (he : Blk w b3 45 #[.int .i64 e0]) :
    CallsDIn Fence.wide n Tryz.prog 88 #[.pointer (some ⟨b2, 0, none⟩), .pointer (some ⟨b3, 0, none⟩)] (.panicking shapeP) w fun e u' w' =>
      e = .returned (.tuple #[]) ∧ u' = .panicking [{ v := .iface 45 (.int .i64 4), recovered := true }] ∧ w' = (w.setCell ⟨b2, 0, none⟩ (.string { data := #[] })).setCell ⟨b3, 0, none⟩ (.int .i64 4) := by
  have c2 : w.cell? ⟨b2, 0, none⟩ = some (.string k0) := hk.cell 0
  have c3 : w.cell? ⟨b3, 0, none⟩ = some (.int .i64 e0) := he.cell 0
  have z2 := hk.frozen 0
  have z3 := he.frozen 0
  have l2 := hk.lt
  have l3 := he.lt
  have hne : b2 ≠ b3 := blk_neF hk he (by decide)
  refine callsDIn_of_wpSIn Tryz.func88 rfl trivial fun c₀ cs hu => ?_
  unfold shapeP at hu
  apply wpSIn_seq
  apply wpSIn_region
  simp [wpOpsSIn, go_sem, recoverD, hu, Tryz.ntmps88, Exit.thenS, assert_yes]
  refine wpSIn_of_wpIn rfl (wpIn_wide.2 ?_)
  simp only [Array.replicate_succ, Array.replicate_zero, List.push_toArray, List.setIfInBounds_toArray, List.set_cons_zero, List.set_cons_succ, List.append_toArray, List.nil_append, List.cons_append]
  have q3 : (w.setCell ⟨b2, 0, none⟩ (.string { data := #[] })).cell? ⟨b3, 0, none⟩ = some (.int .i64 e0) := (he.far (p := ⟨b2, 0, none⟩) (Ne.symm hne) _).cell 0
  have q4 := (he.far (p := ⟨b2, 0, none⟩) (Ne.symm hne) (.string { data := #[] })).frozen 0
  have q5 := (he.far (p := ⟨b2, 0, none⟩) (Ne.symm hne) (.string { data := #[] })).lt
  have hut := hu
  clear hk he
  go_wp2
  simp [bodyPostS, results, Tryz.results88, go_sem]
theorem catch_idle (b2 b3 n : Nat) (w : World) :
    CallsDIn Fence.wide n Tryz.prog 88 #[.pointer (some ⟨b2, 0, none⟩), .pointer (some ⟨b3, 0, none⟩)] .returning w fun e u' w' => e = .returned (.tuple #[]) ∧ u' = .returning ∧ w' = w := by
  refine callsDIn_of_wpSIn Tryz.func88 rfl trivial fun c₀ cs hu => ?_
  apply wpSIn_seq
  apply wpSIn_region
  simp [wpOpsSIn, go_sem, recoverD, hu, Tryz.ntmps88, Exit.thenS, assert_no]
  refine wpSIn_of_wpIn rfl (wpIn_wide.2 ?_)
  simp only [Array.replicate_succ, Array.replicate_zero, List.push_toArray, List.setIfInBounds_toArray, List.set_cons_zero, List.set_cons_succ, List.append_toArray, List.nil_append, List.cons_append]
  go_wp2
  cases c₀
  simp_all [bodyPostS, results, Tryz.results88, go_sem]
end Go.Proofs.YtgjgcbemgmkncaaGreatDoor
namespace Go.Proofs.YtgjgcbemgmkncaaGreatDoor
open Go.RowKit Go.Shelf
set_option linter.unusedVariables false
set_option maxRecDepth 20000
set_option linter.unusedSimpArgs false
attribute [local go_sem] Oper.semAt_some

theorem key_any (p : Option Addr) (w : World) : Calls Tryz.prog 89 #[.pointer p] w fun e w' => e = .returned (.func (.func 91) #[] #[.pointer (some ⟨w.heap.size, 0, none⟩)]) ∧ w' = w.alloc (.cells #[.pointer p] 117) := by
  go_enter Tryz.func89, Tryz.ntmps89
  go_wp2
  go_ret
  exact ⟨rfl, rfl⟩
/-! ### What Decode comes to (no program in sight) -/
theorem rdStep_give {s : ByteArray} {p q : Nat} {b : Fin 256} (h : rdStep s p = .give b q) : p < s.size ∧ p < q := by
  unfold rdStep at h
  split at h
  · rename_i hp
    split at h
    · split at h
      · split at h
        · cases h
        · split at h
          · injection h with _ h; omega
          · cases h
      · cases h
    · injection h with _ h; omega
  · cases h
def rdFrom (s : ByteArray) (p : Nat) : Option (List (Fin 256) × Nat) := match h : rdStep s p with
  | .panic => none
  | .stop k => some ([], k)
  | .give b q => (rdFrom s q).map fun x => (b :: x.1, x.2)
termination_by s.size - p
decreasing_by have := rdStep_give h; omega
theorem rdFrom_panic {s : ByteArray} {p : Nat} (h : rdStep s p = .panic) : rdFrom s p = none := by
  rw [rdFrom]; split <;> simp_all
theorem rdFrom_stop {s : ByteArray} {p k : Nat} (h : rdStep s p = .stop k) : rdFrom s p = some ([], k) := by
  rw [rdFrom]; split <;> simp_all
theorem rdFrom_give {s : ByteArray} {p q : Nat} {b : Fin 256} (h : rdStep s p = .give b q) : rdFrom s p = (rdFrom s q).map fun x => (b :: x.1, x.2) := by
  rw [rdFrom]; split <;> simp_all
theorem rdAt_from {s : ByteArray} {pre : List (Fin 256)} {p : Nat} (h : RdAt s pre p) : rdFrom s 0 = (rdFrom s p).map fun x => (pre ++ x.1, x.2) := by
  induction h with
  | nil => cases rdFrom s 0 <;> simp
  | snoc _ hs ih =>
    rw [ih, rdFrom_give hs, Option.map_map]
    congr 1
    funext x
    simp
def bytesA (xs : List (Fin 256)) : ByteArray := ⟨(xs.map fun b => UInt8.ofNat b.val).toArray⟩
def decodeN (s : ByteArray) : ByteArray × Int := match rdFrom s 0 with
  | some (l, k) => if l.length ≤ 16 ∧ k = s.size then (bytesA l, 0) else ({ data := #[] }, 4)
  | none => ({ data := #[] }, 4)
theorem decode_long {s : ByteArray} {pre : List (Fin 256)} {p : Nat} (h : RdAt s pre p) (hl : 16 < pre.length) : decodeN s = ({ data := #[] }, 4) := by
  unfold decodeN
  rw [rdAt_from h]
  cases rdFrom s p with
  | none => rfl
  | some x => simp only [Option.map_some]; rw [if_neg (by simp; omega)]
theorem decode_panic {s : ByteArray} {pre : List (Fin 256)} {p : Nat} (h : RdAt s pre p) (hp : rdStep s p = .panic) : decodeN s = ({ data := #[] }, 4) := by
  unfold decodeN
  rw [rdAt_from h, rdFrom_panic hp]
  rfl
theorem decode_stop {s : ByteArray} {pre : List (Fin 256)} {p k : Nat} (h : RdAt s pre p) (hp : rdStep s p = .stop k) (hl : pre.length ≤ 16) : decodeN s = if k = s.size then (bytesA pre, 0) else ({ data := #[] }, 4) := by
  unfold decodeN
  rw [rdAt_from h, rdFrom_stop hp]
  simp [hl]
theorem stop_le {s : ByteArray} {p k : Nat} (h : rdStep s p = .stop k) : k ≤ s.size := by
  unfold rdStep at h
  split at h
  · split at h
    · split at h
      · split at h
        · injection h with h; omega
        · split at h <;> cases h
      · cases h
    · cases h
  · cases h
/-! ### The loop's invariants -/
def rowF (l : List (Fin 256)) : List Value := l.map fun b => .int .u8 (b.val : Int)
theorem rowF_snoc (l : List (Fin 256)) (b : Fin 256) : rowF (l ++ [b]) = rowF l ++ [.int .u8 (b.val : Int)] := by simp [rowF]
theorem rowF_u8s (l : List (Fin 256)) : rowF l = u8s (l.map fun b => UInt8.ofNat b.val) := by
  unfold rowF u8s
  rw [List.map_map]
  refine List.map_congr_left fun b _ => ?_
  have : (UInt8.ofNat b.val).toNat = b.val := by simp [Nat.mod_eq_of_lt b.isLt]
  simp [this]
structure DecR (w : World) (e : Int) (W : World) : Prop where
  below : Below w.heap.size w W
  key : Blk W w.heap.size 9 #[.string { data := #[] }]
  err : Blk W (w.heap.size + 1) 45 #[.int .i64 e]
structure DecI (w : World) (lo : Nat) (pre : List (Fin 256)) (W : World) : Prop where
  rest : DecR w 0 W
  row : ∃ v, Blk W (w.heap.size + 1 + 1 + 1) 23 #[v] ∧ W.ownsRow lo 5 1 v pre.length (rowF pre)
  size : lo ≤ W.heap.size
  len : pre.length ≤ 16
section
variable {w W W' : World} {e : Int} {lo : Nat} {pre : List (Fin 256)} {row : Option Nat}
theorem DecR.turn (h : DecR w e W) (hg : W.grownBy W' row) (hr : ∀ k, row = some k → (w.heap.size + 1 + 1 + 1) ≤ k ∨ k = (w.heap.size + 1 + 1)) : DecR w e W' :=
  ⟨h.below.grown hg h.below.size (fun k e => by rcases hr k e with h | h <;> omega), h.key.grown hg (fun e => by rcases hr _ e.symm with h | h <;> omega), h.err.grown hg (fun e => by rcases hr _ e.symm with h | h <;> omega)⟩
theorem decI_own (hlo : (w.heap.size + 1 + 1 + 1 + 1) + 1 ≤ lo) : OwnFrom lo (DecI w lo) := by
  intro s W W' row hs hg hr
  obtain ⟨h1, ⟨v, h2, h3⟩, h4, h5⟩ := hs
  have hr' := fun r e => (hr r e).2
  exact ⟨h1.turn hg (fun k e => .inl (by have := (hr k e).1; omega)), ⟨v, h2.own_ hg hr', ownsRow_own h3 hg hr'⟩, Nat.le_trans h4 hg.size, h5⟩
theorem decI_reader (hlo : (w.heap.size + 1 + 1 + 1 + 1) + 1 ≤ lo) (V : World) (v : Value) (h : DecI w lo pre V) : DecI w lo pre (V.setCell ⟨(w.heap.size + 1 + 1), 1, none⟩ v) := by
  have hg : V.grownBy (V.setCell ⟨(w.heap.size + 1 + 1), 1, none⟩ v) (some (w.heap.size + 1 + 1)) := grown_setCell ⟨rfl, rfl, rfl, Nat.le_refl _, fun _ _ _ => rfl⟩ 1 v
  obtain ⟨h1, ⟨u, h2, h3⟩, h4, h5⟩ := h
  refine ⟨h1.turn hg (fun k e => .inr (by injection e with e; exact e.symm)), ⟨u, h2.grown hg (fun e => by injection e with e; omega), h3.kept hg ?_⟩, Nat.le_trans h4 hg.size, h5⟩
  cases hu : u.ownBlock with
  | none => exact .inl rfl
  | some g => exact .inr (fun e => by injection e with e; have := (h3.lt g hu).1; omega)
theorem dec_start (w : World) (s : ByteArray) : DecI w ((((((w.alloc (.cells #[.string { data := #[] }] 9)).alloc (.cells #[.int .i64 0] 45)).alloc (.cells #[.string s, .int .i64 0] 121)).alloc (.cells #[.slice none 0 0] 23)).alloc (.cells #[.pointer (some ⟨w.heap.size + 1 + 1, 0, none⟩)] 117))).heap.size [] ((((((w.alloc (.cells #[.string { data := #[] }] 9)).alloc (.cells #[.int .i64 0] 45)).alloc (.cells #[.string s, .int .i64 0] 121)).alloc (.cells #[.slice none 0 0] 23)).alloc (.cells #[.pointer (some ⟨w.heap.size + 1 + 1, 0, none⟩)] 117))) ∧ Blk ((((((w.alloc (.cells #[.string { data := #[] }] 9)).alloc (.cells #[.int .i64 0] 45)).alloc (.cells #[.string s, .int .i64 0] 121)).alloc (.cells #[.slice none 0 0] 23)).alloc (.cells #[.pointer (some ⟨w.heap.size + 1 + 1, 0, none⟩)] 117))) (w.heap.size + 1 + 1) 121 (rdC s 0) ∧ Blk ((((((w.alloc (.cells #[.string { data := #[] }] 9)).alloc (.cells #[.int .i64 0] 45)).alloc (.cells #[.string s, .int .i64 0] 121)).alloc (.cells #[.slice none 0 0] 23)).alloc (.cells #[.pointer (some ⟨w.heap.size + 1 + 1, 0, none⟩)] 117))) (w.heap.size + 1 + 1 + 1 + 1) 117 #[.pointer (some ⟨w.heap.size + 1 + 1, 0, none⟩)] ∧ ((((((w.alloc (.cells #[.string { data := #[] }] 9)).alloc (.cells #[.int .i64 0] 45)).alloc (.cells #[.string s, .int .i64 0] 121)).alloc (.cells #[.slice none 0 0] 23)).alloc (.cells #[.pointer (some ⟨w.heap.size + 1 + 1, 0, none⟩)] 117))).heap.size = (w.heap.size + 1 + 1 + 1 + 1) + 1 := by
  have h2 := ((((Blk.new w 9 #[.string { data := #[] }]).alloc (.cells #[.int .i64 0] 45)).alloc (.cells #[.string s, .int .i64 0] 121)).alloc (.cells #[.slice none 0 0] 23)).alloc (.cells #[.pointer (some ⟨w.heap.size + 1 + 1, 0, none⟩)] 117)
  have h3 := (((Blk.new (w.alloc (.cells #[.string { data := #[] }] 9)) 45 #[.int .i64 0]).alloc (.cells #[.string s, .int .i64 0] 121)).alloc (.cells #[.slice none 0 0] 23)).alloc (.cells #[.pointer (some ⟨w.heap.size + 1 + 1, 0, none⟩)] 117)
  have h4 := ((Blk.new ((w.alloc (.cells #[.string { data := #[] }] 9)).alloc (.cells #[.int .i64 0] 45)) 121 #[.string s, .int .i64 0]).alloc (.cells #[.slice none 0 0] 23)).alloc (.cells #[.pointer (some ⟨w.heap.size + 1 + 1, 0, none⟩)] 117)
  have h5 := (Blk.new (((w.alloc (.cells #[.string { data := #[] }] 9)).alloc (.cells #[.int .i64 0] 45)).alloc (.cells #[.string s, .int .i64 0] 121)) 23 #[.slice none 0 0]).alloc (.cells #[.pointer (some ⟨w.heap.size + 1 + 1, 0, none⟩)] 117)
  have h6 := Blk.new ((((w.alloc (.cells #[.string { data := #[] }] 9)).alloc (.cells #[.int .i64 0] 45)).alloc (.cells #[.string s, .int .i64 0] 121)).alloc (.cells #[.slice none 0 0] 23)) 117 #[.pointer (some ⟨w.heap.size + 1 + 1, 0, none⟩)]
  have hb : Below w.heap.size w ((((((w.alloc (.cells #[.string { data := #[] }] 9)).alloc (.cells #[.int .i64 0] 45)).alloc (.cells #[.string s, .int .i64 0] 121)).alloc (.cells #[.slice none 0 0] 23)).alloc (.cells #[.pointer (some ⟨w.heap.size + 1 + 1, 0, none⟩)] 117))) := (((((Below.refl _ w).alloc (Nat.le_refl _) _).alloc (by simp) _).alloc (by simp; omega) _).alloc (by simp; omega) _).alloc (by simp; omega) _
  simp only [World.size_alloc] at h2 h3 h4 h5 h6
  exact ⟨⟨⟨hb, h2, h3⟩, ⟨_, h5, World.ownsRow_nil _ _ _ _⟩, Nat.le_refl _, Nat.zero_le _⟩, h4, h6, by simp⟩
end
/-- Behind an append and the store. -/
theorem dec_app {w W w1 : World} {lo : Nat} {pre : List (Fin 256)} {x : Fin 256} {v v' : Value} {tmp : Obj} (hlo : (w.heap.size + 1 + 1 + 1 + 1) + 1 ≤ lo) (hR : DecR w 0 W) (hsz : lo ≤ W.heap.size) (hv : Blk W (w.heap.size + 1 + 1 + 1) 23 #[v]) (hrow : W.ownsRow lo 5 1 v pre.length (rowF pre))
    (hown' : w1.ownsRow lo 5 1 v' (pre.length + 1) (rowF pre ++ [.int .u8 (x.val : Int)])) (hgrow : (W.alloc tmp).grownBy w1 v.ownBlock) :
    Blk w1 (w.heap.size + 1 + 1 + 1) 23 #[v] ∧ DecR w 0 (w1.setCell ⟨(w.heap.size + 1 + 1 + 1), 0, none⟩ v') ∧ Blk (w1.setCell ⟨(w.heap.size + 1 + 1 + 1), 0, none⟩ v') (w.heap.size + 1 + 1 + 1) 23 #[v'] ∧ (w1.setCell ⟨(w.heap.size + 1 + 1 + 1), 0, none⟩ v').ownsRow lo 5 1 v' (pre ++ [x]).length (rowF (pre ++ [x])) ∧ lo ≤ (w1.setCell ⟨(w.heap.size + 1 + 1 + 1), 0, none⟩ v').heap.size ∧ KeepsFrom lo W (w1.setCell ⟨(w.heap.size + 1 + 1 + 1), 0, none⟩ v') ∧ KeepsR (w.heap.size + 1 + 1) (w.heap.size + 1 + 1 + 1 + 1) W (w1.setCell ⟨(w.heap.size + 1 + 1 + 1), 0, none⟩ v') := by
  have hlt := hrow.lt
  have hn : some (w.heap.size + 1 + 1 + 1) ≠ v.ownBlock := fun e => by have := (hlt _ e.symm).1; omega
  have hv1 : Blk w1 (w.heap.size + 1 + 1 + 1) 23 #[v] := (hv.alloc tmp).grown hgrow hn
  have hg2 : w1.grownBy (w1.setCell ⟨(w.heap.size + 1 + 1 + 1), 0, none⟩ v') (some (w.heap.size + 1 + 1 + 1)) := grown_setCell ⟨rfl, rfl, rfl, Nat.le_refl _, fun _ _ _ => rfl⟩ 0 v'
  have hown : ∀ g, v.ownBlock = some g → ∃ cs, Blk (W.alloc tmp) g 5 cs := by
    intro g hg
    rcases (hrow.alloc tmp).2 with ⟨rfl, _⟩ | ⟨g', cap, cur, rfl, _, hgb, _⟩
    · simp [Value.ownBlock] at hg
    · obtain rfl : g' = g := by simpa [Value.ownBlock] using hg
      exact ⟨cur, hgb⟩
  have hsame : ∀ k, k < lo → k ≠ (w.heap.size + 1 + 1 + 1) → (w1.setCell ⟨(w.heap.size + 1 + 1 + 1), 0, none⟩ v').heap[k]? = W.heap[k]? := fun k hk hne => by
    rw [Below.heap_setCell w1 ⟨(w.heap.size + 1 + 1 + 1), 0, none⟩ v' k hne, hgrow.block k (by simp; omega) (fun e => by have := (hlt k e.symm).1; omega), Below.heap_alloc W tmp k (by omega)]
  refine ⟨hv1, ((hR.turn (World.grownBy_alloc W tmp none) (fun k e => by cases e)).turn hgrow (fun k e => .inl (by have := (hlt k e).1; omega))).turn hg2 (fun k e => .inl (by injection e with e; omega)), by simpa using hv1.set_ 0 v', ?_, ?_, ?_, ?_⟩
  · rw [rowF_snoc, List.length_append]
    refine hown'.kept hg2 ?_
    cases hv' : v'.ownBlock with
    | none => exact .inl rfl
    | some g => exact .inr (fun e => by injection e with e; have := (hown'.lt g hv').1; omega)
  · have h1 := hgrow.size
    simp at h1
    simp [World.setCell]
    omega
  · refine (((KeepsOthers.alloc W tmp).trans (KeepsOthers.of_grownBy hgrow fun j o ej hj => ?_)).trans (KeepsOthers.setCell _ _ _)).from _
    obtain ⟨cs, hcs⟩ := hown j ej
    unfold Blk at hcs
    rw [hcs] at hj
    cases hj; rfl
  · intro t cs
    unfold Blk
    rw [hsame (w.heap.size + 1 + 1) (by omega) (by omega), hsame (w.heap.size + 1 + 1 + 1 + 1) (by omega) (by omega)]
    exact ⟨id, id⟩
/-- The two results of a failure are stored. -/
theorem dec_fail {w W : World} {e : Int} (h : DecR w e W) : DecR w 4 ((W.setCell ⟨w.heap.size, 0, none⟩ (.string { data := #[] })).setCell ⟨(w.heap.size + 1), 0, none⟩ (.int .i64 4)) ∧ ∀ B, KeepsFrom B W ((W.setCell ⟨w.heap.size, 0, none⟩ (.string { data := #[] })).setCell ⟨(w.heap.size + 1), 0, none⟩ (.int .i64 4)) := by
  have n1 : (w.heap.size + 1) ≠ w.heap.size := by omega
  have n2 : w.heap.size ≠ (w.heap.size + 1) := by omega
  refine ⟨⟨(h.below.setCell (p := ⟨w.heap.size, 0, none⟩) (Nat.le_refl _) _).setCell (p := ⟨(w.heap.size + 1), 0, none⟩) (by show w.heap.size ≤ (w.heap.size + 1); omega) _, ?_, ?_⟩, fun B => ((KeepsOthers.setCell _ _ _).trans (KeepsOthers.setCell _ _ _)).from _⟩
  · have q := (h.key.set_ 0 (.string { data := #[] })).far (p := ⟨(w.heap.size + 1), 0, none⟩) n2 (.int .i64 4)
    simpa using q
  · have q := (h.err.far (p := ⟨w.heap.size, 0, none⟩) n1 (.string { data := #[] })).set_ 0 (.int .i64 4)
    simpa using q
/-- Two results are stored; then the loop's block is shut. -/
theorem dec_put {w W : World} {e : Int} (h : DecR w e W) (kk : ByteArray) (ee : Int) : True ∧ Blk (W.setCell ⟨w.heap.size, 0, none⟩ (.string kk)) (w.heap.size + 1) 45 #[.int .i64 e] ∧
    (∀ D, (w.heap.size + 1) < D → ((((W.setCell ⟨w.heap.size, 0, none⟩ (.string kk)).setCell ⟨(w.heap.size + 1), 0, none⟩ (.int .i64 ee)).putObj D (.deferred none)).cell? ⟨w.heap.size, 0, none⟩ = some (.string kk) ∧ (((W.setCell ⟨w.heap.size, 0, none⟩ (.string kk)).setCell ⟨(w.heap.size + 1), 0, none⟩ (.int .i64 ee)).putObj D (.deferred none)).cell? ⟨(w.heap.size + 1), 0, none⟩ = some (.int .i64 ee) ∧ Below w.heap.size w (((W.setCell ⟨w.heap.size, 0, none⟩ (.string kk)).setCell ⟨(w.heap.size + 1), 0, none⟩ (.int .i64 ee)).putObj D (.deferred none)))) ∧
    (∀ D, (w.heap.size + 1) < D → W.heap[D]? = some (.deferred (some [])) → ((W.setCell ⟨w.heap.size, 0, none⟩ (.string kk)).setCell ⟨(w.heap.size + 1), 0, none⟩ (.int .i64 ee)).heap[D]? = some (.deferred (some []))) := by
  have n1 : (w.heap.size + 1) ≠ w.heap.size := by omega
  have n2 : w.heap.size ≠ (w.heap.size + 1) := by omega
  refine ⟨trivial, h.err.far (p := ⟨w.heap.size, 0, none⟩) n1 _, fun D hD => ?_, fun D hD hd => (Below.heap_setCell _ _ _ _ (by show D ≠ (w.heap.size + 1); omega)).trans ((Below.heap_setCell _ _ _ _ (by show D ≠ w.heap.size; omega)).trans hd)⟩
  have q2 := (h.key.set_ 0 (.string kk)).far (p := ⟨(w.heap.size + 1), 0, none⟩) n2 (.int .i64 ee)
  have q3 := (h.err.far (p := ⟨w.heap.size, 0, none⟩) n1 (.string kk)).set_ 0 (.int .i64 ee)
  have hb := (h.below.setCell (p := ⟨w.heap.size, 0, none⟩) (Nat.le_refl _) (.string kk)).setCell (p := ⟨(w.heap.size + 1), 0, none⟩) (by show w.heap.size ≤ (w.heap.size + 1); omega) (.int .i64 ee)
  have hg := grownBy_putObj' ((W.setCell ⟨w.heap.size, 0, none⟩ (.string kk)).setCell ⟨(w.heap.size + 1), 0, none⟩ (.int .i64 ee)) D (.deferred none)
  refine ⟨?_, ?_, hb.grown hg hb.size (fun k e => by injection e with e; omega)⟩
  · have := (q2.grown hg (fun e => by injection e with e; omega)).cell 0
    simpa using this
  · have := (q3.grown hg (fun e => by injection e with e; omega)).cell 0
    simpa using this
theorem reads_ownC {W : World} {base size n c : Nat} {e : TypeId} {A : Option Addr} {xs : List Value} (h : W.ownsRow base e size (.slice A n c) n xs) : Reads W W.heap.size size A n xs := by
  refine ⟨h.1, fun hn => ?_⟩
  rcases h.2 with ⟨e1, e2⟩ | ⟨g, cap, cur, e1, _, hg, _⟩
  · omega
  · injection e1 with e1 e2 e3
    subst e1
    exact ⟨_, rfl, (Array.getElem?_eq_some_iff.1 hg).1, h.cells rfl⟩
def DecEnd (s : ByteArray) (w : World) (e : Ending) (w' : World) : Prop := e = .returned (.tuple #[.string (decodeN s).1, .int .i64 (decodeN s).2]) ∧ Below w.heap.size w w'
theorem info5 : (Tryz.prog.info? 5).map (fun i => (i.zero, i.size, i.bytes)) = some (some (.int .u8 0), 1, 1) := by kernel_rfl
set_option maxHeartbeats 3200000 in
set_option maxRecDepth 100000 in
theorem decode_n (s : ByteArray) (w : World) (hs : s.size ≤ 9223372036854775807) : Calls Tryz.prog 85 #[.string s] w (DecEnd s w) := by
  have hmf : ∀ (fn : Fn) (first cap : Array Value) (w : World), (Instr.makeFunc fn first cap).run Tryz.prog w = .ok (.func fn first cap) w := fun _ _ _ _ => rfl
  obtain ⟨i0, hi, hz0, hz1, hz2⟩ := info_parts info5
  refine (callsIn_wide (n := 10)).1 (callsIn_of_wp_marks Tryz.func85 rfl trivial (wpIn_wide.2 ?_) rfl)
  simp only [Tryz.ntmps85, List.size_toArray, List.length_cons, List.length_nil, Nat.reduceAdd, Nat.reduceSub, Array.replicate_succ, Array.replicate_zero, List.push_toArray, List.append_toArray, List.nil_append, List.cons_append]
  go_wp2_with fail
  refine (key_any _ _).mono ?_
  rintro e w1 ⟨rfl, rfl⟩
  have h0 := dec_start w s
  go_wp2_with fail
  generalize (((((w.alloc (.cells #[.string { data := #[] }] 9)).alloc (.cells #[.int .i64 0] 45)).alloc (.cells #[.string s, .int .i64 0] 121)).alloc (.cells #[.slice none 0 0] 23)).alloc (.cells #[.pointer (some ⟨w.heap.size + 1 + 1, 0, none⟩)] 117)) = wx at h0 ⊢
  obtain ⟨hI0, hG0, hb6, hsz⟩ := h0
  have hlo : (w.heap.size + 1 + 1 + 1 + 1) + 1 ≤ wx.heap.size := by omega
  have HSZ := Lib.hid hsz
  clear hsz
  refine (wpIn_wide (n := 10)).1 ?_
  refine wpIn_range_P rfl (by decide) (gf := 91) (lb := #[.pointer (some ⟨w.heap.size + 1 + 1 + 1 + 1, 0, none⟩)]) rfl trivial (enters_of Tryz.func91 (by kernel_rfl) rfl)
    (key_stops (w.heap.size + 1 + 1) (w.heap.size + 1 + 1 + 1 + 1) 9 17 (wx.heap.size + 2) s wx hs (by decide) hb6) hG0 (Below.refl _ _) (fun _ => rfl)
    (DecI w wx.heap.size) (fun c pre W => c = .ret ∧ 16 < pre.length ∧ DecR w 4 W) (decI_own hlo) (fun c s W W' row hs hg hr => ⟨hs.1, hs.2.1, hs.2.2.turn hg (fun k e => .inl (by have := (hr k e).1; omega))⟩) (fun pre V v h => decI_reader hlo V v h) (fun pre V h => by have := h.len; omega) hI0
    (fun x a' W => a' = ⟨#[.string s, undef, .pointer (some ⟨w.heap.size, 0, none⟩), .pointer (some ⟨w.heap.size + 1, 0, none⟩), .pointer (some ⟨w.heap.size + 1 + 1, 0, none⟩), .pointer (some ⟨w.heap.size + 1 + 1 + 1, 0, none⟩), .int .u8 (x.val : Int), .func (.func 88) #[] #[.pointer (some ⟨w.heap.size, 0, none⟩), .pointer (some ⟨w.heap.size + 1, 0, none⟩)], .string s, .agg #[.string s, .int .i64 0], .agg #[.string s, .int .i64 0], .pointer (some ⟨w.heap.size + 1 + 1, 0, none⟩), .pointer (some ⟨w.heap.size + 1 + 1, 0, none⟩), .func (.func 91) #[] #[.pointer (some ⟨w.heap.size + 1 + 1 + 1 + 1, 0, none⟩)], .int .u8 (x.val : Int), undef, undef, undef, undef, undef, undef, undef, undef, undef, undef, undef, undef, undef, undef, undef, undef, undef], []⟩) (fun x a' s W W' row hs hg hr => hs) ?assign ?body ?done ?stop ?panic
  case assign =>
    rintro l pre x W K hi hK
    have hfin : K ⟨#[.string s, undef, .pointer (some ⟨w.heap.size, 0, none⟩), .pointer (some ⟨w.heap.size + 1, 0, none⟩), .pointer (some ⟨w.heap.size + 1 + 1, 0, none⟩), .pointer (some ⟨w.heap.size + 1 + 1 + 1, 0, none⟩), .int .u8 (x.val : Int), .func (.func 88) #[] #[.pointer (some ⟨w.heap.size, 0, none⟩), .pointer (some ⟨w.heap.size + 1, 0, none⟩)], .string s, .agg #[.string s, .int .i64 0], .agg #[.string s, .int .i64 0], .pointer (some ⟨w.heap.size + 1 + 1, 0, none⟩), .pointer (some ⟨w.heap.size + 1 + 1, 0, none⟩), .func (.func 91) #[] #[.pointer (some ⟨w.heap.size + 1 + 1 + 1 + 1, 0, none⟩)], .int .u8 (x.val : Int), undef, undef, undef, undef, undef, undef, undef, undef, undef, undef, undef, undef, undef, undef, undef, undef, undef], []⟩ W := hK _ _ (KeepsFrom.refl _ _) (fun t cs => ⟨id, id⟩) hi rfl
    have HF := Lib.hid hfin
    clear hfin hK
    gi_wp2
    exact HF.out
  case body =>
    rintro l pre x a' W hl ⟨rec, hrec⟩ ⟨hR, ⟨v, hv, hrow⟩, hsz2, hlen0⟩ rfl hlen
    have ex := hv.cell 0
    simp at ex
    have HO := Lib.hid (And.intro hR (And.intro hv (And.intro hrow (And.intro hsz2 hlo))))
    have hx0 : (0 : Int) ≤ (x.val : Int) := by omega
    have hx1 : (x.val : Int) ≤ 255 := by have := x.isLt; omega
    have n1 : 1 ≤ 8 := by decide
    obtain ⟨A, c, rfl, hA0, hnc, hcm⟩ := own_form hrow
    clear hv hrow hR hsz2 hlo
    by_cases h16 : pre.length + 1 ≤ 16
    · have hle : ¬ (((pre.length + 1 : Nat) : Int) > 16) := by omega
      have hle2 : ¬ ((pre.length : Int) + 1 > 16) := by omega
      gi_wp2_with (gi_at_builtin; refine wpListIn_append_own _ rfl _ _ 23 rfl wx.heap.size 5 i0 (.int .u8 0) 1 1 Tryz.underlying23 hi hz0 hz1 hz2 rfl (by decide) _ _ _ rfl (HO.out.2.2.1.alloc _) ⟨W.heap.size, 0, none⟩ 1 1 [.int .u8 (x.val : Int)] rfl rfl (cell_one_new _ _ _) (by simp [Value.oneCell']) (by unfold maxLen; omega) (by omega) (by have := HO.out.2.2.2.1; simp; omega) ?_; intro v' w1 hown' hgrow _; obtain ⟨g', cap', rfl⟩ := ownsRow_succ hown'; obtain ⟨hv1, hR1, hv2, hr2, hs2, hk2, hb2⟩ := dec_app HO.out.2.2.2.2 HO.out.1 HO.out.2.2.2.1 HO.out.2.1 HO.out.2.2.1 hown' hgrow; have HN := Lib.hid (And.intro hR1 (And.intro hv2 (And.intro hr2 (And.intro hs2 (And.intro hk2 hb2))))); have hc1 := hv1.cell 0; have hf1 := hv1.frozen 0; have hl1 := hv1.lt; simp at hc1; clear hv1 hR1 hv2 hr2 hs2 hk2 hb2 hown' hgrow)
      exact ⟨HN.out.2.2.2.2.1, HN.out.2.2.2.2.2, HN.out.1, ⟨_, HN.out.2.1, HN.out.2.2.1⟩, HN.out.2.2.2.1, by simpa using h16⟩
    · have hle2 : (pre.length : Int) + 1 > 16 := by omega
      gi_wp2_with (gi_at_builtin; refine wpListIn_append_own _ rfl _ _ 23 rfl wx.heap.size 5 i0 (.int .u8 0) 1 1 Tryz.underlying23 hi hz0 hz1 hz2 rfl (by decide) _ _ _ rfl (HO.out.2.2.1.alloc _) ⟨W.heap.size, 0, none⟩ 1 1 [.int .u8 (x.val : Int)] rfl rfl (cell_one_new _ _ _) (by simp [Value.oneCell']) (by unfold maxLen; omega) (by omega) (by have := HO.out.2.2.2.1; simp; omega) ?_; intro v' w1 hown' hgrow _; obtain ⟨g', cap', rfl⟩ := ownsRow_succ hown'; obtain ⟨hv1, hR1, hv2, hr2, hs2, hk2, hb2⟩ := dec_app HO.out.2.2.2.2 HO.out.1 HO.out.2.2.2.1 HO.out.2.1 HO.out.2.2.1 hown' hgrow; have hfin := dec_fail hR1; have HN := Lib.hid (And.intro hfin.1 (hk2.trans (hfin.2 _))); have hc1 := hv1.cell 0; have hf1 := hv1.frozen 0; have hl1 := hv1.lt; simp at hc1; have q1 := hR1.key.cell 0; have q2 := hR1.key.frozen 0; have q3 := hR1.key.lt; have q4 := (hR1.err.far (p := ⟨w.heap.size, 0, none⟩) (by show (w.heap.size + 1) ≠ w.heap.size; omega) (.string { data := #[] })).cell 0; have q5 := (hR1.err.far (p := ⟨w.heap.size, 0, none⟩) (by show (w.heap.size + 1) ≠ w.heap.size; omega) (.string { data := #[] })).frozen 0; have q6 := (hR1.err.far (p := ⟨w.heap.size, 0, none⟩) (by show (w.heap.size + 1) ≠ w.heap.size; omega) (.string { data := #[] })).lt; simp at q1 q4; clear hv1 hR1 hv2 hr2 hs2 hk2 hb2 hown' hgrow hfin)
      exact ⟨HN.out.2, rfl, by simp; omega, HN.out.1⟩
  case done =>
    rintro D xs k W hD ⟨p, hp1, hp2⟩ ⟨hR, ⟨v, hv, hrow⟩, hsz2, hlen0⟩ hgc hdef
    have hkl := stop_le hp2
    have hdec := decode_stop hp1 hp2 hlen0
    have c4 : W.cell? ⟨w.heap.size + 1 + 1, 1, none⟩ = some (.int .i64 (k : Int)) := hgc.cell 1
    obtain ⟨A, c, rfl, hA0, hnc, hcm⟩ := own_form hrow
    have k2 := hR.key.cell 0
    have z2 := hR.key.frozen 0
    have l2 := hR.key.lt
    have c5 := hv.cell 0
    simp at k2 c5
    have hD2 : w.heap.size + 1 + 1 + 1 + 1 + 1 ≤ D := by omega
    by_cases hk : k = s.size
    · rw [if_pos hk] at hdec
      have HD := Lib.hid hdec
      have i1 : ¬ ((k : Int) < (s.size : Int)) := by omega
      have hcv : (convert 23 9 (.slice A xs.length c)).run Tryz.prog W = .ok (.string (bytesA xs)) W := run_string_of_reads _ _ 5 Tryz.underlying23 Tryz.underlying5 Tryz.underlying9 (fun e => (hA0 e).2) (by have := reads_ownC hrow; rw [rowF_u8s] at this; exact this)
      obtain ⟨m1, m2, m3⟩ := dec_put hR (bytesA xs) 0
      have k3 := m2.cell 0
      have z3 := m2.frozen 0
      have l3 := m2.lt
      simp at k3
      have HDEF := Lib.hid (m3.2 D (by omega) hdef)
      have HC := Lib.hid (m3.1 D (by omega))
      clear hdec hrow hR hv hgc hdef m1 m2 m3
      refine (‹∀ (a : Act) (w : World), Code.wp Tryz.prog _ _ a w → _› _ _ ?_)
      go_wp2
      refine ⟨by simp, .inl ⟨_, _, rfl, run_takeDeferred HDEF.out, ?_⟩⟩
      refine ⟨by simp, .inr ⟨fun _ => by decide, _, _, 88, #[.pointer (some ⟨w.heap.size, 0, none⟩), .pointer (some ⟨w.heap.size + 1, 0, none⟩)], rfl, by simp [invoke, go_sem, enters_of Tryz.func88 (by kernel_rfl) rfl], fun g _ => trivial, ?_⟩⟩
      refine (catch_idle _ _ _ _).mono ?_
      rintro e u' w' ⟨rfl, rfl, rfl⟩
      refine ⟨.tuple #[.string (bytesA xs), .int .i64 0], by simp [results, Tryz.results85, go_sem, HC.out.1, HC.out.2.1], ?_, HC.out.2.2⟩
      rw [HD.out]
    · rw [if_neg hk] at hdec
      have HD := Lib.hid hdec
      have i1 : (k : Int) < (s.size : Int) := by omega
      obtain ⟨m1, m2, m3⟩ := dec_put hR { data := #[] } 4
      have k3 := m2.cell 0
      have z3 := m2.frozen 0
      have l3 := m2.lt
      simp at k3
      have HDEF := Lib.hid (m3.2 D (by omega) hdef)
      have HC := Lib.hid (m3.1 D (by omega))
      clear hdec hrow hR hv hgc hdef m1 m2 m3
      refine (‹∀ (a : Act) (w : World), Code.wp Tryz.prog _ _ a w → _› _ _ ?_)
      go_wp2
      refine ⟨by simp, .inl ⟨_, _, rfl, run_takeDeferred HDEF.out, ?_⟩⟩
      refine ⟨by simp, .inr ⟨fun _ => by decide, _, _, 88, #[.pointer (some ⟨w.heap.size, 0, none⟩), .pointer (some ⟨w.heap.size + 1, 0, none⟩)], rfl, by simp [invoke, go_sem, enters_of Tryz.func88 (by kernel_rfl) rfl], fun g _ => trivial, ?_⟩⟩
      refine (catch_idle _ _ _ _).mono ?_
      rintro e u' w' ⟨rfl, rfl, rfl⟩
      refine ⟨.tuple #[.string { data := #[] }, .int .i64 4], by simp [results, Tryz.results85, go_sem, HC.out.1, HC.out.2.1], ?_, HC.out.2.2⟩
      rw [HD.out]
  case stop =>
    rintro D c pre W hD ⟨q, hq⟩ ⟨rfl, hlen, hR⟩ hdef
    have hR2 : DecR w 4 (W.putObj D (.deferred none)) := hR.turn (grownBy_putObj' W D _) (fun k e => .inl (by injection e with e; omega))
    have c2 := hR2.key.cell 0
    have c3 := hR2.err.cell 0
    simp at c2 c3
    have HD := Lib.hid (decode_long hq hlen)
    gi_wp2
    refine ⟨by simp, .inl ⟨_, _, rfl, run_takeDeferred hdef, ?_⟩⟩
    refine ⟨by simp, .inr ⟨fun _ => by decide, _, _, 88, #[.pointer (some ⟨w.heap.size, 0, none⟩), .pointer (some ⟨w.heap.size + 1, 0, none⟩)], rfl, by simp [invoke, go_sem, enters_of Tryz.func88 (by kernel_rfl) rfl], fun g _ => trivial, ?_⟩⟩
    refine (catch_idle _ _ _ _).mono ?_
    rintro e u' w' ⟨rfl, rfl, rfl⟩
    refine ⟨.tuple #[.string { data := #[] }, .int .i64 4], by simp [results, Tryz.results85, go_sem, c2, c3], ?_, hR2.below⟩
    rw [HD.out]
  case panic =>
    rintro D ch pre W hD ⟨rfl, p, hp1, hp2⟩ ⟨hR, ⟨v, hv, hrow⟩, hsz2, hlen0⟩ hdef
    have hR2 : DecR w 0 (W.putObj D (.deferred none)) := hR.turn (grownBy_putObj' W D _) (fun k e => .inl (by injection e with e; omega))
    have hR3 := dec_fail hR2
    have c2 := hR3.1.key.cell 0
    have c3 := hR3.1.err.cell 0
    simp at c2 c3
    have HD := Lib.hid (decode_panic hp1 hp2)
    show LeavesInM _ _ _ _ _ _ _ _ _
    refine ⟨by simp, .inl ⟨_, _, rfl, run_takeDeferred hdef, ?_⟩⟩
    refine ⟨by simp, .inr ⟨fun _ => by decide, _, _, 88, #[.pointer (some ⟨w.heap.size, 0, none⟩), .pointer (some ⟨w.heap.size + 1, 0, none⟩)], rfl, by simp [invoke, go_sem, enters_of Tryz.func88 (by kernel_rfl) rfl], fun g _ => trivial, ?_⟩⟩
    refine (catch_panic _ _ _ _ _ _ hR2.key hR2.err).mono ?_
    rintro e u' w' ⟨rfl, rfl, rfl⟩
    refine ⟨.tuple #[.string { data := #[] }, .int .i64 4], by simp [results, Tryz.results85, go_sem, c2, c3], ?_, hR3.1.below⟩
    rw [HD.out]
end Go.Proofs.YtgjgcbemgmkncaaGreatDoor
namespace Go.Proofs.YtgjgcbemgmkncaaGreatDoor
open Go.RowKit Go.Shelf
set_option linter.unusedVariables false
set_option maxRecDepth 20000
set_option linter.unusedSimpArgs false

def isCode (s : ByteArray) : Bool := (decodeN s).2 == 0
theorem is_n (s : ByteArray) (w : World) (hs : s.size ≤ 9223372036854775807) : Calls Tryz.prog 76 #[.string s] w (BoolEnd (isCode s) w) := by
  have HD := Lib.hid (decode_n s w hs)
  go_enter Tryz.func76, Tryz.ntmps76
  go_wp2_with fail
  refine HD.out.mono ?_
  rintro e w1 ⟨rfl, hb⟩
  have HB := Lib.hid hb
  clear hb
  go_wp2
  go_ret
  exact ⟨ret_bool (by unfold isCode; rfl), HB.out⟩
def Nd.codedN (x : Nd) : Bool := isCode x.code && decide ((x.value.size : Int) ≤ 32)
theorem coded_n (x : Nd) (V : Value) (w : World) (h : NdAt w x V) (hc : x.code.size ≤ 9223372036854775807) : Calls Tryz.prog 63 #[V] w (BoolEnd x.codedN w) := by
  obtain ⟨hwf, Ab, cb, Ak, ck, rfl, _, _⟩ := h
  unfold Nd.v
  have b1 := below_box w (.cells #[.int .i64 x.kind, .string x.code, .string x.value, .string x.path, .slice Ab x.bytes.length cb, .slice Ak x.kids.length ck] 61)
  have q1 := Blk.new w 61 #[.int .i64 x.kind, .string x.code, .string x.value, .string x.path, .slice Ab x.bytes.length cb, .slice Ak x.kids.length ck]
  have HI := Lib.hid (is_n x.code (w.alloc (.cells #[.int .i64 x.kind, .string x.code, .string x.value, .string x.path, .slice Ab x.bytes.length cb, .slice Ak x.kids.length ck] 61)) hc)
  have HB := Lib.hid (And.intro b1 q1)
  clear b1 q1
  have E : Hid (x.codedN = (isCode x.code && decide ((x.value.size : Int) ≤ 32))) := Lib.hid rfl
  cases hi : isCode x.code with
  | false =>
    rw [hi] at HI E
    clear hi
    go_enter Tryz.func63, Tryz.ntmps63
    go_wp2_with fail
    refine HI.out.mono ?_
    rintro e w1 ⟨rfl, hb⟩
    have HF := Lib.hid (HB.out.1.trans (hb.mono HB.out.1.size))
    clear hb HB HI
    go_wp2
    go_ret
    exact ⟨ret_bool (by rw [E.out]; rfl), HF.out⟩
  | true =>
    rw [hi] at HI E
    clear hi
    go_enter Tryz.func63, Tryz.ntmps63
    go_wp2_with fail
    refine HI.out.mono ?_
    rintro e w1 ⟨rfl, hb⟩
    have HF := Lib.hid (HB.out.1.trans (hb.mono HB.out.1.size))
    obtain ⟨c0, c1, c2, c3, c4, c5⟩ := cells6 (HB.out.2.below hb (by simp))
    clear hb HB HI
    go_wp2
    go_ret
    exact ⟨ret_bool (by rw [E.out, Bool.true_and]), HF.out⟩
def Nd.isLeafN (x : Nd) : Bool := x.leafN && x.codedN && x.emptyN
def Nd.rightN (x : Nd) : Bool := x.isLeafN || x.isRight
theorem isLeaf_asks2 (x : Nd) (V : Value) (hc : x.code.size ≤ 9223372036854775807) : Asks [62, 63, 64] [x.leafN, x.codedN, x.emptyN] V (NdP x V) := by
  refine ⟨rfl, ?_, ndP_on x V, ?_⟩
  · intro f hf
    simp only [List.mem_cons, List.not_mem_nil, or_false] at hf
    rcases hf with rfl | rfl | rfl <;> first | exact enters_of Tryz.func62 (by kernel_rfl) rfl | exact enters_of Tryz.func63 (by kernel_rfl) rfl | exact enters_of Tryz.func64 (by kernel_rfl) rfl
  · intro i f b hf hb hj W hW
    rcases i with _ | _ | _ | i
    · obtain rfl := Option.some.inj hf; obtain rfl := Option.some.inj hb; exact leaf_n x V W hW.1
    · obtain rfl := Option.some.inj hf; obtain rfl := Option.some.inj hb; exact coded_n x V W hW.1 hc
    · obtain rfl := Option.some.inj hf; obtain rfl := Option.some.inj hb; exact empty_n x V W hW.1
    · cases hf
set_option maxHeartbeats 1600000 in
theorem isLeaf_n (x : Nd) (V : Value) (w : World) (h : NdAt w x V) (hr : RoomsAt w) (hc : x.code.size ≤ 9223372036854775807) : Calls Tryz.prog 43 #[V] w (BoolEnd x.isLeafN w) := by
  have h' := h
  obtain ⟨hwf, Ab, cb, Ak, ck, rfl, _, _⟩ := h'
  have b1 := below_box w (.cells #[.int .i64 x.kind, .string x.code, .string x.value, .string x.path, .slice Ab x.bytes.length cb, .slice Ak x.kids.length ck] 61)
  have b2 := b1.alloc b1.size (.cells #[.func (.func 62) #[.agg #[.int .i64 x.kind, .string x.code, .string x.value, .string x.path, .slice Ab x.bytes.length cb, .slice Ak x.kids.length ck]] #[], .func (.func 63) #[.agg #[.int .i64 x.kind, .string x.code, .string x.value, .string x.path, .slice Ab x.bytes.length cb, .slice Ak x.kids.length ck]] #[], .func (.func 64) #[.agg #[.int .i64 x.kind, .string x.code, .string x.value, .string x.path, .slice Ab x.bytes.length cb, .slice Ak x.kids.length ck]] #[]] 31)
  have HA := Lib.hid (all_n _ _ _ _ (isLeaf_asks2 x (x.v Ab cb Ak ck) hc) (w.heap.size + 1) 3 _ (ndP_on x _ w _ ⟨h, hr⟩ b2) (by have k := Blk.new (w.alloc (.cells #[.int .i64 x.kind, .string x.code, .string x.value, .string x.path, .slice Ab x.bytes.length cb, .slice Ak x.kids.length ck] 61)) 31 #[.func (.func 62) #[.agg #[.int .i64 x.kind, .string x.code, .string x.value, .string x.path, .slice Ab x.bytes.length cb, .slice Ak x.kids.length ck]] #[], .func (.func 63) #[.agg #[.int .i64 x.kind, .string x.code, .string x.value, .string x.path, .slice Ab x.bytes.length cb, .slice Ak x.kids.length ck]] #[], .func (.func 64) #[.agg #[.int .i64 x.kind, .string x.code, .string x.value, .string x.path, .slice Ab x.bytes.length cb, .slice Ak x.kids.length ck]] #[]]; rw [World.size_alloc] at k; exact k) (by simp))
  have HB := Lib.hid b2
  clear b1 b2 h hr hwf hc
  unfold Nd.v at HA ⊢
  simp only [List.length_cons, List.length_nil, Nat.zero_add, Nat.reduceAdd] at HA
  go_enter Tryz.func43, Tryz.ntmps43
  go_wp2_with fail
  refine HA.out.mono ?_
  rintro e w1 ⟨rfl, hb⟩
  have HE := Lib.hid (HB.out.trans (hb.mono HB.out.size))
  clear hb HA HB
  go_wp2
  go_ret
  exact ⟨ret_bool (by simp [Nd.isLeafN, Bool.and_assoc]), HE.out⟩
set_option maxHeartbeats 1600000 in
theorem Right_n (x : Nd) (V : Value) (w : World) (h : NdAt w x V) (hr : RoomsAt w) (hc : x.code.size ≤ 9223372036854775807) : Calls Tryz.prog 19 #[V] w (BoolEnd x.rightN w) := by
  have h' := h
  obtain ⟨hwf, Ab, cb, Ak, ck, rfl, _, _⟩ := h'
  have b1 := below_box w (.cells #[.int .i64 x.kind, .string x.code, .string x.value, .string x.path, .slice Ab x.bytes.length cb, .slice Ak x.kids.length ck] 26)
  have b2 := b1.alloc b1.size (.cells #[.int .i64 x.kind, .string x.code, .string x.value, .string x.path, .slice Ab x.bytes.length cb, .slice Ak x.kids.length ck] 61)
  have q2 := Blk.new (w.alloc (.cells #[.int .i64 x.kind, .string x.code, .string x.value, .string x.path, .slice Ab x.bytes.length cb, .slice Ak x.kids.length ck] 26)) 61 #[.int .i64 x.kind, .string x.code, .string x.value, .string x.path, .slice Ab x.bytes.length cb, .slice Ak x.kids.length ck]
  have HL := Lib.hid (isLeaf_n x _ _ (h.below b2) (hr.on b2) hc)
  have HB := Lib.hid (And.intro b2 (And.intro q2 (And.intro h hr)))
  clear b1 b2 q2 h hr hwf hc
  unfold Nd.v at HL HB ⊢
  have E0 : x.rightN = (x.isLeafN || x.isRight) := rfl
  have E := Lib.hid E0
  clear E0
  obtain ⟨lf, hlf⟩ : ∃ lf, lf = x.isLeafN := ⟨_, rfl⟩
  rw [← hlf] at HL E
  clear hlf
  cases lf with
  | true =>
    go_enter Tryz.func19, Tryz.ntmps19
    go_wp2_with fail
    refine HL.out.mono ?_
    rintro e w1 ⟨rfl, hb⟩
    have HE := Lib.hid (HB.out.1.trans (hb.mono HB.out.1.size))
    clear hb HL HB
    go_wp2
    go_ret
    exact ⟨ret_bool (by rw [E.out, Bool.true_or]), HE.out⟩
  | false =>
    go_enter Tryz.func19, Tryz.ntmps19
    go_wp2_with fail
    refine HL.out.mono ?_
    rintro e w1 ⟨rfl, hb⟩
    have hbw := HB.out.1.trans (hb.mono HB.out.1.size)
    have HA := Lib.hid (isRight_n x _ w1 (HB.out.2.2.1.below hbw) (HB.out.2.2.2.on hbw))
    unfold Nd.v at HA
    obtain ⟨c0, c1, c2, c3, c4, c5⟩ := cells6 (HB.out.2.1.below hb (by simp))
    rw [World.size_alloc] at c0 c1 c2 c3 c4 c5
    have HE := Lib.hid hbw
    clear hb HL HB hbw
    go_wp2_with fail
    refine HA.out.mono ?_
    rintro e w2 ⟨rfl, hb⟩
    have HF := Lib.hid (HE.out.trans (hb.mono HE.out.size))
    clear hb HA HE
    go_wp2
    go_ret
    exact ⟨ret_bool (by rw [E.out, Bool.false_or]), HF.out⟩
end Go.Proofs.YtgjgcbemgmkncaaGreatDoor
namespace Go.Proofs.YtgjgcbemgmkncaaGreatDoor
open Go.RowKit Go.Shelf
set_option linter.unusedVariables false
set_option maxRecDepth 20000
set_option linter.unusedSimpArgs false

theorem bytes_nil {s : ByteArray} (h : s.toList.isEmpty = true) : s = { data := #[] } := by
  rw [ByteArray.toList_eq] at h
  obtain ⟨⟨l⟩⟩ := s
  simp at h
  subst h
  rfl
theorem lookup_no {a : Nat} : ∀ {l : List (Nat × (Int × Int))}, (∀ p ∈ l, p.1 ≠ a) → l.lookup a = none
  | [], _ => rfl
  | p :: l, h => by
    have h1 : (a == p.1) = false := by have := h p (by simp); simp; omega
    rw [List.lookup, h1]
    exact lookup_no (fun q hq => h q (by simp [hq]))
theorem lookup_mem {a : Nat} {r : Int × Int} : ∀ {l : List (Nat × (Int × Int))}, l.lookup a = some r → (a, r) ∈ l
  | [], h => by cases h
  | p :: l, h => by
    rw [List.lookup] at h
    cases h1 : (a == p.1) with
    | true =>
      rw [h1] at h
      injection h with h
      have h2 : a = p.1 := by simpa using h1
      subst h2 h
      simp
    | false =>
      rw [h1] at h
      exact List.mem_cons_of_mem _ (lookup_mem h)
/-- A list that rises is the list of its kids. -/
theorem high_lookup (n : Nat) : ∀ (a : Nat) (l : List (Nat × (Int × Int))), 256 - a = n → l.Pairwise (fun p q => p.1 < q.1) → (∀ p ∈ l, a ≤ p.1 ∧ p.1 < 256) → highK (fun b => l.lookup b) a = l := by
  induction n with
  | zero =>
    intro a l ha _ hl
    have h0 : l = [] := by
      cases l with
      | nil => rfl
      | cons p l => have := hl p (by simp); omega
    subst h0
    exact kidsIn_no fun _ _ => rfl
  | succ n ih =>
    intro a l ha hp hl
    have ha2 : a < 256 := by omega
    rw [high_succ _ a ha2]
    cases l with
    | nil =>
      simp only [List.lookup, Option.map_none, Option.toList_none, List.nil_append]
      exact kidsIn_no fun _ _ => rfl
    | cons p l =>
      obtain ⟨hp1, hp2⟩ := List.pairwise_cons.1 hp
      by_cases he : p.1 = a
      · have h1 : (p :: l).lookup a = some p.2 := by
          rw [List.lookup, show (a == p.1) = true by simp [he]]
        rw [h1]
        simp only [Option.map_some, Option.toList_some, List.singleton_append]
        have h2 : highK (fun b => (p :: l).lookup b) (a + 1) = highK (fun b => l.lookup b) (a + 1) := kidsIn_congr fun b hb => by
          have := (mem_drop_range hb).1
          rw [List.lookup, show (b == p.1) = false by simp; omega]
        rw [h2, ih (a + 1) l (by omega) hp2 (fun q hq => ⟨by have := hp1 q hq; omega, (hl q (by simp [hq])).2⟩), ← he]
      · have hgt : ∀ q ∈ p :: l, a < q.1 := by
          have h0 := hl p (by simp)
          intro q hq
          rcases List.mem_cons.1 hq with rfl | hq
          · omega
          · have := hp1 q hq; omega
        rw [lookup_no (fun q hq => by have := hgt q hq; omega)]
        simp only [Option.map_none, Option.toList_none, List.nil_append]
        exact ih (a + 1) (p :: l) (by omega) hp (fun q hq => ⟨hgt q hq, (hl q hq).2⟩)
theorem rising_pairwise : ∀ {l : List Nat}, risingN l = true → l.Pairwise (· < ·)
  | [], _ => List.Pairwise.nil
  | [a], _ => List.pairwise_singleton _ _
  | a :: b :: l, h => by
    unfold risingN at h
    rw [Bool.and_eq_true, decide_eq_true_eq] at h
    have ih := rising_pairwise h.2
    refine List.pairwise_cons.2 ⟨fun c hc => ?_, ih⟩
    rcases List.mem_cons.1 hc with rfl | hc
    · exact h.1
    · have := (List.pairwise_cons.1 ih).1 c hc; omega
theorem inner_norm {x : Nd} (hx : x.wf) (h : x.isInner = true) : ∃ f, KidsOk f ∧ x = ofNd x f x.kind := by
  obtain ⟨h1, h2, h3, h4, h5, h6, h7, h8⟩ := inner_parts h
  have hp : (x.bytes.zip x.kids).Pairwise (fun p q => p.1 < q.1) := by
    have := rising_pairwise h7
    rw [← List.map_fst_zip (l₁ := x.bytes) (l₂ := x.kids) (by omega), List.pairwise_map] at this
    exact this
  have hk : kidsOf (fun b => (x.bytes.zip x.kids).lookup b) = x.bytes.zip x.kids := by
    have h1 := high_lookup 256 0 (x.bytes.zip x.kids) rfl hp (fun p hq => ⟨Nat.zero_le _, hx.bytes _ (List.of_mem_zip hq).1⟩)
    have h0 : lowK (fun b => (x.bytes.zip x.kids).lookup b) 0 = [] := kidsIn_no fun _ hb => by cases hb
    rw [kids_split _ 0 (Nat.zero_le _), h1, h0, List.nil_append]
  refine ⟨fun b => (x.bytes.zip x.kids).lookup b, ⟨fun b hb => lookup_no fun p hq => ?_, fun b r hr => ?_⟩, ?_⟩
  · have := hx.bytes _ (List.of_mem_zip hq).1; omega
  · have := (List.of_mem_zip (lookup_mem hr)).2
    exact ⟨List.all_eq_true.1 h8 r this, hx.refs r this⟩
  · have e1 := bytes_ofNd x (fun b => (x.bytes.zip x.kids).lookup b) x.kind
    have e2 := kids_ofNd x (fun b => (x.bytes.zip x.kids).lookup b) x.kind
    rw [hk, List.map_fst_zip (by omega)] at e1
    rw [hk, List.map_snd_zip (by omega)] at e2
    obtain ⟨k, c, v, p, b, ks⟩ := x
    have e3 := bytes_nil h2
    have e4 := bytes_nil h3
    dsimp only at e3 e4
    subst e3 e4
    show _ = (⟨_, _, _, _, _, _⟩ : Nd)
    unfold ofNd at e1 e2
    dsimp only at e1 e2
    rw [e1, e2]
/-! ### great -/
def greatS (x : Nd) : Bool := decide (IntKind.i64.wrap (IntKind.i64.wrap ((x.code.size : Int) + (x.value.size : Int)) + (x.path.size : Int)) > 400)
def greatN (x : Nd) : Bool := decide (400 < x.bytes.length) || decide (400 < x.kids.length) || greatS x
set_option maxHeartbeats 800000 in
theorem great_n (x : Nd) (V : Value) (w : World) (h : NdAt w x V) : Calls Tryz.prog 5 #[V] w (BoolEnd (greatN x) w) := by
  obtain ⟨_, Ab, cb, Ak, ck, rfl, _, _⟩ := h
  unfold Nd.v
  by_cases h1 : 400 < x.bytes.length
  · have e1 : (x.bytes.length : Int) > 400 := by omega
    have E : Hid (greatN x = true) := Lib.hid (by unfold greatN; simp [h1])
    clear h1
    go_enter Tryz.func5, Tryz.ntmps5
    go_wp2
    go_ret
    exact ⟨ret_bool (by rw [E.out]), (Below.refl _ _).alloc (Nat.le_refl _) _⟩
  · have e1 : ¬ ((x.bytes.length : Int) > 400) := by omega
    by_cases h2 : 400 < x.kids.length
    · have e2 : (x.kids.length : Int) > 400 := by omega
      have E : Hid (greatN x = true) := Lib.hid (by unfold greatN; simp [h2])
      clear h1 h2
      go_enter Tryz.func5, Tryz.ntmps5
      go_wp2
      go_ret
      exact ⟨ret_bool (by rw [E.out]), (Below.refl _ _).alloc (Nat.le_refl _) _⟩
    · have e2 : ¬ ((x.kids.length : Int) > 400) := by omega
      have E : Hid (greatN x = greatS x) := Lib.hid (by unfold greatN; simp [h1, h2])
      clear h1 h2
      go_enter Tryz.func5, Tryz.ntmps5
      go_wp2
      go_ret
      exact ⟨ret_bool (by rw [E.out]; unfold greatS; first | rfl | simp [IntKind.wrap_i64, wrap64]), (Below.refl _ _).alloc (Nat.le_refl _) _⟩
end Go.Proofs.YtgjgcbemgmkncaaGreatDoor
namespace Go.Proofs.YtgjgcbemgmkncaaGreatDoor
open Go.RowKit Go.Shelf
set_option linter.unusedVariables false
set_option linter.unusedSimpArgs false

theorem may_room {x : Nd} (h : x.may = true) : (x.kids.length : Int) ≤ roomN x.kind := by
  have h0 := (inner_parts (may_inner h)).2.2.2.2.2.1
  unfold Nd.may at h
  rw [Bool.or_eq_true] at h
  rcases h with h | h
  · unfold Nd.isRight Nd.fitsN at h
    rw [Bool.and_eq_true, decide_eq_true_eq] at h
    have := room_of (n := (x.kids.length : Int)) (by omega) (by omega)
    rw [h.2] at this
    exact this.1
  · unfold Nd.isAnchor Nd.topN at h
    rw [Bool.and_eq_true, Bool.and_eq_true, decide_eq_true_eq] at h
    rw [h.2.1]
    show (x.kids.length : Int) ≤ 256
    omega
theorem may_norm {x : Nd} (hx : x.wf) (h : x.may = true) : ∃ f, KidsOk f ∧ x = ofNd x f x.kind ∧ (cntK f : Int) ≤ roomN x.kind ∧ x.row (roomN x.kind) = f ∧ x.bytes = (kidsOf f).map (·.1) ∧ x.kids = (kidsOf f).map (·.2) := by
  obtain ⟨f, hf, he⟩ := inner_norm hx (may_inner h)
  have hc : x.kids.length = cntK f := by
    have := (len_ofNd x f x.kind).1
    rw [← he] at this
    exact this
  have hr : (cntK f : Int) ≤ roomN x.kind := by have := may_room h; omega
  refine ⟨f, hf, he, hr, ?_, ?_, ?_⟩
  · have := row_ofNd (x := x) (k := x.kind) (room := roomN x.kind) hf hr
    rw [← he] at this
    exact this
  · have := bytes_ofNd x f x.kind
    rw [← he] at this
    exact this
  · have := kids_ofNd x f x.kind
    rw [← he] at this
    exact this
theorem find_hit {x : Nd} (hx : x.wf) (h : x.may = true) {k b : Nat} (h1 : k < x.bytes.length) (h2 : k < x.kids.length) (e : x.bytes[k] = b) : findN x b = some x.kids[k] := by
  obtain ⟨f, hf, he, hr, hrow, hb, hk⟩ := may_norm hx h
  unfold findN
  rw [if_pos h, hrow]
  have hi : k < (kidsOf f).length := by rw [hb] at h1; simpa using h1
  have g1 : x.bytes[k] = ((kidsOf f)[k]).1 := by simp only [hb, List.getElem_map]
  have g2 : x.kids[k] = ((kidsOf f)[k]).2 := by simp only [hk, List.getElem_map]
  have hm := (mem_kidsIn.1 (List.getElem_mem hi : (kidsOf f)[k] ∈ kidsOf f)).2
  rw [g2, ← e, g1]
  exact hm
theorem find_miss {x : Nd} (hx : x.wf) {b : Nat} (hb256 : b < 256) (hn : ∀ j, (h : j < x.bytes.length) → x.bytes[j] ≠ b) : findN x b = none := by
  unfold findN
  split
  · rename_i h
    obtain ⟨f, hf, he, hr, hrow, hb, hk⟩ := may_norm hx h
    rw [hrow]
    cases hfb : f b with
    | none => rfl
    | some q =>
      have hm : (b, q) ∈ kidsOf f := mem_kidsIn.2 ⟨by simp; exact hb256, hfb⟩
      obtain ⟨i, hi, hie⟩ := List.getElem_of_mem hm
      have h1 : i < x.bytes.length := by rw [hb]; simpa using hi
      have g1 : x.bytes[i] = ((kidsOf f)[i]).1 := by simp only [hb, List.getElem_map]
      exact absurd (by rw [g1, hie]) (hn i h1)
  · rfl
/-- What Next finds. -/
def nextN (x : Nd) (k : Int) : Int × ((Int × Int) × Bool) := if x.may = true then nextK (x.row (roomN x.kind)) k else (0, ((0, 0), false))
theorem next_hit {x : Nd} (hx : x.wf) (h : x.may = true) {k : Nat} {c : Int} (h1 : k < x.bytes.length) (h2 : k < x.kids.length) (e : c ≤ (x.bytes[k] : Int)) (hl : ∀ j, (h : j < x.bytes.length) → j < k → (x.bytes[j] : Int) < c) : nextN x c = ((x.bytes[k] : Int), (x.kids[k], true)) := by
  obtain ⟨f, hf, he, hr, hrow, hb, hk⟩ := may_norm hx h
  have hb256 := hx.bytes _ (List.getElem_mem h1)
  unfold nextN nextK
  rw [if_pos h, hrow]
  have hi : k < (kidsOf f).length := by rw [hb] at h1; simpa using h1
  have g1 : ∀ j, (h : j < x.bytes.length) → (h' : j < (kidsOf f).length) → x.bytes[j] = ((kidsOf f)[j]).1 := fun j _ _ => by simp only [hb, List.getElem_map]
  have g2 : x.kids[k] = ((kidsOf f)[k]).2 := by simp only [hk, List.getElem_map]
  have hcl : clampK c ≤ 256 := by unfold clampK; repeat (first | omega | split)
  have hsp := kids_split f (clampK c) hcl
  have hlow : ∀ p ∈ lowK f (clampK c), p.1 < clampK c := fun p hp => by
    have := (mem_kidsIn.1 hp).1
    simpa using this
  have hhigh : ∀ p ∈ highK f (clampK c), clampK c ≤ p.1 := fun p hp => (mem_drop_range (mem_kidsIn.1 hp).1).1
  have hcc : ∀ n : Nat, n < 256 → (clampK c ≤ n ↔ c ≤ (n : Int)) := fun n hn => by
    unfold clampK
    constructor <;> intro h9 <;> (repeat (first | omega | split at h9 | split))
  have hlen : (lowK f (clampK c)).length = k := by
    have hle : (lowK f (clampK c)).length ≤ (kidsOf f).length := by rw [hsp, List.length_append]; omega
    rcases Nat.lt_trichotomy (lowK f (clampK c)).length k with hlt | heq | hgt
    · have hj : (lowK f (clampK c)).length < (kidsOf f).length := by omega
      have hjb : (lowK f (clampK c)).length < x.bytes.length := by omega
      have h3 := hl _ hjb hlt
      have h4 : (kidsOf f)[(lowK f (clampK c)).length] ∈ highK f (clampK c) := by
        have : (kidsOf f)[(lowK f (clampK c)).length] = (lowK f (clampK c) ++ highK f (clampK c))[(lowK f (clampK c)).length]'(by rw [← hsp]; exact hj) := by simp only [← hsp]
        rw [this, List.getElem_append_right (Nat.le_refl _)]
        exact List.getElem_mem _
      have h5 := hhigh _ h4
      rw [← g1 _ hjb hj] at h5
      have := (hcc _ (hx.bytes _ (List.getElem_mem hjb))).1 h5
      omega
    · exact heq
    · have h4 : (kidsOf f)[k] ∈ lowK f (clampK c) := by
        have : (kidsOf f)[k] = (lowK f (clampK c) ++ highK f (clampK c))[k]'(by rw [← hsp]; exact hi) := by simp only [← hsp]
        rw [this, List.getElem_append_left hgt]
        exact List.getElem_mem _
      have h5 := hlow _ h4
      rw [← g1 _ h1 hi] at h5
      have := (hcc _ hb256).2 e
      omega
  have hhd : highK f (clampK c) = (kidsOf f).drop k := by rw [hsp, ← hlen, List.drop_left]
  rw [hhd, List.drop_eq_getElem_cons hi]
  dsimp only
  rw [← g1 _ h1 hi, ← g2]
theorem next_miss {x : Nd} (hx : x.wf) {c : Int} (hl : ∀ j, (h : j < x.bytes.length) → (x.bytes[j] : Int) < c) : nextN x c = (0, ((0, 0), false)) := by
  unfold nextN
  split
  · rename_i h
    obtain ⟨f, hf, he, hr, hrow, hb, hk⟩ := may_norm hx h
    rw [hrow]
    unfold nextK
    have hno : highK f (clampK c) = [] := by
      cases hh : highK f (clampK c) with
      | nil => rfl
      | cons p l =>
        have hp : p ∈ highK f (clampK c) := by rw [hh]; simp
        have h1 := mem_kidsIn.1 hp
        have h2 := mem_drop_range h1.1
        have hm : p ∈ kidsOf f := mem_kidsIn.2 ⟨by simp; omega, h1.2⟩
        obtain ⟨i, hi, hie⟩ := List.getElem_of_mem hm
        have hib : i < x.bytes.length := by rw [hb]; simpa using hi
        have g1 : x.bytes[i] = ((kidsOf f)[i]).1 := by simp only [hb, List.getElem_map]
        have h3 := hl i hib
        rw [g1, hie] at h3
        have h4 : clampK c ≤ p.1 := h2.1
        have h5 : p.1 < 256 := h2.2
        unfold clampK at h4
        repeat (first | omega | split at h4)
    rw [hno]
  · rfl
end Go.Proofs.YtgjgcbemgmkncaaGreatDoor
namespace Go.Proofs.YtgjgcbemgmkncaaGreatDoor
open Go.RowKit Go.Shelf
set_option linter.unusedVariables false
set_option linter.unusedSimpArgs false

set_option maxHeartbeats 1600000 in
theorem Room_r (k : Int) (w : World) : Calls Tryz.prog 12 #[.int .i64 k] w (IntEnd (roomN k) w) := by
  by_cases h1 : k < 2
  · have e : roomN k = 0 := by
      unfold roomN
      repeat (first | rfl | (rw [if_neg (by omega)]))
    rw [e]
    clear e
    go_enter Tryz.func12, Tryz.ntmps12
    go_wp2
    go_ret
    exact ⟨rfl, Below.refl _ _⟩
  · by_cases h2 : k > 5
    · have e : roomN k = 0 := by
        unfold roomN
        repeat (first | rfl | (rw [if_neg (by omega)]))
      rw [e]
      clear e
      go_enter Tryz.func12, Tryz.ntmps12
      go_wp2
      go_ret
      exact ⟨rfl, Below.refl _ _⟩
    · obtain rfl | rfl | rfl | rfl : k = 2 ∨ k = 3 ∨ k = 4 ∨ k = 5 := by omega
      all_goals
        clear h1 h2
        go_enter Tryz.func12, Tryz.ntmps12
        go_wp2
        go_ret
        exact ⟨rfl, below_box _ _⟩
theorem kid_r (r : Int × Int) (w : World) : Calls Tryz.prog 52 #[refV r] w (BoolEnd (kidN r) w) := by
  obtain ⟨s, g⟩ := r
  have E : Hid (kidN (s, g) = (decide (0 ≤ s) && decide (s < 4096) && decide (1 ≤ g))) := Lib.hid rfl
  by_cases h1 : 0 ≤ s
  · by_cases h2 : s < 4096
    · have e : Hid (kidN (s, g) = decide (1 ≤ g)) := Lib.hid (by rw [E.out]; simp [h1, h2])
      go_enter Tryz.func52, Tryz.ntmps52
      go_wp2
      go_ret
      exact ⟨ret_bool (by rw [e.out]), below_box _ _⟩
    · have e : Hid (kidN (s, g) = false) := Lib.hid (by rw [E.out]; simp [h2])
      go_enter Tryz.func52, Tryz.ntmps52
      go_wp2
      go_ret
      exact ⟨ret_bool (by rw [e.out]), below_box _ _⟩
  · have e : Hid (kidN (s, g) = false) := Lib.hid (by rw [E.out]; simp [h1])
    go_enter Tryz.func52, Tryz.ntmps52
    go_wp2
    go_ret
    exact ⟨ret_bool (by rw [e.out]), below_box _ _⟩
theorem of_room {c k : Int} (h2 : 2 ≤ k) (h6 : k < 6) (h0 : 0 ≤ c) (hc : c ≤ roomN k) (hl : ∀ j, 2 ≤ j → j < k → roomN j < c) : ofN c = (k, true) := by
  obtain rfl | rfl | rfl | rfl : k = 2 ∨ k = 3 ∨ k = 4 ∨ k = 5 := by omega
  · have : roomN 2 = 4 := rfl
    unfold ofN
    rw [if_neg (by omega), if_pos (by omega)]
  · have : roomN 3 = 16 := rfl
    have a2 : roomN 2 = 4 := rfl
    have := hl 2 (by omega) (by omega)
    unfold ofN
    rw [if_neg (by omega), if_neg (by omega), if_pos (by omega)]
  · have : roomN 4 = 48 := rfl
    have a3 : roomN 3 = 16 := rfl
    have := hl 3 (by omega) (by omega)
    unfold ofN
    rw [if_neg (by omega), if_neg (by omega), if_neg (by omega), if_pos (by omega)]
  · have : roomN 5 = 256 := rfl
    have a3 : roomN 4 = 48 := rfl
    have := hl 4 (by omega) (by omega)
    unfold ofN
    rw [if_neg (by omega), if_neg (by omega), if_neg (by omega), if_neg (by omega), if_pos (by omega)]
theorem of_none {c : Int} (h : c < 0 ∨ ∀ j, 2 ≤ j → j < 6 → roomN j < c) : ofN c = (0, false) := by
  unfold ofN
  rcases h with h | h
  · rw [if_pos h]
  · have h5 := h 5 (by omega) (by omega)
    have a5 : roomN 5 = 256 := rfl
    rw [if_neg (by omega), if_neg (by omega), if_neg (by omega), if_neg (by omega), if_neg (by omega)]
set_option maxHeartbeats 1600000 in
theorem Of_r (c : Int) (w : World) : Calls Tryz.prog 8 #[.int .i64 c] w (TwoEnd (.int .i64 (ofN c).1) (.bool (ofN c).2) w) := by
  go_enter Tryz.func8, Tryz.ntmps8
  go_wp2_with fail
  go_loopw [4] (fun v wr => ∃ k : Int, 2 ≤ k ∧ k ≤ 6 ∧ v = .int .i64 k ∧ Hid (Below w.heap.size w wr ∧ (k = 2 ∨ 0 ≤ c) ∧ ∀ j, 2 ≤ j → j < k → roomN j < c)) (fun v _ => (6 - intOf v).toNat)
  case atStart => exact ⟨2, by omega, by omega, rfl, Lib.hid ⟨Below.refl _ _, .inl rfl, fun j h1 h2 => by omega⟩⟩
  case round =>
    obtain ⟨k, h2, h6, rfl, HW⟩ := hrel
    by_cases hk : k < 6
    · by_cases h0 : 0 ≤ c
      · by_cases hc : c ≤ roomN k
        · have E := Lib.hid (of_room h2 hk h0 hc HW.out.2.2)
          go_wp2_with fail
          refine (Room_r k _).mono ?_
          rintro e w1 ⟨rfl, hb⟩
          have HB := Lib.hid (HW.out.1.trans (hb.mono HW.out.1.size))
          clear hb
          go_wp2
          go_ret2
          exact ⟨by rw [E.out]; rfl, HB.out⟩
        · have hlt : roomN k < c := by omega
          go_wp2_with fail
          refine (Room_r k _).mono ?_
          rintro e w1 ⟨rfl, hb⟩
          have HB : Hid (Below w.heap.size w w1 ∧ (k + 1 = 2 ∨ 0 ≤ c) ∧ ∀ j, 2 ≤ j → j < k + 1 → roomN j < c) := Lib.hid ⟨HW.out.1.trans (hb.mono HW.out.1.size), .inr h0, fun j h1 h2 => by
            by_cases hj : j = k
            · subst hj; exact hlt
            · exact HW.out.2.2 j h1 (by omega)⟩
          clear hb HW
          go_wp2
          go_roundw
          case rel => exact ⟨k + 1, by omega, by omega, by go_num, HB⟩
          case measure => simp [intOf]; omega
      · have hk2 : k = 2 := HW.out.2.1.resolve_right h0
        subst hk2
        have E := Lib.hid (of_none (c := c) (.inl (by omega)))
        go_wp2
        go_ret2
        exact ⟨by rw [E.out]; rfl, HW.out.1⟩
    · obtain rfl : k = 6 := by omega
      have E := Lib.hid (of_none (c := c) (.inr HW.out.2.2))
      go_wp2
      go_ret2
      exact ⟨by rw [E.out]; rfl, HW.out.1⟩
end Go.Proofs.YtgjgcbemgmkncaaGreatDoor
namespace Go.Proofs.YtgjgcbemgmkncaaGreatDoor
open Go.RowKit Go.Shelf
set_option linter.unusedVariables false
set_option linter.unusedSimpArgs false

/-- So far the bytes rise and the Refs are kids. -/
def OkTo (x : Nd) (k : Nat) : Prop := (∀ m, (h : m + 1 < x.bytes.length) → m + 1 < k → x.bytes[m] < x.bytes[m + 1]) ∧ ∀ m, (h : m < x.kids.length) → m < k → kidN x.kids[m] = true
theorem OkTo.zero (x : Nd) : OkTo x 0 := ⟨fun m _ h => by omega, fun m _ h => by omega⟩
theorem OkTo.step {x : Nd} {k : Nat} (h : OkTo x k) (hb : k < x.bytes.length) (hk : k < x.kids.length) (h1 : k = 0 ∨ ∃ m, ∃ h0 : m + 1 < x.bytes.length, k = m + 1 ∧ x.bytes[m] < x.bytes[m + 1]) (h2 : kidN x.kids[k] = true) : OkTo x (k + 1) := by
  refine ⟨fun m hm hlt => ?_, fun m hm hlt => ?_⟩
  · by_cases e : m + 1 = k
    · rcases h1 with h1 | ⟨q, h0, e2, h3⟩
      · omega
      · obtain rfl : q = m := by omega
        exact h3
    · exact h.1 m hm (by omega)
  · by_cases e : m = k
    · subst e; exact h2
    · exact h.2 m hm (by omega)
theorem OkTo.inner {x : Nd} (h : OkTo x x.bytes.length) (h1 : ¬ (roomN x.kind = 0)) (h0 : 0 ≤ roomN x.kind) (hc : x.code.toList.isEmpty = true) (hv : x.value.toList.isEmpty = true) (hp : (x.path.size : Int) ≤ 34) (hl : x.bytes.length = x.kids.length) (hk : x.kids.length ≤ 256) : x.isInner = true := by
  have h3 : x.innerN = true := by unfold Nd.innerN; simp; omega
  have h4 : x.bareN = true := by unfold Nd.bareN; simp only [hc, hv, Bool.true_and]; simpa using hp
  have h5 : x.pairedN = true := by unfold Nd.pairedN; simp [hl, hk]
  have h6 : x.risingN = true := (rising_iff _).2 fun m hm => h.1 m hm hm
  have h7 : x.refsN = true := by
    unfold Nd.refsN
    rw [List.all_eq_true]
    intro r hr
    obtain ⟨i, hi, rfl⟩ := List.getElem_of_mem hr
    exact h.2 i hi (by omega)
  unfold Nd.isInner
  rw [h3, h4, h5, h6, h7]; rfl
theorem inner_falling {x : Nd} {m : Nat} (h : m + 1 < x.bytes.length) (hle : x.bytes[m + 1] ≤ x.bytes[m]) : x.isInner = false := by
  have : x.risingN = false := rising_no h hle
  unfold Nd.isInner
  rw [this, Bool.and_false, Bool.false_and]
theorem inner_nokid {x : Nd} {m : Nat} (h : m < x.kids.length) (hk : kidN x.kids[m] = false) : x.isInner = false := by
  have : x.refsN = false := by
    cases he : x.refsN with
    | false => rfl
    | true =>
      have := List.all_eq_true.1 he _ (List.getElem_mem h)
      rw [hk] at this; cases this
  unfold Nd.isInner
  rw [this, Bool.and_false]
theorem room_nonneg (k : Int) : 0 ≤ roomN k := by
  unfold roomN
  repeat (first | omega | split)
set_option maxHeartbeats 12800000 in
set_option maxRecDepth 100000 in
theorem inner_r (x : Nd) (V : Value) (w : World) (h : NdAt w x V) : Calls Tryz.prog 48 #[V] w (BoolEnd x.isInner w) := by
  obtain ⟨hwf, Ab, cb, Ak, ck, rfl, hb0, hk0⟩ := h
  unfold Nd.v
  have b1 := below_box w (.cells #[.int .i64 x.kind, .string x.code, .string x.value, .string x.path, .slice Ab x.bytes.length cb, .slice Ak x.kids.length ck] 26)
  have q1 := Blk.new w 26 #[.int .i64 x.kind, .string x.code, .string x.value, .string x.path, .slice Ab x.bytes.length cb, .slice Ak x.kids.length ck]
  have H0 := Lib.hid (And.intro b1 (And.intro q1 (And.intro hb0 (And.intro hk0 hwf))))
  clear b1 q1 hb0 hk0 hwf
  go_enter Tryz.func48, Tryz.ntmps48
  refine wp_seq_k fun K2 hK => ?_
  have HK2 := Lib.hid hK
  clear hK
  go_wp2_with fail
  refine HK2.out _ _ ?_
  clear HK2
  refine wp_seq_k fun K0 hK => ?_
  have HK0 := Lib.hid hK
  clear hK
  go_wp2_with fail
  refine (Room_r x.kind _).mono ?_
  rintro e w1 ⟨rfl, hb⟩
  have HB : Hid (Below w.heap.size w w1 ∧ Blk w1 w.heap.size 26 #[.int .i64 x.kind, .string x.code, .string x.value, .string x.path, .slice Ab x.bytes.length cb, .slice Ak x.kids.length ck]) := Lib.hid ⟨H0.out.1.trans (hb.mono H0.out.1.size), H0.out.2.1.below hb (by simp)⟩
  obtain ⟨e0, e1, e2, e3, e4, e5⟩ := cells6 HB.out.2
  have HR := Lib.hid H0.out.2.2
  clear hb H0
  by_cases h1 : roomN x.kind = 0
  · have E : Hid (x.isInner = false) := Lib.hid (by unfold Nd.isInner Nd.innerN; simp [h1])
    go_wp2
    go_ret
    exact ⟨ret_bool (by rw [E.out]), HB.out.1⟩
  cases hc : x.code.toList.isEmpty with
  | false =>
    have E : Hid (x.isInner = false) := Lib.hid (by unfold Nd.isInner Nd.bareN; simp [hc])
    go_wp2
    go_ret
    exact ⟨ret_bool (by rw [E.out]), HB.out.1⟩
  | true =>
  cases hv : x.value.toList.isEmpty with
  | false =>
    have E : Hid (x.isInner = false) := Lib.hid (by unfold Nd.isInner Nd.bareN; simp [hv])
    go_wp2
    go_ret
    exact ⟨ret_bool (by rw [E.out]), HB.out.1⟩
  | true =>
  by_cases hp : (x.path.size : Int) > 34
  · have E : Hid (x.isInner = false) := Lib.hid (by unfold Nd.isInner Nd.bareN; simp; omega)
    go_wp2
    go_ret
    exact ⟨ret_bool (by rw [E.out]), HB.out.1⟩
  by_cases hl : ¬ ((x.bytes.length : Int) = (x.kids.length : Int))
  · have E : Hid (x.isInner = false) := Lib.hid (by unfold Nd.isInner Nd.pairedN; simp; omega)
    have hl2 : ((x.bytes.length : Int) != (x.kids.length : Int)) = true := by simp; omega
    go_wp2
    go_ret
    exact ⟨ret_bool (by rw [E.out]), HB.out.1⟩
  by_cases hk : (x.kids.length : Int) > 256
  · have E : Hid (x.isInner = false) := Lib.hid (by unfold Nd.isInner Nd.pairedN; simp; omega)
    have hl2 : ((x.bytes.length : Int) != (x.kids.length : Int)) = false := by simp; omega
    go_wp2
    go_ret
    exact ⟨ret_bool (by rw [E.out]), HB.out.1⟩
  have hl2 : ((x.bytes.length : Int) != (x.kids.length : Int)) = false := by simp; omega
  have h1b : (roomN x.kind == 0) = false := by simp [h1]
  have hp2 : decide (34 < (x.path.size : Int)) = false := by simp; omega
  have hk2 : decide (256 < (x.kids.length : Int)) = false := by simp; omega
  have HE := Lib.hid (fun h => OkTo.inner (x := x) h h1 (room_nonneg _) hc hv (by omega) (by omega) (by omega))
  have HL : Hid (x.bytes.length = x.kids.length ∧ x.kids.length ≤ 256) := Lib.hid ⟨by omega, by omega⟩
  go_wp2_with fail
  refine HK0.out _ _ ?_
  clear HK0 hc hv hp hl hk hl2 h1 h1b hp2 hk2 e0 e1 e2 e3 e4 e5
  have H1 : Hid (Below w.heap.size w w1 ∧ Blk w1 w.heap.size 26 #[.int .i64 x.kind, .string x.code, .string x.value, .string x.path, .slice Ab x.bytes.length cb, .slice Ak x.kids.length ck] ∧ OkTo x 0) := Lib.hid ⟨HB.out.1, HB.out.2, OkTo.zero x⟩
  clear HB
  refine wp_seq_k fun K1 hK => ?_
  have HK1 := Lib.hid hK
  clear hK
  go_wp2_with fail
  go_loopw [3] (fun i wr => ∃ k : Nat, k ≤ x.bytes.length ∧ i = .int .i64 k ∧ Hid (Below w.heap.size w wr ∧ Blk wr w.heap.size 26 #[.int .i64 x.kind, .string x.code, .string x.value, .string x.path, .slice Ab x.bytes.length cb, .slice Ak x.kids.length ck] ∧ OkTo x k)) (fun i _ => x.bytes.length - (intOf i).toNat)
  case atStart => exact ⟨0, Nat.zero_le _, rfl, H1⟩
  case round =>
    clear H1
    obtain ⟨k, hk, rfl, HW⟩ := hrel
    obtain ⟨e0, e1, e2, e3, e4, e5⟩ := cells6 HW.out.2.1
    by_cases hlt : k < x.bytes.length
    · have hltk : k < x.kids.length := by have := HL.out.1; omega
      have hsz : x.bytes.length ≤ 256 := by have := HL.out; omega
      obtain ⟨ad, rfl, hab, hby⟩ := byte_at (HR.out.1.below HW.out.1) hlt
      obtain ⟨kd, rfl, hkb, c0, c0a, c0b, c0c, c0d⟩ := ref_at2 (HR.out.2.1.below HW.out.1) hltk
      have j1 : (0 : Int) ≤ (k : Int) := by omega
      have j2 : (k : Int) < (x.bytes.length : Int) := by omega
      have j3 : (k : Int) < (x.kids.length : Int) := by omega
      have HST := Lib.hid (HW.out.2.2.step hlt hltk)
      have HNK := Lib.hid (inner_nokid (x := x) hltk)
      have hblk : w.heap.size < wr.heap.size := HW.out.2.1.lt
      have HLT : Hid (w.heap.size < wr.heap.size ∧ ad.block < wr.heap.size ∧ kd.block < wr.heap.size) := Lib.hid ⟨hblk, by omega, by omega⟩
      clear hblk
      generalize hq : x.kids[k] = q at c0 c0a c0b c0c c0d HST HNK
      clear hq c0a c0b c0c
      obtain ⟨q1, q2⟩ := q
      dsimp only at c0 c0d
      by_cases hk0 : k = 0
      · have HS2 := Lib.hid (fun h => HST.out (.inl hk0) h)
        have g1 : ¬ ((k : Int) > 0) := by omega
        have g2 : ¬ (0 < k) := by omega
        clear HST hk0
        have HSS : Hid (∀ V : World, Below wr.heap.size wr V → (fun V : World => V.cell? ⟨w.heap.size, 4, none⟩ = some (.slice (some ad) x.bytes.length cb) ∧ V.cell? ⟨w.heap.size, 5, none⟩ = some (.slice (some kd) x.kids.length ck) ∧ V.cell? (kd.add (k * 2)) = some (.int .i64 q1) ∧ V.cell? ⟨(kd.add (k * 2)).block, (kd.add (k * 2)).off + 1, none⟩ = some (.int .u32 q2)) V) := Lib.hid (fun V HV => ⟨(HV.cell (p := ⟨w.heap.size, 4, none⟩) HLT.out.1).trans e4, (HV.cell (p := ⟨w.heap.size, 5, none⟩) HLT.out.1).trans e5, (HV.cell (p := kd.add (k * 2)) (by rw [block_of_add]; exact HLT.out.2.2)).trans c0, (HV.cell (p := ⟨(kd.add (k * 2)).block, (kd.add (k * 2)).off + 1, none⟩) (by rw [block_of_add]; exact HLT.out.2.2)).trans c0d⟩)
        have HB0 : Hid (Below wr.heap.size wr wr.drew) := Lib.hid (Below.refl _ _).drew
        go_wp2_with fail
        refine wp_region_held_drew (S := (fun V : World => V.cell? ⟨w.heap.size, 4, none⟩ = some (.slice (some ad) x.bytes.length cb) ∧ V.cell? ⟨w.heap.size, 5, none⟩ = some (.slice (some kd) x.kids.length ck) ∧ V.cell? (kd.add (k * 2)) = some (.int .i64 q1) ∧ V.cell? ⟨(kd.add (k * 2)).block, (kd.add (k * 2)).off + 1, none⟩ = some (.int .u32 q2))) (by kernel_rfl) ?_ (fun hHeld0 => ?_)
        · exact HSS.out _ HB0.out
        refine wpAnyH_take (i := 0) (v := ?_) rfl (by kernel_rfl) (by kernel_rfl) (by kernel_rfl) (fun _ _ _ h => h) (Or.inl ⟨by rfl, ?_⟩) hHeld0 ?_
        rotate_left
        · (intro w hSw; (try dsimp only at hSw); go_simp <;> with_reducible rfl)
        try simp only [Act.put, List.setIfInBounds_toArray, List.set_cons_zero, List.set_cons_succ]
        refine wpAnyH_take (i := 1) (v := ?_) rfl (by kernel_rfl) (by kernel_rfl) (by kernel_rfl) (fun _ _ _ h => h) (Or.inl ⟨by rfl, ?_⟩) hHeld0 ?_
        rotate_left
        · (intro w hSw; (try dsimp only at hSw); go_simp <;> with_reducible rfl)
        try simp only [Act.put, List.setIfInBounds_toArray, List.set_cons_zero, List.set_cons_succ]
        refine wpAnyH_take (i := 2) (v := ?_) rfl (by kernel_rfl) (by kernel_rfl) (by kernel_rfl) (fun _ _ _ h => h) (Or.inl ⟨by rfl, ?_⟩) hHeld0 ?_
        rotate_left
        · (intro w hSw; (try dsimp only at hSw); go_simp <;> with_reducible rfl)
        try simp only [Act.put, List.setIfInBounds_toArray, List.set_cons_zero, List.set_cons_succ]
        refine wpAnyH_take (i := 3) (v := undef) rfl (by kernel_rfl) (by kernel_rfl) (by kernel_rfl) (fun _ _ _ h => h) (Or.inr ⟨by kernel_rfl, rfl⟩) hHeld0 ?_
        try simp only [Act.put, List.setIfInBounds_toArray, List.set_cons_zero, List.set_cons_succ]
        refine wpAnyH_take (i := 4) (v := undef) rfl (by kernel_rfl) (by kernel_rfl) (by kernel_rfl) (fun _ _ _ h => h) (Or.inr ⟨by kernel_rfl, rfl⟩) hHeld0 ?_
        try simp only [Act.put, List.setIfInBounds_toArray, List.set_cons_zero, List.set_cons_succ]
        refine wpAnyH_take (i := 5) (v := undef) rfl (by kernel_rfl) (by kernel_rfl) (by kernel_rfl) (fun _ _ _ h => h) (Or.inr ⟨by kernel_rfl, rfl⟩) hHeld0 ?_
        try simp only [Act.put, List.setIfInBounds_toArray, List.set_cons_zero, List.set_cons_succ]
        refine wpAnyH_take (i := 6) (v := undef) rfl (by kernel_rfl) (by kernel_rfl) (by kernel_rfl) (fun _ _ _ h => h) (Or.inr ⟨by kernel_rfl, rfl⟩) hHeld0 ?_
        try simp only [Act.put, List.setIfInBounds_toArray, List.set_cons_zero, List.set_cons_succ]
        refine wpAnyH_take (i := 7) (v := undef) rfl (by kernel_rfl) (by kernel_rfl) (by kernel_rfl) (fun _ _ _ h => h) (Or.inr ⟨by kernel_rfl, rfl⟩) hHeld0 ?_
        try simp only [Act.put, List.setIfInBounds_toArray, List.set_cons_zero, List.set_cons_succ]
        refine wpAnyH_take (i := 8) (v := undef) rfl (by kernel_rfl) (by kernel_rfl) (by kernel_rfl) (fun _ _ _ h => h) (Or.inr ⟨by kernel_rfl, rfl⟩) hHeld0 ?_
        try simp only [Act.put, List.setIfInBounds_toArray, List.set_cons_zero, List.set_cons_succ]
        refine wpAnyH_take (i := 9) (v := undef) rfl (by kernel_rfl) (by kernel_rfl) (by kernel_rfl) (fun _ _ _ h => h) (Or.inr ⟨by kernel_rfl, rfl⟩) hHeld0 ?_
        try simp only [Act.put, List.setIfInBounds_toArray, List.set_cons_zero, List.set_cons_succ]
        refine wpAnyH_take (i := 10) (v := undef) rfl (by kernel_rfl) (by kernel_rfl) (by kernel_rfl) (fun _ _ _ h => h) (Or.inr ⟨by kernel_rfl, rfl⟩) hHeld0 ?_
        try simp only [Act.put, List.setIfInBounds_toArray, List.set_cons_zero, List.set_cons_succ]
        refine wpAnyH_take (i := 11) (v := undef) rfl (by kernel_rfl) (by kernel_rfl) (by kernel_rfl) (fun _ _ _ h => h) (Or.inr ⟨by kernel_rfl, rfl⟩) hHeld0 ?_
        try simp only [Act.put, List.setIfInBounds_toArray, List.set_cons_zero, List.set_cons_succ]
        refine wpAnyH_take (i := 12) (v := undef) rfl (by kernel_rfl) (by kernel_rfl) (by kernel_rfl) (fun _ _ _ h => h) (Or.inr ⟨by kernel_rfl, rfl⟩) hHeld0 ?_
        try simp only [Act.put, List.setIfInBounds_toArray, List.set_cons_zero, List.set_cons_succ]
        refine wpAnyH_take (i := 13) (v := undef) rfl (by kernel_rfl) (by kernel_rfl) (by kernel_rfl) (fun _ _ _ h => h) (Or.inr ⟨by kernel_rfl, rfl⟩) hHeld0 ?_
        try simp only [Act.put, List.setIfInBounds_toArray, List.set_cons_zero, List.set_cons_succ]
        refine wpAnyH_take (i := 14) (v := undef) rfl (by kernel_rfl) (by kernel_rfl) (by kernel_rfl) (fun _ _ _ h => h) (Or.inr ⟨by kernel_rfl, rfl⟩) hHeld0 ?_
        try simp only [Act.put, List.setIfInBounds_toArray, List.set_cons_zero, List.set_cons_succ]
        refine wpAnyH_take (i := 15) (v := ?_) rfl (by kernel_rfl) (by kernel_rfl) (by kernel_rfl) (fun _ _ _ h => h) (Or.inl ⟨by rfl, ?_⟩) hHeld0 ?_
        rotate_left
        · (intro w hSw; (try dsimp only at hSw); go_simp <;> with_reducible rfl)
        try simp only [Act.put, List.setIfInBounds_toArray, List.set_cons_zero, List.set_cons_succ]
        refine wpAnyH_take (i := 16) (v := ?_) rfl (by kernel_rfl) (by kernel_rfl) (by kernel_rfl) (fun _ _ _ h => h) (Or.inl ⟨by rfl, ?_⟩) hHeld0 ?_
        rotate_left
        · (intro w hSw; (try dsimp only at hSw); go_simp <;> with_reducible rfl)
        try simp only [Act.put, List.setIfInBounds_toArray, List.set_cons_zero, List.set_cons_succ]
        refine wpAnyH_take (i := 17) (v := ?_) rfl (by kernel_rfl) (by kernel_rfl) (by kernel_rfl) (fun _ _ _ h => h) (Or.inl ⟨by kernel_rfl, ?_⟩) hHeld0 ?_
        rotate_left
        · (intro w hSw; (try dsimp only at hSw); go_simp <;> with_reducible rfl)
        try simp only [Act.put, List.setIfInBounds_toArray, List.set_cons_zero, List.set_cons_succ]
        refine wpAnyH_take (i := 18) (v := ?_) rfl (by kernel_rfl) (by kernel_rfl) (by kernel_rfl) (fun _ _ _ h => h) (Or.inl ⟨by kernel_rfl, ?_⟩) hHeld0 ?_
        rotate_left
        · (intro w hSw; (try dsimp only at hSw); go_simp <;> with_reducible rfl)
        try simp only [Act.put, List.setIfInBounds_toArray, List.set_cons_zero, List.set_cons_succ]
        refine wpAnyH_take (i := 19) (v := ?_) rfl (by kernel_rfl) (by kernel_rfl) (by kernel_rfl) (fun _ _ _ h => h) (Or.inl ⟨by kernel_rfl, ?_⟩) hHeld0 ?_
        rotate_left
        · (intro w hSw; (try dsimp only at hSw); go_simp <;> with_reducible rfl)
        try simp only [Act.put, List.setIfInBounds_toArray, List.set_cons_zero, List.set_cons_succ]
        refine wpAnyH_take (i := 20) (v := ?_) rfl (by kernel_rfl) (by kernel_rfl) (by kernel_rfl) (fun _ _ _ h => h) (Or.inl ⟨by kernel_rfl, ?_⟩) hHeld0 ?_
        rotate_left
        · (intro w hSw; (try dsimp only at hSw); go_simp <;> with_reducible rfl)
        try simp only [Act.put, List.setIfInBounds_toArray, List.set_cons_zero, List.set_cons_succ]
        refine wpAnyH_take (i := 21) (v := ?_) rfl (by kernel_rfl) (by kernel_rfl) (by kernel_rfl) (fun _ _ _ h => h) (Or.inl ⟨by kernel_rfl, ?_⟩) hHeld0 ?_
        rotate_left
        · (intro w hSw; (try dsimp only at hSw); go_simp <;> with_reducible rfl)
        try simp only [Act.put, List.setIfInBounds_toArray, List.set_cons_zero, List.set_cons_succ]
        refine wpAnyH_ready (rs := [22]) (by kernel_rfl) (by simp) ?_
        refine AllReadyH.cons rfl (fun K hK => ?_) ?_
        · go_simp
          refine (kid_r (q1, q2) _).mono ?_
          rintro e wa ⟨rfl, hb⟩
          have HB1 := Lib.hid (HB0.out.trans (hb.mono HB0.out.size))
          clear hb
          refine hK.out _ _ ?_ (fun hHeld1 => ?_)
          · exact HSS.out _ HB1.out
          clear hK K hHeld0
          try simp only [Act.put, List.setIfInBounds_toArray, List.set_cons_zero, List.set_cons_succ]
          refine wpAnyH_take (i := 23) (v := ?_) rfl (by kernel_rfl) (by kernel_rfl) (by kernel_rfl) (fun _ _ _ h => h) (Or.inl ⟨by kernel_rfl, ?_⟩) hHeld1 ?_
          rotate_left
          · (intro w hSw; (try dsimp only at hSw); go_simp <;> with_reducible rfl)
          try simp only [Act.put, List.setIfInBounds_toArray, List.set_cons_zero, List.set_cons_succ]
          refine wpAnyH_take (i := 24) (v := ?_) rfl (by kernel_rfl) (by kernel_rfl) (by kernel_rfl) (fun _ _ _ h => h) (Or.inl ⟨by rfl, ?_⟩) hHeld1 ?_
          rotate_left
          · (intro w hSw; (try dsimp only at hSw); go_simp <;> with_reducible rfl)
          try simp only [Act.put, List.setIfInBounds_toArray, List.set_cons_zero, List.set_cons_succ]
          try simp only [Act.put, List.getElem_toArray, List.getElem_cons_succ, List.getElem_cons_zero, List.setIfInBounds_toArray, List.set_cons_zero, List.set_cons_succ]
          refine wpAnyH_done (by kernel_rfl) ?_ _
          refine (‹∀ (a : Act) (w : World), Code.wp Tryz.prog _ _ a w → _› _ _ ?_)
          cases hkq : kidN (q1, q2) with
          | false =>
            have E := Lib.hid (HNK.out hkq)
            clear hkq
            go_wp2
            go_ret
            exact ⟨ret_bool (by rw [E.out]), HW.out.1.trans (HB1.out.mono HW.out.1.size)⟩
          | true =>
            have HN := Lib.hid (And.intro (HW.out.1.trans (HB1.out.mono HW.out.1.size)) (And.intro (HW.out.2.1.below HB1.out HW.out.2.1.lt) (HS2.out hkq)))
            clear hkq
            go_wp2
            go_roundw
            case rel => exact ⟨k + 1, by omega, by go_num, HN⟩
            case measure => simp [intOf]; omega
        exact AllReadyH.nil
      · obtain ⟨m, hm⟩ : ∃ m, k = m + 1 := ⟨k - 1, by omega⟩
        have hm1 : m + 1 < x.bytes.length := by omega
        obtain ⟨ad2, he, hab2, hby2⟩ := byte_at (HR.out.1.below HW.out.1) (show m < x.bytes.length by omega)
        obtain rfl : ad = ad2 := by injection he
        clear he hab2
        have sw : IntKind.i64.wrap ((k : Int) - 1) = (m : Int) := by rw [IntWalk.i64_in _ (by omega)]; omega
        have i1 : (0 : Int) ≤ (m : Int) := by omega
        have i2 : (m : Int) < (x.bytes.length : Int) := by omega
        have g1 : (k : Int) > 0 := by omega
        have g2 : 0 < k := by omega
        by_cases hle : x.bytes[k] ≤ x.bytes[m]
        · have E : Hid (x.isInner = false) := Lib.hid (inner_falling hm1 (by subst hm; exact hle))
          have hle2 : (x.bytes[k] : Int) ≤ (x.bytes[m] : Int) := by omega
          generalize x.bytes[k] = p1 at hby hle2
          generalize x.bytes[m] = p2 at hby2 hle2
          have hn1 : p1 ≤ p2 := by omega
          have hn2 : ¬ (p2 < p1) := by omega
          clear hle HST HNK c0 c0d hm
          go_wp2_with fail
          go_quiet (fail)
          go_wp2
          go_ret
          exact ⟨ret_bool (by rw [E.out]), below_drewN HW.out.1 _⟩
        · have hle2 : ¬ ((x.bytes[k] : Int) ≤ (x.bytes[m] : Int)) := by omega
          have HS2 := Lib.hid (fun h => HST.out (.inr ⟨m, hm1, hm, by subst hm; omega⟩) h)
          generalize x.bytes[k] = p1 at hby hle2
          generalize x.bytes[m] = p2 at hby2 hle2
          have hn1 : p2 < p1 := by omega
          have hn2 : ¬ (p1 ≤ p2) := by omega
          clear hle HST hm
          have HSS : Hid (∀ V : World, Below wr.heap.size wr V → (fun V : World => V.cell? ⟨w.heap.size, 4, none⟩ = some (.slice (some ad) x.bytes.length cb) ∧ V.cell? ⟨w.heap.size, 5, none⟩ = some (.slice (some kd) x.kids.length ck) ∧ V.cell? (kd.add (k * 2)) = some (.int .i64 q1) ∧ V.cell? ⟨(kd.add (k * 2)).block, (kd.add (k * 2)).off + 1, none⟩ = some (.int .u32 q2) ∧ V.cell? (ad.add k) = some (.int .u8 (p1 : Int)) ∧ V.cell? (ad.add m) = some (.int .u8 (p2 : Int))) V) := Lib.hid (fun V HV => ⟨(HV.cell (p := ⟨w.heap.size, 4, none⟩) HLT.out.1).trans e4, (HV.cell (p := ⟨w.heap.size, 5, none⟩) HLT.out.1).trans e5, (HV.cell (p := kd.add (k * 2)) (by rw [block_of_add]; exact HLT.out.2.2)).trans c0, (HV.cell (p := ⟨(kd.add (k * 2)).block, (kd.add (k * 2)).off + 1, none⟩) (by rw [block_of_add]; exact HLT.out.2.2)).trans c0d, (HV.cell (p := ad.add k) (by rw [block_of_add]; exact HLT.out.2.1)).trans hby, (HV.cell (p := ad.add m) (by rw [block_of_add]; exact HLT.out.2.1)).trans hby2⟩)
          have HB0 : Hid (Below wr.heap.size wr wr.drew) := Lib.hid (Below.refl _ _).drew
          go_wp2_with fail
          refine wp_region_held_drew (S := (fun V : World => V.cell? ⟨w.heap.size, 4, none⟩ = some (.slice (some ad) x.bytes.length cb) ∧ V.cell? ⟨w.heap.size, 5, none⟩ = some (.slice (some kd) x.kids.length ck) ∧ V.cell? (kd.add (k * 2)) = some (.int .i64 q1) ∧ V.cell? ⟨(kd.add (k * 2)).block, (kd.add (k * 2)).off + 1, none⟩ = some (.int .u32 q2) ∧ V.cell? (ad.add k) = some (.int .u8 (p1 : Int)) ∧ V.cell? (ad.add m) = some (.int .u8 (p2 : Int)))) (by kernel_rfl) ?_ (fun hHeld0 => ?_)
          · exact HSS.out _ HB0.out
          refine wpAnyH_take (i := 0) (v := ?_) rfl (by kernel_rfl) (by kernel_rfl) (by kernel_rfl) (fun _ _ _ h => h) (Or.inl ⟨by rfl, ?_⟩) hHeld0 ?_
          rotate_left
          · (intro w hSw; (try dsimp only at hSw); go_simp <;> with_reducible rfl)
          try simp only [Act.put, List.setIfInBounds_toArray, List.set_cons_zero, List.set_cons_succ]
          refine wpAnyH_take (i := 1) (v := ?_) rfl (by kernel_rfl) (by kernel_rfl) (by kernel_rfl) (fun _ _ _ h => h) (Or.inl ⟨by rfl, ?_⟩) hHeld0 ?_
          rotate_left
          · (intro w hSw; (try dsimp only at hSw); go_simp <;> with_reducible rfl)
          try simp only [Act.put, List.setIfInBounds_toArray, List.set_cons_zero, List.set_cons_succ]
          refine wpAnyH_take (i := 2) (v := ?_) rfl (by kernel_rfl) (by kernel_rfl) (by kernel_rfl) (fun _ _ _ h => h) (Or.inl ⟨by rfl, ?_⟩) hHeld0 ?_
          rotate_left
          · (intro w hSw; (try dsimp only at hSw); go_simp <;> with_reducible rfl)
          try simp only [Act.put, List.setIfInBounds_toArray, List.set_cons_zero, List.set_cons_succ]
          refine wpAnyH_take (i := 3) (v := ?_) rfl (by kernel_rfl) (by kernel_rfl) (by kernel_rfl) (fun _ _ _ h => h) (Or.inl ⟨by kernel_rfl, ?_⟩) hHeld0 ?_
          rotate_left
          · (intro w hSw; (try dsimp only at hSw); go_simp <;> with_reducible rfl)
          try simp only [Act.put, List.setIfInBounds_toArray, List.set_cons_zero, List.set_cons_succ]
          refine wpAnyH_take (i := 4) (v := ?_) rfl (by kernel_rfl) (by kernel_rfl) (by kernel_rfl) (fun _ _ _ h => h) (Or.inl ⟨by kernel_rfl, ?_⟩) hHeld0 ?_
          rotate_left
          · (intro w hSw; (try dsimp only at hSw); go_simp <;> with_reducible rfl)
          try simp only [Act.put, List.setIfInBounds_toArray, List.set_cons_zero, List.set_cons_succ]
          refine wpAnyH_take (i := 5) (v := ?_) rfl (by kernel_rfl) (by kernel_rfl) (by kernel_rfl) (fun _ _ _ h => h) (Or.inl ⟨by kernel_rfl, ?_⟩) hHeld0 ?_
          rotate_left
          · (intro w hSw; (try dsimp only at hSw); go_simp <;> with_reducible rfl)
          try simp only [Act.put, List.setIfInBounds_toArray, List.set_cons_zero, List.set_cons_succ]
          refine wpAnyH_take (i := 6) (v := ?_) rfl (by kernel_rfl) (by kernel_rfl) (by kernel_rfl) (fun _ _ _ h => h) (Or.inl ⟨by kernel_rfl, ?_⟩) hHeld0 ?_
          rotate_left
          · (intro w hSw; (try dsimp only at hSw); go_simp <;> with_reducible rfl)
          try simp only [Act.put, List.setIfInBounds_toArray, List.set_cons_zero, List.set_cons_succ]
          refine wpAnyH_take (i := 7) (v := ?_) rfl (by kernel_rfl) (by kernel_rfl) (by kernel_rfl) (fun _ _ _ h => h) (Or.inl ⟨by kernel_rfl, ?_⟩) hHeld0 ?_
          rotate_left
          · (intro w hSw; (try dsimp only at hSw); go_simp <;> with_reducible rfl)
          try simp only [Act.put, List.setIfInBounds_toArray, List.set_cons_zero, List.set_cons_succ]
          refine wpAnyH_take (i := 8) (v := ?_) rfl (by kernel_rfl) (by kernel_rfl) (by kernel_rfl) (fun _ _ _ h => h) (Or.inl ⟨by kernel_rfl, ?_⟩) hHeld0 ?_
          rotate_left
          · (intro w hSw; (try dsimp only at hSw); go_simp <;> with_reducible rfl)
          try simp only [Act.put, List.setIfInBounds_toArray, List.set_cons_zero, List.set_cons_succ]
          refine wpAnyH_take (i := 9) (v := ?_) rfl (by kernel_rfl) (by kernel_rfl) (by kernel_rfl) (fun _ _ _ h => h) (Or.inl ⟨by kernel_rfl, ?_⟩) hHeld0 ?_
          rotate_left
          · (intro w hSw; (try dsimp only at hSw); go_simp <;> with_reducible rfl)
          try simp only [Act.put, List.setIfInBounds_toArray, List.set_cons_zero, List.set_cons_succ]
          refine wpAnyH_take (i := 10) (v := ?_) rfl (by kernel_rfl) (by kernel_rfl) (by kernel_rfl) (fun _ _ _ h => h) (Or.inl ⟨by kernel_rfl, ?_⟩) hHeld0 ?_
          rotate_left
          · (intro w hSw; (try dsimp only at hSw); go_simp <;> with_reducible rfl)
          try simp only [Act.put, List.setIfInBounds_toArray, List.set_cons_zero, List.set_cons_succ]
          refine wpAnyH_take (i := 11) (v := ?_) rfl (by kernel_rfl) (by kernel_rfl) (by kernel_rfl) (fun _ _ _ h => h) (Or.inl ⟨by kernel_rfl, ?_⟩) hHeld0 ?_
          rotate_left
          · (intro w hSw; (try dsimp only at hSw); go_simp <;> with_reducible rfl)
          try simp only [Act.put, List.setIfInBounds_toArray, List.set_cons_zero, List.set_cons_succ]
          refine wpAnyH_take (i := 12) (v := ?_) rfl (by kernel_rfl) (by kernel_rfl) (by kernel_rfl) (fun _ _ _ h => h) (Or.inl ⟨by kernel_rfl, ?_⟩) hHeld0 ?_
          rotate_left
          · (intro w hSw; (try dsimp only at hSw); go_simp <;> with_reducible rfl)
          try simp only [Act.put, List.setIfInBounds_toArray, List.set_cons_zero, List.set_cons_succ]
          refine wpAnyH_take (i := 13) (v := ?_) rfl (by kernel_rfl) (by kernel_rfl) (by kernel_rfl) (fun _ _ _ h => h) (Or.inl ⟨by kernel_rfl, ?_⟩) hHeld0 ?_
          rotate_left
          · (intro w hSw; (try dsimp only at hSw); go_simp <;> with_reducible rfl)
          try simp only [Act.put, List.setIfInBounds_toArray, List.set_cons_zero, List.set_cons_succ]
          refine wpAnyH_take (i := 14) (v := ?_) rfl (by kernel_rfl) (by kernel_rfl) (by kernel_rfl) (fun _ _ _ h => h) (Or.inl ⟨by kernel_rfl, ?_⟩) hHeld0 ?_
          rotate_left
          · (intro w hSw; (try dsimp only at hSw); go_simp <;> with_reducible rfl)
          try simp only [Act.put, List.setIfInBounds_toArray, List.set_cons_zero, List.set_cons_succ]
          refine wpAnyH_take (i := 15) (v := ?_) rfl (by kernel_rfl) (by kernel_rfl) (by kernel_rfl) (fun _ _ _ h => h) (Or.inl ⟨by rfl, ?_⟩) hHeld0 ?_
          rotate_left
          · (intro w hSw; (try dsimp only at hSw); go_simp <;> with_reducible rfl)
          try simp only [Act.put, List.setIfInBounds_toArray, List.set_cons_zero, List.set_cons_succ]
          refine wpAnyH_take (i := 16) (v := ?_) rfl (by kernel_rfl) (by kernel_rfl) (by kernel_rfl) (fun _ _ _ h => h) (Or.inl ⟨by rfl, ?_⟩) hHeld0 ?_
          rotate_left
          · (intro w hSw; (try dsimp only at hSw); go_simp <;> with_reducible rfl)
          try simp only [Act.put, List.setIfInBounds_toArray, List.set_cons_zero, List.set_cons_succ]
          refine wpAnyH_take (i := 17) (v := ?_) rfl (by kernel_rfl) (by kernel_rfl) (by kernel_rfl) (fun _ _ _ h => h) (Or.inl ⟨by kernel_rfl, ?_⟩) hHeld0 ?_
          rotate_left
          · (intro w hSw; (try dsimp only at hSw); go_simp <;> with_reducible rfl)
          try simp only [Act.put, List.setIfInBounds_toArray, List.set_cons_zero, List.set_cons_succ]
          refine wpAnyH_take (i := 18) (v := ?_) rfl (by kernel_rfl) (by kernel_rfl) (by kernel_rfl) (fun _ _ _ h => h) (Or.inl ⟨by kernel_rfl, ?_⟩) hHeld0 ?_
          rotate_left
          · (intro w hSw; (try dsimp only at hSw); go_simp <;> with_reducible rfl)
          try simp only [Act.put, List.setIfInBounds_toArray, List.set_cons_zero, List.set_cons_succ]
          refine wpAnyH_take (i := 19) (v := ?_) rfl (by kernel_rfl) (by kernel_rfl) (by kernel_rfl) (fun _ _ _ h => h) (Or.inl ⟨by kernel_rfl, ?_⟩) hHeld0 ?_
          rotate_left
          · (intro w hSw; (try dsimp only at hSw); go_simp <;> with_reducible rfl)
          try simp only [Act.put, List.setIfInBounds_toArray, List.set_cons_zero, List.set_cons_succ]
          refine wpAnyH_take (i := 20) (v := ?_) rfl (by kernel_rfl) (by kernel_rfl) (by kernel_rfl) (fun _ _ _ h => h) (Or.inl ⟨by kernel_rfl, ?_⟩) hHeld0 ?_
          rotate_left
          · (intro w hSw; (try dsimp only at hSw); go_simp <;> with_reducible rfl)
          try simp only [Act.put, List.setIfInBounds_toArray, List.set_cons_zero, List.set_cons_succ]
          refine wpAnyH_take (i := 21) (v := ?_) rfl (by kernel_rfl) (by kernel_rfl) (by kernel_rfl) (fun _ _ _ h => h) (Or.inl ⟨by kernel_rfl, ?_⟩) hHeld0 ?_
          rotate_left
          · (intro w hSw; (try dsimp only at hSw); go_simp <;> with_reducible rfl)
          try simp only [Act.put, List.setIfInBounds_toArray, List.set_cons_zero, List.set_cons_succ]
          refine wpAnyH_ready (rs := [22]) (by kernel_rfl) (by simp) ?_
          refine AllReadyH.cons rfl (fun K hK => ?_) ?_
          · go_simp
            refine (kid_r (q1, q2) _).mono ?_
            rintro e wa ⟨rfl, hb⟩
            have HB1 := Lib.hid (HB0.out.trans (hb.mono HB0.out.size))
            clear hb
            refine hK.out _ _ ?_ (fun hHeld1 => ?_)
            · exact HSS.out _ HB1.out
            clear hK K hHeld0
            try simp only [Act.put, List.setIfInBounds_toArray, List.set_cons_zero, List.set_cons_succ]
            refine wpAnyH_take (i := 23) (v := ?_) rfl (by kernel_rfl) (by kernel_rfl) (by kernel_rfl) (fun _ _ _ h => h) (Or.inl ⟨by kernel_rfl, ?_⟩) hHeld1 ?_
            rotate_left
            · (intro w hSw; (try dsimp only at hSw); go_simp <;> with_reducible rfl)
            try simp only [Act.put, List.setIfInBounds_toArray, List.set_cons_zero, List.set_cons_succ]
            refine wpAnyH_take (i := 24) (v := ?_) rfl (by kernel_rfl) (by kernel_rfl) (by kernel_rfl) (fun _ _ _ h => h) (Or.inl ⟨by rfl, ?_⟩) hHeld1 ?_
            rotate_left
            · (intro w hSw; (try dsimp only at hSw); go_simp <;> with_reducible rfl)
            try simp only [Act.put, List.setIfInBounds_toArray, List.set_cons_zero, List.set_cons_succ]
            try simp only [Act.put, List.getElem_toArray, List.getElem_cons_succ, List.getElem_cons_zero, List.setIfInBounds_toArray, List.set_cons_zero, List.set_cons_succ]
            refine wpAnyH_done (by kernel_rfl) ?_ _
            refine (‹∀ (a : Act) (w : World), Code.wp Tryz.prog _ _ a w → _› _ _ ?_)
            cases hkq : kidN (q1, q2) with
            | false =>
              have E := Lib.hid (HNK.out hkq)
              clear hkq
              go_wp2
              go_ret
              exact ⟨ret_bool (by rw [E.out]), HW.out.1.trans (HB1.out.mono HW.out.1.size)⟩
            | true =>
              have HN := Lib.hid (And.intro (HW.out.1.trans (HB1.out.mono HW.out.1.size)) (And.intro (HW.out.2.1.below HB1.out HW.out.2.1.lt) (HS2.out hkq)))
              clear hkq
              go_wp2
              go_roundw
              case rel => exact ⟨k + 1, by omega, by go_num, HN⟩
              case measure => simp [intOf]; omega
          exact AllReadyH.nil
    · obtain rfl : k = x.bytes.length := by omega
      have i1 : ¬ ((x.bytes.length : Int) < (x.bytes.length : Int)) := by omega
      have E := Lib.hid (HE.out HW.out.2.2)
      go_wp2_with fail
      refine HK1.out _ _ ?_
      clear HK1
      go_wp2
      go_ret
      exact ⟨ret_bool (by rw [E.out]), HW.out.1⟩
end Go.Proofs.YtgjgcbemgmkncaaGreatDoor
