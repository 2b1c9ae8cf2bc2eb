/-
  Layer 9: awake's drawn regions.
-/
import Derived.Test.YtgjgcbemgmkncaaDoorGg
namespace Go.Proofs.YtgjgcbemgmkncaaDoor
open Go.RowKit Go.Shelf
set_option linter.unusedVariables false
set_option linter.unusedSimpArgs false
set_option linter.unnecessarySimpa false

set_option maxHeartbeats 3200000 in
set_option maxRecDepth 100000 in
theorem awk2 {u0 u2 u3 u4 u5 u6 u7 u8 u9 u10 u11 u12 u13 u14 u15 u16 u17 u18 u19 u20 u21 u22 u23 u24 u25 u26 u27 u28 u29 u30 u31 u32 u33 u34 u35 u36 u37 u38 u39 u40 u41 u42 u43 u44 u45 u46 u47 u48 u49 u50 u51 u52 u53 u54 u55 u56 u57 u58 u59 u60 u61 u62 u63 u64 u65 u66 u67 u68 u69 u70 u71 u72 u73 u74 u75 u76 u77 u78 u79 u80 u81 u82 u83 u84 u85 u86 u87 u88 u89 u90 u91 u92 u93 u94 u95 u96 u97 u98 u99 u100 u101 u102 : Value} {ds : List Deferred} {Q : Exit → Act → World → Prop} (x y : Nd) (cd : Int) (Ab : Option Addr) (cb : Nat) (Ak : Option Addr) (ck : Nat) (g1 : Nat) (w0 : World) (hx : BoxAt w0 g1 x Ab cb Ak ck) (hr : RoomsAt w0)
    (hcall : ∀ W : World, NdAt W x (x.v Ab cb Ak ck) → RoomsAt W → Calls Tryd.prog 7 #[x.v Ab cb Ak ck, .int .u8 0, refV (9, 1), .bool false] W (NdPair y cd W))
    (hQ : ∀ (z12 z13 z14 z15 z16 z17 : Value) (gN : Nat) (Ab2 : Option Addr) (cb2 : Nat) (Ak2 : Option Addr) (ck2 : Nat) (V : World), Below w0.heap.size w0 V → BoxAt V gN y Ab2 cb2 Ak2 ck2 → w0.heap.size ≤ gN → (∀ r ∈ rowsOf (y.v Ab2 cb2 Ak2 ck2), w0.heap.size ≤ r ∧ r ≠ gN) → Q .normal ⟨#[u0, .pointer (some ⟨g1, 0, none⟩), .pointer (some ⟨gN, 0, none⟩), .int .i64 cd, u4, u5, u6, u7, u8, u9, u10, u11, z12, z13, z14, z15, z16, z17, u18, u19, u20, u21, u22, u23, u24, u25, u26, u27, u28, u29, u30, u31, u32, u33, u34, u35, u36, u37, u38, u39, u40, u41, u42, u43, u44, u45, u46, u47, u48, u49, u50, u51, u52, u53, u54, u55, u56, u57, u58, u59, u60, u61, u62, u63, u64, u65, u66, u67, u68, u69, u70, u71, u72, u73, u74, u75, u76, u77, u78, u79, u80, u81, u82, u83, u84, u85, u86, u87, u88, u89, u90, u91, u92, u93, u94, u95, u96, u97, u98, u99, u100, u101, u102], ds⟩ V) :
    Code.wp Tryd.prog (part Tryd.f5 [1, 1, 0]) Q ⟨#[u0, .pointer (some ⟨g1, 0, none⟩), u2, u3, u4, u5, u6, u7, u8, u9, u10, u11, u12, u13, u14, u15, u16, u17, u18, u19, u20, u21, u22, u23, u24, u25, u26, u27, u28, u29, u30, u31, u32, u33, u34, u35, u36, u37, u38, u39, u40, u41, u42, u43, u44, u45, u46, u47, u48, u49, u50, u51, u52, u53, u54, u55, u56, u57, u58, u59, u60, u61, u62, u63, u64, u65, u66, u67, u68, u69, u70, u71, u72, u73, u74, u75, u76, u77, u78, u79, u80, u81, u82, u83, u84, u85, u86, u87, u88, u89, u90, u91, u92, u93, u94, u95, u96, u97, u98, u99, u100, u101, u102], ds⟩ w0 := by
  conv => arg 2; whnf
  have HQ := Lib.hid hQ
  have HC := Lib.hid hcall
  have HX := Lib.hid (And.intro hx hr)
  have HS : Hid (∀ V : World, Below w0.heap.size w0 V → (fun V : World => (V.cell? ⟨g1, 0, none⟩ = some (.int .i64 x.kind) ∧ V.cell? ⟨g1, 1, none⟩ = some (.string x.code) ∧ V.cell? ⟨g1, 2, none⟩ = some (.string x.value) ∧ V.cell? ⟨g1, 3, none⟩ = some (.string x.path) ∧ V.cell? ⟨g1, 4, none⟩ = some (.slice Ab x.bytes.length cb) ∧ V.cell? ⟨g1, 5, none⟩ = some (.slice Ak x.kids.length ck))) V) := Lib.hid (fun V hb => cells6 (hx.blk.below hb hx.lt))
  have HB0 : Hid (Below w0.heap.size w0 w0.drew) := Lib.hid (Below.refl _ _).drew
  clear hQ hcall hx hr
  unfold Nd.v at HC
  refine wp_region_noPanic ?_
  refine wp_region_held_drew (S := (fun V : World => (V.cell? ⟨g1, 0, none⟩ = some (.int .i64 x.kind) ∧ V.cell? ⟨g1, 1, none⟩ = some (.string x.code) ∧ V.cell? ⟨g1, 2, none⟩ = some (.string x.value) ∧ V.cell? ⟨g1, 3, none⟩ = some (.string x.path) ∧ V.cell? ⟨g1, 4, none⟩ = some (.slice Ab x.bytes.length cb) ∧ V.cell? ⟨g1, 5, none⟩ = some (.slice Ak x.kids.length ck)))) (by kernel_rfl) ?_ (fun hHeld0 => ?_)
  · exact HS.out _ HB0.out
  refine wpAnyH_take (i := 0) (v := ?_) rfl (by kernel_rfl) (by kernel_rfl) (by kernel_rfl) (fun _ _ _ h => h) (Or.inl ⟨by rfl, ?_⟩) hHeld0 ?_
  rotate_left
  · (intro w hSw; (try dsimp only at hSw); go_simp <;> with_reducible rfl)
  try simp only [Act.put, List.setIfInBounds_toArray, List.set_cons_zero, List.set_cons_succ]
  refine wpAnyH_ready (rs := [1, 6]) (by kernel_rfl) (by simp) ?_
  refine AllReadyH.cons rfl (fun K hK => ?_) ?_
  · go_simp
    refine (ref_n 9 _).mono ?_
    rintro e w1 ⟨rfl, hb⟩
    have HB1 := Lib.hid (HB0.out.trans (hb.mono HB0.out.size))
    clear hb
    refine hK.out _ _ ?_ (fun hHeld1 => ?_)
    · exact HS.out _ HB1.out
    clear hK K hHeld0
    try simp only [Act.put, List.setIfInBounds_toArray, List.set_cons_zero, List.set_cons_succ]
    refine wpAnyH_ready (rs := [2, 6]) (by kernel_rfl) (by simp) ?_
    refine AllReadyH.cons rfl (fun K hK => ?_) ?_
    · go_simp
      refine (HC.out _ (HX.out.1.node.below HB1.out) (HX.out.2.on HB1.out)).mono ?_
      rintro e w2 ⟨V', rfl, hnd, hb, hrw⟩
      have HB2 := Lib.hid (HB1.out.trans (hb.mono HB1.out.size))
      have HR := Lib.hid (fun r hm => Nat.le_trans HB1.out.size (hrw r hm))
      have HLT : Hid (∀ r ∈ rowsOf V', r < w2.heap.size) := Lib.hid (fun r hm => hnd.rows r hm)
      obtain ⟨A4, c4, A5, c5, rfl, hnd2⟩ := open_nd hnd
      have HN := Lib.hid hnd2
      clear hb hrw hnd hnd2
      refine hK.out _ _ ?_ (fun hHeld2 => ?_)
      · exact HS.out _ HB2.out
      clear hK K hHeld1
      try simp only [Act.put, List.setIfInBounds_toArray, List.set_cons_zero, List.set_cons_succ]
      refine wpAnyH_take (i := 3) (v := ?_) rfl (by kernel_rfl) (by kernel_rfl) (by kernel_rfl) (fun _ _ _ h => h) (Or.inl ⟨by rfl, ?_⟩) hHeld2 ?_
      rotate_left
      · (intro w hSw; (try dsimp only at hSw); go_simp <;> with_reducible rfl)
      try simp only [Act.put, List.setIfInBounds_toArray, List.set_cons_zero, List.set_cons_succ]
      refine wpAnyH_take (i := 4) (v := ?_) rfl (by kernel_rfl) (by kernel_rfl) (by kernel_rfl) (fun _ _ _ h => h) (Or.inl ⟨by rfl, ?_⟩) hHeld2 ?_
      rotate_left
      · (intro w hSw; (try dsimp only at hSw); go_simp <;> with_reducible rfl)
      try simp only [Act.put, List.setIfInBounds_toArray, List.set_cons_zero, List.set_cons_succ]
      refine wpAnyH_take (i := 5) (v := ?_) rfl (by kernel_rfl) (by kernel_rfl) (by kernel_rfl) (fun _ _ _ h => h) (Or.inl ⟨by rfl, ?_⟩) hHeld2 ?_
      rotate_left
      · (intro w hSw; (try dsimp only at hSw); go_simp <;> with_reducible rfl)
      try simp only [Act.put, List.setIfInBounds_toArray, List.set_cons_zero, List.set_cons_succ]
      refine wpAnyH_ready (rs := [6]) (by kernel_rfl) (by simp) ?_
      refine AllReadyH.cons rfl (fun K hK => ?_) ?_
      · go_simp
        have HB3 := Lib.hid (HB2.out.alloc HB2.out.size (.cells #[.int .i64 0, .string { data := #[] }, .string { data := #[] }, .string { data := #[] }, .slice none 0 0, .slice none 0 0] 27))
        have Q3 : Blk (w2.alloc (.cells #[.int .i64 0, .string { data := #[] }, .string { data := #[] }, .string { data := #[] }, .slice none 0 0, .slice none 0 0] 27)) (w2.heap.size) 27 #[.int .i64 0, .string { data := #[] }, .string { data := #[] }, .string { data := #[] }, .slice none 0 0, .slice none 0 0] := Blk.new _ _ _
        have LE3 : w0.heap.size ≤ w2.heap.size := HB2.out.size
        refine hK.out _ _ ?_ (fun hHeld3 => ?_)
        · exact HS.out _ HB3.out
        clear hK K hHeld2
        try simp only [Act.put, List.setIfInBounds_toArray, List.set_cons_zero, List.set_cons_succ]
        refine wpAnyH_ready (rs := [7]) (by kernel_rfl) (by simp) ?_
        refine AllReadyH.cons rfl (fun K hK => ?_) ?_
        · have hbx : BoxAt (w2.alloc (.cells #[.int .i64 y.kind, .string y.code, .string y.value, .string y.path, .slice A4 y.bytes.length c4, .slice A5 y.kids.length c5] 27)) (w2.heap.size) y A4 c4 A5 c5 := ⟨Blk.new _ _ _, HN.out.below (below_box _ _)⟩
          have hBV := HB2.out.alloc HB2.out.size (.cells #[.int .i64 y.kind, .string y.code, .string y.value, .string y.path, .slice A4 y.bytes.length c4, .slice A5 y.kids.length c5] 27)
          have hrw : ∀ r ∈ rowsOf (y.v A4 c4 A5 c5), w0.heap.size ≤ r ∧ r ≠ (w2.heap.size) := fun r hm => ⟨HR.out r hm, fun e => by have h2 := HLT.out r hm; omega⟩
          have HF := Lib.hid (And.intro hBV (And.intro hbx (And.intro LE3 hrw)))
          unfold Nd.v
          go_simp
          clear hrw hbx
          refine hK.out _ _ ?_ (fun hHeld4 => ?_)
          · exact HS.out _ hBV
          clear hK K hHeld3
          try simp only [Act.put, List.setIfInBounds_toArray, List.set_cons_zero, List.set_cons_succ]
          refine wpAnyH_take (i := 8) (v := ?_) rfl (by kernel_rfl) (by kernel_rfl) (by kernel_rfl) (fun _ _ _ h => h) (Or.inl ⟨by rfl, ?_⟩) hHeld4 ?_
          rotate_left
          · (intro w hSw; (try dsimp only at hSw); go_simp <;> with_reducible rfl)
          try simp only [Act.put, List.setIfInBounds_toArray, List.set_cons_zero, List.set_cons_succ]
          try simp only [Act.put, List.getElem_toArray, List.getElem_cons_succ, List.getElem_cons_zero, List.setIfInBounds_toArray, List.set_cons_zero, List.set_cons_succ]
          refine wpAnyH_done (by kernel_rfl) ?_ _
          refine NoPanic.normal (HQ.out _ _ _ _ _ _ _ _ _ _ _ _ HF.out.1 HF.out.2.1 ?_ ?_)
          · have := HF.out.2.2.1; simpa using this
          · exact HF.out.2.2.2
        exact AllReadyH.nil
      exact AllReadyH.nil
    refine AllReadyH.cons rfl (fun K hK => ?_) ?_
    · go_simp
      have HB5 := Lib.hid (HB1.out.alloc HB1.out.size (.cells #[.int .i64 0, .string { data := #[] }, .string { data := #[] }, .string { data := #[] }, .slice none 0 0, .slice none 0 0] 27))
      have Q5 : Blk (w1.alloc (.cells #[.int .i64 0, .string { data := #[] }, .string { data := #[] }, .string { data := #[] }, .slice none 0 0, .slice none 0 0] 27)) (w1.heap.size) 27 #[.int .i64 0, .string { data := #[] }, .string { data := #[] }, .string { data := #[] }, .slice none 0 0, .slice none 0 0] := Blk.new _ _ _
      have LE5 : w0.heap.size ≤ w1.heap.size := HB1.out.size
      refine hK.out _ _ ?_ (fun hHeld2 => ?_)
      · exact HS.out _ HB5.out
      clear hK K hHeld1
      try simp only [Act.put, List.setIfInBounds_toArray, List.set_cons_zero, List.set_cons_succ]
      refine wpAnyH_ready (rs := [2]) (by kernel_rfl) (by simp) ?_
      refine AllReadyH.cons rfl (fun K hK => ?_) ?_
      · go_simp
        refine (HC.out _ (HX.out.1.node.below HB5.out) (HX.out.2.on HB5.out)).mono ?_
        rintro e w6 ⟨V', rfl, hnd, hb, hrw⟩
        have HB6 := Lib.hid (HB5.out.trans (hb.mono HB5.out.size))
        have HR := Lib.hid (fun r hm => Nat.le_trans HB5.out.size (hrw r hm))
        have Q6 : Blk w6 (w1.heap.size) 27 #[.int .i64 0, .string { data := #[] }, .string { data := #[] }, .string { data := #[] }, .slice none 0 0, .slice none 0 0] := (Q5).below hb (Blk.lt (Q5))
        have HNO : Hid (∀ r ∈ rowsOf V', r ≠ (w1.heap.size)) := Lib.hid (fun r hm e => by have h1 := hrw r hm; have h2 := Blk.lt (Q5); omega)
        obtain ⟨A4, c4, A5, c5, rfl, hnd2⟩ := open_nd hnd
        have HN := Lib.hid hnd2
        clear hb hrw hnd hnd2
        refine hK.out _ _ ?_ (fun hHeld3 => ?_)
        · exact HS.out _ HB6.out
        clear hK K hHeld2
        try simp only [Act.put, List.setIfInBounds_toArray, List.set_cons_zero, List.set_cons_succ]
        refine wpAnyH_take (i := 3) (v := ?_) rfl (by kernel_rfl) (by kernel_rfl) (by kernel_rfl) (fun _ _ _ h => h) (Or.inl ⟨by rfl, ?_⟩) hHeld3 ?_
        rotate_left
        · (intro w hSw; (try dsimp only at hSw); go_simp <;> with_reducible rfl)
        try simp only [Act.put, List.setIfInBounds_toArray, List.set_cons_zero, List.set_cons_succ]
        refine wpAnyH_take (i := 4) (v := ?_) rfl (by kernel_rfl) (by kernel_rfl) (by kernel_rfl) (fun _ _ _ h => h) (Or.inl ⟨by rfl, ?_⟩) hHeld3 ?_
        rotate_left
        · (intro w hSw; (try dsimp only at hSw); go_simp <;> with_reducible rfl)
        try simp only [Act.put, List.setIfInBounds_toArray, List.set_cons_zero, List.set_cons_succ]
        refine wpAnyH_take (i := 5) (v := ?_) rfl (by kernel_rfl) (by kernel_rfl) (by kernel_rfl) (fun _ _ _ h => h) (Or.inl ⟨by rfl, ?_⟩) hHeld3 ?_
        rotate_left
        · (intro w hSw; (try dsimp only at hSw); go_simp <;> with_reducible rfl)
        try simp only [Act.put, List.setIfInBounds_toArray, List.set_cons_zero, List.set_cons_succ]
        refine wpAnyH_ready (rs := [7]) (by kernel_rfl) (by simp) ?_
        refine AllReadyH.cons rfl (fun K hK => ?_) ?_
        · have hz : Blk w6 (w1.heap.size) 27 #[.int .i64 0, .string { data := #[] }, .string { data := #[] }, .string { data := #[] }, .slice none 0 0, .slice none 0 0] := Q6
          obtain ⟨d0, d1, d2, d3, d4, d5⟩ := cells6 hz
          have fz0 := hz.frozen 0
          have fz1 := hz.frozen 1
          have fz2 := hz.frozen 2
          have fz3 := hz.frozen 3
          have fz4 := hz.frozen 4
          have fz5 := hz.frozen 5
          have l6 := hz.lt
          have hno : (w1.heap.size) ∉ rowsOf (y.v A4 c4 A5 c5) := fun hm => by have h1 := HR.out _ hm; exact HNO.out _ hm rfl
          obtain ⟨VV, hV, hg, hbx⟩ := store_node hz rfl HN.out hno
          have hBV := HB6.out.grown hg HB6.out.size (fun k e => by injection e with e; have := LE5; omega)
          have hrw : ∀ r ∈ rowsOf (y.v A4 c4 A5 c5), w0.heap.size ≤ r ∧ r ≠ (w1.heap.size) := fun r hm => ⟨HR.out r hm, fun e => hno (by rw [← e]; exact hm)⟩
          have HF := Lib.hid (And.intro hBV (And.intro hbx (And.intro LE5 hrw)))
          clear hrw
          unfold Nd.v
          go_simp
          rw [← hV]
          clear hV hz hno hg hbx
          refine hK.out _ _ ?_ (fun hHeld4 => ?_)
          · exact HS.out _ hBV
          clear hK K hHeld3
          try simp only [Act.put, List.setIfInBounds_toArray, List.set_cons_zero, List.set_cons_succ]
          refine wpAnyH_take (i := 8) (v := ?_) rfl (by kernel_rfl) (by kernel_rfl) (by kernel_rfl) (fun _ _ _ h => h) (Or.inl ⟨by rfl, ?_⟩) hHeld4 ?_
          rotate_left
          · (intro w hSw; (try dsimp only at hSw); go_simp <;> with_reducible rfl)
          try simp only [Act.put, List.setIfInBounds_toArray, List.set_cons_zero, List.set_cons_succ]
          try simp only [Act.put, List.getElem_toArray, List.getElem_cons_succ, List.getElem_cons_zero, List.setIfInBounds_toArray, List.set_cons_zero, List.set_cons_succ]
          refine wpAnyH_done (by kernel_rfl) ?_ _
          refine NoPanic.normal (HQ.out _ _ _ _ _ _ _ _ _ _ _ _ HF.out.1 HF.out.2.1 ?_ ?_)
          · have := HF.out.2.2.1; simpa using this
          · exact HF.out.2.2.2
        exact AllReadyH.nil
      exact AllReadyH.nil
    exact AllReadyH.nil
  refine AllReadyH.cons rfl (fun K hK => ?_) ?_
  · go_simp
    have HB8 := Lib.hid (HB0.out.alloc HB0.out.size (.cells #[.int .i64 0, .string { data := #[] }, .string { data := #[] }, .string { data := #[] }, .slice none 0 0, .slice none 0 0] 27))
    have Q8 : Blk (w0.drew.alloc (.cells #[.int .i64 0, .string { data := #[] }, .string { data := #[] }, .string { data := #[] }, .slice none 0 0, .slice none 0 0] 27)) (w0.heap.size) 27 #[.int .i64 0, .string { data := #[] }, .string { data := #[] }, .string { data := #[] }, .slice none 0 0, .slice none 0 0] := Blk.new _ _ _
    have LE8 : w0.heap.size ≤ w0.heap.size := HB0.out.size
    refine hK.out _ _ ?_ (fun hHeld1 => ?_)
    · exact HS.out _ HB8.out
    clear hK K hHeld0
    try simp only [Act.put, List.setIfInBounds_toArray, List.set_cons_zero, List.set_cons_succ]
    refine wpAnyH_ready (rs := [1]) (by kernel_rfl) (by simp) ?_
    refine AllReadyH.cons rfl (fun K hK => ?_) ?_
    · go_simp
      refine (ref_n 9 _).mono ?_
      rintro e w9 ⟨rfl, hb⟩
      have HB9 := Lib.hid (HB8.out.trans (hb.mono HB8.out.size))
      have Q9 : Blk w9 (w0.heap.size) 27 #[.int .i64 0, .string { data := #[] }, .string { data := #[] }, .string { data := #[] }, .slice none 0 0, .slice none 0 0] := (Q8).below hb (Blk.lt (Q8))
      clear hb
      refine hK.out _ _ ?_ (fun hHeld2 => ?_)
      · exact HS.out _ HB9.out
      clear hK K hHeld1
      try simp only [Act.put, List.setIfInBounds_toArray, List.set_cons_zero, List.set_cons_succ]
      refine wpAnyH_ready (rs := [2]) (by kernel_rfl) (by simp) ?_
      refine AllReadyH.cons rfl (fun K hK => ?_) ?_
      · go_simp
        refine (HC.out _ (HX.out.1.node.below HB9.out) (HX.out.2.on HB9.out)).mono ?_
        rintro e w10 ⟨V', rfl, hnd, hb, hrw⟩
        have HB10 := Lib.hid (HB9.out.trans (hb.mono HB9.out.size))
        have HR := Lib.hid (fun r hm => Nat.le_trans HB9.out.size (hrw r hm))
        have Q10 : Blk w10 (w0.heap.size) 27 #[.int .i64 0, .string { data := #[] }, .string { data := #[] }, .string { data := #[] }, .slice none 0 0, .slice none 0 0] := (Q9).below hb (Blk.lt (Q9))
        have HNO : Hid (∀ r ∈ rowsOf V', r ≠ (w0.heap.size)) := Lib.hid (fun r hm e => by have h1 := hrw r hm; have h2 := Blk.lt (Q9); omega)
        obtain ⟨A4, c4, A5, c5, rfl, hnd2⟩ := open_nd hnd
        have HN := Lib.hid hnd2
        clear hb hrw hnd hnd2
        refine hK.out _ _ ?_ (fun hHeld3 => ?_)
        · exact HS.out _ HB10.out
        clear hK K hHeld2
        try simp only [Act.put, List.setIfInBounds_toArray, List.set_cons_zero, List.set_cons_succ]
        refine wpAnyH_take (i := 3) (v := ?_) rfl (by kernel_rfl) (by kernel_rfl) (by kernel_rfl) (fun _ _ _ h => h) (Or.inl ⟨by rfl, ?_⟩) hHeld3 ?_
        rotate_left
        · (intro w hSw; (try dsimp only at hSw); go_simp <;> with_reducible rfl)
        try simp only [Act.put, List.setIfInBounds_toArray, List.set_cons_zero, List.set_cons_succ]
        refine wpAnyH_take (i := 4) (v := ?_) rfl (by kernel_rfl) (by kernel_rfl) (by kernel_rfl) (fun _ _ _ h => h) (Or.inl ⟨by rfl, ?_⟩) hHeld3 ?_
        rotate_left
        · (intro w hSw; (try dsimp only at hSw); go_simp <;> with_reducible rfl)
        try simp only [Act.put, List.setIfInBounds_toArray, List.set_cons_zero, List.set_cons_succ]
        refine wpAnyH_take (i := 5) (v := ?_) rfl (by kernel_rfl) (by kernel_rfl) (by kernel_rfl) (fun _ _ _ h => h) (Or.inl ⟨by rfl, ?_⟩) hHeld3 ?_
        rotate_left
        · (intro w hSw; (try dsimp only at hSw); go_simp <;> with_reducible rfl)
        try simp only [Act.put, List.setIfInBounds_toArray, List.set_cons_zero, List.set_cons_succ]
        refine wpAnyH_ready (rs := [7]) (by kernel_rfl) (by simp) ?_
        refine AllReadyH.cons rfl (fun K hK => ?_) ?_
        · have hz : Blk w10 (w0.heap.size) 27 #[.int .i64 0, .string { data := #[] }, .string { data := #[] }, .string { data := #[] }, .slice none 0 0, .slice none 0 0] := Q10
          obtain ⟨d0, d1, d2, d3, d4, d5⟩ := cells6 hz
          have fz0 := hz.frozen 0
          have fz1 := hz.frozen 1
          have fz2 := hz.frozen 2
          have fz3 := hz.frozen 3
          have fz4 := hz.frozen 4
          have fz5 := hz.frozen 5
          have l6 := hz.lt
          have hno : (w0.heap.size) ∉ rowsOf (y.v A4 c4 A5 c5) := fun hm => by have h1 := HR.out _ hm; exact HNO.out _ hm rfl
          obtain ⟨VV, hV, hg, hbx⟩ := store_node hz rfl HN.out hno
          have hBV := HB10.out.grown hg HB10.out.size (fun k e => by injection e with e; have := LE8; omega)
          have hrw : ∀ r ∈ rowsOf (y.v A4 c4 A5 c5), w0.heap.size ≤ r ∧ r ≠ (w0.heap.size) := fun r hm => ⟨HR.out r hm, fun e => hno (by rw [← e]; exact hm)⟩
          have HF := Lib.hid (And.intro hBV (And.intro hbx (And.intro LE8 hrw)))
          clear hrw
          unfold Nd.v
          go_simp
          rw [← hV]
          clear hV hz hno hg hbx
          refine hK.out _ _ ?_ (fun hHeld4 => ?_)
          · exact HS.out _ hBV
          clear hK K hHeld3
          try simp only [Act.put, List.setIfInBounds_toArray, List.set_cons_zero, List.set_cons_succ]
          refine wpAnyH_take (i := 8) (v := ?_) rfl (by kernel_rfl) (by kernel_rfl) (by kernel_rfl) (fun _ _ _ h => h) (Or.inl ⟨by rfl, ?_⟩) hHeld4 ?_
          rotate_left
          · (intro w hSw; (try dsimp only at hSw); go_simp <;> with_reducible rfl)
          try simp only [Act.put, List.setIfInBounds_toArray, List.set_cons_zero, List.set_cons_succ]
          try simp only [Act.put, List.getElem_toArray, List.getElem_cons_succ, List.getElem_cons_zero, List.setIfInBounds_toArray, List.set_cons_zero, List.set_cons_succ]
          refine wpAnyH_done (by kernel_rfl) ?_ _
          refine NoPanic.normal (HQ.out _ _ _ _ _ _ _ _ _ _ _ _ HF.out.1 HF.out.2.1 ?_ ?_)
          · have := HF.out.2.2.1; simpa using this
          · exact HF.out.2.2.2
        exact AllReadyH.nil
      exact AllReadyH.nil
    exact AllReadyH.nil
  exact AllReadyH.nil
set_option maxHeartbeats 3200000 in
set_option maxRecDepth 100000 in
theorem awk8 {u0 u1 u2 u3 u4 u5 u8 u9 u10 u11 u12 u13 u14 u15 u16 u17 u18 u19 u20 u21 u22 u23 u24 u25 u26 u27 u28 u29 u30 u31 u32 u33 u34 u35 u36 u37 u38 u39 u40 u41 u42 u43 u44 u45 u46 u47 u48 u49 u50 u51 u52 u53 u54 u55 u56 u57 u58 u59 u60 u61 u62 u63 u64 u65 u66 u67 u68 u69 u70 u71 u72 u73 u74 u75 u76 u77 u78 u79 u80 u81 u82 u83 u84 u85 u86 u87 u88 u89 u90 u91 u92 u93 u94 u95 u96 u97 u98 u99 u100 u101 u102 : Value} {ds : List Deferred} {Q : Exit → Act → World → Prop} (x y : Nd) (cd : Int) (Ab : Option Addr) (cb : Nat) (Ak : Option Addr) (ck : Nat) (g6 k : Nat) (w0 : World) (hx : BoxAt w0 g6 x Ab cb Ak ck) (hr : RoomsAt w0) (hk8 : IntKind.u8.wrap (k : Int) = (k : Int))
    (hcall : ∀ W : World, NdAt W x (x.v Ab cb Ak ck) → RoomsAt W → Calls Tryd.prog 7 #[x.v Ab cb Ak ck, .int .u8 (k : Int), refV ((k : Int), 1), .bool true] W (NdPair y cd W))
    (hQ : ∀ (z28 z29 z30 z31 z32 z33 z34 z35 z36 : Value) (gN : Nat) (Ab2 : Option Addr) (cb2 : Nat) (Ak2 : Option Addr) (ck2 : Nat) (V : World), Below w0.heap.size w0 V → BoxAt V gN y Ab2 cb2 Ak2 ck2 → w0.heap.size ≤ gN → (∀ r ∈ rowsOf (y.v Ab2 cb2 Ak2 ck2), w0.heap.size ≤ r ∧ r ≠ gN) → Q .normal ⟨#[u0, u1, u2, u3, u4, u5, .pointer (some ⟨g6, 0, none⟩), .int .i64 (k : Int), .pointer (some ⟨gN, 0, none⟩), .int .i64 cd, u10, u11, u12, u13, u14, u15, u16, u17, u18, u19, u20, u21, u22, u23, u24, u25, u26, u27, z28, z29, z30, z31, z32, z33, z34, z35, z36, u37, u38, u39, u40, u41, u42, u43, u44, u45, u46, u47, u48, u49, u50, u51, u52, u53, u54, u55, u56, u57, u58, u59, u60, u61, u62, u63, u64, u65, u66, u67, u68, u69, u70, u71, u72, u73, u74, u75, u76, u77, u78, u79, u80, u81, u82, u83, u84, u85, u86, u87, u88, u89, u90, u91, u92, u93, u94, u95, u96, u97, u98, u99, u100, u101, u102], ds⟩ V) :
    Code.wp Tryd.prog (part Tryd.f5 [1, 1, 1, 1, 1, 0, 1, 2, 2, 1, 0, 2, 0]) Q ⟨#[u0, u1, u2, u3, u4, u5, .pointer (some ⟨g6, 0, none⟩), .int .i64 (k : Int), u8, u9, u10, u11, u12, u13, u14, u15, u16, u17, u18, u19, u20, u21, u22, u23, u24, u25, u26, u27, u28, u29, u30, u31, u32, u33, u34, u35, u36, u37, u38, u39, u40, u41, u42, u43, u44, u45, u46, u47, u48, u49, u50, u51, u52, u53, u54, u55, u56, u57, u58, u59, u60, u61, u62, u63, u64, u65, u66, u67, u68, u69, u70, u71, u72, u73, u74, u75, u76, u77, u78, u79, u80, u81, u82, u83, u84, u85, u86, u87, u88, u89, u90, u91, u92, u93, u94, u95, u96, u97, u98, u99, u100, u101, u102], ds⟩ w0 := by
  conv => arg 2; whnf
  have HQ := Lib.hid hQ
  have HC := Lib.hid hcall
  have HX := Lib.hid (And.intro hx hr)
  have HS : Hid (∀ V : World, Below w0.heap.size w0 V → (fun V : World => (V.cell? ⟨g6, 0, none⟩ = some (.int .i64 x.kind) ∧ V.cell? ⟨g6, 1, none⟩ = some (.string x.code) ∧ V.cell? ⟨g6, 2, none⟩ = some (.string x.value) ∧ V.cell? ⟨g6, 3, none⟩ = some (.string x.path) ∧ V.cell? ⟨g6, 4, none⟩ = some (.slice Ab x.bytes.length cb) ∧ V.cell? ⟨g6, 5, none⟩ = some (.slice Ak x.kids.length ck))) V) := Lib.hid (fun V hb => cells6 (hx.blk.below hb hx.lt))
  have HB0 : Hid (Below w0.heap.size w0 w0.drew) := Lib.hid (Below.refl _ _).drew
  clear hQ hcall hx hr
  unfold Nd.v at HC
  refine wp_region_noPanic ?_
  refine wp_region_held_drew (S := (fun V : World => (V.cell? ⟨g6, 0, none⟩ = some (.int .i64 x.kind) ∧ V.cell? ⟨g6, 1, none⟩ = some (.string x.code) ∧ V.cell? ⟨g6, 2, none⟩ = some (.string x.value) ∧ V.cell? ⟨g6, 3, none⟩ = some (.string x.path) ∧ V.cell? ⟨g6, 4, none⟩ = some (.slice Ab x.bytes.length cb) ∧ V.cell? ⟨g6, 5, none⟩ = some (.slice Ak x.kids.length ck)))) (by kernel_rfl) ?_ (fun hHeld0 => ?_)
  · exact HS.out _ HB0.out
  refine wpAnyH_take (i := 0) (v := ?_) rfl (by kernel_rfl) (by kernel_rfl) (by kernel_rfl) (fun _ _ _ h => h) (Or.inl ⟨by rfl, ?_⟩) hHeld0 ?_
  rotate_left
  · (intro w hSw; (try dsimp only at hSw); go_simp <;> with_reducible rfl)
  try simp only [Act.put, List.setIfInBounds_toArray, List.set_cons_zero, List.set_cons_succ]
  refine wpAnyH_take (i := 1) (v := ?_) rfl (by kernel_rfl) (by kernel_rfl) (by kernel_rfl) (fun _ _ _ h => h) (Or.inl ⟨by rfl, ?_⟩) hHeld0 ?_
  rotate_left
  · (intro w hSw; (try dsimp only at hSw); go_simp <;> with_reducible rfl)
  try simp only [Act.put, List.setIfInBounds_toArray, List.set_cons_zero, List.set_cons_succ]
  refine wpAnyH_take (i := 2) (v := ?_) rfl (by kernel_rfl) (by kernel_rfl) (by kernel_rfl) (fun _ _ _ h => h) (Or.inl ⟨by rfl, ?_⟩) hHeld0 ?_
  rotate_left
  · (intro w hSw; (try dsimp only at hSw); go_simp <;> with_reducible rfl)
  try simp only [Act.put, List.setIfInBounds_toArray, List.set_cons_zero, List.set_cons_succ]
  refine wpAnyH_take (i := 3) (v := ?_) rfl (by kernel_rfl) (by kernel_rfl) (by kernel_rfl) (fun _ _ _ h => h) (Or.inl ⟨by rfl, ?_⟩) hHeld0 ?_
  rotate_left
  · (intro w hSw; (try dsimp only at hSw); go_simp <;> with_reducible rfl)
  try simp only [Act.put, List.setIfInBounds_toArray, List.set_cons_zero, List.set_cons_succ]
  refine wpAnyH_ready (rs := [4, 9]) (by kernel_rfl) (by simp) ?_
  refine AllReadyH.cons rfl (fun K hK => ?_) ?_
  · go_simp
    refine (ref_n (k : Int) _).mono ?_
    rintro e w1 ⟨rfl, hb⟩
    have HB1 := Lib.hid (HB0.out.trans (hb.mono HB0.out.size))
    clear hb
    refine hK.out _ _ ?_ (fun hHeld1 => ?_)
    · exact HS.out _ HB1.out
    clear hK K hHeld0
    try simp only [Act.put, List.setIfInBounds_toArray, List.set_cons_zero, List.set_cons_succ]
    refine wpAnyH_ready (rs := [5, 9]) (by kernel_rfl) (by simp) ?_
    refine AllReadyH.cons rfl (fun K hK => ?_) ?_
    · go_simp
      try simp only [hk8]
      refine (HC.out _ (HX.out.1.node.below HB1.out) (HX.out.2.on HB1.out)).mono ?_
      rintro e w2 ⟨V', rfl, hnd, hb, hrw⟩
      have HB2 := Lib.hid (HB1.out.trans (hb.mono HB1.out.size))
      have HR := Lib.hid (fun r hm => Nat.le_trans HB1.out.size (hrw r hm))
      have HLT : Hid (∀ r ∈ rowsOf V', r < w2.heap.size) := Lib.hid (fun r hm => hnd.rows r hm)
      obtain ⟨A4, c4, A5, c5, rfl, hnd2⟩ := open_nd hnd
      have HN := Lib.hid hnd2
      clear hb hrw hnd hnd2
      refine hK.out _ _ ?_ (fun hHeld2 => ?_)
      · exact HS.out _ HB2.out
      clear hK K hHeld1
      try simp only [Act.put, List.setIfInBounds_toArray, List.set_cons_zero, List.set_cons_succ]
      refine wpAnyH_take (i := 6) (v := ?_) rfl (by kernel_rfl) (by kernel_rfl) (by kernel_rfl) (fun _ _ _ h => h) (Or.inl ⟨by rfl, ?_⟩) hHeld2 ?_
      rotate_left
      · (intro w hSw; (try dsimp only at hSw); go_simp <;> with_reducible rfl)
      try simp only [Act.put, List.setIfInBounds_toArray, List.set_cons_zero, List.set_cons_succ]
      refine wpAnyH_take (i := 7) (v := ?_) rfl (by kernel_rfl) (by kernel_rfl) (by kernel_rfl) (fun _ _ _ h => h) (Or.inl ⟨by rfl, ?_⟩) hHeld2 ?_
      rotate_left
      · (intro w hSw; (try dsimp only at hSw); go_simp <;> with_reducible rfl)
      try simp only [Act.put, List.setIfInBounds_toArray, List.set_cons_zero, List.set_cons_succ]
      refine wpAnyH_take (i := 8) (v := ?_) rfl (by kernel_rfl) (by kernel_rfl) (by kernel_rfl) (fun _ _ _ h => h) (Or.inl ⟨by rfl, ?_⟩) hHeld2 ?_
      rotate_left
      · (intro w hSw; (try dsimp only at hSw); go_simp <;> with_reducible rfl)
      try simp only [Act.put, List.setIfInBounds_toArray, List.set_cons_zero, List.set_cons_succ]
      refine wpAnyH_ready (rs := [9]) (by kernel_rfl) (by simp) ?_
      refine AllReadyH.cons rfl (fun K hK => ?_) ?_
      · go_simp
        have HB3 := Lib.hid (HB2.out.alloc HB2.out.size (.cells #[.int .i64 0, .string { data := #[] }, .string { data := #[] }, .string { data := #[] }, .slice none 0 0, .slice none 0 0] 27))
        have Q3 : Blk (w2.alloc (.cells #[.int .i64 0, .string { data := #[] }, .string { data := #[] }, .string { data := #[] }, .slice none 0 0, .slice none 0 0] 27)) (w2.heap.size) 27 #[.int .i64 0, .string { data := #[] }, .string { data := #[] }, .string { data := #[] }, .slice none 0 0, .slice none 0 0] := Blk.new _ _ _
        have LE3 : w0.heap.size ≤ w2.heap.size := HB2.out.size
        refine hK.out _ _ ?_ (fun hHeld3 => ?_)
        · exact HS.out _ HB3.out
        clear hK K hHeld2
        try simp only [Act.put, List.setIfInBounds_toArray, List.set_cons_zero, List.set_cons_succ]
        refine wpAnyH_ready (rs := [10]) (by kernel_rfl) (by simp) ?_
        refine AllReadyH.cons rfl (fun K hK => ?_) ?_
        · have hbx : BoxAt (w2.alloc (.cells #[.int .i64 y.kind, .string y.code, .string y.value, .string y.path, .slice A4 y.bytes.length c4, .slice A5 y.kids.length c5] 27)) (w2.heap.size) y A4 c4 A5 c5 := ⟨Blk.new _ _ _, HN.out.below (below_box _ _)⟩
          have hBV := HB2.out.alloc HB2.out.size (.cells #[.int .i64 y.kind, .string y.code, .string y.value, .string y.path, .slice A4 y.bytes.length c4, .slice A5 y.kids.length c5] 27)
          have hrw : ∀ r ∈ rowsOf (y.v A4 c4 A5 c5), w0.heap.size ≤ r ∧ r ≠ (w2.heap.size) := fun r hm => ⟨HR.out r hm, fun e => by have h2 := HLT.out r hm; omega⟩
          have HF := Lib.hid (And.intro hBV (And.intro hbx (And.intro LE3 hrw)))
          unfold Nd.v
          go_simp
          clear hrw hbx
          refine hK.out _ _ ?_ (fun hHeld4 => ?_)
          · exact HS.out _ hBV
          clear hK K hHeld3
          try simp only [Act.put, List.setIfInBounds_toArray, List.set_cons_zero, List.set_cons_succ]
          refine wpAnyH_take (i := 11) (v := ?_) rfl (by kernel_rfl) (by kernel_rfl) (by kernel_rfl) (fun _ _ _ h => h) (Or.inl ⟨by rfl, ?_⟩) hHeld4 ?_
          rotate_left
          · (intro w hSw; (try dsimp only at hSw); go_simp <;> with_reducible rfl)
          try simp only [Act.put, List.setIfInBounds_toArray, List.set_cons_zero, List.set_cons_succ]
          try simp only [Act.put, List.getElem_toArray, List.getElem_cons_succ, List.getElem_cons_zero, List.setIfInBounds_toArray, List.set_cons_zero, List.set_cons_succ]
          refine wpAnyH_done (by kernel_rfl) ?_ _
          refine NoPanic.normal (HQ.out _ _ _ _ _ _ _ _ _ _ _ _ _ _ _ HF.out.1 HF.out.2.1 ?_ ?_)
          · have := HF.out.2.2.1; simpa using this
          · exact HF.out.2.2.2
        exact AllReadyH.nil
      exact AllReadyH.nil
    refine AllReadyH.cons rfl (fun K hK => ?_) ?_
    · go_simp
      have HB5 := Lib.hid (HB1.out.alloc HB1.out.size (.cells #[.int .i64 0, .string { data := #[] }, .string { data := #[] }, .string { data := #[] }, .slice none 0 0, .slice none 0 0] 27))
      have Q5 : Blk (w1.alloc (.cells #[.int .i64 0, .string { data := #[] }, .string { data := #[] }, .string { data := #[] }, .slice none 0 0, .slice none 0 0] 27)) (w1.heap.size) 27 #[.int .i64 0, .string { data := #[] }, .string { data := #[] }, .string { data := #[] }, .slice none 0 0, .slice none 0 0] := Blk.new _ _ _
      have LE5 : w0.heap.size ≤ w1.heap.size := HB1.out.size
      refine hK.out _ _ ?_ (fun hHeld2 => ?_)
      · exact HS.out _ HB5.out
      clear hK K hHeld1
      try simp only [Act.put, List.setIfInBounds_toArray, List.set_cons_zero, List.set_cons_succ]
      refine wpAnyH_ready (rs := [5]) (by kernel_rfl) (by simp) ?_
      refine AllReadyH.cons rfl (fun K hK => ?_) ?_
      · go_simp
        try simp only [hk8]
        refine (HC.out _ (HX.out.1.node.below HB5.out) (HX.out.2.on HB5.out)).mono ?_
        rintro e w6 ⟨V', rfl, hnd, hb, hrw⟩
        have HB6 := Lib.hid (HB5.out.trans (hb.mono HB5.out.size))
        have HR := Lib.hid (fun r hm => Nat.le_trans HB5.out.size (hrw r hm))
        have Q6 : Blk w6 (w1.heap.size) 27 #[.int .i64 0, .string { data := #[] }, .string { data := #[] }, .string { data := #[] }, .slice none 0 0, .slice none 0 0] := (Q5).below hb (Blk.lt (Q5))
        have HNO : Hid (∀ r ∈ rowsOf V', r ≠ (w1.heap.size)) := Lib.hid (fun r hm e => by have h1 := hrw r hm; have h2 := Blk.lt (Q5); omega)
        obtain ⟨A4, c4, A5, c5, rfl, hnd2⟩ := open_nd hnd
        have HN := Lib.hid hnd2
        clear hb hrw hnd hnd2
        refine hK.out _ _ ?_ (fun hHeld3 => ?_)
        · exact HS.out _ HB6.out
        clear hK K hHeld2
        try simp only [Act.put, List.setIfInBounds_toArray, List.set_cons_zero, List.set_cons_succ]
        refine wpAnyH_take (i := 6) (v := ?_) rfl (by kernel_rfl) (by kernel_rfl) (by kernel_rfl) (fun _ _ _ h => h) (Or.inl ⟨by rfl, ?_⟩) hHeld3 ?_
        rotate_left
        · (intro w hSw; (try dsimp only at hSw); go_simp <;> with_reducible rfl)
        try simp only [Act.put, List.setIfInBounds_toArray, List.set_cons_zero, List.set_cons_succ]
        refine wpAnyH_take (i := 7) (v := ?_) rfl (by kernel_rfl) (by kernel_rfl) (by kernel_rfl) (fun _ _ _ h => h) (Or.inl ⟨by rfl, ?_⟩) hHeld3 ?_
        rotate_left
        · (intro w hSw; (try dsimp only at hSw); go_simp <;> with_reducible rfl)
        try simp only [Act.put, List.setIfInBounds_toArray, List.set_cons_zero, List.set_cons_succ]
        refine wpAnyH_take (i := 8) (v := ?_) rfl (by kernel_rfl) (by kernel_rfl) (by kernel_rfl) (fun _ _ _ h => h) (Or.inl ⟨by rfl, ?_⟩) hHeld3 ?_
        rotate_left
        · (intro w hSw; (try dsimp only at hSw); go_simp <;> with_reducible rfl)
        try simp only [Act.put, List.setIfInBounds_toArray, List.set_cons_zero, List.set_cons_succ]
        refine wpAnyH_ready (rs := [10]) (by kernel_rfl) (by simp) ?_
        refine AllReadyH.cons rfl (fun K hK => ?_) ?_
        · have hz : Blk w6 (w1.heap.size) 27 #[.int .i64 0, .string { data := #[] }, .string { data := #[] }, .string { data := #[] }, .slice none 0 0, .slice none 0 0] := Q6
          obtain ⟨d0, d1, d2, d3, d4, d5⟩ := cells6 hz
          have fz0 := hz.frozen 0
          have fz1 := hz.frozen 1
          have fz2 := hz.frozen 2
          have fz3 := hz.frozen 3
          have fz4 := hz.frozen 4
          have fz5 := hz.frozen 5
          have l6 := hz.lt
          have hno : (w1.heap.size) ∉ rowsOf (y.v A4 c4 A5 c5) := fun hm => by have h1 := HR.out _ hm; exact HNO.out _ hm rfl
          obtain ⟨VV, hV, hg, hbx⟩ := store_node hz rfl HN.out hno
          have hBV := HB6.out.grown hg HB6.out.size (fun k e => by injection e with e; have := LE5; omega)
          have hrw : ∀ r ∈ rowsOf (y.v A4 c4 A5 c5), w0.heap.size ≤ r ∧ r ≠ (w1.heap.size) := fun r hm => ⟨HR.out r hm, fun e => hno (by rw [← e]; exact hm)⟩
          have HF := Lib.hid (And.intro hBV (And.intro hbx (And.intro LE5 hrw)))
          clear hrw
          unfold Nd.v
          go_simp
          rw [← hV]
          clear hV hz hno hg hbx
          refine hK.out _ _ ?_ (fun hHeld4 => ?_)
          · exact HS.out _ hBV
          clear hK K hHeld3
          try simp only [Act.put, List.setIfInBounds_toArray, List.set_cons_zero, List.set_cons_succ]
          refine wpAnyH_take (i := 11) (v := ?_) rfl (by kernel_rfl) (by kernel_rfl) (by kernel_rfl) (fun _ _ _ h => h) (Or.inl ⟨by rfl, ?_⟩) hHeld4 ?_
          rotate_left
          · (intro w hSw; (try dsimp only at hSw); go_simp <;> with_reducible rfl)
          try simp only [Act.put, List.setIfInBounds_toArray, List.set_cons_zero, List.set_cons_succ]
          try simp only [Act.put, List.getElem_toArray, List.getElem_cons_succ, List.getElem_cons_zero, List.setIfInBounds_toArray, List.set_cons_zero, List.set_cons_succ]
          refine wpAnyH_done (by kernel_rfl) ?_ _
          refine NoPanic.normal (HQ.out _ _ _ _ _ _ _ _ _ _ _ _ _ _ _ HF.out.1 HF.out.2.1 ?_ ?_)
          · have := HF.out.2.2.1; simpa using this
          · exact HF.out.2.2.2
        exact AllReadyH.nil
      exact AllReadyH.nil
    exact AllReadyH.nil
  refine AllReadyH.cons rfl (fun K hK => ?_) ?_
  · go_simp
    have HB8 := Lib.hid (HB0.out.alloc HB0.out.size (.cells #[.int .i64 0, .string { data := #[] }, .string { data := #[] }, .string { data := #[] }, .slice none 0 0, .slice none 0 0] 27))
    have Q8 : Blk (w0.drew.alloc (.cells #[.int .i64 0, .string { data := #[] }, .string { data := #[] }, .string { data := #[] }, .slice none 0 0, .slice none 0 0] 27)) (w0.heap.size) 27 #[.int .i64 0, .string { data := #[] }, .string { data := #[] }, .string { data := #[] }, .slice none 0 0, .slice none 0 0] := Blk.new _ _ _
    have LE8 : w0.heap.size ≤ w0.heap.size := HB0.out.size
    refine hK.out _ _ ?_ (fun hHeld1 => ?_)
    · exact HS.out _ HB8.out
    clear hK K hHeld0
    try simp only [Act.put, List.setIfInBounds_toArray, List.set_cons_zero, List.set_cons_succ]
    refine wpAnyH_ready (rs := [4]) (by kernel_rfl) (by simp) ?_
    refine AllReadyH.cons rfl (fun K hK => ?_) ?_
    · go_simp
      refine (ref_n (k : Int) _).mono ?_
      rintro e w9 ⟨rfl, hb⟩
      have HB9 := Lib.hid (HB8.out.trans (hb.mono HB8.out.size))
      have Q9 : Blk w9 (w0.heap.size) 27 #[.int .i64 0, .string { data := #[] }, .string { data := #[] }, .string { data := #[] }, .slice none 0 0, .slice none 0 0] := (Q8).below hb (Blk.lt (Q8))
      clear hb
      refine hK.out _ _ ?_ (fun hHeld2 => ?_)
      · exact HS.out _ HB9.out
      clear hK K hHeld1
      try simp only [Act.put, List.setIfInBounds_toArray, List.set_cons_zero, List.set_cons_succ]
      refine wpAnyH_ready (rs := [5]) (by kernel_rfl) (by simp) ?_
      refine AllReadyH.cons rfl (fun K hK => ?_) ?_
      · go_simp
        try simp only [hk8]
        refine (HC.out _ (HX.out.1.node.below HB9.out) (HX.out.2.on HB9.out)).mono ?_
        rintro e w10 ⟨V', rfl, hnd, hb, hrw⟩
        have HB10 := Lib.hid (HB9.out.trans (hb.mono HB9.out.size))
        have HR := Lib.hid (fun r hm => Nat.le_trans HB9.out.size (hrw r hm))
        have Q10 : Blk w10 (w0.heap.size) 27 #[.int .i64 0, .string { data := #[] }, .string { data := #[] }, .string { data := #[] }, .slice none 0 0, .slice none 0 0] := (Q9).below hb (Blk.lt (Q9))
        have HNO : Hid (∀ r ∈ rowsOf V', r ≠ (w0.heap.size)) := Lib.hid (fun r hm e => by have h1 := hrw r hm; have h2 := Blk.lt (Q9); omega)
        obtain ⟨A4, c4, A5, c5, rfl, hnd2⟩ := open_nd hnd
        have HN := Lib.hid hnd2
        clear hb hrw hnd hnd2
        refine hK.out _ _ ?_ (fun hHeld3 => ?_)
        · exact HS.out _ HB10.out
        clear hK K hHeld2
        try simp only [Act.put, List.setIfInBounds_toArray, List.set_cons_zero, List.set_cons_succ]
        refine wpAnyH_take (i := 6) (v := ?_) rfl (by kernel_rfl) (by kernel_rfl) (by kernel_rfl) (fun _ _ _ h => h) (Or.inl ⟨by rfl, ?_⟩) hHeld3 ?_
        rotate_left
        · (intro w hSw; (try dsimp only at hSw); go_simp <;> with_reducible rfl)
        try simp only [Act.put, List.setIfInBounds_toArray, List.set_cons_zero, List.set_cons_succ]
        refine wpAnyH_take (i := 7) (v := ?_) rfl (by kernel_rfl) (by kernel_rfl) (by kernel_rfl) (fun _ _ _ h => h) (Or.inl ⟨by rfl, ?_⟩) hHeld3 ?_
        rotate_left
        · (intro w hSw; (try dsimp only at hSw); go_simp <;> with_reducible rfl)
        try simp only [Act.put, List.setIfInBounds_toArray, List.set_cons_zero, List.set_cons_succ]
        refine wpAnyH_take (i := 8) (v := ?_) rfl (by kernel_rfl) (by kernel_rfl) (by kernel_rfl) (fun _ _ _ h => h) (Or.inl ⟨by rfl, ?_⟩) hHeld3 ?_
        rotate_left
        · (intro w hSw; (try dsimp only at hSw); go_simp <;> with_reducible rfl)
        try simp only [Act.put, List.setIfInBounds_toArray, List.set_cons_zero, List.set_cons_succ]
        refine wpAnyH_ready (rs := [10]) (by kernel_rfl) (by simp) ?_
        refine AllReadyH.cons rfl (fun K hK => ?_) ?_
        · have hz : Blk w10 (w0.heap.size) 27 #[.int .i64 0, .string { data := #[] }, .string { data := #[] }, .string { data := #[] }, .slice none 0 0, .slice none 0 0] := Q10
          obtain ⟨d0, d1, d2, d3, d4, d5⟩ := cells6 hz
          have fz0 := hz.frozen 0
          have fz1 := hz.frozen 1
          have fz2 := hz.frozen 2
          have fz3 := hz.frozen 3
          have fz4 := hz.frozen 4
          have fz5 := hz.frozen 5
          have l6 := hz.lt
          have hno : (w0.heap.size) ∉ rowsOf (y.v A4 c4 A5 c5) := fun hm => by have h1 := HR.out _ hm; exact HNO.out _ hm rfl
          obtain ⟨VV, hV, hg, hbx⟩ := store_node hz rfl HN.out hno
          have hBV := HB10.out.grown hg HB10.out.size (fun k e => by injection e with e; have := LE8; omega)
          have hrw : ∀ r ∈ rowsOf (y.v A4 c4 A5 c5), w0.heap.size ≤ r ∧ r ≠ (w0.heap.size) := fun r hm => ⟨HR.out r hm, fun e => hno (by rw [← e]; exact hm)⟩
          have HF := Lib.hid (And.intro hBV (And.intro hbx (And.intro LE8 hrw)))
          clear hrw
          unfold Nd.v
          go_simp
          rw [← hV]
          clear hV hz hno hg hbx
          refine hK.out _ _ ?_ (fun hHeld4 => ?_)
          · exact HS.out _ hBV
          clear hK K hHeld3
          try simp only [Act.put, List.setIfInBounds_toArray, List.set_cons_zero, List.set_cons_succ]
          refine wpAnyH_take (i := 11) (v := ?_) rfl (by kernel_rfl) (by kernel_rfl) (by kernel_rfl) (fun _ _ _ h => h) (Or.inl ⟨by rfl, ?_⟩) hHeld4 ?_
          rotate_left
          · (intro w hSw; (try dsimp only at hSw); go_simp <;> with_reducible rfl)
          try simp only [Act.put, List.setIfInBounds_toArray, List.set_cons_zero, List.set_cons_succ]
          try simp only [Act.put, List.getElem_toArray, List.getElem_cons_succ, List.getElem_cons_zero, List.setIfInBounds_toArray, List.set_cons_zero, List.set_cons_succ]
          refine wpAnyH_done (by kernel_rfl) ?_ _
          refine NoPanic.normal (HQ.out _ _ _ _ _ _ _ _ _ _ _ _ _ _ _ HF.out.1 HF.out.2.1 ?_ ?_)
          · have := HF.out.2.2.1; simpa using this
          · exact HF.out.2.2.2
        exact AllReadyH.nil
      exact AllReadyH.nil
    exact AllReadyH.nil
  exact AllReadyH.nil
end Go.Proofs.YtgjgcbemgmkncaaDoor
