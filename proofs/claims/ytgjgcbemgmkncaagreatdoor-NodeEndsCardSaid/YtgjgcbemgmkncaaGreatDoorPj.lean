/-
  NodeEnds: the rest of a round.
  NodeEnds: the loops.
  parts: leaves, worlds (no walk).
  parts: a leaf and its copies.
  parts: the questions of a leaf.
-/
import Derived.Test.YtgjgcbemgmkncaaGreatDoorPi
namespace Go.Proofs.YtgjgcbemgmkncaaGreatDoor
open Go.RowKit Go.Shelf
set_option linter.unusedVariables false
set_option linter.unusedSimpArgs false
set_option maxRecDepth 20000

theorem EnW.re {w W : World} {cs : List (Nat × TypeId × Array Value)} {bs bs' : List NB} (h : EnW w cs bs W) (hs : ∀ b ∈ bs', b ∈ bs) : EnW w cs bs' W := ⟨⟨h.ctx.below, h.ctx.rooms, fun b hb => h.ctx.box b (hs b hb)⟩, h.blk⟩
theorem EnW.far {w W : World} {cs : List (Nat × TypeId × Array Value)} {bs : List NB} (h : EnW w cs bs W) : (∀ p ∈ cs, p.1 ≠ W.heap.size) ∧ ∀ b ∈ bs, b.g ≠ W.heap.size ∧ W.heap.size ∉ b.rows :=
  ⟨fun p hp e => by have := (h.blk p hp).2.lt; omega, fun b hb => ⟨fun e => by have := (h.ctx.lt b hb).1; omega, fun hr => by have := (h.ctx.lt b hb).2 _ hr; omega⟩⟩
theorem linner_c (B : Nat) (k : Int) (p : ByteArray) (Ab : Option Addr) (cb : Nat) (l : List Nat) (w : World) (hB : B ≤ w.heap.size) (hk : -9223372036854775808 ≤ k ∧ k ≤ 9223372036854775807) (hp : p.size ≤ 9223372036854775807) (hl : Reads w B 1 Ab l.length (l.flatMap nrow)) (hl2 : ∀ b ∈ l, b < 256) (hlen : l.length ≤ 4096) :
    Calls Tryz.prog 13 #[.int .i64 k, .string p, .slice Ab l.length cb] w (fun e w' => ∃ (x : Nd) (A : Option Addr) (ca : Nat) (A' : Option Addr) (ca' : Nat), e = .returned (.agg #[.int .i64 x.kind, .string x.code, .string x.value, .string x.path, .slice A x.bytes.length ca, .slice A' x.kids.length ca']) ∧ NdAt w' x (x.v A ca A' ca') ∧ Below w.heap.size w w' ∧ ∀ g ∈ rowsOf (x.v A ca A' ca'), w.heap.size ≤ g ∨ g < B) := by
  refine (linner_n k p Ab cb l w hk hp (hl.more hB) hl2 hlen).mono ?_
  rintro e w1 ⟨V', rfl, hnd, hb, hrow⟩
  obtain ⟨A1, c1, A2, c2, rfl, hnd⟩ := open_nd hnd
  refine ⟨_, A1, c1, A2, c2, rfl, hnd, hb, fun g hg => ?_⟩
  rcases hrow g hg with h | ⟨ad, rfl, rfl⟩
  · exact .inl h
  · have hpos : 0 < l.length := by
      obtain ⟨e1, e2⟩ := innerNd_lens k p l
      rcases mem_rowsOf hg with ⟨_, _, h, _⟩ | ⟨_, _, h, _⟩
      · rw [e1] at h; exact h
      · rw [e2] at h; exact h
    obtain ⟨ad2, he, hlt, _⟩ := hl.2 hpos
    injection he with he
    subst he
    exact .inr hlt

set_option maxHeartbeats 12800000 in
set_option maxRecDepth 100000 in
theorem en_tail {u0 u6 u7 u8 u9 u10 u11 u12 u13 u14 u15 u16 u17 u18 u19 u20 u21 u22 u23 u24 u25 u26 u27 u28 u29 u30 u31 u32 u33 u34 u35 u36 u37 u38 u39 u40 u41 u42 u43 u44 u45 u46 u47 u48 u49 u50 u51 u52 u53 u54 u55 u56 u57 u58 u59 u60 u61 u62 u63 u64 u65 u66 u67 u68 u69 u70 u71 u72 u73 u74 u75 u76 u77 u78 u79 u80 u81 u82 u83 u84 u85 u86 u87 u88 u89 u90 u91 u92 u93 u94 u95 : Value} {ds : List Deferred} {Q : Exit → Act → World → Prop} (gc gp k i : Nat) (Al : Option Addr) (cl : Nat) (l : List Nat) (cs : List (Nat × TypeId × Array Value)) (w w0 : World) (hr0 : RoomsAt w) (h : EnW w cs [] w0) (hc : (gc, 3, cntC) ∈ cs) (hp : (gp, 9, pathC) ∈ cs) (hk : k < 7) (hi : i < 15) (hl : Reads w0 w0.heap.size 1 Al l.length (l.flatMap nrow)) (hl2 : ∀ b ∈ l, b < 256) (hl3 : l.length ≤ 4096)
    (hQ : ∀ (z7 z8 z34 z35 z36 z37 z38 z39 z40 z41 z42 z43 z44 z45 z46 z47 z48 z49 z50 z51 z52 z53 z54 z55 z56 z57 z58 z59 z60 z61 z62 z63 z64 z65 z66 z67 z68 z69 z70 z71 z72 z73 z74 z75 z76 z77 z78 z79 z80 z81 z82 z83 z84 z85 z86 z87 z88 z89 z90 z91 : Value) (V : World), EnW w cs [] V → Q .normal ⟨#[u0, .slice (some ⟨gc, 0, none⟩) 15 15, .slice (some ⟨gp, 0, none⟩) 4 4, .int .i64 (k : Int), .int .i64 (i : Int), .slice Al l.length cl, u6, z7, z8, u9, u10, u11, u12, u13, u14, u15, u16, u17, u18, u19, u20, u21, u22, u23, u24, u25, u26, u27, u28, u29, u30, u31, u32, u33, z34, z35, z36, z37, z38, z39, z40, z41, z42, z43, z44, z45, z46, z47, z48, z49, z50, z51, z52, z53, z54, z55, z56, z57, z58, z59, z60, z61, z62, z63, z64, z65, z66, z67, z68, z69, z70, z71, z72, z73, z74, z75, z76, z77, z78, z79, z80, z81, z82, z83, z84, z85, z86, z87, z88, z89, z90, z91, u92, u93, u94, u95], ds⟩ V) :
    Code.wp Tryz.prog (part Tryz.f4 [1, 1, 1, 0, 1, 2, 2, 1, 0, 2, 1, 2, 2, 1, 0, 2, 1, 1]) Q ⟨#[u0, .slice (some ⟨gc, 0, none⟩) 15 15, .slice (some ⟨gp, 0, none⟩) 4 4, .int .i64 (k : Int), .int .i64 (i : Int), .slice Al l.length cl, u6, u7, u8, u9, u10, u11, u12, u13, u14, u15, u16, u17, u18, u19, u20, u21, u22, u23, u24, u25, u26, u27, u28, u29, u30, u31, u32, u33, u34, u35, u36, u37, u38, u39, u40, u41, u42, u43, u44, u45, u46, u47, u48, u49, u50, u51, u52, u53, u54, u55, u56, u57, u58, u59, u60, u61, u62, u63, u64, u65, u66, u67, u68, u69, u70, u71, u72, u73, u74, u75, u76, u77, u78, u79, u80, u81, u82, u83, u84, u85, u86, u87, u88, u89, u90, u91, u92, u93, u94, u95], ds⟩ w0 := by
  conv => arg 2; whnf
  have HQ := Lib.hid hQ
  have HP := Lib.hid (And.intro hr0 (And.intro hc (And.intro hp (And.intro hl2 hl3))))
  have H0 := Lib.hid h
  have HL := Lib.hid hl
  have pa := path_cell (h.get hp) ((i + k) % 4) (by omega)
  have hps := pathE_le ((i + k) % 4) (by omega)
  have i1 : (0 : Int) ≤ (i : Int) := by omega
  have i2 : (i : Int) < 15 := by omega
  have i3 : (0 : Int) ≤ (k : Int) := by omega
  have i4 : (k : Int) < 7 := by omega
  have i5 : (i + k) % 4 < 4 := by omega
  clear hQ hr0 hc hp hl2 hl3 h hl
  generalize pathE ((i + k) % 4) = ps at pa hps
  have HPS := Lib.hid hps
  clear hps
  refine wp_seq_k fun K0 hK => ?_
  have HK0 := Lib.hid hK
  clear hK
  go_wp2_with fail
  refine (linner_c w0.heap.size (k : Int) ps Al cl l w0 (Nat.le_refl _) (by omega) HPS.out HL.out HP.out.2.2.2.1 HP.out.2.2.2.2).mono ?_
  rintro e w1 ⟨x, A, ca, A', ca', rfl, hnd, hb, -⟩
  have H1 := Lib.hid ((H0.out.on hb).new hnd)
  have HL1 : Hid (Reads (w1.alloc (.cells #[.int .i64 x.kind, .string x.code, .string x.value, .string x.path, .slice A x.bytes.length ca, .slice A' x.kids.length ca'] 26)) w0.heap.size 1 Al l.length (l.flatMap nrow) ∧ w0.heap.size ≤ w1.heap.size ∧ w1.heap.size < (w1.alloc (.cells #[.int .i64 x.kind, .string x.code, .string x.value, .string x.path, .slice A x.bytes.length ca, .slice A' x.kids.length ca'] 26)).heap.size) := Lib.hid ⟨(HL.out.below hb).below (Below.mono (below_box _ _) hb.size), hb.size, by simp⟩
  have HF1 := Lib.hid (And.intro ((H0.out.on hb).far.1) hnd.rows)
  clear hb hnd pa H0 HL HPS
  go_wp2_with fail
  refine HK0.out _ _ ?_
  clear HK0
  unfold Nd.c at H1
  generalize w1.heap.size = gn at H1 HF1 HL1 ⊢
  generalize w1.alloc _ = W1 at H1 HL1 ⊢
  refine wp_seq_k fun K1 hK => ?_
  have HK1 := Lib.hid hK
  clear hK
  go_wp2_with fail
  refine (linner_c w0.heap.size (k : Int) { data := #[] } Al cl l W1 (by have := HL1.out.2; omega) (by omega) (by decide) HL1.out.1 HP.out.2.2.2.1 HP.out.2.2.2.2).mono ?_
  rintro e w2 ⟨y, D, cd, D', cd', rfl, hnd, hb, hrow⟩
  have H2 := Lib.hid ((H1.out.on hb).new hnd)
  have hgnm : gn ∉ rowsOf (y.v D cd D' cd') := fun hm => by
    have h1 := HL1.out.2
    rcases hrow gn hm with h | h <;> omega
  have HF2 := Lib.hid (And.intro ((H1.out.on hb).far) (And.intro hnd.rows hgnm))
  clear hb hnd H1 HL1 hrow hgnm
  go_wp2_with fail
  refine HK1.out _ _ ?_
  clear HK1
  unfold Nd.c at H2
  generalize w2.heap.size = gm at H2 HF2 ⊢
  generalize w2.alloc _ = W2 at H2 ⊢
  refine wp_seq_k fun K2 hK => ?_
  have HK2 := Lib.hid hK
  clear hK
  refine wp_seq_k fun K3 hK => ?_
  have HK3 := Lib.hid hK
  clear hK
  refine en16 gn gm gc k i x y A A' D D' ca ca' cd cd' cs _ w W2 H2.out (by simp) (by simp) HP.out.2.1 hk hi (fun t47 t48 t49 t50 t51 t52 t53 t54 t55 t56 t57 t58 t59 t60 t61 t62 t63 t64 t65 t66 t67 t68 t69 t70 t71 t72 t73 t74 t75 t76 t77 t78 t79 t80 t81 t82 V3 hb => ?_)
  have H3 := Lib.hid (H2.out.on hb)
  clear hb H2
  refine HK3.out _ _ ?_
  clear HK3
  go_wp2_with fail
  refine HK2.out _ _ ?_
  clear HK2
  refine wp_seq_k fun K4 hK => ?_
  have HK4 := Lib.hid hK
  clear hK
  obtain ⟨e0, e1, e2, e3, e4, e5⟩ := cells6 H3.out.ctx.b1.blk
  have fz2 := H3.out.ctx.b1.blk.frozen 2
  have lgn := H3.out.ctx.b1.blk.lt
  have H4 : Hid (EnW w cs [⟨gn, x.withV { data := #[120] }, A, ca, A', ca'⟩, ⟨gm, y, D, cd, D', cd'⟩] (V3.setCell ⟨gn, 2, none⟩ (.string { data := #[120] }))) := Lib.hid (by
    have h1 := H3.out.re (bs' := [⟨gn, x, A, ca, A', ca'⟩, ⟨gm, y, D, cd, D', cd'⟩]) (by intro b hb; simp at hb ⊢; rcases hb with rfl | rfl <;> simp)
    have hg : V3.grownBy (V3.setCell ⟨gn, 2, none⟩ (.string { data := #[120] })) (some gn) := grown_setCell ⟨rfl, rfl, rfl, Nat.le_refl _, fun _ _ _ => rfl⟩ _ _
    have hq := H3.out.ctx.b1.blk.set_ 2 (.string { data := #[120] })
    refine h1.turn HP.out.1 hg (by simpa [Nd.c, Nd.withV] using hq) (H3.out.ctx.b1.node.withV (by decide)) (fun hm => ?_) HF1.out.1 (fun b hb => ?_)
    · exact absurd (HF1.out.2 gn hm) (Nat.lt_irrefl _)
    · rcases List.mem_singleton.1 hb with rfl
      exact ⟨fun e => (HF2.out.1.2 ⟨gn, x, A, ca, A', ca'⟩ (by simp)).1 e.symm, HF2.out.2.2⟩)
  clear H3
  go_wp2_with fail
  refine HK4.out _ _ ?_
  clear HK4 fz2 lgn e0 e1 e2 e3 e4 e5
  generalize V3.setCell _ _ = W4 at H4 ⊢
  refine wp_seq_k fun K5 hK => ?_
  have HK5 := Lib.hid hK
  clear hK
  obtain ⟨e0, e1, e2, e3, e4, e5⟩ := cells6 H4.out.ctx.b0.blk
  have hx := (asked H4.out (by simp : (⟨gn, x.withV { data := #[120] }, A, ca, A', ca'⟩ : NB) ∈ _) W4 (Below.refl _ _)).2 0 0 (by decide)
  have HX := Lib.hid hx
  clear hx
  go_wp2_with fail
  refine HX.out.mono ?_
  rintro e w5 ⟨rfl, hb⟩
  have H5 := Lib.hid (H4.out.on hb)
  clear hb HX H4 e0 e1 e2 e3 e4 e5
  go_wp2_with fail
  refine HK5.out _ _ ?_
  clear HK5
  refine wp_seq_k fun K6 hK => ?_
  have HK6 := Lib.hid hK
  clear hK
  obtain ⟨e0, e1, e2, e3, e4, e5⟩ := cells6 H5.out.ctx.b1.blk
  have fz1 := H5.out.ctx.b1.blk.frozen 1
  have lgm := H5.out.ctx.b1.blk.lt
  have H6 : Hid (EnW w cs [⟨gm, y.withC { data := #[0, 0] }, D, cd, D', cd'⟩, ⟨gn, x.withV { data := #[120] }, A, ca, A', ca'⟩] (w5.setCell ⟨gm, 1, none⟩ (.string { data := #[0, 0] }))) := Lib.hid (by
    have h1 := H5.out.re (bs' := [⟨gm, y, D, cd, D', cd'⟩, ⟨gn, x.withV { data := #[120] }, A, ca, A', ca'⟩]) (by intro b hb; simp at hb ⊢; rcases hb with rfl | rfl <;> simp)
    have hg : w5.grownBy (w5.setCell ⟨gm, 1, none⟩ (.string { data := #[0, 0] })) (some gm) := grown_setCell ⟨rfl, rfl, rfl, Nat.le_refl _, fun _ _ _ => rfl⟩ _ _
    have hq := H5.out.ctx.b1.blk.set_ 1 (.string { data := #[0, 0] })
    refine h1.turn HP.out.1 hg (by simpa [Nd.c, Nd.withC] using hq) (H5.out.ctx.b1.node.withC (by decide)) (fun hm => ?_) HF2.out.1.1 (fun b hb => ?_)
    · exact absurd (HF2.out.2.1 gm hm) (Nat.lt_irrefl _)
    · rcases List.mem_singleton.1 hb with rfl
      exact HF2.out.1.2 ⟨gn, x, A, ca, A', ca'⟩ (by simp))
  clear H5
  go_wp2_with fail
  refine HK6.out _ _ ?_
  clear HK6 fz1 lgm e0 e1 e2 e3 e4 e5
  generalize w5.setCell _ _ = W6 at H6 ⊢
  obtain ⟨e0, e1, e2, e3, e4, e5⟩ := cells6 H6.out.ctx.b0.blk
  have hx := (asked H6.out (by simp : (⟨gm, y.withC { data := #[0, 0] }, D, cd, D', cd'⟩ : NB) ∈ _) W6 (Below.refl _ _)).2 0 0 (by decide)
  have HX := Lib.hid hx
  clear hx
  go_wp2_with fail
  refine HX.out.mono ?_
  rintro e w7 ⟨rfl, hb⟩
  have H7 := Lib.hid (H6.out.on hb)
  clear hb HX H6 e0 e1 e2 e3 e4 e5
  go_wp2_with fail
  exact HQ.out _ _ _ _ _ _ _ _ _ _ _ _ _ _ _ _ _ _ _ _ _ _ _ _ _ _ _ _ _ _ _ _ _ _ _ _ _ _ _ _ _ _ _ _ _ _ _ _ _ _ _ _ _ _ _ _ _ _ _ _ _ H7.out.drop
end Go.Proofs.YtgjgcbemgmkncaaGreatDoor
namespace Go.Proofs.YtgjgcbemgmkncaaGreatDoor
open Go.RowKit Go.Shelf
set_option linter.unusedVariables false
set_option linter.unusedSimpArgs false
set_option maxRecDepth 20000

theorem EnW.grown {w W W' : World} {cs : List (Nat × TypeId × Array Value)} (h : EnW w cs [] W) (hr0 : RoomsAt w) {row : Option Nat} (hg : W.grownBy W' row) (hr : ∀ g, row = some g → w.heap.size ≤ g ∧ ∀ p ∈ cs, p.1 ≠ g) : EnW w cs [] W' := by
  have hb : Below w.heap.size w W' := h.ctx.below.grown hg h.ctx.below.size (fun g e => (hr g e).1)
  exact ⟨⟨hb, hr0.on hb, fun b hb => by cases hb⟩, fun p hp => ⟨(h.blk p hp).1, (h.blk p hp).2.grown hg (fun e => (hr _ e.symm).2 p hp rfl)⟩⟩
/-- The bytes of a round. -/
def bytesTo (c : Nat) : List Nat := (List.range c).map fun j => j % 256
theorem bytesTo_len (c : Nat) : (bytesTo c).length = c := by simp [bytesTo]
theorem bytesTo_succ (c : Nat) : bytesTo (c + 1) = bytesTo c ++ [c % 256] := by simp [bytesTo, List.range_succ]
theorem bytesTo_lt (c : Nat) : ∀ b ∈ bytesTo c, b < 256 := by
  intro b hb
  obtain ⟨j, _, rfl⟩ := List.mem_map.1 hb
  omega

set_option maxHeartbeats 12800000 in
set_option maxRecDepth 100000 in
theorem en_body2 {u0 u5 u6 u7 u8 u9 u10 u11 u12 u13 u14 u15 u16 u17 u18 u19 u20 u21 u22 u23 u24 u25 u26 u27 u28 u29 u30 u31 u32 u33 u34 u35 u36 u37 u38 u39 u40 u41 u42 u43 u44 u45 u46 u47 u48 u49 u50 u51 u52 u53 u54 u55 u56 u57 u58 u59 u60 u61 u62 u63 u64 u65 u66 u67 u68 u69 u70 u71 u72 u73 u74 u75 u76 u77 u78 u79 u80 u81 u82 u83 u84 u85 u86 u87 u88 u89 u90 u91 u92 u93 u94 u95 : Value} {ds : List Deferred} {Q : Exit → Act → World → Prop} (gc gp k i : Nat) (cs : List (Nat × TypeId × Array Value)) (w w0 : World) (hr0 : RoomsAt w) (h : EnW w cs [] w0) (hc : (gc, 3, cntC) ∈ cs) (hp : (gp, 9, pathC) ∈ cs) (hk : k < 7) (hi : i < 15)
    (hQ : ∀ (z5 z6 z7 z8 z21 z22 z23 z24 z25 z26 z27 z28 z29 z30 z31 z32 z33 z34 z35 z36 z37 z38 z39 z40 z41 z42 z43 z44 z45 z46 z47 z48 z49 z50 z51 z52 z53 z54 z55 z56 z57 z58 z59 z60 z61 z62 z63 z64 z65 z66 z67 z68 z69 z70 z71 z72 z73 z74 z75 z76 z77 z78 z79 z80 z81 z82 z83 z84 z85 z86 z87 z88 z89 z90 z91 : Value) (V : World), EnW w cs [] V → Q .normal ⟨#[u0, .slice (some ⟨gc, 0, none⟩) 15 15, .slice (some ⟨gp, 0, none⟩) 4 4, .int .i64 (k : Int), .int .i64 (i : Int), z5, z6, z7, z8, u9, u10, u11, u12, u13, u14, u15, u16, u17, u18, u19, u20, z21, z22, z23, z24, z25, z26, z27, z28, z29, z30, z31, z32, z33, z34, z35, z36, z37, z38, z39, z40, z41, z42, z43, z44, z45, z46, z47, z48, z49, z50, z51, z52, z53, z54, z55, z56, z57, z58, z59, z60, z61, z62, z63, z64, z65, z66, z67, z68, z69, z70, z71, z72, z73, z74, z75, z76, z77, z78, z79, z80, z81, z82, z83, z84, z85, z86, z87, z88, z89, z90, z91, u92, u93, u94, u95], ds⟩ V) :
    Code.wp Tryz.prog (part Tryz.f4 [1, 1, 1, 0, 1, 2, 2, 1, 0, 2, 1, 2, 2, 1, 0, 2]) Q ⟨#[u0, .slice (some ⟨gc, 0, none⟩) 15 15, .slice (some ⟨gp, 0, none⟩) 4 4, .int .i64 (k : Int), .int .i64 (i : Int), u5, u6, u7, u8, u9, u10, u11, u12, u13, u14, u15, u16, u17, u18, u19, u20, u21, u22, u23, u24, u25, u26, u27, u28, u29, u30, u31, u32, u33, u34, u35, u36, u37, u38, u39, u40, u41, u42, u43, u44, u45, u46, u47, u48, u49, u50, u51, u52, u53, u54, u55, u56, u57, u58, u59, u60, u61, u62, u63, u64, u65, u66, u67, u68, u69, u70, u71, u72, u73, u74, u75, u76, u77, u78, u79, u80, u81, u82, u83, u84, u85, u86, u87, u88, u89, u90, u91, u92, u93, u94, u95], ds⟩ w0 := by
  conv => arg 2; whnf
  have HQ := Lib.hid hQ
  have HB : Hid (∀ p ∈ cs, p.1 < w0.heap.size) := Lib.hid (fun p hp => (h.blk p hp).2.lt)
  have HP := Lib.hid (And.intro hr0 (And.intro hc hp))
  have H0 := Lib.hid h
  have hcn := cntE_le i hi
  obtain ⟨n, hn⟩ : ∃ n, n = cntE i := ⟨_, rfl⟩
  rw [← hn] at hcn
  have HN := Lib.hid hn
  have H0s := Lib.hid h.ctx.below.size
  clear hQ hr0 hc hp h hn
  refine wp_seq_k fun K0 hK => ?_
  have HK0 := Lib.hid hK
  clear hK
  go_wp2_with fail
  refine HK0.out _ _ ?_
  clear HK0
  refine wp_seq_k fun KL hK => ?_
  have HKL := Lib.hid hK
  clear hK
  obtain ⟨i0, hi0, iz0, iz1, iz2⟩ := info_parts infoBytes
  have HI := Lib.hid (And.intro hi0 (And.intro iz0 (And.intro iz1 iz2)))
  clear hi0 iz0 iz1 iz2
  go_wp2_with fail
  go_loopw [5, 6] (fun v j wr => ∃ c : Nat, c ≤ n ∧ j = .int .i64 (c : Int) ∧ Hid (EnW w cs [] wr ∧ wr.ownsRow w0.heap.size 5 1 v (bytesTo c).length ((bytesTo c).flatMap nrow) ∧ w0.heap.size ≤ wr.heap.size)) (fun _ j _ => n - (intOf j).toNat)
  case atStart => exact ⟨0, Nat.zero_le _, rfl, Lib.hid ⟨H0.out, World.ownsRow_nil _ _ _ _, Nat.le_refl _⟩⟩
  case round =>
    clear H0
    obtain ⟨c, hcl, rfl, HW⟩ := hrel
    have j1 : (0 : Int) ≤ (i : Int) := by omega
    have j2 : (i : Int) < 15 := by omega
    have p0 : wr.cell? ⟨gc, i, none⟩ = some (.int .i64 (n : Int)) := by rw [HN.out]; exact cnt_cell (HW.out.1.get HP.out.2.1) i hi
    by_cases hlt : c < n
    · have j3 : (c : Int) < (n : Int) := by omega
      obtain ⟨q, hq, s2⟩ : ∃ q : Nat, q = c % 256 ∧ IntKind.u8.wrap (c : Int) = (q : Int) := ⟨c % 256, rfl, by rw [IntKind.wrap_u8]; omega⟩
      have HQ2 := Lib.hid hq
      have hbl := bytesTo_len c
      have hbl1 : (bytesTo c).length ≤ 257 := by omega
      obtain ⟨hi0, iz0, iz1, iz2⟩ := HI.out
      clear hq hbl
      go_wp2_with (first
        | (at_builtin
           refine wpList_append_any _ rfl (.tmp 29) (.tmp 32) _ rfl w0.heap.size 5 i0 _ 1 1 Tryz.underlying23 hi0 iz0 iz1 iz2 rfl (by omega) u5 (bytesTo c).length ((bytesTo c).flatMap nrow) rfl
             (HW.out.2.1.alloc _) _ (some ⟨wr.heap.size, 0, none⟩) 1 1 (nrow q) rfl (reads_of_blk (blk_newAt rfl) rfl rfl) (nrow_one _) (by unfold maxLen; omega) (by omega) (Nat.le_trans HW.out.2.2 (below_box _ _).size) ?_
           intro v5 w5 hown hg hat
           have H5 := Lib.hid (And.intro hown (And.intro hg (below_box wr (.cells #[.int .u8 (q : Int)] 5))))
           clear hown hg hat))
      go_roundw
      case rel => exact ⟨c + 1, by omega, by go_num, Lib.hid (by
        have hr : ∀ g, u5.ownBlock = some g → w0.heap.size ≤ g := fun g e => (HW.out.2.1.lt g e).1
        have h1 := (HW.out.1.on H5.out.2.2).grown HP.out.1 H5.out.2.1 (fun g e => ⟨Nat.le_trans H0s.out (hr g e), fun p hp e2 => by have := HB.out p hp; have := hr g e; omega⟩)
        refine ⟨h1, ?_, Nat.le_trans HW.out.2.2 (Nat.le_trans H5.out.2.2.size H5.out.2.1.size)⟩
        rw [bytesTo_succ, List.length_append, List.flatMap_append, List.flatMap_singleton, ← HQ2.out]
        exact H5.out.1)⟩
      case measure => simp [intOf]; omega
    · obtain rfl : c = n := by omega
      have j3 : ¬ ((c : Int) < (c : Int)) := by omega
      obtain ⟨Al, cl, rfl, -, -, -⟩ := own_form HW.out.2.1
      have HF := Lib.hid (And.intro HW.out.1 (reads_own HW.out.2.1))
      have hbl := bytesTo_len c
      have HBL : Hid ((bytesTo c).length ≤ 4096) := Lib.hid (by omega)
      clear HW hbl
      go_wp2_with fail
      refine HKL.out _ _ ?_
      exact en_tail gc gp k i Al cl (bytesTo c) cs w wr HP.out.1 HF.out.1 HP.out.2.1 HP.out.2.2 hk hi HF.out.2 (bytesTo_lt c) HBL.out (fun t7 t8 t34 t35 t36 t37 t38 t39 t40 t41 t42 t43 t44 t45 t46 t47 t48 t49 t50 t51 t52 t53 t54 t55 t56 t57 t58 t59 t60 t61 t62 t63 t64 t65 t66 t67 t68 t69 t70 t71 t72 t73 t74 t75 t76 t77 t78 t79 t80 t81 t82 t83 t84 t85 t86 t87 t88 t89 t90 t91 V hV => HQ.out _ _ _ _ _ _ _ _ _ _ _ _ _ _ _ _ _ _ _ _ _ _ _ _ _ _ _ _ _ _ _ _ _ _ _ _ _ _ _ _ _ _ _ _ _ _ _ _ _ _ _ _ _ _ _ _ _ _ _ _ _ _ _ _ _ _ _ _ _ _ _ _ _ _ _ V hV)
set_option maxHeartbeats 12800000 in
set_option maxRecDepth 100000 in
theorem en_loop2 {u0 u4 u5 u6 u7 u8 u9 u10 u11 u12 u13 u14 u15 u16 u17 u18 u19 u20 u21 u22 u23 u24 u25 u26 u27 u28 u29 u30 u31 u32 u33 u34 u35 u36 u37 u38 u39 u40 u41 u42 u43 u44 u45 u46 u47 u48 u49 u50 u51 u52 u53 u54 u55 u56 u57 u58 u59 u60 u61 u62 u63 u64 u65 u66 u67 u68 u69 u70 u71 u72 u73 u74 u75 u76 u77 u78 u79 u80 u81 u82 u83 u84 u85 u86 u87 u88 u89 u90 u91 u92 u93 u94 u95 : Value} {ds : List Deferred} {Q : Exit → Act → World → Prop} (gc gp k : Nat) (cs : List (Nat × TypeId × Array Value)) (w w0 : World) (hr0 : RoomsAt w) (h : EnW w cs [] w0) (hc : (gc, 3, cntC) ∈ cs) (hp : (gp, 9, pathC) ∈ cs) (hk : k < 7)
    (hQ : ∀ (z0 z4 z5 z6 z7 z8 z15 z16 z17 z18 z19 z20 z21 z22 z23 z24 z25 z26 z27 z28 z29 z30 z31 z32 z33 z34 z35 z36 z37 z38 z39 z40 z41 z42 z43 z44 z45 z46 z47 z48 z49 z50 z51 z52 z53 z54 z55 z56 z57 z58 z59 z60 z61 z62 z63 z64 z65 z66 z67 z68 z69 z70 z71 z72 z73 z74 z75 z76 z77 z78 z79 z80 z81 z82 z83 z84 z85 z86 z87 z88 z89 z90 z91 : Value) (V : World), EnW w cs [] V → Q .normal ⟨#[z0, .slice (some ⟨gc, 0, none⟩) 15 15, .slice (some ⟨gp, 0, none⟩) 4 4, .int .i64 (k : Int), z4, z5, z6, z7, z8, u9, u10, u11, u12, u13, u14, z15, z16, z17, z18, z19, z20, z21, z22, z23, z24, z25, z26, z27, z28, z29, z30, z31, z32, z33, z34, z35, z36, z37, z38, z39, z40, z41, z42, z43, z44, z45, z46, z47, z48, z49, z50, z51, z52, z53, z54, z55, z56, z57, z58, z59, z60, z61, z62, z63, z64, z65, z66, z67, z68, z69, z70, z71, z72, z73, z74, z75, z76, z77, z78, z79, z80, z81, z82, z83, z84, z85, z86, z87, z88, z89, z90, z91, u92, u93, u94, u95], ds⟩ V) :
    Code.wp Tryz.prog (part Tryz.f4 [1, 1, 1, 0, 1, 2, 2, 1, 0, 2]) Q ⟨#[u0, .slice (some ⟨gc, 0, none⟩) 15 15, .slice (some ⟨gp, 0, none⟩) 4 4, .int .i64 (k : Int), u4, u5, u6, u7, u8, u9, u10, u11, u12, u13, u14, u15, u16, u17, u18, u19, u20, u21, u22, u23, u24, u25, u26, u27, u28, u29, u30, u31, u32, u33, u34, u35, u36, u37, u38, u39, u40, u41, u42, u43, u44, u45, u46, u47, u48, u49, u50, u51, u52, u53, u54, u55, u56, u57, u58, u59, u60, u61, u62, u63, u64, u65, u66, u67, u68, u69, u70, u71, u72, u73, u74, u75, u76, u77, u78, u79, u80, u81, u82, u83, u84, u85, u86, u87, u88, u89, u90, u91, u92, u93, u94, u95], ds⟩ w0 := by
  conv => arg 2; whnf
  have HQ := Lib.hid hQ
  have HP := Lib.hid (And.intro hr0 (And.intro hc hp))
  have H0 := Lib.hid h
  clear hQ hr0 hc hp h
  go_wp2_with fail
  go_loopw [4] (fun j wr => ∃ i : Nat, i ≤ 15 ∧ j = .int .i64 (i : Int) ∧ Hid (EnW w cs [] wr)) (fun j _ => 15 - (intOf j).toNat)
  case atStart => exact ⟨0, by omega, rfl, H0⟩
  case round =>
    clear H0
    obtain ⟨i, hil, rfl, HW⟩ := hrel
    by_cases hlt : i < 15
    · have j3 : (i : Int) < 15 := by omega
      refine wp_seq_k fun K2 hK => ?_
      have HK2 := Lib.hid hK
      clear hK
      go_wp2_with fail
      refine HK2.out _ _ ?_
      clear HK2
      refine wp_seq_k fun K3 hK => ?_
      have HK3 := Lib.hid hK
      clear hK
      refine wp_block ?_
      refine en_body2 gc gp k i cs w wr HP.out.1 HW.out HP.out.2.1 HP.out.2.2 hk hlt (fun t5 t6 t7 t8 t21 t22 t23 t24 t25 t26 t27 t28 t29 t30 t31 t32 t33 t34 t35 t36 t37 t38 t39 t40 t41 t42 t43 t44 t45 t46 t47 t48 t49 t50 t51 t52 t53 t54 t55 t56 t57 t58 t59 t60 t61 t62 t63 t64 t65 t66 t67 t68 t69 t70 t71 t72 t73 t74 t75 t76 t77 t78 t79 t80 t81 t82 t83 t84 t85 t86 t87 t88 t89 t90 t91 V hV => ?_)
      have HV := Lib.hid hV
      clear hV HW
      refine HK3.out _ _ ?_
      clear HK3
      go_wp2
      go_roundw
      case rel => exact ⟨i + 1, by omega, by go_num, HV⟩
      case measure => simp [intOf]; omega
    · obtain rfl : i = 15 := by omega
      go_wp2
      exact HQ.out _ _ _ _ _ _ _ _ _ _ _ _ _ _ _ _ _ _ _ _ _ _ _ _ _ _ _ _ _ _ _ _ _ _ _ _ _ _ _ _ _ _ _ _ _ _ _ _ _ _ _ _ _ _ _ _ _ _ _ _ _ _ _ _ _ _ _ _ _ _ _ _ _ _ _ _ _ _ _ _ _ _ _ _ HW.out
set_option maxHeartbeats 12800000 in
set_option maxRecDepth 100000 in
theorem en_loop1 {u0 u3 u4 u5 u6 u7 u8 u9 u10 u11 u12 u13 u14 u15 u16 u17 u18 u19 u20 u21 u22 u23 u24 u25 u26 u27 u28 u29 u30 u31 u32 u33 u34 u35 u36 u37 u38 u39 u40 u41 u42 u43 u44 u45 u46 u47 u48 u49 u50 u51 u52 u53 u54 u55 u56 u57 u58 u59 u60 u61 u62 u63 u64 u65 u66 u67 u68 u69 u70 u71 u72 u73 u74 u75 u76 u77 u78 u79 u80 u81 u82 u83 u84 u85 u86 u87 u88 u89 u90 u91 u92 u93 u94 u95 : Value} {ds : List Deferred} {Q : Exit → Act → World → Prop} (gc gp : Nat) (cs : List (Nat × TypeId × Array Value)) (w w0 : World) (hr0 : RoomsAt w) (h : EnW w cs [] w0) (hc : (gc, 3, cntC) ∈ cs) (hp : (gp, 9, pathC) ∈ cs)
    (hQ : ∀ (z0 z3 z4 z5 z6 z7 z8 z11 z12 z13 z14 z15 z16 z17 z18 z19 z20 z21 z22 z23 z24 z25 z26 z27 z28 z29 z30 z31 z32 z33 z34 z35 z36 z37 z38 z39 z40 z41 z42 z43 z44 z45 z46 z47 z48 z49 z50 z51 z52 z53 z54 z55 z56 z57 z58 z59 z60 z61 z62 z63 z64 z65 z66 z67 z68 z69 z70 z71 z72 z73 z74 z75 z76 z77 z78 z79 z80 z81 z82 z83 z84 z85 z86 z87 z88 z89 z90 z91 : Value) (V : World), EnW w cs [] V → Q .normal ⟨#[z0, .slice (some ⟨gc, 0, none⟩) 15 15, .slice (some ⟨gp, 0, none⟩) 4 4, z3, z4, z5, z6, z7, z8, u9, u10, z11, z12, z13, z14, z15, z16, z17, z18, z19, z20, z21, z22, z23, z24, z25, z26, z27, z28, z29, z30, z31, z32, z33, z34, z35, z36, z37, z38, z39, z40, z41, z42, z43, z44, z45, z46, z47, z48, z49, z50, z51, z52, z53, z54, z55, z56, z57, z58, z59, z60, z61, z62, z63, z64, z65, z66, z67, z68, z69, z70, z71, z72, z73, z74, z75, z76, z77, z78, z79, z80, z81, z82, z83, z84, z85, z86, z87, z88, z89, z90, z91, u92, u93, u94, u95], ds⟩ V) :
    Code.wp Tryz.prog (part Tryz.f4 [1, 1, 1, 0]) Q ⟨#[u0, .slice (some ⟨gc, 0, none⟩) 15 15, .slice (some ⟨gp, 0, none⟩) 4 4, u3, u4, u5, u6, u7, u8, u9, u10, u11, u12, u13, u14, u15, u16, u17, u18, u19, u20, u21, u22, u23, u24, u25, u26, u27, u28, u29, u30, u31, u32, u33, u34, u35, u36, u37, u38, u39, u40, u41, u42, u43, u44, u45, u46, u47, u48, u49, u50, u51, u52, u53, u54, u55, u56, u57, u58, u59, u60, u61, u62, u63, u64, u65, u66, u67, u68, u69, u70, u71, u72, u73, u74, u75, u76, u77, u78, u79, u80, u81, u82, u83, u84, u85, u86, u87, u88, u89, u90, u91, u92, u93, u94, u95], ds⟩ w0 := by
  conv => arg 2; whnf
  have HQ := Lib.hid hQ
  have HP := Lib.hid (And.intro hr0 (And.intro hc hp))
  have H0 := Lib.hid h
  clear hQ hr0 hc hp h
  go_wp2_with fail
  go_loopw [3] (fun j wr => ∃ k : Nat, k ≤ 7 ∧ j = .int .i64 (k : Int) ∧ Hid (EnW w cs [] wr)) (fun j _ => 7 - (intOf j).toNat)
  case atStart => exact ⟨0, by omega, rfl, H0⟩
  case round =>
    clear H0
    obtain ⟨k, hkl, rfl, HW⟩ := hrel
    by_cases hlt : k < 7
    · have j3 : (k : Int) < 7 := by omega
      refine wp_seq_k fun K2 hK => ?_
      have HK2 := Lib.hid hK
      clear hK
      go_wp2_with fail
      refine HK2.out _ _ ?_
      clear HK2
      refine wp_seq_k fun K3 hK => ?_
      have HK3 := Lib.hid hK
      clear hK
      refine wp_block ?_
      refine en_loop2 gc gp k cs w wr HP.out.1 HW.out HP.out.2.1 HP.out.2.2 hlt (fun t0 t4 t5 t6 t7 t8 t15 t16 t17 t18 t19 t20 t21 t22 t23 t24 t25 t26 t27 t28 t29 t30 t31 t32 t33 t34 t35 t36 t37 t38 t39 t40 t41 t42 t43 t44 t45 t46 t47 t48 t49 t50 t51 t52 t53 t54 t55 t56 t57 t58 t59 t60 t61 t62 t63 t64 t65 t66 t67 t68 t69 t70 t71 t72 t73 t74 t75 t76 t77 t78 t79 t80 t81 t82 t83 t84 t85 t86 t87 t88 t89 t90 t91 V hV => ?_)
      have HV := Lib.hid hV
      clear hV HW
      refine HK3.out _ _ ?_
      clear HK3
      go_wp2
      go_roundw
      case rel => exact ⟨k + 1, by omega, by go_num, HV⟩
      case measure => simp [intOf]; omega
    · obtain rfl : k = 7 := by omega
      go_wp2
      exact HQ.out _ _ _ _ _ _ _ _ _ _ _ _ _ _ _ _ _ _ _ _ _ _ _ _ _ _ _ _ _ _ _ _ _ _ _ _ _ _ _ _ _ _ _ _ _ _ _ _ _ _ _ _ _ _ _ _ _ _ _ _ _ _ _ _ _ _ _ _ _ _ _ _ _ _ _ _ _ _ _ _ _ _ _ _ _ _ _ _ _ HW.out
end Go.Proofs.YtgjgcbemgmkncaaGreatDoor
namespace Go.Proofs.YtgjgcbemgmkncaaGreatDoor
open Go.RowKit Go.Shelf
set_option linter.unusedVariables false
set_option linter.unusedSimpArgs false
set_option maxRecDepth 20000

/-- A leaf as parts makes it. -/
def leafE (s1 s2 : ByteArray) : Nd := ⟨1, s1, s2, { data := #[] }, [], []⟩
theorem leafE_at {s1 s2 : ByteArray} (h1 : s1.size ≤ 9223372036854775807) (h2 : s2.size ≤ 9223372036854775807) (W : World) : NdAt W (leafE s1 s2) ((leafE s1 s2).v none 0 none 0) :=
  ⟨⟨by simp [leafE], by simp [leafE], by simp [leafE], by simp [leafE], by simp [leafE], h1, h2, by simp [leafE, ByteArray.size]⟩, none, 0, none, 0, rfl, Reads.none_, Reads.none_⟩
theorem leafE_rows (s1 s2 : ByteArray) : ∀ g, g ∉ rowsOf ((leafE s1 s2).v none 0 none 0) := by intro g hg; cases hg
/-- A box of zeros takes a node. -/
theorem EnW.put {w W W' : World} {cs : List (Nat × TypeId × Array Value)} {bs : List NB} (h : EnW w cs bs W) (hr0 : RoomsAt w) {g : Nat} {y : Nd} {D D' : Option Addr} {d d' : Nat} (hlo : w.heap.size ≤ g) (hg : W.grownBy W' (some g)) (hblk : Blk W' g 26 (y.c D d D' d')) (hy : NdAt W y (y.v D d D' d')) (hgy : g ∉ rowsOf (y.v D d D' d'))
    (hcs : ∀ p ∈ cs, p.1 ≠ g) (hn : ∀ b ∈ bs, b.g ≠ g ∧ g ∉ b.rows) : EnW w cs (⟨g, y, D, d, D', d'⟩ :: bs) W' := by
  have h2 := h.ctx.off hr0 hg hlo hn
  refine ⟨⟨h2.below, h2.rooms, fun b hb => ?_⟩, fun p hp => ⟨(h.blk p hp).1, (h.blk p hp).2.grown hg (fun e => hcs p hp (by injection e))⟩⟩
  rcases List.mem_cons.1 hb with rfl | hb
  · exact ⟨hlo, hblk, hy.off hg hgy⟩
  · exact h2.box b hb
theorem EnW.blt {w W : World} {cs : List (Nat × TypeId × Array Value)} {bs : List NB} (h : EnW w cs bs W) : (∀ p ∈ cs, p.1 < W.heap.size) ∧ ∀ b ∈ bs, b.g < W.heap.size ∧ ∀ r ∈ b.rows, r < W.heap.size :=
  ⟨fun p hp => (h.blk p hp).2.lt, fun b hb => h.ctx.lt b hb⟩
theorem below6 {P : Nat → Prop} (h : P 0 ∧ P 1 ∧ P 2 ∧ P 3 ∧ P 4 ∧ P 5) : ∀ i, i < 6 → P i := by
  intro i hi
  obtain ⟨h0, h1, h2, h3, h4, h5⟩ := h
  obtain rfl | rfl | rfl | rfl | rfl | rfl : i = 0 ∨ i = 1 ∨ i = 2 ∨ i = 3 ∨ i = 4 ∨ i = 5 := by omega
  all_goals assumption
def codeC : Array Value := #[.string { data := #[] }, .string { data := #[97] }, .string { data := #[97, 0, 0] }, .string { data := #[0, 0] }, .string { data := #[97, 98, 99, 100, 101, 102, 103, 104, 105, 106, 107, 108, 109, 110, 111, 112, 0, 0] }, .string { data := #[97, 98, 99, 100, 101, 102, 103, 104, 105, 106, 107, 108, 109, 110, 111, 112, 113, 0, 0] }]
def valC : Array Value := #[.string { data := #[] }, .string { data := #[120] }, .string { data := #[48, 49, 50, 51, 52, 53, 54, 55, 56, 57, 48, 49, 50, 51, 52, 53, 54, 55, 56, 57, 48, 49, 50, 51, 52, 53, 54, 55, 56, 57, 48, 49] }, .string { data := #[48, 49, 50, 51, 52, 53, 54, 55, 56, 57, 48, 49, 50, 51, 52, 53, 54, 55, 56, 57, 48, 49, 50, 51, 52, 53, 54, 55, 56, 57, 48, 49, 50] }]
def slotC : Array Value := #[.int .i64 (-9223372036854775808), .int .i64 (-1), .int .i64 0, .int .i64 4095, .int .i64 4096, .int .i64 9223372036854775807]
theorem code_cell {W : World} {g : Nat} (h : Blk W g 9 codeC) : ∀ i, i < 6 → ∃ s : ByteArray, s.size ≤ 9223372036854775807 ∧ W.cell? ⟨g, i, none⟩ = some (.string s) :=
  below6 ⟨⟨_, by decide, h.cell 0⟩, ⟨_, by decide, h.cell 1⟩, ⟨_, by decide, h.cell 2⟩, ⟨_, by decide, h.cell 3⟩, ⟨_, by decide, h.cell 4⟩, ⟨_, by decide, h.cell 5⟩⟩
theorem val_cell {W : World} {g : Nat} (h : Blk W g 9 valC) : ∀ i, i < 4 → ∃ s : ByteArray, s.size ≤ 9223372036854775807 ∧ W.cell? ⟨g, i, none⟩ = some (.string s) :=
  below4 ⟨⟨_, by decide, h.cell 0⟩, ⟨_, by decide, h.cell 1⟩, ⟨_, by decide, h.cell 2⟩, ⟨_, by decide, h.cell 3⟩⟩
theorem slot_cell {W : World} {g : Nat} (h : Blk W g 3 slotC) : ∀ i, i < 6 → ∃ n : Int, (-9223372036854775808 ≤ n ∧ n ≤ 9223372036854775807) ∧ W.cell? ⟨g, i, none⟩ = some (.int .i64 n) :=
  below6 ⟨⟨_, by decide, h.cell 0⟩, ⟨_, by decide, h.cell 1⟩, ⟨_, by decide, h.cell 2⟩, ⟨_, by decide, h.cell 3⟩, ⟨_, by decide, h.cell 4⟩, ⟨_, by decide, h.cell 5⟩⟩
/-! Short names for what opens a frame behind an operation. -/
theorem sA {α : Type} (l : List α) (i : Nat) (a : α) : l.toArray.setIfInBounds i a = (l.set i a).toArray := List.setIfInBounds_toArray ..
theorem sB {α : Type} (a b : α) (l : List α) : (a :: l).set 0 b = b :: l := rfl
theorem sC {α : Type} (a b : α) (l : List α) (n : Nat) : (a :: l).set (n + 1) b = a :: l.set n b := rfl
end Go.Proofs.YtgjgcbemgmkncaaGreatDoor
namespace Go.Proofs.YtgjgcbemgmkncaaGreatDoor
open Go.RowKit Go.Shelf
set_option linter.unusedVariables false
set_option linter.unusedSimpArgs false
set_option maxRecDepth 20000

theorem three_box (w : World) : Blk (((w.alloc (.cells #[.int .i64 0, .string { data := #[] }, .string { data := #[] }, .string { data := #[] }, .slice none 0 0, .slice none 0 0] 26)).alloc (.cells #[.int .i64 0, .string { data := #[] }, .string { data := #[] }, .string { data := #[] }, .slice none 0 0, .slice none 0 0] 26)).alloc (.cells #[.int .i64 0, .string { data := #[] }, .string { data := #[] }, .string { data := #[] }, .slice none 0 0, .slice none 0 0] 26)).drew w.heap.size 26 #[.int .i64 0, .string { data := #[] }, .string { data := #[] }, .string { data := #[] }, .slice none 0 0, .slice none 0 0] ∧ Blk (((w.alloc (.cells #[.int .i64 0, .string { data := #[] }, .string { data := #[] }, .string { data := #[] }, .slice none 0 0, .slice none 0 0] 26)).alloc (.cells #[.int .i64 0, .string { data := #[] }, .string { data := #[] }, .string { data := #[] }, .slice none 0 0, .slice none 0 0] 26)).alloc (.cells #[.int .i64 0, .string { data := #[] }, .string { data := #[] }, .string { data := #[] }, .slice none 0 0, .slice none 0 0] 26)).drew (w.heap.size + 1) 26 #[.int .i64 0, .string { data := #[] }, .string { data := #[] }, .string { data := #[] }, .slice none 0 0, .slice none 0 0] ∧ Blk (((w.alloc (.cells #[.int .i64 0, .string { data := #[] }, .string { data := #[] }, .string { data := #[] }, .slice none 0 0, .slice none 0 0] 26)).alloc (.cells #[.int .i64 0, .string { data := #[] }, .string { data := #[] }, .string { data := #[] }, .slice none 0 0, .slice none 0 0] 26)).alloc (.cells #[.int .i64 0, .string { data := #[] }, .string { data := #[] }, .string { data := #[] }, .slice none 0 0, .slice none 0 0] 26)).drew (w.heap.size + 1 + 1) 26 #[.int .i64 0, .string { data := #[] }, .string { data := #[] }, .string { data := #[] }, .slice none 0 0, .slice none 0 0] ∧ Below w.heap.size w (((w.alloc (.cells #[.int .i64 0, .string { data := #[] }, .string { data := #[] }, .string { data := #[] }, .slice none 0 0, .slice none 0 0] 26)).alloc (.cells #[.int .i64 0, .string { data := #[] }, .string { data := #[] }, .string { data := #[] }, .slice none 0 0, .slice none 0 0] 26)).alloc (.cells #[.int .i64 0, .string { data := #[] }, .string { data := #[] }, .string { data := #[] }, .slice none 0 0, .slice none 0 0] 26)).drew := by
  refine ⟨(((Blk.new w 26 #[.int .i64 0, .string { data := #[] }, .string { data := #[] }, .string { data := #[] }, .slice none 0 0, .slice none 0 0]).alloc _).alloc _).drew, ((blk_newAt (by simp)).alloc _).drew, (blk_newAt (by simp)).drew, ?_⟩
  exact ((((Below.refl _ w).alloc (Nat.le_refl _) _).alloc (by simp) _).alloc (by simp; omega) _).drew
theorem put_leaf {w W W' : World} {cs : List (Nat × TypeId × Array Value)} {bs : List NB} (h : EnW w cs bs W) (hr0 : RoomsAt w) {x : Nd} (hnx : ∀ W, NdAt W x (x.v none 0 none 0)) (hrow : ∀ g, g ∉ rowsOf (x.v none 0 none 0)) {g : Nat} (hlo : w.heap.size ≤ g) (hg : W.grownBy W' (some g)) (hblk : Blk W' g 26 #[.int .i64 x.kind, .string x.code, .string x.value, .string x.path, .slice none x.bytes.length 0, .slice none x.kids.length 0]) (hcs : ∀ p ∈ cs, p.1 ≠ g) (hn : ∀ b ∈ bs, b.g ≠ g ∧ g ∉ b.rows) : EnW w cs (⟨g, x, none, 0, none, 0⟩ :: bs) W' :=
  h.put hr0 hlo hg hblk (hnx _) (hrow _) hcs hn
set_option maxHeartbeats 12800000 in
set_option maxRecDepth 100000 in
theorem pa9 {u0 u5 u6 u7 u8 u9 u10 u11 u12 u13 u14 u15 u16 u17 u18 u19 u20 u21 u22 u23 u24 u25 u26 u27 u28 u29 u30 u31 u32 u33 u34 u35 u36 u37 u38 u39 u40 u41 u42 u43 u44 u45 u46 u47 u48 u49 u50 u51 u52 u53 u54 u55 u56 u57 u58 u59 u60 u61 u62 u63 u64 u65 u66 u67 u68 u69 u70 u71 u72 u73 u74 u75 u76 u77 u78 u79 u80 u81 u82 u83 u84 u85 u86 u87 u88 u89 u90 u91 u92 u93 u94 u95 u96 u97 u98 u99 u100 u101 u102 u103 u104 u105 u106 u107 u108 u109 u110 u111 u112 u113 u114 u115 u116 u117 u118 u119 u120 u121 u122 u123 u124 u125 u126 u127 u128 u129 u130 u131 u132 u133 u134 u135 u136 u137 u138 u139 u140 u141 u142 u143 u144 u145 : Value} {ds : List Deferred} {Q : Exit → Act → World → Prop} (gc gv i k : Nat) (s1 s2 : ByteArray) (cs : List (Nat × TypeId × Array Value)) (w w0 : World) (hr0 : RoomsAt w) (h : EnW w cs [] w0) (hi : i < 6) (hk : k < 4) (lc : gc < w0.heap.size) (lv : gv < w0.heap.size) (c1 : w0.cell? ⟨gc, i, none⟩ = some (.string s1)) (c2 : w0.cell? ⟨gv, k, none⟩ = some (.string s2)) (hs1 : s1.size ≤ 9223372036854775807) (hs2 : s2.size ≤ 9223372036854775807)
    (hQ : ∀ (z28 z29 z30 z31 z32 z33 z34 z35 z36 : Value) (g : Nat) (V : World), (∀ p ∈ cs, p.1 ≠ g) → EnW w cs [⟨g, leafE s1 s2, none, 0, none, 0⟩] V → Q .normal ⟨#[u0, .slice (some ⟨gc, 0, none⟩) 6 6, .slice (some ⟨gv, 0, none⟩) 4 4, .int .i64 (i : Int), .int .i64 (k : Int), .pointer (some ⟨g, 0, none⟩), u6, u7, u8, u9, u10, u11, u12, u13, u14, u15, u16, u17, u18, u19, u20, u21, u22, u23, u24, u25, u26, u27, z28, z29, z30, z31, z32, z33, z34, z35, z36, u37, u38, u39, u40, u41, u42, u43, u44, u45, u46, u47, u48, u49, u50, u51, u52, u53, u54, u55, u56, u57, u58, u59, u60, u61, u62, u63, u64, u65, u66, u67, u68, u69, u70, u71, u72, u73, u74, u75, u76, u77, u78, u79, u80, u81, u82, u83, u84, u85, u86, u87, u88, u89, u90, u91, u92, u93, u94, u95, u96, u97, u98, u99, u100, u101, u102, u103, u104, u105, u106, u107, u108, u109, u110, u111, u112, u113, u114, u115, u116, u117, u118, u119, u120, u121, u122, u123, u124, u125, u126, u127, u128, u129, u130, u131, u132, u133, u134, u135, u136, u137, u138, u139, u140, u141, u142, u143, u144, u145], ds⟩ V) :
    Code.wp Tryz.prog (part Tryz.f15 [1, 1, 1, 0, 1, 2, 2, 1, 0, 2, 1, 2, 2, 1, 0, 2, 0]) Q ⟨#[u0, .slice (some ⟨gc, 0, none⟩) 6 6, .slice (some ⟨gv, 0, none⟩) 4 4, .int .i64 (i : Int), .int .i64 (k : Int), u5, u6, u7, u8, u9, u10, u11, u12, u13, u14, u15, u16, u17, u18, u19, u20, u21, u22, u23, u24, u25, u26, u27, u28, u29, u30, u31, u32, u33, u34, u35, u36, u37, u38, u39, u40, u41, u42, u43, u44, u45, u46, u47, u48, u49, u50, u51, u52, u53, u54, u55, u56, u57, u58, u59, u60, u61, u62, u63, u64, u65, u66, u67, u68, u69, u70, u71, u72, u73, u74, u75, u76, u77, u78, u79, u80, u81, u82, u83, u84, u85, u86, u87, u88, u89, u90, u91, u92, u93, u94, u95, u96, u97, u98, u99, u100, u101, u102, u103, u104, u105, u106, u107, u108, u109, u110, u111, u112, u113, u114, u115, u116, u117, u118, u119, u120, u121, u122, u123, u124, u125, u126, u127, u128, u129, u130, u131, u132, u133, u134, u135, u136, u137, u138, u139, u140, u141, u142, u143, u144, u145], ds⟩ w0 := by
  conv => arg 2; whnf
  have HQ := Lib.hid hQ
  have HS : Hid (∀ V : World, Below w0.heap.size w0 V → (fun V : World => V.cell? ⟨gc, i, none⟩ = some (.string s1) ∧ V.cell? ⟨gv, k, none⟩ = some (.string s2)) V) := Lib.hid (fun V hb => ⟨(hb.cell (p := ⟨gc, i, none⟩) lc).trans c1, (hb.cell (p := ⟨gv, k, none⟩) lv).trans c2⟩)
  have HB0 : Hid (Below w0.heap.size w0 w0.drew) := Lib.hid (Below.refl _ _).drew
  have HP := Lib.hid (And.intro hr0 (And.intro h (And.intro hs1 hs2)))
  have i1 : (0 : Int) ≤ (i : Int) := by omega
  have i2 : (i : Int) < 6 := by omega
  have i3 : (0 : Int) ≤ (k : Int) := by omega
  have i4 : (k : Int) < 4 := by omega
  clear hQ h hr0 c1 c2 hs1 hs2 lc lv
  refine wp_region_noPanic ?_
  refine wp_region_held_drew (S := (fun V : World => V.cell? ⟨gc, i, none⟩ = some (.string s1) ∧ V.cell? ⟨gv, k, none⟩ = some (.string s2))) (by kernel_rfl) ?_ (fun hHeld0 => ?_)
  · exact HS.out _ HB0.out
  refine wpAnyH_take (i := 0) (v := ?_) rfl (by kernel_rfl) (by kernel_rfl) (by kernel_rfl) (fun _ _ _ h => h) (Or.inl ⟨by rfl, ?_⟩) hHeld0 ?_
  rotate_left
  · (intro w hSw; (try dsimp only at hSw); go_simp <;> with_reducible rfl)
  try simp only [Act.put, sA, sB, sC]
  refine wpAnyH_take (i := 1) (v := ?_) rfl (by kernel_rfl) (by kernel_rfl) (by kernel_rfl) (fun _ _ _ h => h) (Or.inl ⟨by rfl, ?_⟩) hHeld0 ?_
  rotate_left
  · (intro w hSw; (try dsimp only at hSw); go_simp <;> with_reducible rfl)
  try simp only [Act.put, sA, sB, sC]
  refine wpAnyH_take (i := 2) (v := ?_) rfl (by kernel_rfl) (by kernel_rfl) (by kernel_rfl) (fun _ _ _ h => h) (Or.inl ⟨by rfl, ?_⟩) hHeld0 ?_
  rotate_left
  · (intro w hSw; (try dsimp only at hSw); go_simp <;> with_reducible rfl)
  try simp only [Act.put, sA, sB, sC]
  refine wpAnyH_take (i := 3) (v := ?_) rfl (by kernel_rfl) (by kernel_rfl) (by kernel_rfl) (fun _ _ _ h => h) (Or.inl ⟨by rfl, ?_⟩) hHeld0 ?_
  rotate_left
  · (intro w hSw; (try dsimp only at hSw); go_simp <;> with_reducible rfl)
  try simp only [Act.put, sA, sB, sC]
  refine wpAnyH_take (i := 4) (v := ?_) rfl (by kernel_rfl) (by kernel_rfl) (by kernel_rfl) (fun _ _ _ h => h) (Or.inl ⟨by rfl, ?_⟩) hHeld0 ?_
  rotate_left
  · (intro w hSw; (try dsimp only at hSw); go_simp <;> with_reducible rfl)
  try simp only [Act.put, sA, sB, sC]
  refine wpAnyH_take (i := 5) (v := ?_) rfl (by kernel_rfl) (by kernel_rfl) (by kernel_rfl) (fun _ _ _ h => h) (Or.inl ⟨by rfl, ?_⟩) hHeld0 ?_
  rotate_left
  · (intro w hSw; (try dsimp only at hSw); go_simp <;> with_reducible rfl)
  try simp only [Act.put, sA, sB, sC]
  refine wpAnyH_take (i := 6) (v := ?_) rfl (by kernel_rfl) (by kernel_rfl) (by kernel_rfl) (fun _ _ _ h => h) (Or.inl ⟨by rfl, ?_⟩) hHeld0 ?_
  rotate_left
  · (intro w hSw; (try dsimp only at hSw); go_simp <;> with_reducible rfl)
  try simp only [Act.put, sA, sB, sC]
  refine wpAnyH_take (i := 7) (v := ?_) rfl (by kernel_rfl) (by kernel_rfl) (by kernel_rfl) (fun _ _ _ h => h) (Or.inl ⟨by rfl, ?_⟩) hHeld0 ?_
  rotate_left
  · (intro w hSw; (try dsimp only at hSw); go_simp <;> with_reducible rfl)
  try simp only [Act.put, sA, sB, sC]
  refine wpAnyH_take (i := 8) (v := ?_) rfl (by kernel_rfl) (by kernel_rfl) (by kernel_rfl) (fun _ _ _ h => h) (Or.inl ⟨by rfl, ?_⟩) hHeld0 ?_
  rotate_left
  · (intro w hSw; (try dsimp only at hSw); go_simp <;> with_reducible rfl)
  try simp only [Act.put, sA, sB, sC]
  refine wpAnyH_ready (rs := [9]) (by kernel_rfl) (by simp) ?_
  refine AllReadyH.cons rfl (fun K hK => ?_) AllReadyH.nil
  go_simp
  have HB1 := Lib.hid (HB0.out.alloc HB0.out.size (.cells #[.int .i64 0, .string { data := #[] }, .string { data := #[] }, .string { data := #[] }, .slice none 0 0, .slice none 0 0] 26))
  have HBB : Hid (Below w0.heap.size w0 (w0.alloc (.cells #[.int .i64 0, .string { data := #[] }, .string { data := #[] }, .string { data := #[] }, .slice none 0 0, .slice none 0 0] 26)).drew) := Lib.hid HB1.out
  have HQ1 : Hid (Blk (w0.alloc (.cells #[.int .i64 0, .string { data := #[] }, .string { data := #[] }, .string { data := #[] }, .slice none 0 0, .slice none 0 0] 26)).drew w0.heap.size 26 #[.int .i64 0, .string { data := #[] }, .string { data := #[] }, .string { data := #[] }, .slice none 0 0, .slice none 0 0]) := Lib.hid (Blk.new w0 _ _).drew
  generalize (w0.alloc (.cells #[.int .i64 0, .string { data := #[] }, .string { data := #[] }, .string { data := #[] }, .slice none 0 0, .slice none 0 0] 26)).drew = W3 at HBB HQ1 ⊢
  refine hK.out _ _ ?_ (fun hHeld1 => ?_)
  · exact HS.out _ HBB.out
  clear hK K hHeld0
  try simp only [Act.put, sA, sB, sC]
  refine wpAnyH_ready (rs := [10]) (by kernel_rfl) (by simp) ?_
  refine AllReadyH.cons rfl (fun K hK => ?_) AllReadyH.nil
  have q5 := HQ1.out
  obtain ⟨d0, d1, d2, d3, d4, d5⟩ := cells6 q5
  have fz0 := (q5).frozen 0
  have fz1 := (q5).frozen 1
  have fz2 := (q5).frozen 2
  have fz3 := (q5).frozen 3
  have fz4 := (q5).frozen 4
  have fz5 := (q5).frozen 5
  have l6 := (q5).lt
  obtain ⟨VV, hV, hg, q6⟩ := six_stores (.int .i64 1) (.string s1) (.string s2) (.string { data := #[] }) (.slice none 0 0) (.slice none 0 0) (q5)
  have HF : Hid (Below w0.heap.size w0 VV ∧ EnW w cs [⟨w0.heap.size, leafE s1 s2, none, 0, none, 0⟩] VV) := Lib.hid (by
    have hb := HBB.out.grown hg HBB.out.size (fun k e => by injection e with e; omega)
    exact ⟨hb, (HP.out.2.1.on HBB.out).put HP.out.1 HP.out.2.1.ctx.below.size hg q6 (leafE_at HP.out.2.2.1 HP.out.2.2.2 _) (leafE_rows _ _ _) (fun p hp e => by have := HP.out.2.1.blt.1 p hp; omega) (fun b hb => by cases hb)⟩)
  clear hg q5 q6
  go_simp
  rw [← hV]
  clear hV d0 d1 d2 d3 d4 d5 fz0 fz1 fz2 fz3 fz4 fz5 l6
  refine hK.out _ _ ?_ (fun hHeld2 => ?_)
  · exact HS.out _ HF.out.1
  clear hK K hHeld1
  try simp only [Act.put, sA, sB, sC]
  try simp only [Act.put, List.getElem_toArray, List.getElem_cons_succ, List.getElem_cons_zero, sA, sB, sC]
  refine wpAnyH_done (by kernel_rfl) ?_ _
  refine NoPanic.normal (HQ.out _ _ _ _ _ _ _ _ _ _ _ (fun p hp e => by have := HP.out.2.1.blt.1 p hp; omega) HF.out.2)
set_option maxHeartbeats 12800000 in
set_option maxRecDepth 100000 in
theorem pa10 {u0 u1 u2 u3 u4 u6 u7 u8 u9 u10 u11 u12 u13 u14 u15 u16 u17 u18 u19 u20 u21 u22 u23 u24 u25 u26 u27 u28 u29 u30 u31 u32 u33 u34 u35 u36 u37 u38 u39 u40 u41 u42 u43 u44 u45 u46 u47 u48 u49 u50 u51 u52 u53 u54 u55 u56 u57 u58 u59 u60 u61 u62 u63 u64 u65 u66 u67 u68 u69 u70 u71 u72 u73 u74 u75 u76 u77 u78 u79 u80 u81 u82 u83 u84 u85 u86 u87 u88 u89 u90 u91 u92 u93 u94 u95 u96 u97 u98 u99 u100 u101 u102 u103 u104 u105 u106 u107 u108 u109 u110 u111 u112 u113 u114 u115 u116 u117 u118 u119 u120 u121 u122 u123 u124 u125 u126 u127 u128 u129 u130 u131 u132 u133 u134 u135 u136 u137 u138 u139 u140 u141 u142 u143 u144 u145 : Value} {ds : List Deferred} {Q : Exit → Act → World → Prop} (g5 : Nat) (x : Nd) (cs : List (Nat × TypeId × Array Value)) (w w0 : World) (hr0 : RoomsAt w) (h : EnW w cs [⟨g5, x, none, 0, none, 0⟩] w0) (hnx : ∀ W, NdAt W x (x.v none 0 none 0)) (hrow : ∀ g, g ∉ rowsOf (x.v none 0 none 0))
    (hQ : ∀ (z37 z38 z39 : Value) (g6 g7 g8 : Nat) (V : World), (g6 ≠ g5 ∧ g7 ≠ g5 ∧ g8 ≠ g5 ∧ g7 ≠ g6 ∧ g8 ≠ g6 ∧ g8 ≠ g7) → (∀ p ∈ cs, p.1 ≠ g6 ∧ p.1 ≠ g7 ∧ p.1 ≠ g8) → EnW w cs [⟨g8, x, none, 0, none, 0⟩, ⟨g7, x, none, 0, none, 0⟩, ⟨g6, x, none, 0, none, 0⟩, ⟨g5, x, none, 0, none, 0⟩] V → Q .normal ⟨#[u0, u1, u2, u3, u4, .pointer (some ⟨g5, 0, none⟩), .pointer (some ⟨g6, 0, none⟩), .pointer (some ⟨g7, 0, none⟩), .pointer (some ⟨g8, 0, none⟩), u9, u10, u11, u12, u13, u14, u15, u16, u17, u18, u19, u20, u21, u22, u23, u24, u25, u26, u27, u28, u29, u30, u31, u32, u33, u34, u35, u36, z37, z38, z39, u40, u41, u42, u43, u44, u45, u46, u47, u48, u49, u50, u51, u52, u53, u54, u55, u56, u57, u58, u59, u60, u61, u62, u63, u64, u65, u66, u67, u68, u69, u70, u71, u72, u73, u74, u75, u76, u77, u78, u79, u80, u81, u82, u83, u84, u85, u86, u87, u88, u89, u90, u91, u92, u93, u94, u95, u96, u97, u98, u99, u100, u101, u102, u103, u104, u105, u106, u107, u108, u109, u110, u111, u112, u113, u114, u115, u116, u117, u118, u119, u120, u121, u122, u123, u124, u125, u126, u127, u128, u129, u130, u131, u132, u133, u134, u135, u136, u137, u138, u139, u140, u141, u142, u143, u144, u145], ds⟩ V) :
    Code.wp Tryz.prog (part Tryz.f15 [1, 1, 1, 0, 1, 2, 2, 1, 0, 2, 1, 2, 2, 1, 0, 2, 1, 0]) Q ⟨#[u0, u1, u2, u3, u4, .pointer (some ⟨g5, 0, none⟩), u6, u7, u8, u9, u10, u11, u12, u13, u14, u15, u16, u17, u18, u19, u20, u21, u22, u23, u24, u25, u26, u27, u28, u29, u30, u31, u32, u33, u34, u35, u36, u37, u38, u39, u40, u41, u42, u43, u44, u45, u46, u47, u48, u49, u50, u51, u52, u53, u54, u55, u56, u57, u58, u59, u60, u61, u62, u63, u64, u65, u66, u67, u68, u69, u70, u71, u72, u73, u74, u75, u76, u77, u78, u79, u80, u81, u82, u83, u84, u85, u86, u87, u88, u89, u90, u91, u92, u93, u94, u95, u96, u97, u98, u99, u100, u101, u102, u103, u104, u105, u106, u107, u108, u109, u110, u111, u112, u113, u114, u115, u116, u117, u118, u119, u120, u121, u122, u123, u124, u125, u126, u127, u128, u129, u130, u131, u132, u133, u134, u135, u136, u137, u138, u139, u140, u141, u142, u143, u144, u145], ds⟩ w0 := by
  conv => arg 2; whnf
  have HQ := Lib.hid hQ
  have HS : Hid (∀ V : World, Below w0.heap.size w0 V → (fun V : World => V.cell? ⟨g5, 0, none⟩ = some (.int .i64 x.kind) ∧ V.cell? ⟨g5, 1, none⟩ = some (.string x.code) ∧ V.cell? ⟨g5, 2, none⟩ = some (.string x.value) ∧ V.cell? ⟨g5, 3, none⟩ = some (.string x.path) ∧ V.cell? ⟨g5, 4, none⟩ = some (.slice none x.bytes.length 0) ∧ V.cell? ⟨g5, 5, none⟩ = some (.slice none x.kids.length 0)) V) := Lib.hid (fun V hb => cells6 ((h.on hb).ctx.b0.blk))
  have HB0 : Hid (Below w0.heap.size w0 w0.drew) := Lib.hid (Below.refl _ _).drew
  have HP := Lib.hid (And.intro hr0 (And.intro h (And.intro hnx hrow)))
  clear hQ h hr0 hnx hrow
  refine wp_region_noPanic ?_
  refine wp_region_held_drew (S := (fun V : World => V.cell? ⟨g5, 0, none⟩ = some (.int .i64 x.kind) ∧ V.cell? ⟨g5, 1, none⟩ = some (.string x.code) ∧ V.cell? ⟨g5, 2, none⟩ = some (.string x.value) ∧ V.cell? ⟨g5, 3, none⟩ = some (.string x.path) ∧ V.cell? ⟨g5, 4, none⟩ = some (.slice none x.bytes.length 0) ∧ V.cell? ⟨g5, 5, none⟩ = some (.slice none x.kids.length 0))) (by kernel_rfl) ?_ (fun hHeld0 => ?_)
  · exact HS.out _ HB0.out
  refine wpAnyH_take (i := 0) (v := ?_) rfl (by kernel_rfl) (by kernel_rfl) (by kernel_rfl) (fun _ _ _ h => h) (Or.inl ⟨by rfl, ?_⟩) hHeld0 ?_
  rotate_left
  · (intro w hSw; (try dsimp only at hSw); go_simp <;> with_reducible rfl)
  try simp only [Act.put, sA, sB, sC]
  refine wpAnyH_take (i := 1) (v := ?_) rfl (by kernel_rfl) (by kernel_rfl) (by kernel_rfl) (fun _ _ _ h => h) (Or.inl ⟨by rfl, ?_⟩) hHeld0 ?_
  rotate_left
  · (intro w hSw; (try dsimp only at hSw); go_simp <;> with_reducible rfl)
  try simp only [Act.put, sA, sB, sC]
  refine wpAnyH_take (i := 2) (v := ?_) rfl (by kernel_rfl) (by kernel_rfl) (by kernel_rfl) (fun _ _ _ h => h) (Or.inl ⟨by rfl, ?_⟩) hHeld0 ?_
  rotate_left
  · (intro w hSw; (try dsimp only at hSw); go_simp <;> with_reducible rfl)
  try simp only [Act.put, sA, sB, sC]
  refine wpAnyH_ready (rs := [3, 4, 5]) (by kernel_rfl) (by simp) ?_
  refine AllReadyH.cons rfl (fun K hK => ?_) ?_
  · go_simp
    have HB1 := Lib.hid (HB0.out.alloc HB0.out.size (.cells #[.int .i64 0, .string { data := #[] }, .string { data := #[] }, .string { data := #[] }, .slice none 0 0, .slice none 0 0] 26))
    refine hK.out _ _ ?_ (fun hHeld1 => ?_)
    · exact HS.out _ HB1.out
    clear hK K hHeld0
    try simp only [Act.put, sA, sB, sC]
    refine wpAnyH_ready (rs := [4, 5]) (by kernel_rfl) (by simp) ?_
    refine AllReadyH.cons rfl (fun K hK => ?_) ?_
    · go_simp
      have HB2 := Lib.hid (HB1.out.alloc HB1.out.size (.cells #[.int .i64 0, .string { data := #[] }, .string { data := #[] }, .string { data := #[] }, .slice none 0 0, .slice none 0 0] 26))
      refine hK.out _ _ ?_ (fun hHeld2 => ?_)
      · exact HS.out _ HB2.out
      clear hK K hHeld1
      try simp only [Act.put, sA, sB, sC]
      refine wpAnyH_ready (rs := [5]) (by kernel_rfl) (by simp) ?_
      refine AllReadyH.cons rfl (fun K hK => ?_) AllReadyH.nil
      go_simp
      have HB3 := Lib.hid (HB2.out.alloc HB2.out.size (.cells #[.int .i64 0, .string { data := #[] }, .string { data := #[] }, .string { data := #[] }, .slice none 0 0, .slice none 0 0] 26))
      obtain ⟨q1, q2, q3, q4⟩ := three_box w0
      have HE := Lib.hid (HP.out.2.1.on q4)
      have HBB := Lib.hid q4
      have HZ := Lib.hid (And.intro q1 (And.intro q2 q3))
      clear q1 q2 q3 q4
      generalize (((w0.alloc _).alloc _).alloc _).drew = W3 at HZ HE HBB ⊢
      have HN5 : Hid (g5 < w0.heap.size) := Lib.hid (HP.out.2.1.blt.2 _ (List.mem_singleton.2 rfl)).1
      refine hK.out _ _ ?_ (fun hHeld3 => ?_)
      · exact HS.out _ HBB.out
      clear hK K hHeld2
      try simp only [Act.put, sA, sB, sC]
      refine wpAnyH_ready (rs := [6]) (by kernel_rfl) (by simp) ?_
      refine AllReadyH.cons rfl (fun K hK => ?_) AllReadyH.nil
      have q5 := HZ.out.1
      obtain ⟨d0, d1, d2, d3, d4, d5⟩ := cells6 q5
      have fz0 := (q5).frozen 0
      have fz1 := (q5).frozen 1
      have fz2 := (q5).frozen 2
      have fz3 := (q5).frozen 3
      have fz4 := (q5).frozen 4
      have fz5 := (q5).frozen 5
      have l6 := (q5).lt
      obtain ⟨VV1, hV, hg, q6⟩ := six_stores (.int .i64 x.kind) (.string x.code) (.string x.value) (.string x.path) (.slice none x.bytes.length 0) (.slice none x.kids.length 0) (q5)
      have HE1 := Lib.hid (put_leaf HE.out HP.out.1 HP.out.2.2.1 HP.out.2.2.2 (by have := HP.out.2.1.ctx.below.size; omega) hg q6 (fun p hp e => by have := HP.out.2.1.blt.1 p hp; omega) (by have hg5 := HN5.out; simp only [List.mem_cons, List.not_mem_nil, or_false]; rintro c (rfl) <;> (dsimp only; exact ⟨by omega, HP.out.2.2.2 _⟩)))
      have HBB1 := Lib.hid (HBB.out.grown hg HBB.out.size (fun k e => by injection e with e; omega))
      have HZ1 := Lib.hid (And.intro (True.intro) (And.intro (HZ.out.2.1.grown hg (fun e => by injection e with e; omega)) (HZ.out.2.2.grown hg (fun e => by injection e with e; omega))))
      clear hg q5 q6
      go_simp
      rw [← hV]
      clear hV d0 d1 d2 d3 d4 d5 fz0 fz1 fz2 fz3 fz4 fz5 l6
      refine hK.out _ _ ?_ (fun hHeld4 => ?_)
      · exact HS.out _ HBB1.out
      clear hK K hHeld3
      try simp only [Act.put, sA, sB, sC]
      refine wpAnyH_ready (rs := [7]) (by kernel_rfl) (by simp) ?_
      refine AllReadyH.cons rfl (fun K hK => ?_) AllReadyH.nil
      have q5 := HZ1.out.2.1
      obtain ⟨d0, d1, d2, d3, d4, d5⟩ := cells6 q5
      have fz0 := (q5).frozen 0
      have fz1 := (q5).frozen 1
      have fz2 := (q5).frozen 2
      have fz3 := (q5).frozen 3
      have fz4 := (q5).frozen 4
      have fz5 := (q5).frozen 5
      have l6 := (q5).lt
      obtain ⟨VV2, hV, hg, q6⟩ := six_stores (.int .i64 x.kind) (.string x.code) (.string x.value) (.string x.path) (.slice none x.bytes.length 0) (.slice none x.kids.length 0) (q5)
      have HE2 := Lib.hid (put_leaf HE1.out HP.out.1 HP.out.2.2.1 HP.out.2.2.2 (by have := HP.out.2.1.ctx.below.size; omega) hg q6 (fun p hp e => by have := HP.out.2.1.blt.1 p hp; omega) (by have hg5 := HN5.out; simp only [List.mem_cons, List.not_mem_nil, or_false]; rintro c (rfl | rfl) <;> (dsimp only; exact ⟨by omega, HP.out.2.2.2 _⟩)))
      have HBB2 := Lib.hid (HBB1.out.grown hg HBB1.out.size (fun k e => by injection e with e; omega))
      have HZ2 := Lib.hid (And.intro (True.intro) (And.intro (True.intro) (HZ1.out.2.2.grown hg (fun e => by injection e with e; omega))))
      clear hg q5 q6
      go_simp
      rw [← hV]
      clear hV d0 d1 d2 d3 d4 d5 fz0 fz1 fz2 fz3 fz4 fz5 l6
      refine hK.out _ _ ?_ (fun hHeld5 => ?_)
      · exact HS.out _ HBB2.out
      clear hK K hHeld4
      try simp only [Act.put, sA, sB, sC]
      refine wpAnyH_ready (rs := [8]) (by kernel_rfl) (by simp) ?_
      refine AllReadyH.cons rfl (fun K hK => ?_) AllReadyH.nil
      have q5 := HZ2.out.2.2
      obtain ⟨d0, d1, d2, d3, d4, d5⟩ := cells6 q5
      have fz0 := (q5).frozen 0
      have fz1 := (q5).frozen 1
      have fz2 := (q5).frozen 2
      have fz3 := (q5).frozen 3
      have fz4 := (q5).frozen 4
      have fz5 := (q5).frozen 5
      have l6 := (q5).lt
      obtain ⟨VV3, hV, hg, q6⟩ := six_stores (.int .i64 x.kind) (.string x.code) (.string x.value) (.string x.path) (.slice none x.bytes.length 0) (.slice none x.kids.length 0) (q5)
      have HE3 := Lib.hid (put_leaf HE2.out HP.out.1 HP.out.2.2.1 HP.out.2.2.2 (by have := HP.out.2.1.ctx.below.size; omega) hg q6 (fun p hp e => by have := HP.out.2.1.blt.1 p hp; omega) (by have hg5 := HN5.out; simp only [List.mem_cons, List.not_mem_nil, or_false]; rintro c (rfl | rfl | rfl) <;> (dsimp only; exact ⟨by omega, HP.out.2.2.2 _⟩)))
      have HBB3 := Lib.hid (HBB2.out.grown hg HBB2.out.size (fun k e => by injection e with e; omega))
      clear hg q5 q6
      go_simp
      rw [← hV]
      clear hV d0 d1 d2 d3 d4 d5 fz0 fz1 fz2 fz3 fz4 fz5 l6
      refine hK.out _ _ ?_ (fun hHeld6 => ?_)
      · exact HS.out _ HBB3.out
      clear hK K hHeld5
      try simp only [Act.put, sA, sB, sC]
      try simp only [Act.put, List.getElem_toArray, List.getElem_cons_succ, List.getElem_cons_zero, sA, sB, sC]
      refine wpAnyH_done (by kernel_rfl) ?_ _
      refine NoPanic.normal (HQ.out _ _ _ _ _ _ _ (by have := HN5.out; omega) (fun p hp => by have := HP.out.2.1.blt.1 p hp; omega) HE3.out)
    refine AllReadyH.cons rfl (fun K hK => ?_) ?_
    · go_simp
      have HB2 := Lib.hid (HB1.out.alloc HB1.out.size (.cells #[.int .i64 0, .string { data := #[] }, .string { data := #[] }, .string { data := #[] }, .slice none 0 0, .slice none 0 0] 26))
      refine hK.out _ _ ?_ (fun hHeld2 => ?_)
      · exact HS.out _ HB2.out
      clear hK K hHeld1
      try simp only [Act.put, sA, sB, sC]
      refine wpAnyH_ready (rs := [4]) (by kernel_rfl) (by simp) ?_
      refine AllReadyH.cons rfl (fun K hK => ?_) AllReadyH.nil
      go_simp
      have HB3 := Lib.hid (HB2.out.alloc HB2.out.size (.cells #[.int .i64 0, .string { data := #[] }, .string { data := #[] }, .string { data := #[] }, .slice none 0 0, .slice none 0 0] 26))
      obtain ⟨q1, q2, q3, q4⟩ := three_box w0
      have HE := Lib.hid (HP.out.2.1.on q4)
      have HBB := Lib.hid q4
      have HZ := Lib.hid (And.intro q1 (And.intro q2 q3))
      clear q1 q2 q3 q4
      generalize (((w0.alloc _).alloc _).alloc _).drew = W3 at HZ HE HBB ⊢
      have HN5 : Hid (g5 < w0.heap.size) := Lib.hid (HP.out.2.1.blt.2 _ (List.mem_singleton.2 rfl)).1
      refine hK.out _ _ ?_ (fun hHeld3 => ?_)
      · exact HS.out _ HBB.out
      clear hK K hHeld2
      try simp only [Act.put, sA, sB, sC]
      refine wpAnyH_ready (rs := [6]) (by kernel_rfl) (by simp) ?_
      refine AllReadyH.cons rfl (fun K hK => ?_) AllReadyH.nil
      have q5 := HZ.out.1
      obtain ⟨d0, d1, d2, d3, d4, d5⟩ := cells6 q5
      have fz0 := (q5).frozen 0
      have fz1 := (q5).frozen 1
      have fz2 := (q5).frozen 2
      have fz3 := (q5).frozen 3
      have fz4 := (q5).frozen 4
      have fz5 := (q5).frozen 5
      have l6 := (q5).lt
      obtain ⟨VV1, hV, hg, q6⟩ := six_stores (.int .i64 x.kind) (.string x.code) (.string x.value) (.string x.path) (.slice none x.bytes.length 0) (.slice none x.kids.length 0) (q5)
      have HE1 := Lib.hid (put_leaf HE.out HP.out.1 HP.out.2.2.1 HP.out.2.2.2 (by have := HP.out.2.1.ctx.below.size; omega) hg q6 (fun p hp e => by have := HP.out.2.1.blt.1 p hp; omega) (by have hg5 := HN5.out; simp only [List.mem_cons, List.not_mem_nil, or_false]; rintro c (rfl) <;> (dsimp only; exact ⟨by omega, HP.out.2.2.2 _⟩)))
      have HBB1 := Lib.hid (HBB.out.grown hg HBB.out.size (fun k e => by injection e with e; omega))
      have HZ1 := Lib.hid (And.intro (True.intro) (And.intro (HZ.out.2.1.grown hg (fun e => by injection e with e; omega)) (HZ.out.2.2.grown hg (fun e => by injection e with e; omega))))
      clear hg q5 q6
      go_simp
      rw [← hV]
      clear hV d0 d1 d2 d3 d4 d5 fz0 fz1 fz2 fz3 fz4 fz5 l6
      refine hK.out _ _ ?_ (fun hHeld4 => ?_)
      · exact HS.out _ HBB1.out
      clear hK K hHeld3
      try simp only [Act.put, sA, sB, sC]
      refine wpAnyH_ready (rs := [7]) (by kernel_rfl) (by simp) ?_
      refine AllReadyH.cons rfl (fun K hK => ?_) AllReadyH.nil
      have q5 := HZ1.out.2.2
      obtain ⟨d0, d1, d2, d3, d4, d5⟩ := cells6 q5
      have fz0 := (q5).frozen 0
      have fz1 := (q5).frozen 1
      have fz2 := (q5).frozen 2
      have fz3 := (q5).frozen 3
      have fz4 := (q5).frozen 4
      have fz5 := (q5).frozen 5
      have l6 := (q5).lt
      obtain ⟨VV2, hV, hg, q6⟩ := six_stores (.int .i64 x.kind) (.string x.code) (.string x.value) (.string x.path) (.slice none x.bytes.length 0) (.slice none x.kids.length 0) (q5)
      have HE2 := Lib.hid (put_leaf HE1.out HP.out.1 HP.out.2.2.1 HP.out.2.2.2 (by have := HP.out.2.1.ctx.below.size; omega) hg q6 (fun p hp e => by have := HP.out.2.1.blt.1 p hp; omega) (by have hg5 := HN5.out; simp only [List.mem_cons, List.not_mem_nil, or_false]; rintro c (rfl | rfl) <;> (dsimp only; exact ⟨by omega, HP.out.2.2.2 _⟩)))
      have HBB2 := Lib.hid (HBB1.out.grown hg HBB1.out.size (fun k e => by injection e with e; omega))
      have HZ2 := Lib.hid (And.intro (True.intro) (And.intro (HZ1.out.2.1.grown hg (fun e => by injection e with e; omega)) (True.intro)))
      clear hg q5 q6
      go_simp
      rw [← hV]
      clear hV d0 d1 d2 d3 d4 d5 fz0 fz1 fz2 fz3 fz4 fz5 l6
      refine hK.out _ _ ?_ (fun hHeld5 => ?_)
      · exact HS.out _ HBB2.out
      clear hK K hHeld4
      try simp only [Act.put, sA, sB, sC]
      refine wpAnyH_ready (rs := [8]) (by kernel_rfl) (by simp) ?_
      refine AllReadyH.cons rfl (fun K hK => ?_) AllReadyH.nil
      have q5 := HZ2.out.2.1
      obtain ⟨d0, d1, d2, d3, d4, d5⟩ := cells6 q5
      have fz0 := (q5).frozen 0
      have fz1 := (q5).frozen 1
      have fz2 := (q5).frozen 2
      have fz3 := (q5).frozen 3
      have fz4 := (q5).frozen 4
      have fz5 := (q5).frozen 5
      have l6 := (q5).lt
      obtain ⟨VV3, hV, hg, q6⟩ := six_stores (.int .i64 x.kind) (.string x.code) (.string x.value) (.string x.path) (.slice none x.bytes.length 0) (.slice none x.kids.length 0) (q5)
      have HE3 := Lib.hid (put_leaf HE2.out HP.out.1 HP.out.2.2.1 HP.out.2.2.2 (by have := HP.out.2.1.ctx.below.size; omega) hg q6 (fun p hp e => by have := HP.out.2.1.blt.1 p hp; omega) (by have hg5 := HN5.out; simp only [List.mem_cons, List.not_mem_nil, or_false]; rintro c (rfl | rfl | rfl) <;> (dsimp only; exact ⟨by omega, HP.out.2.2.2 _⟩)))
      have HBB3 := Lib.hid (HBB2.out.grown hg HBB2.out.size (fun k e => by injection e with e; omega))
      clear hg q5 q6
      go_simp
      rw [← hV]
      clear hV d0 d1 d2 d3 d4 d5 fz0 fz1 fz2 fz3 fz4 fz5 l6
      refine hK.out _ _ ?_ (fun hHeld6 => ?_)
      · exact HS.out _ HBB3.out
      clear hK K hHeld5
      try simp only [Act.put, sA, sB, sC]
      try simp only [Act.put, List.getElem_toArray, List.getElem_cons_succ, List.getElem_cons_zero, sA, sB, sC]
      refine wpAnyH_done (by kernel_rfl) ?_ _
      refine NoPanic.normal (HQ.out _ _ _ _ _ _ _ (by have := HN5.out; omega) (fun p hp => by have := HP.out.2.1.blt.1 p hp; omega) HE3.out)
    exact AllReadyH.nil
  refine AllReadyH.cons rfl (fun K hK => ?_) ?_
  · go_simp
    have HB1 := Lib.hid (HB0.out.alloc HB0.out.size (.cells #[.int .i64 0, .string { data := #[] }, .string { data := #[] }, .string { data := #[] }, .slice none 0 0, .slice none 0 0] 26))
    refine hK.out _ _ ?_ (fun hHeld1 => ?_)
    · exact HS.out _ HB1.out
    clear hK K hHeld0
    try simp only [Act.put, sA, sB, sC]
    refine wpAnyH_ready (rs := [3, 5]) (by kernel_rfl) (by simp) ?_
    refine AllReadyH.cons rfl (fun K hK => ?_) ?_
    · go_simp
      have HB2 := Lib.hid (HB1.out.alloc HB1.out.size (.cells #[.int .i64 0, .string { data := #[] }, .string { data := #[] }, .string { data := #[] }, .slice none 0 0, .slice none 0 0] 26))
      refine hK.out _ _ ?_ (fun hHeld2 => ?_)
      · exact HS.out _ HB2.out
      clear hK K hHeld1
      try simp only [Act.put, sA, sB, sC]
      refine wpAnyH_ready (rs := [5]) (by kernel_rfl) (by simp) ?_
      refine AllReadyH.cons rfl (fun K hK => ?_) AllReadyH.nil
      go_simp
      have HB3 := Lib.hid (HB2.out.alloc HB2.out.size (.cells #[.int .i64 0, .string { data := #[] }, .string { data := #[] }, .string { data := #[] }, .slice none 0 0, .slice none 0 0] 26))
      obtain ⟨q1, q2, q3, q4⟩ := three_box w0
      have HE := Lib.hid (HP.out.2.1.on q4)
      have HBB := Lib.hid q4
      have HZ := Lib.hid (And.intro q1 (And.intro q2 q3))
      clear q1 q2 q3 q4
      generalize (((w0.alloc _).alloc _).alloc _).drew = W3 at HZ HE HBB ⊢
      have HN5 : Hid (g5 < w0.heap.size) := Lib.hid (HP.out.2.1.blt.2 _ (List.mem_singleton.2 rfl)).1
      refine hK.out _ _ ?_ (fun hHeld3 => ?_)
      · exact HS.out _ HBB.out
      clear hK K hHeld2
      try simp only [Act.put, sA, sB, sC]
      refine wpAnyH_ready (rs := [6]) (by kernel_rfl) (by simp) ?_
      refine AllReadyH.cons rfl (fun K hK => ?_) AllReadyH.nil
      have q5 := HZ.out.2.1
      obtain ⟨d0, d1, d2, d3, d4, d5⟩ := cells6 q5
      have fz0 := (q5).frozen 0
      have fz1 := (q5).frozen 1
      have fz2 := (q5).frozen 2
      have fz3 := (q5).frozen 3
      have fz4 := (q5).frozen 4
      have fz5 := (q5).frozen 5
      have l6 := (q5).lt
      obtain ⟨VV1, hV, hg, q6⟩ := six_stores (.int .i64 x.kind) (.string x.code) (.string x.value) (.string x.path) (.slice none x.bytes.length 0) (.slice none x.kids.length 0) (q5)
      have HE1 := Lib.hid (put_leaf HE.out HP.out.1 HP.out.2.2.1 HP.out.2.2.2 (by have := HP.out.2.1.ctx.below.size; omega) hg q6 (fun p hp e => by have := HP.out.2.1.blt.1 p hp; omega) (by have hg5 := HN5.out; simp only [List.mem_cons, List.not_mem_nil, or_false]; rintro c (rfl) <;> (dsimp only; exact ⟨by omega, HP.out.2.2.2 _⟩)))
      have HBB1 := Lib.hid (HBB.out.grown hg HBB.out.size (fun k e => by injection e with e; omega))
      have HZ1 := Lib.hid (And.intro (HZ.out.1.grown hg (fun e => by injection e with e; omega)) (And.intro (True.intro) (HZ.out.2.2.grown hg (fun e => by injection e with e; omega))))
      clear hg q5 q6
      go_simp
      rw [← hV]
      clear hV d0 d1 d2 d3 d4 d5 fz0 fz1 fz2 fz3 fz4 fz5 l6
      refine hK.out _ _ ?_ (fun hHeld4 => ?_)
      · exact HS.out _ HBB1.out
      clear hK K hHeld3
      try simp only [Act.put, sA, sB, sC]
      refine wpAnyH_ready (rs := [7]) (by kernel_rfl) (by simp) ?_
      refine AllReadyH.cons rfl (fun K hK => ?_) AllReadyH.nil
      have q5 := HZ1.out.1
      obtain ⟨d0, d1, d2, d3, d4, d5⟩ := cells6 q5
      have fz0 := (q5).frozen 0
      have fz1 := (q5).frozen 1
      have fz2 := (q5).frozen 2
      have fz3 := (q5).frozen 3
      have fz4 := (q5).frozen 4
      have fz5 := (q5).frozen 5
      have l6 := (q5).lt
      obtain ⟨VV2, hV, hg, q6⟩ := six_stores (.int .i64 x.kind) (.string x.code) (.string x.value) (.string x.path) (.slice none x.bytes.length 0) (.slice none x.kids.length 0) (q5)
      have HE2 := Lib.hid (put_leaf HE1.out HP.out.1 HP.out.2.2.1 HP.out.2.2.2 (by have := HP.out.2.1.ctx.below.size; omega) hg q6 (fun p hp e => by have := HP.out.2.1.blt.1 p hp; omega) (by have hg5 := HN5.out; simp only [List.mem_cons, List.not_mem_nil, or_false]; rintro c (rfl | rfl) <;> (dsimp only; exact ⟨by omega, HP.out.2.2.2 _⟩)))
      have HBB2 := Lib.hid (HBB1.out.grown hg HBB1.out.size (fun k e => by injection e with e; omega))
      have HZ2 := Lib.hid (And.intro (True.intro) (And.intro (True.intro) (HZ1.out.2.2.grown hg (fun e => by injection e with e; omega))))
      clear hg q5 q6
      go_simp
      rw [← hV]
      clear hV d0 d1 d2 d3 d4 d5 fz0 fz1 fz2 fz3 fz4 fz5 l6
      refine hK.out _ _ ?_ (fun hHeld5 => ?_)
      · exact HS.out _ HBB2.out
      clear hK K hHeld4
      try simp only [Act.put, sA, sB, sC]
      refine wpAnyH_ready (rs := [8]) (by kernel_rfl) (by simp) ?_
      refine AllReadyH.cons rfl (fun K hK => ?_) AllReadyH.nil
      have q5 := HZ2.out.2.2
      obtain ⟨d0, d1, d2, d3, d4, d5⟩ := cells6 q5
      have fz0 := (q5).frozen 0
      have fz1 := (q5).frozen 1
      have fz2 := (q5).frozen 2
      have fz3 := (q5).frozen 3
      have fz4 := (q5).frozen 4
      have fz5 := (q5).frozen 5
      have l6 := (q5).lt
      obtain ⟨VV3, hV, hg, q6⟩ := six_stores (.int .i64 x.kind) (.string x.code) (.string x.value) (.string x.path) (.slice none x.bytes.length 0) (.slice none x.kids.length 0) (q5)
      have HE3 := Lib.hid (put_leaf HE2.out HP.out.1 HP.out.2.2.1 HP.out.2.2.2 (by have := HP.out.2.1.ctx.below.size; omega) hg q6 (fun p hp e => by have := HP.out.2.1.blt.1 p hp; omega) (by have hg5 := HN5.out; simp only [List.mem_cons, List.not_mem_nil, or_false]; rintro c (rfl | rfl | rfl) <;> (dsimp only; exact ⟨by omega, HP.out.2.2.2 _⟩)))
      have HBB3 := Lib.hid (HBB2.out.grown hg HBB2.out.size (fun k e => by injection e with e; omega))
      clear hg q5 q6
      go_simp
      rw [← hV]
      clear hV d0 d1 d2 d3 d4 d5 fz0 fz1 fz2 fz3 fz4 fz5 l6
      refine hK.out _ _ ?_ (fun hHeld6 => ?_)
      · exact HS.out _ HBB3.out
      clear hK K hHeld5
      try simp only [Act.put, sA, sB, sC]
      try simp only [Act.put, List.getElem_toArray, List.getElem_cons_succ, List.getElem_cons_zero, sA, sB, sC]
      refine wpAnyH_done (by kernel_rfl) ?_ _
      refine NoPanic.normal (HQ.out _ _ _ _ _ _ _ (by have := HN5.out; omega) (fun p hp => by have := HP.out.2.1.blt.1 p hp; omega) HE3.out)
    refine AllReadyH.cons rfl (fun K hK => ?_) ?_
    · go_simp
      have HB2 := Lib.hid (HB1.out.alloc HB1.out.size (.cells #[.int .i64 0, .string { data := #[] }, .string { data := #[] }, .string { data := #[] }, .slice none 0 0, .slice none 0 0] 26))
      refine hK.out _ _ ?_ (fun hHeld2 => ?_)
      · exact HS.out _ HB2.out
      clear hK K hHeld1
      try simp only [Act.put, sA, sB, sC]
      refine wpAnyH_ready (rs := [3]) (by kernel_rfl) (by simp) ?_
      refine AllReadyH.cons rfl (fun K hK => ?_) AllReadyH.nil
      go_simp
      have HB3 := Lib.hid (HB2.out.alloc HB2.out.size (.cells #[.int .i64 0, .string { data := #[] }, .string { data := #[] }, .string { data := #[] }, .slice none 0 0, .slice none 0 0] 26))
      obtain ⟨q1, q2, q3, q4⟩ := three_box w0
      have HE := Lib.hid (HP.out.2.1.on q4)
      have HBB := Lib.hid q4
      have HZ := Lib.hid (And.intro q1 (And.intro q2 q3))
      clear q1 q2 q3 q4
      generalize (((w0.alloc _).alloc _).alloc _).drew = W3 at HZ HE HBB ⊢
      have HN5 : Hid (g5 < w0.heap.size) := Lib.hid (HP.out.2.1.blt.2 _ (List.mem_singleton.2 rfl)).1
      refine hK.out _ _ ?_ (fun hHeld3 => ?_)
      · exact HS.out _ HBB.out
      clear hK K hHeld2
      try simp only [Act.put, sA, sB, sC]
      refine wpAnyH_ready (rs := [6]) (by kernel_rfl) (by simp) ?_
      refine AllReadyH.cons rfl (fun K hK => ?_) AllReadyH.nil
      have q5 := HZ.out.2.2
      obtain ⟨d0, d1, d2, d3, d4, d5⟩ := cells6 q5
      have fz0 := (q5).frozen 0
      have fz1 := (q5).frozen 1
      have fz2 := (q5).frozen 2
      have fz3 := (q5).frozen 3
      have fz4 := (q5).frozen 4
      have fz5 := (q5).frozen 5
      have l6 := (q5).lt
      obtain ⟨VV1, hV, hg, q6⟩ := six_stores (.int .i64 x.kind) (.string x.code) (.string x.value) (.string x.path) (.slice none x.bytes.length 0) (.slice none x.kids.length 0) (q5)
      have HE1 := Lib.hid (put_leaf HE.out HP.out.1 HP.out.2.2.1 HP.out.2.2.2 (by have := HP.out.2.1.ctx.below.size; omega) hg q6 (fun p hp e => by have := HP.out.2.1.blt.1 p hp; omega) (by have hg5 := HN5.out; simp only [List.mem_cons, List.not_mem_nil, or_false]; rintro c (rfl) <;> (dsimp only; exact ⟨by omega, HP.out.2.2.2 _⟩)))
      have HBB1 := Lib.hid (HBB.out.grown hg HBB.out.size (fun k e => by injection e with e; omega))
      have HZ1 := Lib.hid (And.intro (HZ.out.1.grown hg (fun e => by injection e with e; omega)) (And.intro (HZ.out.2.1.grown hg (fun e => by injection e with e; omega)) (True.intro)))
      clear hg q5 q6
      go_simp
      rw [← hV]
      clear hV d0 d1 d2 d3 d4 d5 fz0 fz1 fz2 fz3 fz4 fz5 l6
      refine hK.out _ _ ?_ (fun hHeld4 => ?_)
      · exact HS.out _ HBB1.out
      clear hK K hHeld3
      try simp only [Act.put, sA, sB, sC]
      refine wpAnyH_ready (rs := [7]) (by kernel_rfl) (by simp) ?_
      refine AllReadyH.cons rfl (fun K hK => ?_) AllReadyH.nil
      have q5 := HZ1.out.1
      obtain ⟨d0, d1, d2, d3, d4, d5⟩ := cells6 q5
      have fz0 := (q5).frozen 0
      have fz1 := (q5).frozen 1
      have fz2 := (q5).frozen 2
      have fz3 := (q5).frozen 3
      have fz4 := (q5).frozen 4
      have fz5 := (q5).frozen 5
      have l6 := (q5).lt
      obtain ⟨VV2, hV, hg, q6⟩ := six_stores (.int .i64 x.kind) (.string x.code) (.string x.value) (.string x.path) (.slice none x.bytes.length 0) (.slice none x.kids.length 0) (q5)
      have HE2 := Lib.hid (put_leaf HE1.out HP.out.1 HP.out.2.2.1 HP.out.2.2.2 (by have := HP.out.2.1.ctx.below.size; omega) hg q6 (fun p hp e => by have := HP.out.2.1.blt.1 p hp; omega) (by have hg5 := HN5.out; simp only [List.mem_cons, List.not_mem_nil, or_false]; rintro c (rfl | rfl) <;> (dsimp only; exact ⟨by omega, HP.out.2.2.2 _⟩)))
      have HBB2 := Lib.hid (HBB1.out.grown hg HBB1.out.size (fun k e => by injection e with e; omega))
      have HZ2 := Lib.hid (And.intro (True.intro) (And.intro (HZ1.out.2.1.grown hg (fun e => by injection e with e; omega)) (True.intro)))
      clear hg q5 q6
      go_simp
      rw [← hV]
      clear hV d0 d1 d2 d3 d4 d5 fz0 fz1 fz2 fz3 fz4 fz5 l6
      refine hK.out _ _ ?_ (fun hHeld5 => ?_)
      · exact HS.out _ HBB2.out
      clear hK K hHeld4
      try simp only [Act.put, sA, sB, sC]
      refine wpAnyH_ready (rs := [8]) (by kernel_rfl) (by simp) ?_
      refine AllReadyH.cons rfl (fun K hK => ?_) AllReadyH.nil
      have q5 := HZ2.out.2.1
      obtain ⟨d0, d1, d2, d3, d4, d5⟩ := cells6 q5
      have fz0 := (q5).frozen 0
      have fz1 := (q5).frozen 1
      have fz2 := (q5).frozen 2
      have fz3 := (q5).frozen 3
      have fz4 := (q5).frozen 4
      have fz5 := (q5).frozen 5
      have l6 := (q5).lt
      obtain ⟨VV3, hV, hg, q6⟩ := six_stores (.int .i64 x.kind) (.string x.code) (.string x.value) (.string x.path) (.slice none x.bytes.length 0) (.slice none x.kids.length 0) (q5)
      have HE3 := Lib.hid (put_leaf HE2.out HP.out.1 HP.out.2.2.1 HP.out.2.2.2 (by have := HP.out.2.1.ctx.below.size; omega) hg q6 (fun p hp e => by have := HP.out.2.1.blt.1 p hp; omega) (by have hg5 := HN5.out; simp only [List.mem_cons, List.not_mem_nil, or_false]; rintro c (rfl | rfl | rfl) <;> (dsimp only; exact ⟨by omega, HP.out.2.2.2 _⟩)))
      have HBB3 := Lib.hid (HBB2.out.grown hg HBB2.out.size (fun k e => by injection e with e; omega))
      clear hg q5 q6
      go_simp
      rw [← hV]
      clear hV d0 d1 d2 d3 d4 d5 fz0 fz1 fz2 fz3 fz4 fz5 l6
      refine hK.out _ _ ?_ (fun hHeld6 => ?_)
      · exact HS.out _ HBB3.out
      clear hK K hHeld5
      try simp only [Act.put, sA, sB, sC]
      try simp only [Act.put, List.getElem_toArray, List.getElem_cons_succ, List.getElem_cons_zero, sA, sB, sC]
      refine wpAnyH_done (by kernel_rfl) ?_ _
      refine NoPanic.normal (HQ.out _ _ _ _ _ _ _ (by have := HN5.out; omega) (fun p hp => by have := HP.out.2.1.blt.1 p hp; omega) HE3.out)
    exact AllReadyH.nil
  refine AllReadyH.cons rfl (fun K hK => ?_) ?_
  · go_simp
    have HB1 := Lib.hid (HB0.out.alloc HB0.out.size (.cells #[.int .i64 0, .string { data := #[] }, .string { data := #[] }, .string { data := #[] }, .slice none 0 0, .slice none 0 0] 26))
    refine hK.out _ _ ?_ (fun hHeld1 => ?_)
    · exact HS.out _ HB1.out
    clear hK K hHeld0
    try simp only [Act.put, sA, sB, sC]
    refine wpAnyH_ready (rs := [3, 4]) (by kernel_rfl) (by simp) ?_
    refine AllReadyH.cons rfl (fun K hK => ?_) ?_
    · go_simp
      have HB2 := Lib.hid (HB1.out.alloc HB1.out.size (.cells #[.int .i64 0, .string { data := #[] }, .string { data := #[] }, .string { data := #[] }, .slice none 0 0, .slice none 0 0] 26))
      refine hK.out _ _ ?_ (fun hHeld2 => ?_)
      · exact HS.out _ HB2.out
      clear hK K hHeld1
      try simp only [Act.put, sA, sB, sC]
      refine wpAnyH_ready (rs := [4]) (by kernel_rfl) (by simp) ?_
      refine AllReadyH.cons rfl (fun K hK => ?_) AllReadyH.nil
      go_simp
      have HB3 := Lib.hid (HB2.out.alloc HB2.out.size (.cells #[.int .i64 0, .string { data := #[] }, .string { data := #[] }, .string { data := #[] }, .slice none 0 0, .slice none 0 0] 26))
      obtain ⟨q1, q2, q3, q4⟩ := three_box w0
      have HE := Lib.hid (HP.out.2.1.on q4)
      have HBB := Lib.hid q4
      have HZ := Lib.hid (And.intro q1 (And.intro q2 q3))
      clear q1 q2 q3 q4
      generalize (((w0.alloc _).alloc _).alloc _).drew = W3 at HZ HE HBB ⊢
      have HN5 : Hid (g5 < w0.heap.size) := Lib.hid (HP.out.2.1.blt.2 _ (List.mem_singleton.2 rfl)).1
      refine hK.out _ _ ?_ (fun hHeld3 => ?_)
      · exact HS.out _ HBB.out
      clear hK K hHeld2
      try simp only [Act.put, sA, sB, sC]
      refine wpAnyH_ready (rs := [6]) (by kernel_rfl) (by simp) ?_
      refine AllReadyH.cons rfl (fun K hK => ?_) AllReadyH.nil
      have q5 := HZ.out.2.1
      obtain ⟨d0, d1, d2, d3, d4, d5⟩ := cells6 q5
      have fz0 := (q5).frozen 0
      have fz1 := (q5).frozen 1
      have fz2 := (q5).frozen 2
      have fz3 := (q5).frozen 3
      have fz4 := (q5).frozen 4
      have fz5 := (q5).frozen 5
      have l6 := (q5).lt
      obtain ⟨VV1, hV, hg, q6⟩ := six_stores (.int .i64 x.kind) (.string x.code) (.string x.value) (.string x.path) (.slice none x.bytes.length 0) (.slice none x.kids.length 0) (q5)
      have HE1 := Lib.hid (put_leaf HE.out HP.out.1 HP.out.2.2.1 HP.out.2.2.2 (by have := HP.out.2.1.ctx.below.size; omega) hg q6 (fun p hp e => by have := HP.out.2.1.blt.1 p hp; omega) (by have hg5 := HN5.out; simp only [List.mem_cons, List.not_mem_nil, or_false]; rintro c (rfl) <;> (dsimp only; exact ⟨by omega, HP.out.2.2.2 _⟩)))
      have HBB1 := Lib.hid (HBB.out.grown hg HBB.out.size (fun k e => by injection e with e; omega))
      have HZ1 := Lib.hid (And.intro (HZ.out.1.grown hg (fun e => by injection e with e; omega)) (And.intro (True.intro) (HZ.out.2.2.grown hg (fun e => by injection e with e; omega))))
      clear hg q5 q6
      go_simp
      rw [← hV]
      clear hV d0 d1 d2 d3 d4 d5 fz0 fz1 fz2 fz3 fz4 fz5 l6
      refine hK.out _ _ ?_ (fun hHeld4 => ?_)
      · exact HS.out _ HBB1.out
      clear hK K hHeld3
      try simp only [Act.put, sA, sB, sC]
      refine wpAnyH_ready (rs := [7]) (by kernel_rfl) (by simp) ?_
      refine AllReadyH.cons rfl (fun K hK => ?_) AllReadyH.nil
      have q5 := HZ1.out.2.2
      obtain ⟨d0, d1, d2, d3, d4, d5⟩ := cells6 q5
      have fz0 := (q5).frozen 0
      have fz1 := (q5).frozen 1
      have fz2 := (q5).frozen 2
      have fz3 := (q5).frozen 3
      have fz4 := (q5).frozen 4
      have fz5 := (q5).frozen 5
      have l6 := (q5).lt
      obtain ⟨VV2, hV, hg, q6⟩ := six_stores (.int .i64 x.kind) (.string x.code) (.string x.value) (.string x.path) (.slice none x.bytes.length 0) (.slice none x.kids.length 0) (q5)
      have HE2 := Lib.hid (put_leaf HE1.out HP.out.1 HP.out.2.2.1 HP.out.2.2.2 (by have := HP.out.2.1.ctx.below.size; omega) hg q6 (fun p hp e => by have := HP.out.2.1.blt.1 p hp; omega) (by have hg5 := HN5.out; simp only [List.mem_cons, List.not_mem_nil, or_false]; rintro c (rfl | rfl) <;> (dsimp only; exact ⟨by omega, HP.out.2.2.2 _⟩)))
      have HBB2 := Lib.hid (HBB1.out.grown hg HBB1.out.size (fun k e => by injection e with e; omega))
      have HZ2 := Lib.hid (And.intro (HZ1.out.1.grown hg (fun e => by injection e with e; omega)) (And.intro (True.intro) (True.intro)))
      clear hg q5 q6
      go_simp
      rw [← hV]
      clear hV d0 d1 d2 d3 d4 d5 fz0 fz1 fz2 fz3 fz4 fz5 l6
      refine hK.out _ _ ?_ (fun hHeld5 => ?_)
      · exact HS.out _ HBB2.out
      clear hK K hHeld4
      try simp only [Act.put, sA, sB, sC]
      refine wpAnyH_ready (rs := [8]) (by kernel_rfl) (by simp) ?_
      refine AllReadyH.cons rfl (fun K hK => ?_) AllReadyH.nil
      have q5 := HZ2.out.1
      obtain ⟨d0, d1, d2, d3, d4, d5⟩ := cells6 q5
      have fz0 := (q5).frozen 0
      have fz1 := (q5).frozen 1
      have fz2 := (q5).frozen 2
      have fz3 := (q5).frozen 3
      have fz4 := (q5).frozen 4
      have fz5 := (q5).frozen 5
      have l6 := (q5).lt
      obtain ⟨VV3, hV, hg, q6⟩ := six_stores (.int .i64 x.kind) (.string x.code) (.string x.value) (.string x.path) (.slice none x.bytes.length 0) (.slice none x.kids.length 0) (q5)
      have HE3 := Lib.hid (put_leaf HE2.out HP.out.1 HP.out.2.2.1 HP.out.2.2.2 (by have := HP.out.2.1.ctx.below.size; omega) hg q6 (fun p hp e => by have := HP.out.2.1.blt.1 p hp; omega) (by have hg5 := HN5.out; simp only [List.mem_cons, List.not_mem_nil, or_false]; rintro c (rfl | rfl | rfl) <;> (dsimp only; exact ⟨by omega, HP.out.2.2.2 _⟩)))
      have HBB3 := Lib.hid (HBB2.out.grown hg HBB2.out.size (fun k e => by injection e with e; omega))
      clear hg q5 q6
      go_simp
      rw [← hV]
      clear hV d0 d1 d2 d3 d4 d5 fz0 fz1 fz2 fz3 fz4 fz5 l6
      refine hK.out _ _ ?_ (fun hHeld6 => ?_)
      · exact HS.out _ HBB3.out
      clear hK K hHeld5
      try simp only [Act.put, sA, sB, sC]
      try simp only [Act.put, List.getElem_toArray, List.getElem_cons_succ, List.getElem_cons_zero, sA, sB, sC]
      refine wpAnyH_done (by kernel_rfl) ?_ _
      refine NoPanic.normal (HQ.out _ _ _ _ _ _ _ (by have := HN5.out; omega) (fun p hp => by have := HP.out.2.1.blt.1 p hp; omega) HE3.out)
    refine AllReadyH.cons rfl (fun K hK => ?_) ?_
    · go_simp
      have HB2 := Lib.hid (HB1.out.alloc HB1.out.size (.cells #[.int .i64 0, .string { data := #[] }, .string { data := #[] }, .string { data := #[] }, .slice none 0 0, .slice none 0 0] 26))
      refine hK.out _ _ ?_ (fun hHeld2 => ?_)
      · exact HS.out _ HB2.out
      clear hK K hHeld1
      try simp only [Act.put, sA, sB, sC]
      refine wpAnyH_ready (rs := [3]) (by kernel_rfl) (by simp) ?_
      refine AllReadyH.cons rfl (fun K hK => ?_) AllReadyH.nil
      go_simp
      have HB3 := Lib.hid (HB2.out.alloc HB2.out.size (.cells #[.int .i64 0, .string { data := #[] }, .string { data := #[] }, .string { data := #[] }, .slice none 0 0, .slice none 0 0] 26))
      obtain ⟨q1, q2, q3, q4⟩ := three_box w0
      have HE := Lib.hid (HP.out.2.1.on q4)
      have HBB := Lib.hid q4
      have HZ := Lib.hid (And.intro q1 (And.intro q2 q3))
      clear q1 q2 q3 q4
      generalize (((w0.alloc _).alloc _).alloc _).drew = W3 at HZ HE HBB ⊢
      have HN5 : Hid (g5 < w0.heap.size) := Lib.hid (HP.out.2.1.blt.2 _ (List.mem_singleton.2 rfl)).1
      refine hK.out _ _ ?_ (fun hHeld3 => ?_)
      · exact HS.out _ HBB.out
      clear hK K hHeld2
      try simp only [Act.put, sA, sB, sC]
      refine wpAnyH_ready (rs := [6]) (by kernel_rfl) (by simp) ?_
      refine AllReadyH.cons rfl (fun K hK => ?_) AllReadyH.nil
      have q5 := HZ.out.2.2
      obtain ⟨d0, d1, d2, d3, d4, d5⟩ := cells6 q5
      have fz0 := (q5).frozen 0
      have fz1 := (q5).frozen 1
      have fz2 := (q5).frozen 2
      have fz3 := (q5).frozen 3
      have fz4 := (q5).frozen 4
      have fz5 := (q5).frozen 5
      have l6 := (q5).lt
      obtain ⟨VV1, hV, hg, q6⟩ := six_stores (.int .i64 x.kind) (.string x.code) (.string x.value) (.string x.path) (.slice none x.bytes.length 0) (.slice none x.kids.length 0) (q5)
      have HE1 := Lib.hid (put_leaf HE.out HP.out.1 HP.out.2.2.1 HP.out.2.2.2 (by have := HP.out.2.1.ctx.below.size; omega) hg q6 (fun p hp e => by have := HP.out.2.1.blt.1 p hp; omega) (by have hg5 := HN5.out; simp only [List.mem_cons, List.not_mem_nil, or_false]; rintro c (rfl) <;> (dsimp only; exact ⟨by omega, HP.out.2.2.2 _⟩)))
      have HBB1 := Lib.hid (HBB.out.grown hg HBB.out.size (fun k e => by injection e with e; omega))
      have HZ1 := Lib.hid (And.intro (HZ.out.1.grown hg (fun e => by injection e with e; omega)) (And.intro (HZ.out.2.1.grown hg (fun e => by injection e with e; omega)) (True.intro)))
      clear hg q5 q6
      go_simp
      rw [← hV]
      clear hV d0 d1 d2 d3 d4 d5 fz0 fz1 fz2 fz3 fz4 fz5 l6
      refine hK.out _ _ ?_ (fun hHeld4 => ?_)
      · exact HS.out _ HBB1.out
      clear hK K hHeld3
      try simp only [Act.put, sA, sB, sC]
      refine wpAnyH_ready (rs := [7]) (by kernel_rfl) (by simp) ?_
      refine AllReadyH.cons rfl (fun K hK => ?_) AllReadyH.nil
      have q5 := HZ1.out.2.1
      obtain ⟨d0, d1, d2, d3, d4, d5⟩ := cells6 q5
      have fz0 := (q5).frozen 0
      have fz1 := (q5).frozen 1
      have fz2 := (q5).frozen 2
      have fz3 := (q5).frozen 3
      have fz4 := (q5).frozen 4
      have fz5 := (q5).frozen 5
      have l6 := (q5).lt
      obtain ⟨VV2, hV, hg, q6⟩ := six_stores (.int .i64 x.kind) (.string x.code) (.string x.value) (.string x.path) (.slice none x.bytes.length 0) (.slice none x.kids.length 0) (q5)
      have HE2 := Lib.hid (put_leaf HE1.out HP.out.1 HP.out.2.2.1 HP.out.2.2.2 (by have := HP.out.2.1.ctx.below.size; omega) hg q6 (fun p hp e => by have := HP.out.2.1.blt.1 p hp; omega) (by have hg5 := HN5.out; simp only [List.mem_cons, List.not_mem_nil, or_false]; rintro c (rfl | rfl) <;> (dsimp only; exact ⟨by omega, HP.out.2.2.2 _⟩)))
      have HBB2 := Lib.hid (HBB1.out.grown hg HBB1.out.size (fun k e => by injection e with e; omega))
      have HZ2 := Lib.hid (And.intro (HZ1.out.1.grown hg (fun e => by injection e with e; omega)) (And.intro (True.intro) (True.intro)))
      clear hg q5 q6
      go_simp
      rw [← hV]
      clear hV d0 d1 d2 d3 d4 d5 fz0 fz1 fz2 fz3 fz4 fz5 l6
      refine hK.out _ _ ?_ (fun hHeld5 => ?_)
      · exact HS.out _ HBB2.out
      clear hK K hHeld4
      try simp only [Act.put, sA, sB, sC]
      refine wpAnyH_ready (rs := [8]) (by kernel_rfl) (by simp) ?_
      refine AllReadyH.cons rfl (fun K hK => ?_) AllReadyH.nil
      have q5 := HZ2.out.1
      obtain ⟨d0, d1, d2, d3, d4, d5⟩ := cells6 q5
      have fz0 := (q5).frozen 0
      have fz1 := (q5).frozen 1
      have fz2 := (q5).frozen 2
      have fz3 := (q5).frozen 3
      have fz4 := (q5).frozen 4
      have fz5 := (q5).frozen 5
      have l6 := (q5).lt
      obtain ⟨VV3, hV, hg, q6⟩ := six_stores (.int .i64 x.kind) (.string x.code) (.string x.value) (.string x.path) (.slice none x.bytes.length 0) (.slice none x.kids.length 0) (q5)
      have HE3 := Lib.hid (put_leaf HE2.out HP.out.1 HP.out.2.2.1 HP.out.2.2.2 (by have := HP.out.2.1.ctx.below.size; omega) hg q6 (fun p hp e => by have := HP.out.2.1.blt.1 p hp; omega) (by have hg5 := HN5.out; simp only [List.mem_cons, List.not_mem_nil, or_false]; rintro c (rfl | rfl | rfl) <;> (dsimp only; exact ⟨by omega, HP.out.2.2.2 _⟩)))
      have HBB3 := Lib.hid (HBB2.out.grown hg HBB2.out.size (fun k e => by injection e with e; omega))
      clear hg q5 q6
      go_simp
      rw [← hV]
      clear hV d0 d1 d2 d3 d4 d5 fz0 fz1 fz2 fz3 fz4 fz5 l6
      refine hK.out _ _ ?_ (fun hHeld6 => ?_)
      · exact HS.out _ HBB3.out
      clear hK K hHeld5
      try simp only [Act.put, sA, sB, sC]
      try simp only [Act.put, List.getElem_toArray, List.getElem_cons_succ, List.getElem_cons_zero, sA, sB, sC]
      refine wpAnyH_done (by kernel_rfl) ?_ _
      refine NoPanic.normal (HQ.out _ _ _ _ _ _ _ (by have := HN5.out; omega) (fun p hp => by have := HP.out.2.1.blt.1 p hp; omega) HE3.out)
    exact AllReadyH.nil
  exact AllReadyH.nil
end Go.Proofs.YtgjgcbemgmkncaaGreatDoor
namespace Go.Proofs.YtgjgcbemgmkncaaGreatDoor
open Go.RowKit Go.Shelf
set_option linter.unusedVariables false
set_option linter.unusedSimpArgs false
set_option maxRecDepth 20000

set_option maxHeartbeats 12800000 in
set_option maxRecDepth 100000 in
theorem pa14 {u0 u1 u2 u3 u4 u9 u10 u11 u12 u13 u14 u15 u16 u17 u18 u19 u20 u21 u22 u23 u24 u25 u26 u27 u28 u29 u30 u31 u32 u33 u34 u35 u36 u37 u38 u39 u40 u41 u42 u43 u44 u45 u46 u47 u48 u49 u50 u51 u52 u53 u54 u55 u56 u57 u58 u59 u60 u61 u62 u63 u64 u65 u66 u67 u68 u69 u70 u71 u72 u73 u74 u75 u76 u77 u78 u79 u80 u81 u82 u83 u84 u85 u86 u87 u88 u89 u90 u91 u92 u93 u94 u95 u96 u97 u98 u99 u100 u101 u102 u103 u104 u105 u106 u107 u108 u109 u110 u111 u112 u113 u114 u115 u116 u117 u118 u119 u120 u121 u122 u123 u124 u125 u126 u127 u128 u129 u130 u131 u132 u133 u134 u135 u136 u137 u138 u139 u140 u141 u142 u143 u144 u145 : Value} {ds : List Deferred} {Q : Exit → Act → World → Prop} (g5 g6 g7 g8 c5 c6 c7 c8 e5 e6 e7 e8 : Nat) (x5 x6 x7 x8 : Nd) (A5 A6 A7 A8 B5 B6 B7 B8 : Option Addr) (cs : List (Nat × TypeId × Array Value)) (bs : List NB) (w w0 : World) (h : EnW w cs bs w0) (h5 : (⟨g5, x5, A5, c5, B5, e5⟩ : NB) ∈ bs) (h6 : (⟨g6, x6, A6, c6, B6, e6⟩ : NB) ∈ bs) (h7 : (⟨g7, x7, A7, c7, B7, e7⟩ : NB) ∈ bs) (h8 : (⟨g8, x8, A8, c8, B8, e8⟩ : NB) ∈ bs)
    (hQ : ∀ (z46 z47 z48 z49 z50 z51 z52 z53 z54 z55 z56 z57 z58 z59 z60 z61 z62 z63 : Value) (V : World), Below w0.heap.size w0 V → Q .normal ⟨#[u0, u1, u2, u3, u4, .pointer (some ⟨g5, 0, none⟩), .pointer (some ⟨g6, 0, none⟩), .pointer (some ⟨g7, 0, none⟩), .pointer (some ⟨g8, 0, none⟩), u9, u10, u11, u12, u13, u14, u15, u16, u17, u18, u19, u20, u21, u22, u23, u24, u25, u26, u27, u28, u29, u30, u31, u32, u33, u34, u35, u36, u37, u38, u39, u40, u41, u42, u43, u44, u45, z46, z47, z48, z49, z50, z51, z52, z53, z54, z55, z56, z57, z58, z59, z60, z61, z62, z63, .bool false, u65, u66, u67, u68, u69, u70, u71, u72, u73, u74, u75, u76, u77, u78, u79, u80, u81, u82, u83, u84, u85, u86, u87, u88, u89, u90, u91, u92, u93, u94, u95, u96, u97, u98, u99, u100, u101, u102, u103, u104, u105, u106, u107, u108, u109, u110, u111, u112, u113, u114, u115, u116, u117, u118, u119, u120, u121, u122, u123, u124, u125, u126, u127, u128, u129, u130, u131, u132, u133, u134, u135, u136, u137, u138, u139, u140, u141, u142, u143, u144, u145], ds⟩ V) :
    Code.wp Tryz.prog (part Tryz.f15 [1, 1, 1, 0, 1, 2, 2, 1, 0, 2, 1, 2, 2, 1, 0, 2, 1, 1, 1, 1, 1, 0]) Q ⟨#[u0, u1, u2, u3, u4, .pointer (some ⟨g5, 0, none⟩), .pointer (some ⟨g6, 0, none⟩), .pointer (some ⟨g7, 0, none⟩), .pointer (some ⟨g8, 0, none⟩), u9, u10, u11, u12, u13, u14, u15, u16, u17, u18, u19, u20, u21, u22, u23, u24, u25, u26, u27, u28, u29, u30, u31, u32, u33, u34, u35, u36, u37, u38, u39, u40, u41, u42, u43, u44, u45, u46, u47, u48, u49, u50, u51, u52, u53, u54, u55, u56, u57, u58, u59, u60, u61, u62, u63, u64, u65, u66, u67, u68, u69, u70, u71, u72, u73, u74, u75, u76, u77, u78, u79, u80, u81, u82, u83, u84, u85, u86, u87, u88, u89, u90, u91, u92, u93, u94, u95, u96, u97, u98, u99, u100, u101, u102, u103, u104, u105, u106, u107, u108, u109, u110, u111, u112, u113, u114, u115, u116, u117, u118, u119, u120, u121, u122, u123, u124, u125, u126, u127, u128, u129, u130, u131, u132, u133, u134, u135, u136, u137, u138, u139, u140, u141, u142, u143, u144, u145], ds⟩ w0 := by
  conv => arg 2; whnf
  have HQ := Lib.hid hQ
  have HS : Hid (∀ V : World, Below w0.heap.size w0 V → (fun V : World => (V.cell? ⟨g5, 0, none⟩ = some (.int .i64 x5.kind) ∧ V.cell? ⟨g5, 1, none⟩ = some (.string x5.code) ∧ V.cell? ⟨g5, 2, none⟩ = some (.string x5.value) ∧ V.cell? ⟨g5, 3, none⟩ = some (.string x5.path) ∧ V.cell? ⟨g5, 4, none⟩ = some (.slice A5 x5.bytes.length c5) ∧ V.cell? ⟨g5, 5, none⟩ = some (.slice B5 x5.kids.length e5)) ∧ (V.cell? ⟨g6, 0, none⟩ = some (.int .i64 x6.kind) ∧ V.cell? ⟨g6, 1, none⟩ = some (.string x6.code) ∧ V.cell? ⟨g6, 2, none⟩ = some (.string x6.value) ∧ V.cell? ⟨g6, 3, none⟩ = some (.string x6.path) ∧ V.cell? ⟨g6, 4, none⟩ = some (.slice A6 x6.bytes.length c6) ∧ V.cell? ⟨g6, 5, none⟩ = some (.slice B6 x6.kids.length e6)) ∧ (V.cell? ⟨g7, 0, none⟩ = some (.int .i64 x7.kind) ∧ V.cell? ⟨g7, 1, none⟩ = some (.string x7.code) ∧ V.cell? ⟨g7, 2, none⟩ = some (.string x7.value) ∧ V.cell? ⟨g7, 3, none⟩ = some (.string x7.path) ∧ V.cell? ⟨g7, 4, none⟩ = some (.slice A7 x7.bytes.length c7) ∧ V.cell? ⟨g7, 5, none⟩ = some (.slice B7 x7.kids.length e7)) ∧ (V.cell? ⟨g8, 0, none⟩ = some (.int .i64 x8.kind) ∧ V.cell? ⟨g8, 1, none⟩ = some (.string x8.code) ∧ V.cell? ⟨g8, 2, none⟩ = some (.string x8.value) ∧ V.cell? ⟨g8, 3, none⟩ = some (.string x8.path) ∧ V.cell? ⟨g8, 4, none⟩ = some (.slice A8 x8.bytes.length c8) ∧ V.cell? ⟨g8, 5, none⟩ = some (.slice B8 x8.kids.length e8))) V) := Lib.hid (fun V hb => ⟨cells6 ((h.on hb).ctx.box _ h5).2.blk, cells6 ((h.on hb).ctx.box _ h6).2.blk, cells6 ((h.on hb).ctx.box _ h7).2.blk, cells6 ((h.on hb).ctx.box _ h8).2.blk⟩)
  have HB0 : Hid (Below w0.heap.size w0 w0.drew) := Lib.hid (Below.refl _ _).drew
  have HX5 := Lib.hid (asked h h5)
  have HX6 := Lib.hid (asked h h6)
  have HX7 := Lib.hid (asked h h7)
  have HX8 := Lib.hid (asked h h8)
  clear hQ h h5 h6 h7 h8
  refine wp_region_noPanic ?_
  refine wp_region_held_drew (S := (fun V : World => (V.cell? ⟨g5, 0, none⟩ = some (.int .i64 x5.kind) ∧ V.cell? ⟨g5, 1, none⟩ = some (.string x5.code) ∧ V.cell? ⟨g5, 2, none⟩ = some (.string x5.value) ∧ V.cell? ⟨g5, 3, none⟩ = some (.string x5.path) ∧ V.cell? ⟨g5, 4, none⟩ = some (.slice A5 x5.bytes.length c5) ∧ V.cell? ⟨g5, 5, none⟩ = some (.slice B5 x5.kids.length e5)) ∧ (V.cell? ⟨g6, 0, none⟩ = some (.int .i64 x6.kind) ∧ V.cell? ⟨g6, 1, none⟩ = some (.string x6.code) ∧ V.cell? ⟨g6, 2, none⟩ = some (.string x6.value) ∧ V.cell? ⟨g6, 3, none⟩ = some (.string x6.path) ∧ V.cell? ⟨g6, 4, none⟩ = some (.slice A6 x6.bytes.length c6) ∧ V.cell? ⟨g6, 5, none⟩ = some (.slice B6 x6.kids.length e6)) ∧ (V.cell? ⟨g7, 0, none⟩ = some (.int .i64 x7.kind) ∧ V.cell? ⟨g7, 1, none⟩ = some (.string x7.code) ∧ V.cell? ⟨g7, 2, none⟩ = some (.string x7.value) ∧ V.cell? ⟨g7, 3, none⟩ = some (.string x7.path) ∧ V.cell? ⟨g7, 4, none⟩ = some (.slice A7 x7.bytes.length c7) ∧ V.cell? ⟨g7, 5, none⟩ = some (.slice B7 x7.kids.length e7)) ∧ (V.cell? ⟨g8, 0, none⟩ = some (.int .i64 x8.kind) ∧ V.cell? ⟨g8, 1, none⟩ = some (.string x8.code) ∧ V.cell? ⟨g8, 2, none⟩ = some (.string x8.value) ∧ V.cell? ⟨g8, 3, none⟩ = some (.string x8.path) ∧ V.cell? ⟨g8, 4, none⟩ = some (.slice A8 x8.bytes.length c8) ∧ V.cell? ⟨g8, 5, none⟩ = some (.slice B8 x8.kids.length e8)))) (by kernel_rfl) ?_ (fun hHeld0 => ?_)
  · exact HS.out _ HB0.out
  refine wpAnyH_take (i := 0) (v := ?_) rfl (by kernel_rfl) (by kernel_rfl) (by kernel_rfl) (fun _ _ _ h => h) (Or.inl ⟨by rfl, ?_⟩) hHeld0 ?_
  rotate_left
  · (intro w hSw; (try dsimp only at hSw); go_simp <;> with_reducible rfl)
  try simp only [Act.put, sA, sB, sC]
  refine wpAnyH_ready (rs := [1]) (by kernel_rfl) (by simp) ?_
  refine AllReadyH.cons rfl (fun K hK => ?_) AllReadyH.nil
  go_simp
  refine (ref_n 1 _).mono ?_
  rintro e w1 ⟨rfl, hb⟩
  have HB1 := Lib.hid (HB0.out.trans (hb.mono HB0.out.size))
  clear hb
  unfold refV
  refine hK.out _ _ ?_ (fun hHeld1 => ?_)
  · exact HS.out _ HB1.out
  clear hK K hHeld0
  try simp only [Act.put, sA, sB, sC]
  refine wpAnyH_ready (rs := [2]) (by kernel_rfl) (by simp) ?_
  refine AllReadyH.cons rfl (fun K hK => ?_) AllReadyH.nil
  go_simp
  refine ((HX5.out _ HB1.out).1 0 _ (1, 1) _ (by omega) (refOk_one (by omega))).mono ?_
  rintro e w2 ⟨rfl, hb⟩
  have HB2 := Lib.hid (HB1.out.trans (hb.mono HB1.out.size))
  clear hb
  refine hK.out _ _ ?_ (fun hHeld2 => ?_)
  · exact HS.out _ HB2.out
  clear hK K hHeld1
  try simp only [Act.put, sA, sB, sC]
  refine wpAnyH_take (i := 3) (v := ?_) rfl (by kernel_rfl) (by kernel_rfl) (by kernel_rfl) (fun _ _ _ h => h) (Or.inl ⟨by rfl, ?_⟩) hHeld2 ?_
  rotate_left
  · (intro w hSw; (try dsimp only at hSw); go_simp <;> with_reducible rfl)
  try simp only [Act.put, sA, sB, sC]
  refine wpAnyH_take (i := 4) (v := ?_) rfl (by kernel_rfl) (by kernel_rfl) (by kernel_rfl) (fun _ _ _ h => h) (Or.inl ⟨by rfl, ?_⟩) hHeld2 ?_
  rotate_left
  · (intro w hSw; (try dsimp only at hSw); go_simp <;> with_reducible rfl)
  try simp only [Act.put, sA, sB, sC]
  refine wpAnyH_take (i := 5) (v := ?_) rfl (by kernel_rfl) (by kernel_rfl) (by kernel_rfl) (fun _ _ _ h => h) (Or.inl ⟨by kernel_rfl, ?_⟩) hHeld2 ?_
  rotate_left
  · (intro w hSw; (try dsimp only at hSw); go_simp <;> with_reducible rfl)
  try simp only [Act.put, sA, sB, sC]
  refine wpAnyH_ready (rs := [6]) (by kernel_rfl) (by simp) ?_
  refine AllReadyH.cons rfl (fun K hK => ?_) AllReadyH.nil
  go_simp
  refine ((HX6.out _ HB2.out).2 0 _ (by omega)).mono ?_
  rintro e w3 ⟨rfl, hb⟩
  have HB3 := Lib.hid (HB2.out.trans (hb.mono HB2.out.size))
  clear hb
  refine hK.out _ _ ?_ (fun hHeld3 => ?_)
  · exact HS.out _ HB3.out
  clear hK K hHeld2
  try simp only [Act.put, sA, sB, sC]
  refine wpAnyH_take (i := 7) (v := ?_) rfl (by kernel_rfl) (by kernel_rfl) (by kernel_rfl) (fun _ _ _ h => h) (Or.inl ⟨by kernel_rfl, ?_⟩) hHeld3 ?_
  rotate_left
  · (intro w hSw; (try dsimp only at hSw); go_simp <;> with_reducible rfl)
  try simp only [Act.put, sA, sB, sC]
  refine wpAnyH_take (i := 8) (v := ?_) rfl (by kernel_rfl) (by kernel_rfl) (by kernel_rfl) (fun _ _ _ h => h) (Or.inl ⟨by rfl, ?_⟩) hHeld3 ?_
  rotate_left
  · (intro w hSw; (try dsimp only at hSw); go_simp <;> with_reducible rfl)
  try simp only [Act.put, sA, sB, sC]
  refine wpAnyH_take (i := 9) (v := ?_) rfl (by kernel_rfl) (by kernel_rfl) (by kernel_rfl) (fun _ _ _ h => h) (Or.inl ⟨by rfl, ?_⟩) hHeld3 ?_
  rotate_left
  · (intro w hSw; (try dsimp only at hSw); go_simp <;> with_reducible rfl)
  try simp only [Act.put, sA, sB, sC]
  refine wpAnyH_take (i := 10) (v := ?_) rfl (by kernel_rfl) (by kernel_rfl) (by kernel_rfl) (fun _ _ _ h => h) (Or.inl ⟨by kernel_rfl, ?_⟩) hHeld3 ?_
  rotate_left
  · (intro w hSw; (try dsimp only at hSw); go_simp <;> with_reducible rfl)
  try simp only [Act.put, sA, sB, sC]
  refine wpAnyH_ready (rs := [11]) (by kernel_rfl) (by simp) ?_
  refine AllReadyH.cons rfl (fun K hK => ?_) AllReadyH.nil
  go_simp
  refine ((HX7.out _ HB3.out).2 1 _ (by omega)).mono ?_
  rintro e w4 ⟨rfl, hb⟩
  have HB4 := Lib.hid (HB3.out.trans (hb.mono HB3.out.size))
  clear hb
  refine hK.out _ _ ?_ (fun hHeld4 => ?_)
  · exact HS.out _ HB4.out
  clear hK K hHeld3
  try simp only [Act.put, sA, sB, sC]
  refine wpAnyH_take (i := 12) (v := ?_) rfl (by kernel_rfl) (by kernel_rfl) (by kernel_rfl) (fun _ _ _ h => h) (Or.inl ⟨by kernel_rfl, ?_⟩) hHeld4 ?_
  rotate_left
  · (intro w hSw; (try dsimp only at hSw); go_simp <;> with_reducible rfl)
  try simp only [Act.put, sA, sB, sC]
  refine wpAnyH_take (i := 13) (v := ?_) rfl (by kernel_rfl) (by kernel_rfl) (by kernel_rfl) (fun _ _ _ h => h) (Or.inl ⟨by rfl, ?_⟩) hHeld4 ?_
  rotate_left
  · (intro w hSw; (try dsimp only at hSw); go_simp <;> with_reducible rfl)
  try simp only [Act.put, sA, sB, sC]
  refine wpAnyH_take (i := 14) (v := ?_) rfl (by kernel_rfl) (by kernel_rfl) (by kernel_rfl) (fun _ _ _ h => h) (Or.inl ⟨by rfl, ?_⟩) hHeld4 ?_
  rotate_left
  · (intro w hSw; (try dsimp only at hSw); go_simp <;> with_reducible rfl)
  try simp only [Act.put, sA, sB, sC]
  refine wpAnyH_take (i := 15) (v := ?_) rfl (by kernel_rfl) (by kernel_rfl) (by kernel_rfl) (fun _ _ _ h => h) (Or.inl ⟨by kernel_rfl, ?_⟩) hHeld4 ?_
  rotate_left
  · (intro w hSw; (try dsimp only at hSw); go_simp <;> with_reducible rfl)
  try simp only [Act.put, sA, sB, sC]
  refine wpAnyH_ready (rs := [16]) (by kernel_rfl) (by simp) ?_
  refine AllReadyH.cons rfl (fun K hK => ?_) AllReadyH.nil
  go_simp
  refine ((HX8.out _ HB4.out).2 1 _ (by omega)).mono ?_
  rintro e w5 ⟨rfl, hb⟩
  have HB5 := Lib.hid (HB4.out.trans (hb.mono HB4.out.size))
  clear hb
  refine hK.out _ _ ?_ (fun hHeld5 => ?_)
  · exact HS.out _ HB5.out
  clear hK K hHeld4
  try simp only [Act.put, sA, sB, sC]
  refine wpAnyH_take (i := 17) (v := ?_) rfl (by kernel_rfl) (by kernel_rfl) (by kernel_rfl) (fun _ _ _ h => h) (Or.inl ⟨by kernel_rfl, ?_⟩) hHeld5 ?_
  rotate_left
  · (intro w hSw; (try dsimp only at hSw); go_simp <;> with_reducible rfl)
  try simp only [Act.put, sA, sB, sC]
  refine wpAnyH_take (i := 18) (v := ?_) rfl (by kernel_rfl) (by kernel_rfl) (by kernel_rfl) (fun _ _ _ h => h) (Or.inl ⟨by rfl, ?_⟩) hHeld5 ?_
  rotate_left
  · (intro w hSw; (try dsimp only at hSw); go_simp <;> with_reducible rfl)
  try simp only [Act.put, sA, sB, sC]
  try simp only [Act.put, List.getElem_toArray, List.getElem_cons_succ, List.getElem_cons_zero, sA, sB, sC]
  refine wpAnyH_done (by kernel_rfl) ?_ _
  refine NoPanic.normal (HQ.out _ _ _ _ _ _ _ _ _ _ _ _ _ _ _ _ _ _ _ HB5.out)
end Go.Proofs.YtgjgcbemgmkncaaGreatDoor
