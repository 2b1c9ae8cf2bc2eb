/-
  parts: the round of leaves.
  parts: a node of two Refs.
  parts: the questions of a node of two Refs.
  parts: the loops of Refs.
  parts: the loops of leaves.
  inner: the capacity of its row of Refs.
-/
import Derived.Test.YtgjgcbemgmkncaaGreatDoorPj
import Derived.Test.YtgjgcbemgmkncaaGreatDoorPe
namespace Go.Proofs.YtgjgcbemgmkncaaGreatDoor
open Go.RowKit Go.Shelf
set_option linter.unusedVariables false
set_option linter.unusedSimpArgs false
set_option maxRecDepth 20000

def Nd.withB (x : Nd) (l : List Nat) : Nd := ⟨x.kind, x.code, x.value, x.path, l, x.kids⟩
def Nd.withK (x : Nd) (l : List (Int × Int)) : Nd := ⟨x.kind, x.code, x.value, x.path, x.bytes, l⟩
theorem NdAt.withB {W : World} {x : Nd} {A A' : Option Addr} {c c' : Nat} (h : NdAt W x (x.v A c A' c')) {l : List Nat} {D : Option Addr} {d : Nat} (hl : ∀ b ∈ l, b < 256) (hn : l.length ≤ 9223372036854775807) (hr : Reads W W.heap.size 1 D l.length (l.flatMap nrow)) : NdAt W (x.withB l) ((x.withB l).v D d A' c') := by
  obtain ⟨h0, h1, h2⟩ := node_reads h
  exact ⟨⟨h0.kind, hl, h0.refs, hn, h0.lk, h0.lc, h0.lv, h0.lp⟩, D, d, A', c', rfl, hr, h2⟩
theorem NdAt.withK {W : World} {x : Nd} {A A' : Option Addr} {c c' : Nat} (h : NdAt W x (x.v A c A' c')) {l : List (Int × Int)} {D : Option Addr} {d : Nat} (hl : ∀ r ∈ l, refOk r) (hn : l.length ≤ 9223372036854775807) (hr : Reads W W.heap.size 2 D l.length (l.flatMap rrow)) : NdAt W (x.withK l) ((x.withK l).v A c D d) := by
  obtain ⟨h0, h1, h2⟩ := node_reads h
  exact ⟨⟨h0.kind, h0.bytes, hl, h0.lb, hn, h0.lc, h0.lv, h0.lp⟩, A, c, D, d, rfl, h1, hr⟩
theorem rows_two {v0 v1 v2 v3 : Value} {A4 A5 : Option Addr} {l4 l5 c4 c5 g : Nat} (h4 : ∀ ad, A4 = some ad → ad.block ≠ g) (h5 : ∀ ad, A5 = some ad → ad.block ≠ g) : g ∉ rowsOf (.agg #[v0, v1, v2, v3, .slice A4 l4 c4, .slice A5 l5 c5]) := by
  intro hg
  rcases mem_rowsOf hg with ⟨ad, e, _, rfl⟩ | ⟨ad, e, _, rfl⟩
  · exact h4 ad e rfl
  · exact h5 ad e rfl

set_option maxHeartbeats 12800000 in
set_option maxRecDepth 100000 in
theorem pa_round {u0 u5 u6 u7 u8 u9 u10 u11 u12 u13 u14 u15 u16 u17 u18 u19 u20 u21 u22 u23 u24 u25 u26 u27 u28 u29 u30 u31 u32 u33 u34 u35 u36 u37 u38 u39 u40 u41 u42 u43 u44 u45 u46 u47 u48 u49 u50 u51 u52 u53 u54 u55 u56 u57 u58 u59 u60 u61 u62 u63 u64 u65 u66 u67 u68 u69 u70 u71 u72 u73 u74 u75 u76 u77 u78 u79 u80 u81 u82 u83 u84 u85 u86 u87 u88 u89 u90 u91 u92 u93 u94 u95 u96 u97 u98 u99 u100 u101 u102 u103 u104 u105 u106 u107 u108 u109 u110 u111 u112 u113 u114 u115 u116 u117 u118 u119 u120 u121 u122 u123 u124 u125 u126 u127 u128 u129 u130 u131 u132 u133 u134 u135 u136 u137 u138 u139 u140 u141 u142 u143 u144 u145 : Value} {ds : List Deferred} {Q : Exit → Act → World → Prop} (gc gv i k : Nat) (cs : List (Nat × TypeId × Array Value)) (w w0 : World) (hr0 : RoomsAt w) (h : EnW w cs [] w0) (hc : (gc, 9, codeC) ∈ cs) (hv : (gv, 9, valC) ∈ cs) (hi : i < 6) (hk : k < 4)
    (hQ : ∀ (z5 z6 z7 z8 z28 z29 z30 z31 z32 z33 z34 z35 z36 z37 z38 z39 z40 z41 z42 z43 z44 z45 z46 z47 z48 z49 z50 z51 z52 z53 z54 z55 z56 z57 z58 z59 z60 z61 z62 z63 z64 : Value) (V : World), EnW w cs [] V → Q .normal ⟨#[u0, .slice (some ⟨gc, 0, none⟩) 6 6, .slice (some ⟨gv, 0, none⟩) 4 4, .int .i64 (i : Int), .int .i64 (k : Int), z5, z6, z7, z8, u9, u10, u11, u12, u13, u14, u15, u16, u17, u18, u19, u20, u21, u22, u23, u24, u25, u26, u27, z28, z29, z30, z31, z32, z33, z34, z35, z36, z37, z38, z39, z40, z41, z42, z43, z44, z45, z46, z47, z48, z49, z50, z51, z52, z53, z54, z55, z56, z57, z58, z59, z60, z61, z62, z63, z64, u65, u66, u67, u68, u69, u70, u71, u72, u73, u74, u75, u76, u77, u78, u79, u80, u81, u82, u83, u84, u85, u86, u87, u88, u89, u90, u91, u92, u93, u94, u95, u96, u97, u98, u99, u100, u101, u102, u103, u104, u105, u106, u107, u108, u109, u110, u111, u112, u113, u114, u115, u116, u117, u118, u119, u120, u121, u122, u123, u124, u125, u126, u127, u128, u129, u130, u131, u132, u133, u134, u135, u136, u137, u138, u139, u140, u141, u142, u143, u144, u145], ds⟩ V) :
    Code.wp Tryz.prog (part Tryz.f15 [1, 1, 1, 0, 1, 2, 2, 1, 0, 2, 1, 2, 2, 1, 0, 2]) Q ⟨#[u0, .slice (some ⟨gc, 0, none⟩) 6 6, .slice (some ⟨gv, 0, none⟩) 4 4, .int .i64 (i : Int), .int .i64 (k : Int), u5, u6, u7, u8, u9, u10, u11, u12, u13, u14, u15, u16, u17, u18, u19, u20, u21, u22, u23, u24, u25, u26, u27, u28, u29, u30, u31, u32, u33, u34, u35, u36, u37, u38, u39, u40, u41, u42, u43, u44, u45, u46, u47, u48, u49, u50, u51, u52, u53, u54, u55, u56, u57, u58, u59, u60, u61, u62, u63, u64, u65, u66, u67, u68, u69, u70, u71, u72, u73, u74, u75, u76, u77, u78, u79, u80, u81, u82, u83, u84, u85, u86, u87, u88, u89, u90, u91, u92, u93, u94, u95, u96, u97, u98, u99, u100, u101, u102, u103, u104, u105, u106, u107, u108, u109, u110, u111, u112, u113, u114, u115, u116, u117, u118, u119, u120, u121, u122, u123, u124, u125, u126, u127, u128, u129, u130, u131, u132, u133, u134, u135, u136, u137, u138, u139, u140, u141, u142, u143, u144, u145], ds⟩ w0 := by
  conv => arg 2; whnf
  have HQ := Lib.hid hQ
  have HP := Lib.hid (And.intro hr0 (And.intro hc hv))
  obtain ⟨s1, hs1, c1⟩ := code_cell (h.get hc) i hi
  obtain ⟨s2, hs2, c2⟩ := val_cell (h.get hv) k hk
  have lc := (h.get hc).lt
  have lv := (h.get hv).lt
  have HZ := Lib.hid (And.intro h (And.intro lc (And.intro lv (And.intro c1 (And.intro c2 (And.intro hs1 hs2))))))
  clear hQ hr0 hc hv h lc lv c1 c2 hs1 hs2
  refine wp_seq_k fun K0 hK => ?_
  have HK0 := Lib.hid hK
  clear hK
  obtain ⟨h, lc, lv, c1, c2, hs1, hs2⟩ := HZ.out
  refine pa9 gc gv i k s1 s2 cs w w0 HP.out.1 h hi hk lc lv c1 c2 hs1 hs2 (fun t28 t29 t30 t31 t32 t33 t34 t35 t36 g5 V1 hcs5 h1 => ?_)
  have H1 := Lib.hid h1
  have HNX : Hid ((∀ W, NdAt W (leafE s1 s2) ((leafE s1 s2).v none 0 none 0)) ∧ ∀ g, g ∉ rowsOf ((leafE s1 s2).v none 0 none 0)) := Lib.hid ⟨leafE_at hs1 hs2, leafE_rows s1 s2⟩
  have HRW : Hid (∀ v, rowsOf (((leafE s1 s2).withP v).v none 0 none 0) = []) := Lib.hid (fun v => rfl)
  have HKX : Hid ((leafE s1 s2).bytes = [] ∧ (leafE s1 s2).kids = []) := Lib.hid ⟨rfl, rfl⟩
  clear h lc lv c1 c2 hs1 hs2 HZ h1 hcs5
  generalize leafE s1 s2 = x at H1 HNX HRW HKX
  refine HK0.out _ _ ?_
  clear HK0
  refine wp_seq_k fun K1 hK => ?_
  have HK1 := Lib.hid hK
  clear hK
  refine pa10 g5 x cs w V1 HP.out.1 H1.out HNX.out.1 HNX.out.2 (fun t37' t38' t39' g6 g7 g8 V2 hne hcs h2 => ?_)
  have H2 := Lib.hid h2
  have HNE := Lib.hid hne
  have HCS := Lib.hid hcs
  clear h2 hne H1 hcs
  refine HK1.out _ _ ?_
  clear HK1
  refine wp_seq_k fun K2 hK => ?_
  have HK2 := Lib.hid hK
  clear hK
  obtain ⟨e0, e1, e2, e3, e4, e5⟩ := cells6 H2.out.ctx.b2.blk
  have fz3 := H2.out.ctx.b2.blk.frozen 3
  have l6 := H2.out.ctx.b2.blk.lt
  have H3 : Hid (EnW w cs [⟨g6, x.withP { data := #[97] }, none, 0, none, 0⟩, ⟨g8, x, none, 0, none, 0⟩, ⟨g7, x, none, 0, none, 0⟩, ⟨g5, x, none, 0, none, 0⟩] (V2.setCell ⟨g6, 3, none⟩ (.string { data := #[97] }))) := Lib.hid (by
    have h1 := H2.out.re (bs' := [⟨g6, x, none, 0, none, 0⟩, ⟨g8, x, none, 0, none, 0⟩, ⟨g7, x, none, 0, none, 0⟩, ⟨g5, x, none, 0, none, 0⟩]) (by intro b hb; simp only [List.mem_cons, List.not_mem_nil, or_false] at hb ⊢; rcases hb with rfl | rfl | rfl | rfl <;> simp)
    have hg : V2.grownBy (V2.setCell ⟨g6, 3, none⟩ (.string { data := #[97] })) (some g6) := grown_setCell ⟨rfl, rfl, rfl, Nat.le_refl _, fun _ _ _ => rfl⟩ _ _
    have hq := H2.out.ctx.b2.blk.set_ 3 (.string { data := #[97] })
    refine h1.turn HP.out.1 hg (by simpa [Nd.c, Nd.withP] using hq) ((HNX.out.1 _).withP (by decide)) (by rw [HRW.out]; simp) (fun p hp => (HCS.out p hp).1) (fun b hb => ?_)
    have hne := HNE.out
    simp only [List.mem_cons, List.not_mem_nil, or_false] at hb
    rcases hb with rfl | rfl | rfl <;> exact ⟨by dsimp only; omega, HNX.out.2 _⟩)
  clear H2
  go_wp2_with fail
  refine HK2.out _ _ ?_
  clear HK2 fz3 l6 e0 e1 e2 e3 e4 e5
  generalize V2.setCell _ _ = V3 at H3 ⊢
  refine wp_seq_k fun K3 hK => ?_
  have HK3 := Lib.hid hK
  clear hK
  have H4 : Hid (EnW w cs [⟨g6, x.withP { data := #[97] }, none, 0, none, 0⟩, ⟨g8, x, none, 0, none, 0⟩, ⟨g7, x, none, 0, none, 0⟩, ⟨g5, x, none, 0, none, 0⟩] (V3.alloc (.cells #[.int .u8 1] 5)) ∧ Blk (V3.alloc (.cells #[.int .u8 1] 5)) V3.heap.size 5 #[.int .u8 1]) := Lib.hid ⟨H3.out.on (below_box _ _), Blk.new _ _ _⟩
  have HB7 : Hid (g8 ≠ V3.heap.size ∧ g7 ≠ V3.heap.size ∧ g6 ≠ V3.heap.size ∧ g5 ≠ V3.heap.size) := Lib.hid (by
    have q := H3.out.blt.2
    have q1 := (q _ (List.mem_cons_self ..)).1
    have q2 := (q ⟨g8, x, none, 0, none, 0⟩ (by simp)).1
    have q3 := (q ⟨g7, x, none, 0, none, 0⟩ (by simp)).1
    have q4 := (q ⟨g5, x, none, 0, none, 0⟩ (by simp)).1
    dsimp only at q1 q2 q3 q4
    omega)
  have l7' := H3.out.ctx.b2.blk.lt
  have HW7 := Lib.hid l7'
  clear H3
  obtain ⟨e0, e1, e2, e3, e4, e5⟩ := cells6 H4.out.1.ctx.b2.blk
  have fz4 := H4.out.1.ctx.b2.blk.frozen 4
  have l7 := H4.out.1.ctx.b2.blk.lt
  have H5 : Hid (EnW w cs [⟨g7, x.withB [1], some ⟨V3.heap.size, 0, none⟩, 1, none, 0⟩, ⟨g6, x.withP { data := #[97] }, none, 0, none, 0⟩, ⟨g8, x, none, 0, none, 0⟩, ⟨g5, x, none, 0, none, 0⟩] ((V3.alloc (.cells #[.int .u8 1] 5)).setCell ⟨g7, 4, none⟩ (.slice (some ⟨V3.heap.size, 0, none⟩) 1 1))) := Lib.hid (by
    have h1 := H4.out.1.re (bs' := [⟨g7, x, none, 0, none, 0⟩, ⟨g6, x.withP { data := #[97] }, none, 0, none, 0⟩, ⟨g8, x, none, 0, none, 0⟩, ⟨g5, x, none, 0, none, 0⟩]) (by intro b hb; simp only [List.mem_cons, List.not_mem_nil, or_false] at hb ⊢; rcases hb with rfl | rfl | rfl | rfl <;> simp)
    have hg : (V3.alloc (.cells #[.int .u8 1] 5)).grownBy ((V3.alloc (.cells #[.int .u8 1] 5)).setCell ⟨g7, 4, none⟩ (.slice (some ⟨V3.heap.size, 0, none⟩) 1 1)) (some g7) := grown_setCell ⟨rfl, rfl, rfl, Nat.le_refl _, fun _ _ _ => rfl⟩ _ _
    have hq := H4.out.1.ctx.b2.blk.set_ 4 (.slice (some ⟨V3.heap.size, 0, none⟩) 1 1)
    have hrd : Reads (V3.alloc (.cells #[.int .u8 1] 5)) (V3.alloc (.cells #[.int .u8 1] 5)).heap.size 1 (some ⟨V3.heap.size, 0, none⟩) [1].length ([1].flatMap nrow) := (reads_of_blk H4.out.2 rfl rfl).more (by simp)
    refine h1.turn HP.out.1 hg (by simpa [Nd.c, Nd.withB] using hq) ((HNX.out.1 _).withB (by simp) (by decide) hrd) (rows_two (fun ad e => by injection e with e; subst e; exact fun k => HB7.out.2.1 k.symm) (fun ad e => by cases e)) (fun p hp => (HCS.out p hp).2.1) (fun b hb => ?_)
    have hne := HNE.out
    simp only [List.mem_cons, List.not_mem_nil, or_false] at hb
    rcases hb with rfl | rfl | rfl
    · exact ⟨by dsimp only; omega, by show g7 ∉ rowsOf _; rw [HRW.out]; simp⟩
    · exact ⟨by dsimp only; omega, HNX.out.2 _⟩
    · exact ⟨by dsimp only; omega, HNX.out.2 _⟩)
  clear H4
  go_wp2_with fail
  refine HK3.out _ _ ?_
  clear HK3 fz4 l7 l7' e0 e1 e2 e3 e4 e5
  have e9 := World.setCell_alloc_past (w := V3) (.cells #[.int .u8 1] 5) g7 4 (.slice (some ⟨V3.heap.size, 0, none⟩) 1 1) HW7.out
  rw [e9] at H5
  clear e9 HW7
  generalize V3.heap.size = b7 at H5 HB7 ⊢
  generalize (V3.setCell _ _).alloc _ = V4 at H5 ⊢
  refine wp_seq_k fun K4 hK => ?_
  have HK4 := Lib.hid hK
  clear hK
  go_wp2_with fail
  refine (ref_n 1 _).mono ?_
  rintro e w5 ⟨rfl, hb⟩
  unfold refV
  have H6 : Hid (EnW w cs [⟨g7, x.withB [1], some ⟨b7, 0, none⟩, 1, none, 0⟩, ⟨g6, x.withP { data := #[97] }, none, 0, none, 0⟩, ⟨g8, x, none, 0, none, 0⟩, ⟨g5, x, none, 0, none, 0⟩] (w5.alloc (.cells #[.int .i64 1, .int .u32 1] 29)) ∧ Blk (w5.alloc (.cells #[.int .i64 1, .int .u32 1] 29)) w5.heap.size 29 #[.int .i64 1, .int .u32 1]) := Lib.hid ⟨(H5.out.on hb).on (below_box _ _), Blk.new _ _ _⟩
  have HB8 : Hid (g8 ≠ w5.heap.size) := Lib.hid (by
    have q := ((H5.out.on hb).blt.2 ⟨g8, x, none, 0, none, 0⟩ (by simp)).1
    dsimp only at q
    omega)
  have HW5 : Hid (g8 < w5.heap.size) := Lib.hid ((H5.out.on hb).blt.2 ⟨g8, x, none, 0, none, 0⟩ (by simp)).1
  clear H5 hb
  obtain ⟨e0, e1, e2, e3, e4, e5⟩ := cells6 H6.out.1.ctx.b2.blk
  have fz5 := H6.out.1.ctx.b2.blk.frozen 5
  have l8 := H6.out.1.ctx.b2.blk.lt
  have l8' := HW5.out
  have H7 : Hid (EnW w cs [⟨g8, x.withK [(1, 1)], none, 0, some ⟨w5.heap.size, 0, none⟩, 1⟩, ⟨g7, x.withB [1], some ⟨b7, 0, none⟩, 1, none, 0⟩, ⟨g6, x.withP { data := #[97] }, none, 0, none, 0⟩, ⟨g5, x, none, 0, none, 0⟩] ((w5.alloc (.cells #[.int .i64 1, .int .u32 1] 29)).setCell ⟨g8, 5, none⟩ (.slice (some ⟨w5.heap.size, 0, none⟩) 1 1))) := Lib.hid (by
    have h1 := H6.out.1.re (bs' := [⟨g8, x, none, 0, none, 0⟩, ⟨g7, x.withB [1], some ⟨b7, 0, none⟩, 1, none, 0⟩, ⟨g6, x.withP { data := #[97] }, none, 0, none, 0⟩, ⟨g5, x, none, 0, none, 0⟩]) (by intro b hb; simp only [List.mem_cons, List.not_mem_nil, or_false] at hb ⊢; rcases hb with rfl | rfl | rfl | rfl <;> simp)
    have hg : (w5.alloc (.cells #[.int .i64 1, .int .u32 1] 29)).grownBy ((w5.alloc (.cells #[.int .i64 1, .int .u32 1] 29)).setCell ⟨g8, 5, none⟩ (.slice (some ⟨w5.heap.size, 0, none⟩) 1 1)) (some g8) := grown_setCell ⟨rfl, rfl, rfl, Nat.le_refl _, fun _ _ _ => rfl⟩ _ _
    have hq := H6.out.1.ctx.b2.blk.set_ 5 (.slice (some ⟨w5.heap.size, 0, none⟩) 1 1)
    have hrd : Reads (w5.alloc (.cells #[.int .i64 1, .int .u32 1] 29)) (w5.alloc (.cells #[.int .i64 1, .int .u32 1] 29)).heap.size 2 (some ⟨w5.heap.size, 0, none⟩) [((1 : Int), (1 : Int))].length ([((1 : Int), (1 : Int))].flatMap rrow) := (reads_of_blk H6.out.2 rfl rfl).more (by simp)
    refine h1.turn HP.out.1 hg (by simpa [Nd.c, Nd.withK] using hq) ((HNX.out.1 _).withK (by simp [refOk]) (by decide) hrd) (rows_two (fun ad e => by cases e) (fun ad e => by injection e with e; subst e; exact fun k => HB8.out k.symm)) (fun p hp => (HCS.out p hp).2.2) (fun b hb => ?_)
    have hne := HNE.out
    simp only [List.mem_cons, List.not_mem_nil, or_false] at hb
    rcases hb with rfl | rfl | rfl
    · exact ⟨by dsimp only; omega, rows_two (fun ad e => by injection e with e; subst e; exact fun k => HB7.out.1 k.symm) (fun ad e => by cases e)⟩
    · exact ⟨by dsimp only; omega, by show g8 ∉ rowsOf _; rw [HRW.out]; simp⟩
    · exact ⟨by dsimp only; omega, HNX.out.2 _⟩)
  clear H6 HB8
  go_wp2_with fail
  refine HK4.out _ _ ?_
  clear HK4 fz5 l8 l8' e0 e1 e2 e3 e4 e5
  have e9 := World.setCell_alloc_past (w := w5) (.cells #[.int .i64 1, .int .u32 1] 29) g8 5 (.slice (some ⟨w5.heap.size, 0, none⟩) 1 1) HW5.out
  rw [e9] at H7
  clear e9 HW5
  generalize w5.heap.size = b8 at H7 ⊢
  generalize (w5.setCell _ _).alloc _ = V5 at H7 ⊢
  refine wp_seq_k fun K5 hK => ?_
  have HK5 := Lib.hid hK
  clear hK
  refine pa14 g5 g6 g7 g8 _ _ _ _ _ _ _ _ _ _ _ _ _ _ _ _ _ _ _ _ cs _ w V5 H7.out (h5 := (by simp : (⟨g5, x, none, 0, none, 0⟩ : NB) ∈ _)) (h6 := (by simp : (⟨g6, x.withP { data := #[97] }, none, 0, none, 0⟩ : NB) ∈ _)) (h7 := (by simp : (⟨g7, x.withB [1], some ⟨b7, 0, none⟩, 1, none, 0⟩ : NB) ∈ _)) (h8 := (by simp : (⟨g8, x.withK [(1, 1)], none, 0, some ⟨b8, 0, none⟩, 1⟩ : NB) ∈ _)) (fun t46 t47 t48 t49 t50 t51 t52 t53 t54 t55 t56 t57 t58 t59 t60 t61 t62 t63 V6 hb => ?_)
  have H8 := Lib.hid (H7.out.on hb)
  clear hb H7
  refine HK5.out _ _ ?_
  clear HK5
  go_wp2_with fail
  exact HQ.out _ _ _ _ _ _ _ _ _ _ _ _ _ _ _ _ _ _ _ _ _ _ _ _ _ _ _ _ _ _ _ _ _ _ _ _ _ _ _ _ _ _ H8.out.drop
end Go.Proofs.YtgjgcbemgmkncaaGreatDoor
namespace Go.Proofs.YtgjgcbemgmkncaaGreatDoor
open Go.RowKit Go.Shelf
set_option linter.unusedVariables false
set_option linter.unusedSimpArgs false
set_option maxRecDepth 20000

/-- The node of two Refs. -/
def refE (r : Int × Int) : Nd := ⟨2, { data := #[] }, { data := #[] }, { data := #[] }, [3, 5], [(1, 1), r]⟩
theorem blk_ne {W : World} {g g' : Nat} {t t' : TypeId} {c c' : Array Value} (h : Blk W g t c) (h' : Blk W g' t' c') (ht : t ≠ t') : g ≠ g' := by
  rintro rfl
  unfold Blk at h h'
  rw [h] at h'
  injection h' with h'
  injection h' with _ h' _
  exact ht h'
theorem refE_at {W : World} {bB bK : Nat} {r : Int × Int} (hr : refOk r) (h1 : Blk W bB 5 #[.int .u8 3, .int .u8 5]) (h2 : Blk W bK 29 #[.int .i64 1, .int .u32 1, .int .i64 r.1, .int .u32 r.2]) : NdAt W (refE r) ((refE r).v (some ⟨bB, 0, none⟩) 2 (some ⟨bK, 0, none⟩) 2) :=
  ⟨⟨by simp [refE], by simp [refE], by intro q hq; simp [refE] at hq; exact hq.elim (fun e => by rw [e]; exact refOk_one (by omega)) (fun e => by rw [e]; exact hr), by simp [refE], by simp [refE], by simp [refE, ByteArray.size], by simp [refE, ByteArray.size], by simp [refE, ByteArray.size]⟩,
    _, 2, _, 2, rfl, (reads_of_blk h1 rfl rfl).more h1.lt, (reads_of_blk h2 rfl rfl).more h2.lt⟩
abbrev oB : Obj := .cells #[.int .u8 3, .int .u8 5] 5
abbrev oK (r1 r2 : Int) : Obj := .cells #[.int .i64 1, .int .u32 1, .int .i64 r1, .int .u32 r2] 29
abbrev oZ : Obj := .cells #[.int .i64 0, .string { data := #[] }, .string { data := #[] }, .string { data := #[] }, .slice none 0 0, .slice none 0 0] 26
theorem new_B (w : World) : Blk (w.alloc oB) w.heap.size 5 #[.int .u8 3, .int .u8 5] := Blk.new _ _ _
theorem new_K (w : World) (r1 r2 : Int) : Blk (w.alloc (oK r1 r2)) w.heap.size 29 #[.int .i64 1, .int .u32 1, .int .i64 r1, .int .u32 r2] := Blk.new _ _ _
theorem new_Z (w : World) : Blk (w.alloc oZ) w.heap.size 26 #[.int .i64 0, .string { data := #[] }, .string { data := #[] }, .string { data := #[] }, .slice none 0 0, .slice none 0 0] := Blk.new _ _ _
theorem pb_store {w w0 v VV : World} {cs : List (Nat × TypeId × Array Value)} {bZ bB bK : Nat} {r1 r2 : Int} (hr0 : RoomsAt w) (h : EnW w cs [] w0) (hrok : refOk (r1, r2)) (hB : Below w0.heap.size w0 v) (LZ : w0.heap.size ≤ bZ) (QZ : Blk v bZ 26 #[.int .i64 0, .string { data := #[] }, .string { data := #[] }, .string { data := #[] }, .slice none 0 0, .slice none 0 0]) (QB : Blk v bB 5 #[.int .u8 3, .int .u8 5]) (QK : Blk v bK 29 #[.int .i64 1, .int .u32 1, .int .i64 r1, .int .u32 r2]) (hg : v.grownBy VV (some bZ))
    (q6 : Blk VV bZ 26 #[.int .i64 2, .string { data := #[] }, .string { data := #[] }, .string { data := #[] }, .slice (some ⟨bB, 0, none⟩) 2 2, .slice (some ⟨bK, 0, none⟩) 2 2]) : Below w0.heap.size w0 VV ∧ EnW w cs [⟨bZ, refE (r1, r2), some ⟨bB, 0, none⟩, 2, some ⟨bK, 0, none⟩, 2⟩] VV := by
  have hb := hB.grown hg hB.size (fun k e => by injection e with e; omega)
  have n1 := blk_ne QZ QB (by decide)
  have n2 := blk_ne QZ QK (by decide)
  exact ⟨hb, (h.on hB).put hr0 (Nat.le_trans h.ctx.below.size LZ) hg q6 (refE_at hrok QB QK) (rows_two (fun ad e => by injection e with e; subst e; exact fun h => n1 h.symm) (fun ad e => by injection e with e; subst e; exact fun h => n2 h.symm)) (fun p hp e => by have := h.blt.1 p hp; omega) (fun b hb => by cases hb)⟩
set_option maxHeartbeats 12800000 in
set_option maxRecDepth 100000 in
theorem pb24 {u0 u1 u2 u3 u4 u5 u6 u7 u8 u9 u10 u11 u13 u14 u15 u16 u17 u18 u19 u20 u21 u22 u23 u24 u25 u26 u27 u28 u29 u30 u31 u32 u33 u34 u35 u36 u37 u38 u39 u40 u41 u42 u43 u44 u45 u46 u47 u48 u49 u50 u51 u52 u53 u54 u55 u56 u57 u58 u59 u60 u61 u62 u63 u64 u65 u66 u67 u68 u69 u70 u71 u72 u73 u74 u75 u76 u77 u78 u79 u80 u81 u82 u83 u84 u85 u86 u87 u88 u89 u90 u91 u92 u93 u94 u95 u96 u97 u98 u99 u100 u101 u102 u103 u104 u105 u106 u107 u108 u109 u110 u111 u112 u113 u114 u115 u116 u117 u118 u119 u120 u121 u122 u123 u124 u125 u126 u127 u128 u129 u130 u131 u132 u133 u134 u135 u136 u137 u138 u139 u140 u141 u142 u143 u144 u145 : Value} {ds : List Deferred} {Q : Exit → Act → World → Prop} (g12 : Nat) (r : Int × Int) (cs : List (Nat × TypeId × Array Value)) (w w0 : World) (hr0 : RoomsAt w) (h : EnW w cs [] w0) (hc : (g12, 29, #[.int .i64 r.1, .int .u32 r.2]) ∈ cs) (hrok : refOk r)
    (hQ : ∀ (z80 z81 z82 z83 z84 : Value) (g13 bB bK : Nat) (V : World), Below w0.heap.size w0 V → EnW w cs [⟨g13, refE r, some ⟨bB, 0, none⟩, 2, some ⟨bK, 0, none⟩, 2⟩] V → Q .normal ⟨#[u0, u1, u2, u3, u4, u5, u6, u7, u8, u9, u10, u11, .pointer (some ⟨g12, 0, none⟩), .pointer (some ⟨g13, 0, none⟩), u14, u15, u16, u17, u18, u19, u20, u21, u22, u23, u24, u25, u26, u27, u28, u29, u30, u31, u32, u33, u34, u35, u36, u37, u38, u39, u40, u41, u42, u43, u44, u45, u46, u47, u48, u49, u50, u51, u52, u53, u54, u55, u56, u57, u58, u59, u60, u61, u62, u63, u64, u65, u66, u67, u68, u69, u70, u71, u72, u73, u74, u75, u76, u77, u78, u79, z80, z81, z82, z83, z84, u85, u86, u87, u88, u89, u90, u91, u92, u93, u94, u95, u96, u97, u98, u99, u100, u101, u102, u103, u104, u105, u106, u107, u108, u109, u110, u111, u112, u113, u114, u115, u116, u117, u118, u119, u120, u121, u122, u123, u124, u125, u126, u127, u128, u129, u130, u131, u132, u133, u134, u135, u136, u137, u138, u139, u140, u141, u142, u143, u144, u145], ds⟩ V) :
    Code.wp Tryz.prog (part Tryz.f15 [1, 1, 1, 1, 1, 0, 1, 2, 2, 1, 0, 2, 1, 2, 2, 1, 0, 2, 1, 0]) Q ⟨#[u0, u1, u2, u3, u4, u5, u6, u7, u8, u9, u10, u11, .pointer (some ⟨g12, 0, none⟩), u13, u14, u15, u16, u17, u18, u19, u20, u21, u22, u23, u24, u25, u26, u27, u28, u29, u30, u31, u32, u33, u34, u35, u36, u37, u38, u39, u40, u41, u42, u43, u44, u45, u46, u47, u48, u49, u50, u51, u52, u53, u54, u55, u56, u57, u58, u59, u60, u61, u62, u63, u64, u65, u66, u67, u68, u69, u70, u71, u72, u73, u74, u75, u76, u77, u78, u79, u80, u81, u82, u83, u84, u85, u86, u87, u88, u89, u90, u91, u92, u93, u94, u95, u96, u97, u98, u99, u100, u101, u102, u103, u104, u105, u106, u107, u108, u109, u110, u111, u112, u113, u114, u115, u116, u117, u118, u119, u120, u121, u122, u123, u124, u125, u126, u127, u128, u129, u130, u131, u132, u133, u134, u135, u136, u137, u138, u139, u140, u141, u142, u143, u144, u145], ds⟩ w0 := by
  conv => arg 2; whnf
  have HQ := Lib.hid hQ
  have HS : Hid (∀ V : World, Below w0.heap.size w0 V → (fun V : World => V.cell? ⟨g12, 0, none⟩ = some (.int .i64 r.1) ∧ V.cell? ⟨g12, 1, none⟩ = some (.int .u32 r.2)) V) := Lib.hid (fun V hb => ⟨((h.on hb).get hc).cell 0, ((h.on hb).get hc).cell 1⟩)
  have HB0 : Hid (Below w0.heap.size w0 w0.drew) := Lib.hid (Below.refl _ _).drew
  have HP := Lib.hid (And.intro hr0 (And.intro h hrok))
  clear hQ h hr0 hc hrok
  obtain ⟨r1, r2⟩ := r
  dsimp only at HS
  refine wp_region_noPanic ?_
  refine wp_region_held_drew (S := (fun V : World => V.cell? ⟨g12, 0, none⟩ = some (.int .i64 r1) ∧ V.cell? ⟨g12, 1, none⟩ = some (.int .u32 r2))) (by kernel_rfl) ?_ (fun hHeld0 => ?_)
  · exact HS.out _ HB0.out
  generalize w0.drew = v0 at HB0 hHeld0 ⊢
  refine wpAnyH_take (i := 2) (v := ?_) rfl (by kernel_rfl) (by kernel_rfl) (by kernel_rfl) (fun _ _ _ h => h) (Or.inl ⟨by rfl, ?_⟩) hHeld0 ?_
  rotate_left
  · (intro w hSw; (try dsimp only at hSw); go_simp <;> with_reducible rfl)
  try simp only [Act.put, sA, sB, sC]
  refine wpAnyH_ready (rs := [0, 1, 5]) (by kernel_rfl) (by simp) ?_
  refine AllReadyH.cons rfl (fun K hK => ?_) ?_
  · go_simp
    have HB1 := Lib.hid (HB0.out.alloc HB0.out.size oB)
    have QB1 := Lib.hid (new_B v0)
    have LB := Lib.hid HB0.out.size
    generalize v0.heap.size = bB at QB1 LB ⊢
    generalize v0.alloc _ = v1 at HB1 QB1 ⊢
    refine hK.out _ _ ?_ (fun hHeld1 => ?_)
    · exact HS.out _ HB1.out
    clear hK K hHeld0
    try simp only [Act.put, sA, sB, sC]
    refine wpAnyH_ready (rs := [1, 5]) (by kernel_rfl) (by simp) ?_
    refine AllReadyH.cons rfl (fun K hK => ?_) ?_
    · go_simp
      refine (ref_n 1 _).mono ?_
      rintro e v2 ⟨rfl, hb⟩
      have HB2 := Lib.hid (HB1.out.trans (hb.mono HB1.out.size))
      have QB2 := Lib.hid (QB1.out.below hb QB1.out.lt)
      clear hb
      unfold refV
      refine hK.out _ _ ?_ (fun hHeld2 => ?_)
      · exact HS.out _ HB2.out
      clear hK K hHeld1
      try simp only [Act.put, sA, sB, sC]
      refine wpAnyH_ready (rs := [3, 5]) (by kernel_rfl) (by simp) ?_
      refine AllReadyH.cons rfl (fun K hK => ?_) ?_
      · go_simp
        have HB3 := Lib.hid (HB2.out.alloc HB2.out.size (oK r1 r2))
        have QK3 := Lib.hid (new_K v2 r1 r2)
        have QB3 := Lib.hid (QB2.out.alloc (oK r1 r2))
        have LK := Lib.hid HB2.out.size
        generalize v2.heap.size = bK at QK3 LK ⊢
        generalize v2.alloc _ = v3 at HB3 QB3 QK3 ⊢
        refine hK.out _ _ ?_ (fun hHeld3 => ?_)
        · exact HS.out _ HB3.out
        clear hK K hHeld2
        try simp only [Act.put, sA, sB, sC]
        refine wpAnyH_take (i := 4) (v := ?_) rfl (by kernel_rfl) (by kernel_rfl) (by kernel_rfl) (fun _ _ _ h => h) (Or.inl ⟨by rfl, ?_⟩) hHeld3 ?_
        rotate_left
        · (intro w hSw; (try dsimp only at hSw); go_simp <;> with_reducible rfl)
        try simp only [Act.put, sA, sB, sC]
        try simp only [Act.put, List.getElem_toArray, List.getElem_cons_succ, List.getElem_cons_zero, sA, sB, sC]
        refine wpAnyH_ready (rs := [5]) (by kernel_rfl) (by simp) ?_
        refine AllReadyH.cons rfl (fun K hK => ?_) AllReadyH.nil
        go_simp
        have HB4 := Lib.hid (HB3.out.alloc HB3.out.size oZ)
        have QZ4 := Lib.hid (new_Z v3)
        have QB4 := Lib.hid (QB3.out.alloc oZ)
        have QK4 := Lib.hid (QK3.out.alloc oZ)
        have LZ := Lib.hid HB3.out.size
        generalize v3.heap.size = bZ at QZ4 LZ ⊢
        generalize v3.alloc _ = v4 at HB4 QB4 QK4 QZ4 ⊢
        refine hK.out _ _ ?_ (fun hHeld4 => ?_)
        · exact HS.out _ HB4.out
        clear hK K hHeld3
        try simp only [Act.put, sA, sB, sC]
        refine wpAnyH_ready (rs := [6]) (by kernel_rfl) (by simp) ?_
        refine AllReadyH.cons rfl (fun K hK => ?_) AllReadyH.nil
        have q5 := QZ4.out
        obtain ⟨d0, d1, d2, d3, d4, d5⟩ := cells6 q5
        have fz0 := (q5).frozen 0
        have fz1 := (q5).frozen 1
        have fz2 := (q5).frozen 2
        have fz3 := (q5).frozen 3
        have fz4 := (q5).frozen 4
        have fz5 := (q5).frozen 5
        have l6 := (q5).lt
        obtain ⟨VV, hV, hg, q6⟩ := six_stores (.int .i64 2) (.string { data := #[] }) (.string { data := #[] }) (.string { data := #[] }) (.slice (some ⟨bB, 0, none⟩) 2 2) (.slice (some ⟨bK, 0, none⟩) 2 2) (q5)
        have HF := Lib.hid (pb_store HP.out.1 HP.out.2.1 HP.out.2.2 HB4.out LZ.out QZ4.out QB4.out QK4.out hg q6)
        clear hg q5 q6
        go_simp
        rw [← hV]
        clear hV d0 d1 d2 d3 d4 d5 fz0 fz1 fz2 fz3 fz4 fz5 l6
        refine hK.out _ _ ?_ (fun hHeld5 => ?_)
        · exact HS.out _ HF.out.1
        clear hK K hHeld4
        try simp only [Act.put, sA, sB, sC]
        try simp only [Act.put, List.getElem_toArray, List.getElem_cons_succ, List.getElem_cons_zero, sA, sB, sC]
        refine wpAnyH_done (by kernel_rfl) ?_ _
        refine NoPanic.normal (HQ.out _ _ _ _ _ _ _ _ _ HF.out.1 HF.out.2)
      refine AllReadyH.cons rfl (fun K hK => ?_) ?_
      · go_simp
        have HB3 := Lib.hid (HB2.out.alloc HB2.out.size oZ)
        have QZ3 := Lib.hid (new_Z v2)
        have QB3 := Lib.hid (QB2.out.alloc oZ)
        have LZ := Lib.hid HB2.out.size
        generalize v2.heap.size = bZ at QZ3 LZ ⊢
        generalize v2.alloc _ = v3 at HB3 QB3 QZ3 ⊢
        refine hK.out _ _ ?_ (fun hHeld3 => ?_)
        · exact HS.out _ HB3.out
        clear hK K hHeld2
        try simp only [Act.put, sA, sB, sC]
        refine wpAnyH_ready (rs := [3]) (by kernel_rfl) (by simp) ?_
        refine AllReadyH.cons rfl (fun K hK => ?_) AllReadyH.nil
        go_simp
        have HB4 := Lib.hid (HB3.out.alloc HB3.out.size (oK r1 r2))
        have QK4 := Lib.hid (new_K v3 r1 r2)
        have QB4 := Lib.hid (QB3.out.alloc (oK r1 r2))
        have QZ4 := Lib.hid (QZ3.out.alloc (oK r1 r2))
        have LK := Lib.hid HB3.out.size
        generalize v3.heap.size = bK at QK4 LK ⊢
        generalize v3.alloc _ = v4 at HB4 QB4 QZ4 QK4 ⊢
        refine hK.out _ _ ?_ (fun hHeld4 => ?_)
        · exact HS.out _ HB4.out
        clear hK K hHeld3
        try simp only [Act.put, sA, sB, sC]
        refine wpAnyH_take (i := 4) (v := ?_) rfl (by kernel_rfl) (by kernel_rfl) (by kernel_rfl) (fun _ _ _ h => h) (Or.inl ⟨by rfl, ?_⟩) hHeld4 ?_
        rotate_left
        · (intro w hSw; (try dsimp only at hSw); go_simp <;> with_reducible rfl)
        try simp only [Act.put, sA, sB, sC]
        try simp only [Act.put, List.getElem_toArray, List.getElem_cons_succ, List.getElem_cons_zero, sA, sB, sC]
        refine wpAnyH_ready (rs := [6]) (by kernel_rfl) (by simp) ?_
        refine AllReadyH.cons rfl (fun K hK => ?_) AllReadyH.nil
        have q5 := QZ4.out
        obtain ⟨d0, d1, d2, d3, d4, d5⟩ := cells6 q5
        have fz0 := (q5).frozen 0
        have fz1 := (q5).frozen 1
        have fz2 := (q5).frozen 2
        have fz3 := (q5).frozen 3
        have fz4 := (q5).frozen 4
        have fz5 := (q5).frozen 5
        have l6 := (q5).lt
        obtain ⟨VV, hV, hg, q6⟩ := six_stores (.int .i64 2) (.string { data := #[] }) (.string { data := #[] }) (.string { data := #[] }) (.slice (some ⟨bB, 0, none⟩) 2 2) (.slice (some ⟨bK, 0, none⟩) 2 2) (q5)
        have HF := Lib.hid (pb_store HP.out.1 HP.out.2.1 HP.out.2.2 HB4.out LZ.out QZ4.out QB4.out QK4.out hg q6)
        clear hg q5 q6
        go_simp
        rw [← hV]
        clear hV d0 d1 d2 d3 d4 d5 fz0 fz1 fz2 fz3 fz4 fz5 l6
        refine hK.out _ _ ?_ (fun hHeld5 => ?_)
        · exact HS.out _ HF.out.1
        clear hK K hHeld4
        try simp only [Act.put, sA, sB, sC]
        try simp only [Act.put, List.getElem_toArray, List.getElem_cons_succ, List.getElem_cons_zero, sA, sB, sC]
        refine wpAnyH_done (by kernel_rfl) ?_ _
        refine NoPanic.normal (HQ.out _ _ _ _ _ _ _ _ _ HF.out.1 HF.out.2)
      exact AllReadyH.nil
    refine AllReadyH.cons rfl (fun K hK => ?_) ?_
    · go_simp
      have HB2 := Lib.hid (HB1.out.alloc HB1.out.size oZ)
      have QZ2 := Lib.hid (new_Z v1)
      have QB2 := Lib.hid (QB1.out.alloc oZ)
      have LZ := Lib.hid HB1.out.size
      generalize v1.heap.size = bZ at QZ2 LZ ⊢
      generalize v1.alloc _ = v2 at HB2 QB2 QZ2 ⊢
      refine hK.out _ _ ?_ (fun hHeld2 => ?_)
      · exact HS.out _ HB2.out
      clear hK K hHeld1
      try simp only [Act.put, sA, sB, sC]
      refine wpAnyH_ready (rs := [1]) (by kernel_rfl) (by simp) ?_
      refine AllReadyH.cons rfl (fun K hK => ?_) AllReadyH.nil
      go_simp
      refine (ref_n 1 _).mono ?_
      rintro e v3 ⟨rfl, hb⟩
      have HB3 := Lib.hid (HB2.out.trans (hb.mono HB2.out.size))
      have QB3 := Lib.hid (QB2.out.below hb QB2.out.lt)
      have QZ3 := Lib.hid (QZ2.out.below hb QZ2.out.lt)
      clear hb
      unfold refV
      refine hK.out _ _ ?_ (fun hHeld3 => ?_)
      · exact HS.out _ HB3.out
      clear hK K hHeld2
      try simp only [Act.put, sA, sB, sC]
      refine wpAnyH_ready (rs := [3]) (by kernel_rfl) (by simp) ?_
      refine AllReadyH.cons rfl (fun K hK => ?_) AllReadyH.nil
      go_simp
      have HB4 := Lib.hid (HB3.out.alloc HB3.out.size (oK r1 r2))
      have QK4 := Lib.hid (new_K v3 r1 r2)
      have QB4 := Lib.hid (QB3.out.alloc (oK r1 r2))
      have QZ4 := Lib.hid (QZ3.out.alloc (oK r1 r2))
      have LK := Lib.hid HB3.out.size
      generalize v3.heap.size = bK at QK4 LK ⊢
      generalize v3.alloc _ = v4 at HB4 QB4 QZ4 QK4 ⊢
      refine hK.out _ _ ?_ (fun hHeld4 => ?_)
      · exact HS.out _ HB4.out
      clear hK K hHeld3
      try simp only [Act.put, sA, sB, sC]
      refine wpAnyH_take (i := 4) (v := ?_) rfl (by kernel_rfl) (by kernel_rfl) (by kernel_rfl) (fun _ _ _ h => h) (Or.inl ⟨by rfl, ?_⟩) hHeld4 ?_
      rotate_left
      · (intro w hSw; (try dsimp only at hSw); go_simp <;> with_reducible rfl)
      try simp only [Act.put, sA, sB, sC]
      try simp only [Act.put, List.getElem_toArray, List.getElem_cons_succ, List.getElem_cons_zero, sA, sB, sC]
      refine wpAnyH_ready (rs := [6]) (by kernel_rfl) (by simp) ?_
      refine AllReadyH.cons rfl (fun K hK => ?_) AllReadyH.nil
      have q5 := QZ4.out
      obtain ⟨d0, d1, d2, d3, d4, d5⟩ := cells6 q5
      have fz0 := (q5).frozen 0
      have fz1 := (q5).frozen 1
      have fz2 := (q5).frozen 2
      have fz3 := (q5).frozen 3
      have fz4 := (q5).frozen 4
      have fz5 := (q5).frozen 5
      have l6 := (q5).lt
      obtain ⟨VV, hV, hg, q6⟩ := six_stores (.int .i64 2) (.string { data := #[] }) (.string { data := #[] }) (.string { data := #[] }) (.slice (some ⟨bB, 0, none⟩) 2 2) (.slice (some ⟨bK, 0, none⟩) 2 2) (q5)
      have HF := Lib.hid (pb_store HP.out.1 HP.out.2.1 HP.out.2.2 HB4.out LZ.out QZ4.out QB4.out QK4.out hg q6)
      clear hg q5 q6
      go_simp
      rw [← hV]
      clear hV d0 d1 d2 d3 d4 d5 fz0 fz1 fz2 fz3 fz4 fz5 l6
      refine hK.out _ _ ?_ (fun hHeld5 => ?_)
      · exact HS.out _ HF.out.1
      clear hK K hHeld4
      try simp only [Act.put, sA, sB, sC]
      try simp only [Act.put, List.getElem_toArray, List.getElem_cons_succ, List.getElem_cons_zero, sA, sB, sC]
      refine wpAnyH_done (by kernel_rfl) ?_ _
      refine NoPanic.normal (HQ.out _ _ _ _ _ _ _ _ _ HF.out.1 HF.out.2)
    exact AllReadyH.nil
  refine AllReadyH.cons rfl (fun K hK => ?_) ?_
  · go_simp
    refine (ref_n 1 _).mono ?_
    rintro e v1 ⟨rfl, hb⟩
    have HB1 := Lib.hid (HB0.out.trans (hb.mono HB0.out.size))
    clear hb
    unfold refV
    refine hK.out _ _ ?_ (fun hHeld1 => ?_)
    · exact HS.out _ HB1.out
    clear hK K hHeld0
    try simp only [Act.put, sA, sB, sC]
    refine wpAnyH_ready (rs := [0, 3, 5]) (by kernel_rfl) (by simp) ?_
    refine AllReadyH.cons rfl (fun K hK => ?_) ?_
    · go_simp
      have HB2 := Lib.hid (HB1.out.alloc HB1.out.size oB)
      have QB2 := Lib.hid (new_B v1)
      have LB := Lib.hid HB1.out.size
      generalize v1.heap.size = bB at QB2 LB ⊢
      generalize v1.alloc _ = v2 at HB2 QB2 ⊢
      refine hK.out _ _ ?_ (fun hHeld2 => ?_)
      · exact HS.out _ HB2.out
      clear hK K hHeld1
      try simp only [Act.put, sA, sB, sC]
      refine wpAnyH_ready (rs := [3, 5]) (by kernel_rfl) (by simp) ?_
      refine AllReadyH.cons rfl (fun K hK => ?_) ?_
      · go_simp
        have HB3 := Lib.hid (HB2.out.alloc HB2.out.size (oK r1 r2))
        have QK3 := Lib.hid (new_K v2 r1 r2)
        have QB3 := Lib.hid (QB2.out.alloc (oK r1 r2))
        have LK := Lib.hid HB2.out.size
        generalize v2.heap.size = bK at QK3 LK ⊢
        generalize v2.alloc _ = v3 at HB3 QB3 QK3 ⊢
        refine hK.out _ _ ?_ (fun hHeld3 => ?_)
        · exact HS.out _ HB3.out
        clear hK K hHeld2
        try simp only [Act.put, sA, sB, sC]
        refine wpAnyH_take (i := 4) (v := ?_) rfl (by kernel_rfl) (by kernel_rfl) (by kernel_rfl) (fun _ _ _ h => h) (Or.inl ⟨by rfl, ?_⟩) hHeld3 ?_
        rotate_left
        · (intro w hSw; (try dsimp only at hSw); go_simp <;> with_reducible rfl)
        try simp only [Act.put, sA, sB, sC]
        try simp only [Act.put, List.getElem_toArray, List.getElem_cons_succ, List.getElem_cons_zero, sA, sB, sC]
        refine wpAnyH_ready (rs := [5]) (by kernel_rfl) (by simp) ?_
        refine AllReadyH.cons rfl (fun K hK => ?_) AllReadyH.nil
        go_simp
        have HB4 := Lib.hid (HB3.out.alloc HB3.out.size oZ)
        have QZ4 := Lib.hid (new_Z v3)
        have QB4 := Lib.hid (QB3.out.alloc oZ)
        have QK4 := Lib.hid (QK3.out.alloc oZ)
        have LZ := Lib.hid HB3.out.size
        generalize v3.heap.size = bZ at QZ4 LZ ⊢
        generalize v3.alloc _ = v4 at HB4 QB4 QK4 QZ4 ⊢
        refine hK.out _ _ ?_ (fun hHeld4 => ?_)
        · exact HS.out _ HB4.out
        clear hK K hHeld3
        try simp only [Act.put, sA, sB, sC]
        refine wpAnyH_ready (rs := [6]) (by kernel_rfl) (by simp) ?_
        refine AllReadyH.cons rfl (fun K hK => ?_) AllReadyH.nil
        have q5 := QZ4.out
        obtain ⟨d0, d1, d2, d3, d4, d5⟩ := cells6 q5
        have fz0 := (q5).frozen 0
        have fz1 := (q5).frozen 1
        have fz2 := (q5).frozen 2
        have fz3 := (q5).frozen 3
        have fz4 := (q5).frozen 4
        have fz5 := (q5).frozen 5
        have l6 := (q5).lt
        obtain ⟨VV, hV, hg, q6⟩ := six_stores (.int .i64 2) (.string { data := #[] }) (.string { data := #[] }) (.string { data := #[] }) (.slice (some ⟨bB, 0, none⟩) 2 2) (.slice (some ⟨bK, 0, none⟩) 2 2) (q5)
        have HF := Lib.hid (pb_store HP.out.1 HP.out.2.1 HP.out.2.2 HB4.out LZ.out QZ4.out QB4.out QK4.out hg q6)
        clear hg q5 q6
        go_simp
        rw [← hV]
        clear hV d0 d1 d2 d3 d4 d5 fz0 fz1 fz2 fz3 fz4 fz5 l6
        refine hK.out _ _ ?_ (fun hHeld5 => ?_)
        · exact HS.out _ HF.out.1
        clear hK K hHeld4
        try simp only [Act.put, sA, sB, sC]
        try simp only [Act.put, List.getElem_toArray, List.getElem_cons_succ, List.getElem_cons_zero, sA, sB, sC]
        refine wpAnyH_done (by kernel_rfl) ?_ _
        refine NoPanic.normal (HQ.out _ _ _ _ _ _ _ _ _ HF.out.1 HF.out.2)
      refine AllReadyH.cons rfl (fun K hK => ?_) ?_
      · go_simp
        have HB3 := Lib.hid (HB2.out.alloc HB2.out.size oZ)
        have QZ3 := Lib.hid (new_Z v2)
        have QB3 := Lib.hid (QB2.out.alloc oZ)
        have LZ := Lib.hid HB2.out.size
        generalize v2.heap.size = bZ at QZ3 LZ ⊢
        generalize v2.alloc _ = v3 at HB3 QB3 QZ3 ⊢
        refine hK.out _ _ ?_ (fun hHeld3 => ?_)
        · exact HS.out _ HB3.out
        clear hK K hHeld2
        try simp only [Act.put, sA, sB, sC]
        refine wpAnyH_ready (rs := [3]) (by kernel_rfl) (by simp) ?_
        refine AllReadyH.cons rfl (fun K hK => ?_) AllReadyH.nil
        go_simp
        have HB4 := Lib.hid (HB3.out.alloc HB3.out.size (oK r1 r2))
        have QK4 := Lib.hid (new_K v3 r1 r2)
        have QB4 := Lib.hid (QB3.out.alloc (oK r1 r2))
        have QZ4 := Lib.hid (QZ3.out.alloc (oK r1 r2))
        have LK := Lib.hid HB3.out.size
        generalize v3.heap.size = bK at QK4 LK ⊢
        generalize v3.alloc _ = v4 at HB4 QB4 QZ4 QK4 ⊢
        refine hK.out _ _ ?_ (fun hHeld4 => ?_)
        · exact HS.out _ HB4.out
        clear hK K hHeld3
        try simp only [Act.put, sA, sB, sC]
        refine wpAnyH_take (i := 4) (v := ?_) rfl (by kernel_rfl) (by kernel_rfl) (by kernel_rfl) (fun _ _ _ h => h) (Or.inl ⟨by rfl, ?_⟩) hHeld4 ?_
        rotate_left
        · (intro w hSw; (try dsimp only at hSw); go_simp <;> with_reducible rfl)
        try simp only [Act.put, sA, sB, sC]
        try simp only [Act.put, List.getElem_toArray, List.getElem_cons_succ, List.getElem_cons_zero, sA, sB, sC]
        refine wpAnyH_ready (rs := [6]) (by kernel_rfl) (by simp) ?_
        refine AllReadyH.cons rfl (fun K hK => ?_) AllReadyH.nil
        have q5 := QZ4.out
        obtain ⟨d0, d1, d2, d3, d4, d5⟩ := cells6 q5
        have fz0 := (q5).frozen 0
        have fz1 := (q5).frozen 1
        have fz2 := (q5).frozen 2
        have fz3 := (q5).frozen 3
        have fz4 := (q5).frozen 4
        have fz5 := (q5).frozen 5
        have l6 := (q5).lt
        obtain ⟨VV, hV, hg, q6⟩ := six_stores (.int .i64 2) (.string { data := #[] }) (.string { data := #[] }) (.string { data := #[] }) (.slice (some ⟨bB, 0, none⟩) 2 2) (.slice (some ⟨bK, 0, none⟩) 2 2) (q5)
        have HF := Lib.hid (pb_store HP.out.1 HP.out.2.1 HP.out.2.2 HB4.out LZ.out QZ4.out QB4.out QK4.out hg q6)
        clear hg q5 q6
        go_simp
        rw [← hV]
        clear hV d0 d1 d2 d3 d4 d5 fz0 fz1 fz2 fz3 fz4 fz5 l6
        refine hK.out _ _ ?_ (fun hHeld5 => ?_)
        · exact HS.out _ HF.out.1
        clear hK K hHeld4
        try simp only [Act.put, sA, sB, sC]
        try simp only [Act.put, List.getElem_toArray, List.getElem_cons_succ, List.getElem_cons_zero, sA, sB, sC]
        refine wpAnyH_done (by kernel_rfl) ?_ _
        refine NoPanic.normal (HQ.out _ _ _ _ _ _ _ _ _ HF.out.1 HF.out.2)
      exact AllReadyH.nil
    refine AllReadyH.cons rfl (fun K hK => ?_) ?_
    · go_simp
      have HB2 := Lib.hid (HB1.out.alloc HB1.out.size (oK r1 r2))
      have QK2 := Lib.hid (new_K v1 r1 r2)
      have LK := Lib.hid HB1.out.size
      generalize v1.heap.size = bK at QK2 LK ⊢
      generalize v1.alloc _ = v2 at HB2 QK2 ⊢
      refine hK.out _ _ ?_ (fun hHeld2 => ?_)
      · exact HS.out _ HB2.out
      clear hK K hHeld1
      try simp only [Act.put, sA, sB, sC]
      refine wpAnyH_ready (rs := [0, 5]) (by kernel_rfl) (by simp) ?_
      refine AllReadyH.cons rfl (fun K hK => ?_) ?_
      · go_simp
        have HB3 := Lib.hid (HB2.out.alloc HB2.out.size oB)
        have QB3 := Lib.hid (new_B v2)
        have QK3 := Lib.hid (QK2.out.alloc oB)
        have LB := Lib.hid HB2.out.size
        generalize v2.heap.size = bB at QB3 LB ⊢
        generalize v2.alloc _ = v3 at HB3 QK3 QB3 ⊢
        refine hK.out _ _ ?_ (fun hHeld3 => ?_)
        · exact HS.out _ HB3.out
        clear hK K hHeld2
        try simp only [Act.put, sA, sB, sC]
        refine wpAnyH_take (i := 4) (v := ?_) rfl (by kernel_rfl) (by kernel_rfl) (by kernel_rfl) (fun _ _ _ h => h) (Or.inl ⟨by rfl, ?_⟩) hHeld3 ?_
        rotate_left
        · (intro w hSw; (try dsimp only at hSw); go_simp <;> with_reducible rfl)
        try simp only [Act.put, sA, sB, sC]
        try simp only [Act.put, List.getElem_toArray, List.getElem_cons_succ, List.getElem_cons_zero, sA, sB, sC]
        refine wpAnyH_ready (rs := [5]) (by kernel_rfl) (by simp) ?_
        refine AllReadyH.cons rfl (fun K hK => ?_) AllReadyH.nil
        go_simp
        have HB4 := Lib.hid (HB3.out.alloc HB3.out.size oZ)
        have QZ4 := Lib.hid (new_Z v3)
        have QK4 := Lib.hid (QK3.out.alloc oZ)
        have QB4 := Lib.hid (QB3.out.alloc oZ)
        have LZ := Lib.hid HB3.out.size
        generalize v3.heap.size = bZ at QZ4 LZ ⊢
        generalize v3.alloc _ = v4 at HB4 QK4 QB4 QZ4 ⊢
        refine hK.out _ _ ?_ (fun hHeld4 => ?_)
        · exact HS.out _ HB4.out
        clear hK K hHeld3
        try simp only [Act.put, sA, sB, sC]
        refine wpAnyH_ready (rs := [6]) (by kernel_rfl) (by simp) ?_
        refine AllReadyH.cons rfl (fun K hK => ?_) AllReadyH.nil
        have q5 := QZ4.out
        obtain ⟨d0, d1, d2, d3, d4, d5⟩ := cells6 q5
        have fz0 := (q5).frozen 0
        have fz1 := (q5).frozen 1
        have fz2 := (q5).frozen 2
        have fz3 := (q5).frozen 3
        have fz4 := (q5).frozen 4
        have fz5 := (q5).frozen 5
        have l6 := (q5).lt
        obtain ⟨VV, hV, hg, q6⟩ := six_stores (.int .i64 2) (.string { data := #[] }) (.string { data := #[] }) (.string { data := #[] }) (.slice (some ⟨bB, 0, none⟩) 2 2) (.slice (some ⟨bK, 0, none⟩) 2 2) (q5)
        have HF := Lib.hid (pb_store HP.out.1 HP.out.2.1 HP.out.2.2 HB4.out LZ.out QZ4.out QB4.out QK4.out hg q6)
        clear hg q5 q6
        go_simp
        rw [← hV]
        clear hV d0 d1 d2 d3 d4 d5 fz0 fz1 fz2 fz3 fz4 fz5 l6
        refine hK.out _ _ ?_ (fun hHeld5 => ?_)
        · exact HS.out _ HF.out.1
        clear hK K hHeld4
        try simp only [Act.put, sA, sB, sC]
        try simp only [Act.put, List.getElem_toArray, List.getElem_cons_succ, List.getElem_cons_zero, sA, sB, sC]
        refine wpAnyH_done (by kernel_rfl) ?_ _
        refine NoPanic.normal (HQ.out _ _ _ _ _ _ _ _ _ HF.out.1 HF.out.2)
      refine AllReadyH.cons rfl (fun K hK => ?_) ?_
      · go_simp
        have HB3 := Lib.hid (HB2.out.alloc HB2.out.size oZ)
        have QZ3 := Lib.hid (new_Z v2)
        have QK3 := Lib.hid (QK2.out.alloc oZ)
        have LZ := Lib.hid HB2.out.size
        generalize v2.heap.size = bZ at QZ3 LZ ⊢
        generalize v2.alloc _ = v3 at HB3 QK3 QZ3 ⊢
        refine hK.out _ _ ?_ (fun hHeld3 => ?_)
        · exact HS.out _ HB3.out
        clear hK K hHeld2
        try simp only [Act.put, sA, sB, sC]
        refine wpAnyH_ready (rs := [0]) (by kernel_rfl) (by simp) ?_
        refine AllReadyH.cons rfl (fun K hK => ?_) AllReadyH.nil
        go_simp
        have HB4 := Lib.hid (HB3.out.alloc HB3.out.size oB)
        have QB4 := Lib.hid (new_B v3)
        have QK4 := Lib.hid (QK3.out.alloc oB)
        have QZ4 := Lib.hid (QZ3.out.alloc oB)
        have LB := Lib.hid HB3.out.size
        generalize v3.heap.size = bB at QB4 LB ⊢
        generalize v3.alloc _ = v4 at HB4 QK4 QZ4 QB4 ⊢
        refine hK.out _ _ ?_ (fun hHeld4 => ?_)
        · exact HS.out _ HB4.out
        clear hK K hHeld3
        try simp only [Act.put, sA, sB, sC]
        refine wpAnyH_take (i := 4) (v := ?_) rfl (by kernel_rfl) (by kernel_rfl) (by kernel_rfl) (fun _ _ _ h => h) (Or.inl ⟨by rfl, ?_⟩) hHeld4 ?_
        rotate_left
        · (intro w hSw; (try dsimp only at hSw); go_simp <;> with_reducible rfl)
        try simp only [Act.put, sA, sB, sC]
        try simp only [Act.put, List.getElem_toArray, List.getElem_cons_succ, List.getElem_cons_zero, sA, sB, sC]
        refine wpAnyH_ready (rs := [6]) (by kernel_rfl) (by simp) ?_
        refine AllReadyH.cons rfl (fun K hK => ?_) AllReadyH.nil
        have q5 := QZ4.out
        obtain ⟨d0, d1, d2, d3, d4, d5⟩ := cells6 q5
        have fz0 := (q5).frozen 0
        have fz1 := (q5).frozen 1
        have fz2 := (q5).frozen 2
        have fz3 := (q5).frozen 3
        have fz4 := (q5).frozen 4
        have fz5 := (q5).frozen 5
        have l6 := (q5).lt
        obtain ⟨VV, hV, hg, q6⟩ := six_stores (.int .i64 2) (.string { data := #[] }) (.string { data := #[] }) (.string { data := #[] }) (.slice (some ⟨bB, 0, none⟩) 2 2) (.slice (some ⟨bK, 0, none⟩) 2 2) (q5)
        have HF := Lib.hid (pb_store HP.out.1 HP.out.2.1 HP.out.2.2 HB4.out LZ.out QZ4.out QB4.out QK4.out hg q6)
        clear hg q5 q6
        go_simp
        rw [← hV]
        clear hV d0 d1 d2 d3 d4 d5 fz0 fz1 fz2 fz3 fz4 fz5 l6
        refine hK.out _ _ ?_ (fun hHeld5 => ?_)
        · exact HS.out _ HF.out.1
        clear hK K hHeld4
        try simp only [Act.put, sA, sB, sC]
        try simp only [Act.put, List.getElem_toArray, List.getElem_cons_succ, List.getElem_cons_zero, sA, sB, sC]
        refine wpAnyH_done (by kernel_rfl) ?_ _
        refine NoPanic.normal (HQ.out _ _ _ _ _ _ _ _ _ HF.out.1 HF.out.2)
      exact AllReadyH.nil
    refine AllReadyH.cons rfl (fun K hK => ?_) ?_
    · go_simp
      have HB2 := Lib.hid (HB1.out.alloc HB1.out.size oZ)
      have QZ2 := Lib.hid (new_Z v1)
      have LZ := Lib.hid HB1.out.size
      generalize v1.heap.size = bZ at QZ2 LZ ⊢
      generalize v1.alloc _ = v2 at HB2 QZ2 ⊢
      refine hK.out _ _ ?_ (fun hHeld2 => ?_)
      · exact HS.out _ HB2.out
      clear hK K hHeld1
      try simp only [Act.put, sA, sB, sC]
      refine wpAnyH_ready (rs := [0, 3]) (by kernel_rfl) (by simp) ?_
      refine AllReadyH.cons rfl (fun K hK => ?_) ?_
      · go_simp
        have HB3 := Lib.hid (HB2.out.alloc HB2.out.size oB)
        have QB3 := Lib.hid (new_B v2)
        have QZ3 := Lib.hid (QZ2.out.alloc oB)
        have LB := Lib.hid HB2.out.size
        generalize v2.heap.size = bB at QB3 LB ⊢
        generalize v2.alloc _ = v3 at HB3 QZ3 QB3 ⊢
        refine hK.out _ _ ?_ (fun hHeld3 => ?_)
        · exact HS.out _ HB3.out
        clear hK K hHeld2
        try simp only [Act.put, sA, sB, sC]
        refine wpAnyH_ready (rs := [3]) (by kernel_rfl) (by simp) ?_
        refine AllReadyH.cons rfl (fun K hK => ?_) AllReadyH.nil
        go_simp
        have HB4 := Lib.hid (HB3.out.alloc HB3.out.size (oK r1 r2))
        have QK4 := Lib.hid (new_K v3 r1 r2)
        have QZ4 := Lib.hid (QZ3.out.alloc (oK r1 r2))
        have QB4 := Lib.hid (QB3.out.alloc (oK r1 r2))
        have LK := Lib.hid HB3.out.size
        generalize v3.heap.size = bK at QK4 LK ⊢
        generalize v3.alloc _ = v4 at HB4 QZ4 QB4 QK4 ⊢
        refine hK.out _ _ ?_ (fun hHeld4 => ?_)
        · exact HS.out _ HB4.out
        clear hK K hHeld3
        try simp only [Act.put, sA, sB, sC]
        refine wpAnyH_take (i := 4) (v := ?_) rfl (by kernel_rfl) (by kernel_rfl) (by kernel_rfl) (fun _ _ _ h => h) (Or.inl ⟨by rfl, ?_⟩) hHeld4 ?_
        rotate_left
        · (intro w hSw; (try dsimp only at hSw); go_simp <;> with_reducible rfl)
        try simp only [Act.put, sA, sB, sC]
        try simp only [Act.put, List.getElem_toArray, List.getElem_cons_succ, List.getElem_cons_zero, sA, sB, sC]
        refine wpAnyH_ready (rs := [6]) (by kernel_rfl) (by simp) ?_
        refine AllReadyH.cons rfl (fun K hK => ?_) AllReadyH.nil
        have q5 := QZ4.out
        obtain ⟨d0, d1, d2, d3, d4, d5⟩ := cells6 q5
        have fz0 := (q5).frozen 0
        have fz1 := (q5).frozen 1
        have fz2 := (q5).frozen 2
        have fz3 := (q5).frozen 3
        have fz4 := (q5).frozen 4
        have fz5 := (q5).frozen 5
        have l6 := (q5).lt
        obtain ⟨VV, hV, hg, q6⟩ := six_stores (.int .i64 2) (.string { data := #[] }) (.string { data := #[] }) (.string { data := #[] }) (.slice (some ⟨bB, 0, none⟩) 2 2) (.slice (some ⟨bK, 0, none⟩) 2 2) (q5)
        have HF := Lib.hid (pb_store HP.out.1 HP.out.2.1 HP.out.2.2 HB4.out LZ.out QZ4.out QB4.out QK4.out hg q6)
        clear hg q5 q6
        go_simp
        rw [← hV]
        clear hV d0 d1 d2 d3 d4 d5 fz0 fz1 fz2 fz3 fz4 fz5 l6
        refine hK.out _ _ ?_ (fun hHeld5 => ?_)
        · exact HS.out _ HF.out.1
        clear hK K hHeld4
        try simp only [Act.put, sA, sB, sC]
        try simp only [Act.put, List.getElem_toArray, List.getElem_cons_succ, List.getElem_cons_zero, sA, sB, sC]
        refine wpAnyH_done (by kernel_rfl) ?_ _
        refine NoPanic.normal (HQ.out _ _ _ _ _ _ _ _ _ HF.out.1 HF.out.2)
      refine AllReadyH.cons rfl (fun K hK => ?_) ?_
      · go_simp
        have HB3 := Lib.hid (HB2.out.alloc HB2.out.size (oK r1 r2))
        have QK3 := Lib.hid (new_K v2 r1 r2)
        have QZ3 := Lib.hid (QZ2.out.alloc (oK r1 r2))
        have LK := Lib.hid HB2.out.size
        generalize v2.heap.size = bK at QK3 LK ⊢
        generalize v2.alloc _ = v3 at HB3 QZ3 QK3 ⊢
        refine hK.out _ _ ?_ (fun hHeld3 => ?_)
        · exact HS.out _ HB3.out
        clear hK K hHeld2
        try simp only [Act.put, sA, sB, sC]
        refine wpAnyH_ready (rs := [0]) (by kernel_rfl) (by simp) ?_
        refine AllReadyH.cons rfl (fun K hK => ?_) AllReadyH.nil
        go_simp
        have HB4 := Lib.hid (HB3.out.alloc HB3.out.size oB)
        have QB4 := Lib.hid (new_B v3)
        have QZ4 := Lib.hid (QZ3.out.alloc oB)
        have QK4 := Lib.hid (QK3.out.alloc oB)
        have LB := Lib.hid HB3.out.size
        generalize v3.heap.size = bB at QB4 LB ⊢
        generalize v3.alloc _ = v4 at HB4 QZ4 QK4 QB4 ⊢
        refine hK.out _ _ ?_ (fun hHeld4 => ?_)
        · exact HS.out _ HB4.out
        clear hK K hHeld3
        try simp only [Act.put, sA, sB, sC]
        refine wpAnyH_take (i := 4) (v := ?_) rfl (by kernel_rfl) (by kernel_rfl) (by kernel_rfl) (fun _ _ _ h => h) (Or.inl ⟨by rfl, ?_⟩) hHeld4 ?_
        rotate_left
        · (intro w hSw; (try dsimp only at hSw); go_simp <;> with_reducible rfl)
        try simp only [Act.put, sA, sB, sC]
        try simp only [Act.put, List.getElem_toArray, List.getElem_cons_succ, List.getElem_cons_zero, sA, sB, sC]
        refine wpAnyH_ready (rs := [6]) (by kernel_rfl) (by simp) ?_
        refine AllReadyH.cons rfl (fun K hK => ?_) AllReadyH.nil
        have q5 := QZ4.out
        obtain ⟨d0, d1, d2, d3, d4, d5⟩ := cells6 q5
        have fz0 := (q5).frozen 0
        have fz1 := (q5).frozen 1
        have fz2 := (q5).frozen 2
        have fz3 := (q5).frozen 3
        have fz4 := (q5).frozen 4
        have fz5 := (q5).frozen 5
        have l6 := (q5).lt
        obtain ⟨VV, hV, hg, q6⟩ := six_stores (.int .i64 2) (.string { data := #[] }) (.string { data := #[] }) (.string { data := #[] }) (.slice (some ⟨bB, 0, none⟩) 2 2) (.slice (some ⟨bK, 0, none⟩) 2 2) (q5)
        have HF := Lib.hid (pb_store HP.out.1 HP.out.2.1 HP.out.2.2 HB4.out LZ.out QZ4.out QB4.out QK4.out hg q6)
        clear hg q5 q6
        go_simp
        rw [← hV]
        clear hV d0 d1 d2 d3 d4 d5 fz0 fz1 fz2 fz3 fz4 fz5 l6
        refine hK.out _ _ ?_ (fun hHeld5 => ?_)
        · exact HS.out _ HF.out.1
        clear hK K hHeld4
        try simp only [Act.put, sA, sB, sC]
        try simp only [Act.put, List.getElem_toArray, List.getElem_cons_succ, List.getElem_cons_zero, sA, sB, sC]
        refine wpAnyH_done (by kernel_rfl) ?_ _
        refine NoPanic.normal (HQ.out _ _ _ _ _ _ _ _ _ HF.out.1 HF.out.2)
      exact AllReadyH.nil
    exact AllReadyH.nil
  refine AllReadyH.cons rfl (fun K hK => ?_) ?_
  · go_simp
    have HB1 := Lib.hid (HB0.out.alloc HB0.out.size oZ)
    have QZ1 := Lib.hid (new_Z v0)
    have LZ := Lib.hid HB0.out.size
    generalize v0.heap.size = bZ at QZ1 LZ ⊢
    generalize v0.alloc _ = v1 at HB1 QZ1 ⊢
    refine hK.out _ _ ?_ (fun hHeld1 => ?_)
    · exact HS.out _ HB1.out
    clear hK K hHeld0
    try simp only [Act.put, sA, sB, sC]
    refine wpAnyH_ready (rs := [0, 1]) (by kernel_rfl) (by simp) ?_
    refine AllReadyH.cons rfl (fun K hK => ?_) ?_
    · go_simp
      have HB2 := Lib.hid (HB1.out.alloc HB1.out.size oB)
      have QB2 := Lib.hid (new_B v1)
      have QZ2 := Lib.hid (QZ1.out.alloc oB)
      have LB := Lib.hid HB1.out.size
      generalize v1.heap.size = bB at QB2 LB ⊢
      generalize v1.alloc _ = v2 at HB2 QZ2 QB2 ⊢
      refine hK.out _ _ ?_ (fun hHeld2 => ?_)
      · exact HS.out _ HB2.out
      clear hK K hHeld1
      try simp only [Act.put, sA, sB, sC]
      refine wpAnyH_ready (rs := [1]) (by kernel_rfl) (by simp) ?_
      refine AllReadyH.cons rfl (fun K hK => ?_) AllReadyH.nil
      go_simp
      refine (ref_n 1 _).mono ?_
      rintro e v3 ⟨rfl, hb⟩
      have HB3 := Lib.hid (HB2.out.trans (hb.mono HB2.out.size))
      have QZ3 := Lib.hid (QZ2.out.below hb QZ2.out.lt)
      have QB3 := Lib.hid (QB2.out.below hb QB2.out.lt)
      clear hb
      unfold refV
      refine hK.out _ _ ?_ (fun hHeld3 => ?_)
      · exact HS.out _ HB3.out
      clear hK K hHeld2
      try simp only [Act.put, sA, sB, sC]
      refine wpAnyH_ready (rs := [3]) (by kernel_rfl) (by simp) ?_
      refine AllReadyH.cons rfl (fun K hK => ?_) AllReadyH.nil
      go_simp
      have HB4 := Lib.hid (HB3.out.alloc HB3.out.size (oK r1 r2))
      have QK4 := Lib.hid (new_K v3 r1 r2)
      have QZ4 := Lib.hid (QZ3.out.alloc (oK r1 r2))
      have QB4 := Lib.hid (QB3.out.alloc (oK r1 r2))
      have LK := Lib.hid HB3.out.size
      generalize v3.heap.size = bK at QK4 LK ⊢
      generalize v3.alloc _ = v4 at HB4 QZ4 QB4 QK4 ⊢
      refine hK.out _ _ ?_ (fun hHeld4 => ?_)
      · exact HS.out _ HB4.out
      clear hK K hHeld3
      try simp only [Act.put, sA, sB, sC]
      refine wpAnyH_take (i := 4) (v := ?_) rfl (by kernel_rfl) (by kernel_rfl) (by kernel_rfl) (fun _ _ _ h => h) (Or.inl ⟨by rfl, ?_⟩) hHeld4 ?_
      rotate_left
      · (intro w hSw; (try dsimp only at hSw); go_simp <;> with_reducible rfl)
      try simp only [Act.put, sA, sB, sC]
      try simp only [Act.put, List.getElem_toArray, List.getElem_cons_succ, List.getElem_cons_zero, sA, sB, sC]
      refine wpAnyH_ready (rs := [6]) (by kernel_rfl) (by simp) ?_
      refine AllReadyH.cons rfl (fun K hK => ?_) AllReadyH.nil
      have q5 := QZ4.out
      obtain ⟨d0, d1, d2, d3, d4, d5⟩ := cells6 q5
      have fz0 := (q5).frozen 0
      have fz1 := (q5).frozen 1
      have fz2 := (q5).frozen 2
      have fz3 := (q5).frozen 3
      have fz4 := (q5).frozen 4
      have fz5 := (q5).frozen 5
      have l6 := (q5).lt
      obtain ⟨VV, hV, hg, q6⟩ := six_stores (.int .i64 2) (.string { data := #[] }) (.string { data := #[] }) (.string { data := #[] }) (.slice (some ⟨bB, 0, none⟩) 2 2) (.slice (some ⟨bK, 0, none⟩) 2 2) (q5)
      have HF := Lib.hid (pb_store HP.out.1 HP.out.2.1 HP.out.2.2 HB4.out LZ.out QZ4.out QB4.out QK4.out hg q6)
      clear hg q5 q6
      go_simp
      rw [← hV]
      clear hV d0 d1 d2 d3 d4 d5 fz0 fz1 fz2 fz3 fz4 fz5 l6
      refine hK.out _ _ ?_ (fun hHeld5 => ?_)
      · exact HS.out _ HF.out.1
      clear hK K hHeld4
      try simp only [Act.put, sA, sB, sC]
      try simp only [Act.put, List.getElem_toArray, List.getElem_cons_succ, List.getElem_cons_zero, sA, sB, sC]
      refine wpAnyH_done (by kernel_rfl) ?_ _
      refine NoPanic.normal (HQ.out _ _ _ _ _ _ _ _ _ HF.out.1 HF.out.2)
    refine AllReadyH.cons rfl (fun K hK => ?_) ?_
    · go_simp
      refine (ref_n 1 _).mono ?_
      rintro e v2 ⟨rfl, hb⟩
      have HB2 := Lib.hid (HB1.out.trans (hb.mono HB1.out.size))
      have QZ2 := Lib.hid (QZ1.out.below hb QZ1.out.lt)
      clear hb
      unfold refV
      refine hK.out _ _ ?_ (fun hHeld2 => ?_)
      · exact HS.out _ HB2.out
      clear hK K hHeld1
      try simp only [Act.put, sA, sB, sC]
      refine wpAnyH_ready (rs := [0, 3]) (by kernel_rfl) (by simp) ?_
      refine AllReadyH.cons rfl (fun K hK => ?_) ?_
      · go_simp
        have HB3 := Lib.hid (HB2.out.alloc HB2.out.size oB)
        have QB3 := Lib.hid (new_B v2)
        have QZ3 := Lib.hid (QZ2.out.alloc oB)
        have LB := Lib.hid HB2.out.size
        generalize v2.heap.size = bB at QB3 LB ⊢
        generalize v2.alloc _ = v3 at HB3 QZ3 QB3 ⊢
        refine hK.out _ _ ?_ (fun hHeld3 => ?_)
        · exact HS.out _ HB3.out
        clear hK K hHeld2
        try simp only [Act.put, sA, sB, sC]
        refine wpAnyH_ready (rs := [3]) (by kernel_rfl) (by simp) ?_
        refine AllReadyH.cons rfl (fun K hK => ?_) AllReadyH.nil
        go_simp
        have HB4 := Lib.hid (HB3.out.alloc HB3.out.size (oK r1 r2))
        have QK4 := Lib.hid (new_K v3 r1 r2)
        have QZ4 := Lib.hid (QZ3.out.alloc (oK r1 r2))
        have QB4 := Lib.hid (QB3.out.alloc (oK r1 r2))
        have LK := Lib.hid HB3.out.size
        generalize v3.heap.size = bK at QK4 LK ⊢
        generalize v3.alloc _ = v4 at HB4 QZ4 QB4 QK4 ⊢
        refine hK.out _ _ ?_ (fun hHeld4 => ?_)
        · exact HS.out _ HB4.out
        clear hK K hHeld3
        try simp only [Act.put, sA, sB, sC]
        refine wpAnyH_take (i := 4) (v := ?_) rfl (by kernel_rfl) (by kernel_rfl) (by kernel_rfl) (fun _ _ _ h => h) (Or.inl ⟨by rfl, ?_⟩) hHeld4 ?_
        rotate_left
        · (intro w hSw; (try dsimp only at hSw); go_simp <;> with_reducible rfl)
        try simp only [Act.put, sA, sB, sC]
        try simp only [Act.put, List.getElem_toArray, List.getElem_cons_succ, List.getElem_cons_zero, sA, sB, sC]
        refine wpAnyH_ready (rs := [6]) (by kernel_rfl) (by simp) ?_
        refine AllReadyH.cons rfl (fun K hK => ?_) AllReadyH.nil
        have q5 := QZ4.out
        obtain ⟨d0, d1, d2, d3, d4, d5⟩ := cells6 q5
        have fz0 := (q5).frozen 0
        have fz1 := (q5).frozen 1
        have fz2 := (q5).frozen 2
        have fz3 := (q5).frozen 3
        have fz4 := (q5).frozen 4
        have fz5 := (q5).frozen 5
        have l6 := (q5).lt
        obtain ⟨VV, hV, hg, q6⟩ := six_stores (.int .i64 2) (.string { data := #[] }) (.string { data := #[] }) (.string { data := #[] }) (.slice (some ⟨bB, 0, none⟩) 2 2) (.slice (some ⟨bK, 0, none⟩) 2 2) (q5)
        have HF := Lib.hid (pb_store HP.out.1 HP.out.2.1 HP.out.2.2 HB4.out LZ.out QZ4.out QB4.out QK4.out hg q6)
        clear hg q5 q6
        go_simp
        rw [← hV]
        clear hV d0 d1 d2 d3 d4 d5 fz0 fz1 fz2 fz3 fz4 fz5 l6
        refine hK.out _ _ ?_ (fun hHeld5 => ?_)
        · exact HS.out _ HF.out.1
        clear hK K hHeld4
        try simp only [Act.put, sA, sB, sC]
        try simp only [Act.put, List.getElem_toArray, List.getElem_cons_succ, List.getElem_cons_zero, sA, sB, sC]
        refine wpAnyH_done (by kernel_rfl) ?_ _
        refine NoPanic.normal (HQ.out _ _ _ _ _ _ _ _ _ HF.out.1 HF.out.2)
      refine AllReadyH.cons rfl (fun K hK => ?_) ?_
      · go_simp
        have HB3 := Lib.hid (HB2.out.alloc HB2.out.size (oK r1 r2))
        have QK3 := Lib.hid (new_K v2 r1 r2)
        have QZ3 := Lib.hid (QZ2.out.alloc (oK r1 r2))
        have LK := Lib.hid HB2.out.size
        generalize v2.heap.size = bK at QK3 LK ⊢
        generalize v2.alloc _ = v3 at HB3 QZ3 QK3 ⊢
        refine hK.out _ _ ?_ (fun hHeld3 => ?_)
        · exact HS.out _ HB3.out
        clear hK K hHeld2
        try simp only [Act.put, sA, sB, sC]
        refine wpAnyH_ready (rs := [0]) (by kernel_rfl) (by simp) ?_
        refine AllReadyH.cons rfl (fun K hK => ?_) AllReadyH.nil
        go_simp
        have HB4 := Lib.hid (HB3.out.alloc HB3.out.size oB)
        have QB4 := Lib.hid (new_B v3)
        have QZ4 := Lib.hid (QZ3.out.alloc oB)
        have QK4 := Lib.hid (QK3.out.alloc oB)
        have LB := Lib.hid HB3.out.size
        generalize v3.heap.size = bB at QB4 LB ⊢
        generalize v3.alloc _ = v4 at HB4 QZ4 QK4 QB4 ⊢
        refine hK.out _ _ ?_ (fun hHeld4 => ?_)
        · exact HS.out _ HB4.out
        clear hK K hHeld3
        try simp only [Act.put, sA, sB, sC]
        refine wpAnyH_take (i := 4) (v := ?_) rfl (by kernel_rfl) (by kernel_rfl) (by kernel_rfl) (fun _ _ _ h => h) (Or.inl ⟨by rfl, ?_⟩) hHeld4 ?_
        rotate_left
        · (intro w hSw; (try dsimp only at hSw); go_simp <;> with_reducible rfl)
        try simp only [Act.put, sA, sB, sC]
        try simp only [Act.put, List.getElem_toArray, List.getElem_cons_succ, List.getElem_cons_zero, sA, sB, sC]
        refine wpAnyH_ready (rs := [6]) (by kernel_rfl) (by simp) ?_
        refine AllReadyH.cons rfl (fun K hK => ?_) AllReadyH.nil
        have q5 := QZ4.out
        obtain ⟨d0, d1, d2, d3, d4, d5⟩ := cells6 q5
        have fz0 := (q5).frozen 0
        have fz1 := (q5).frozen 1
        have fz2 := (q5).frozen 2
        have fz3 := (q5).frozen 3
        have fz4 := (q5).frozen 4
        have fz5 := (q5).frozen 5
        have l6 := (q5).lt
        obtain ⟨VV, hV, hg, q6⟩ := six_stores (.int .i64 2) (.string { data := #[] }) (.string { data := #[] }) (.string { data := #[] }) (.slice (some ⟨bB, 0, none⟩) 2 2) (.slice (some ⟨bK, 0, none⟩) 2 2) (q5)
        have HF := Lib.hid (pb_store HP.out.1 HP.out.2.1 HP.out.2.2 HB4.out LZ.out QZ4.out QB4.out QK4.out hg q6)
        clear hg q5 q6
        go_simp
        rw [← hV]
        clear hV d0 d1 d2 d3 d4 d5 fz0 fz1 fz2 fz3 fz4 fz5 l6
        refine hK.out _ _ ?_ (fun hHeld5 => ?_)
        · exact HS.out _ HF.out.1
        clear hK K hHeld4
        try simp only [Act.put, sA, sB, sC]
        try simp only [Act.put, List.getElem_toArray, List.getElem_cons_succ, List.getElem_cons_zero, sA, sB, sC]
        refine wpAnyH_done (by kernel_rfl) ?_ _
        refine NoPanic.normal (HQ.out _ _ _ _ _ _ _ _ _ HF.out.1 HF.out.2)
      exact AllReadyH.nil
    exact AllReadyH.nil
  exact AllReadyH.nil
end Go.Proofs.YtgjgcbemgmkncaaGreatDoor
namespace Go.Proofs.YtgjgcbemgmkncaaGreatDoor
open Go.RowKit Go.Shelf
set_option linter.unusedVariables false
set_option linter.unusedSimpArgs false
set_option maxRecDepth 20000

set_option maxHeartbeats 12800000 in
set_option maxRecDepth 100000 in
theorem pb25 {u0 u1 u2 u3 u4 u5 u6 u7 u8 u11 u14 u15 u16 u17 u18 u19 u20 u21 u22 u23 u24 u25 u26 u27 u28 u29 u30 u31 u32 u33 u34 u35 u36 u37 u38 u39 u40 u41 u42 u43 u44 u45 u46 u47 u48 u49 u50 u51 u52 u53 u54 u55 u56 u57 u58 u59 u60 u61 u62 u63 u64 u65 u66 u67 u68 u69 u70 u71 u72 u73 u74 u75 u76 u77 u78 u79 u80 u81 u82 u83 u84 u85 u86 u87 u88 u89 u90 u91 u92 u93 u94 u95 u96 u97 u98 u99 u100 u101 u102 u103 u104 u105 u106 u107 u108 u109 u110 u111 u112 u113 u114 u115 u116 u117 u118 u119 u120 u121 u122 u123 u124 u125 u126 u127 u128 u129 u130 u131 u132 u133 u134 u135 u136 u137 u138 u139 u140 u141 u142 u143 u144 u145 : Value} {ds : List Deferred} {Q : Exit → Act → World → Prop} (gs g12 g13 i : Nat) (n1 n2 : Int) (x : Nd) (A A' : Option Addr) (ca ca' : Nat) (r : Int × Int) (cs : List (Nat × TypeId × Array Value)) (w w0 : World) (h : EnW w cs [⟨g13, x, A, ca, A', ca'⟩] w0) (hc : (g12, 29, #[.int .i64 r.1, .int .u32 r.2]) ∈ cs) (hs : (gs, 3, slotC) ∈ cs) (hrok : refOk r) (hi : i < 6) (c1 : w0.cell? ⟨gs, i, none⟩ = some (.int .i64 n1)) (c2 : w0.cell? ⟨gs, 5 - i, none⟩ = some (.int .i64 n2))
    (hQ : ∀ (z85 z86 z87 z88 z89 z90 z91 z92 z93 z94 z95 z96 z97 z98 z99 z100 z101 z102 z103 z104 z105 z106 z107 z108 z109 z110 : Value) (V : World), Below w0.heap.size w0 V → Q .normal ⟨#[u0, u1, u2, u3, u4, u5, u6, u7, u8, .slice (some ⟨gs, 0, none⟩) 6 6, .int .i64 (i : Int), u11, .pointer (some ⟨g12, 0, none⟩), .pointer (some ⟨g13, 0, none⟩), u14, u15, u16, u17, u18, u19, u20, u21, u22, u23, u24, u25, u26, u27, u28, u29, u30, u31, u32, u33, u34, u35, u36, u37, u38, u39, u40, u41, u42, u43, u44, u45, u46, u47, u48, u49, u50, u51, u52, u53, u54, u55, u56, u57, u58, u59, u60, u61, u62, u63, u64, u65, u66, u67, u68, u69, u70, u71, u72, u73, u74, u75, u76, u77, u78, u79, u80, u81, u82, u83, u84, z85, z86, z87, z88, z89, z90, z91, z92, z93, z94, z95, z96, z97, z98, z99, z100, z101, z102, z103, z104, z105, z106, z107, z108, z109, z110, .bool false, u112, u113, u114, u115, u116, u117, u118, u119, u120, u121, u122, u123, u124, u125, u126, u127, u128, u129, u130, u131, u132, u133, u134, u135, u136, u137, u138, u139, u140, u141, u142, u143, u144, u145], ds⟩ V) :
    Code.wp Tryz.prog (part Tryz.f15 [1, 1, 1, 1, 1, 0, 1, 2, 2, 1, 0, 2, 1, 2, 2, 1, 0, 2, 1, 1, 0, 0]) Q ⟨#[u0, u1, u2, u3, u4, u5, u6, u7, u8, .slice (some ⟨gs, 0, none⟩) 6 6, .int .i64 (i : Int), u11, .pointer (some ⟨g12, 0, none⟩), .pointer (some ⟨g13, 0, none⟩), u14, u15, u16, u17, u18, u19, u20, u21, u22, u23, u24, u25, u26, u27, u28, u29, u30, u31, u32, u33, u34, u35, u36, u37, u38, u39, u40, u41, u42, u43, u44, u45, u46, u47, u48, u49, u50, u51, u52, u53, u54, u55, u56, u57, u58, u59, u60, u61, u62, u63, u64, u65, u66, u67, u68, u69, u70, u71, u72, u73, u74, u75, u76, u77, u78, u79, u80, u81, u82, u83, u84, u85, u86, u87, u88, u89, u90, u91, u92, u93, u94, u95, u96, u97, u98, u99, u100, u101, u102, u103, u104, u105, u106, u107, u108, u109, u110, u111, u112, u113, u114, u115, u116, u117, u118, u119, u120, u121, u122, u123, u124, u125, u126, u127, u128, u129, u130, u131, u132, u133, u134, u135, u136, u137, u138, u139, u140, u141, u142, u143, u144, u145], ds⟩ w0 := by
  conv => arg 2; whnf
  have HQ := Lib.hid hQ
  have ls := (h.get hs).lt
  have HS : Hid (∀ V : World, Below w0.heap.size w0 V → (fun V : World => (V.cell? ⟨g13, 0, none⟩ = some (.int .i64 x.kind) ∧ V.cell? ⟨g13, 1, none⟩ = some (.string x.code) ∧ V.cell? ⟨g13, 2, none⟩ = some (.string x.value) ∧ V.cell? ⟨g13, 3, none⟩ = some (.string x.path) ∧ V.cell? ⟨g13, 4, none⟩ = some (.slice A x.bytes.length ca) ∧ V.cell? ⟨g13, 5, none⟩ = some (.slice A' x.kids.length ca')) ∧ V.cell? ⟨gs, i, none⟩ = some (.int .i64 n1) ∧ V.cell? ⟨gs, 5 - i, none⟩ = some (.int .i64 n2) ∧ V.cell? ⟨g12, 0, none⟩ = some (.int .i64 r.1) ∧ V.cell? ⟨g12, 1, none⟩ = some (.int .u32 r.2)) V) := Lib.hid (fun V hb => ⟨cells6 (h.on hb).ctx.b0.blk, (hb.cell (p := ⟨gs, i, none⟩) ls).trans c1, (hb.cell (p := ⟨gs, 5 - i, none⟩) ls).trans c2, ((h.on hb).get hc).cell 0, ((h.on hb).get hc).cell 1⟩)
  have HB0 : Hid (Below w0.heap.size w0 w0.drew) := Lib.hid (Below.refl _ _).drew
  have HX := Lib.hid (asked h (by simp : (⟨g13, x, A, ca, A', ca'⟩ : NB) ∈ _))
  have HRM : Hid (∀ V, Below w0.heap.size w0 V → RoomsAt V) := Lib.hid (fun V hb => (h.on hb).ctx.rooms)
  have HRO := Lib.hid hrok
  have i1 : (0 : Int) ≤ (i : Int) := by omega
  have i2 : (i : Int) < 6 := by omega
  have s1 : IntKind.i64.wrap (5 - (i : Int)) = ((5 - i : Nat) : Int) := by rw [IntWalk.i64_in _ (by omega)]; omega
  have i3 : (0 : Int) ≤ ((5 - i : Nat) : Int) := by omega
  have i4 : ((5 - i : Nat) : Int) < 6 := by omega
  have i5 : 5 - i < 6 := by omega
  obtain ⟨r1, r2⟩ := r
  dsimp only at HS
  clear hQ h hc hs hrok c1 c2 ls
  refine wp_region_noPanic ?_
  refine wp_region_held_drew (S := (fun V : World => (V.cell? ⟨g13, 0, none⟩ = some (.int .i64 x.kind) ∧ V.cell? ⟨g13, 1, none⟩ = some (.string x.code) ∧ V.cell? ⟨g13, 2, none⟩ = some (.string x.value) ∧ V.cell? ⟨g13, 3, none⟩ = some (.string x.path) ∧ V.cell? ⟨g13, 4, none⟩ = some (.slice A x.bytes.length ca) ∧ V.cell? ⟨g13, 5, none⟩ = some (.slice A' x.kids.length ca')) ∧ V.cell? ⟨gs, i, none⟩ = some (.int .i64 n1) ∧ V.cell? ⟨gs, 5 - i, none⟩ = some (.int .i64 n2) ∧ V.cell? ⟨g12, 0, none⟩ = some (.int .i64 r1) ∧ V.cell? ⟨g12, 1, none⟩ = some (.int .u32 r2))) (by kernel_rfl) ?_ (fun hHeld0 => ?_)
  · exact HS.out _ HB0.out
  refine wpAnyH_take (i := 0) (v := ?_) rfl (by kernel_rfl) (by kernel_rfl) (by kernel_rfl) (fun _ _ _ h => h) (Or.inl ⟨by rfl, ?_⟩) hHeld0 ?_
  rotate_left
  · (intro w hSw; (try dsimp only at hSw); go_simp <;> with_reducible rfl)
  try simp only [Act.put, sA, sB, sC]
  refine wpAnyH_take (i := 1) (v := ?_) rfl (by kernel_rfl) (by kernel_rfl) (by kernel_rfl) (fun _ _ _ h => h) (Or.inl ⟨by rfl, ?_⟩) hHeld0 ?_
  rotate_left
  · (intro w hSw; (try dsimp only at hSw); go_simp <;> with_reducible rfl)
  try simp only [Act.put, sA, sB, sC]
  refine wpAnyH_take (i := 2) (v := ?_) rfl (by kernel_rfl) (by kernel_rfl) (by kernel_rfl) (fun _ _ _ h => h) (Or.inl ⟨by rfl, ?_⟩) hHeld0 ?_
  rotate_left
  · (intro w hSw; (try dsimp only at hSw); go_simp <;> with_reducible rfl)
  try simp only [Act.put, sA, sB, sC]
  refine wpAnyH_take (i := 3) (v := ?_) rfl (by kernel_rfl) (by kernel_rfl) (by kernel_rfl) (fun _ _ _ h => h) (Or.inl ⟨by rfl, ?_⟩) hHeld0 ?_
  rotate_left
  · (intro w hSw; (try dsimp only at hSw); go_simp <;> with_reducible rfl)
  try simp only [Act.put, sA, sB, sC]
  refine wpAnyH_take (i := 4) (v := ?_) rfl (by kernel_rfl) (by kernel_rfl) (by kernel_rfl) (fun _ _ _ h => h) (Or.inl ⟨by rfl, ?_⟩) hHeld0 ?_
  rotate_left
  · (intro w hSw; (try dsimp only at hSw); go_simp <;> with_reducible rfl)
  try simp only [Act.put, sA, sB, sC]
  refine wpAnyH_ready (rs := [5]) (by kernel_rfl) (by simp) ?_
  refine AllReadyH.cons rfl (fun K hK => ?_) AllReadyH.nil
  go_simp
  refine (ref_n 2 _).mono ?_
  rintro e v1 ⟨rfl, hb⟩
  have HB1 := Lib.hid (HB0.out.trans (hb.mono HB0.out.size))
  clear hb
  unfold refV
  refine hK.out _ _ ?_ (fun hHeld1 => ?_)
  · exact HS.out _ HB1.out
  clear hK K hHeld0
  try simp only [Act.put, sA, sB, sC]
  refine wpAnyH_ready (rs := [6]) (by kernel_rfl) (by simp) ?_
  refine AllReadyH.cons rfl (fun K hK => ?_) AllReadyH.nil
  go_simp
  refine ((HX.out _ HB1.out).1 4 _ (2, 1) _ (by omega) (refOk_one (by omega))).mono ?_
  rintro e v2 ⟨rfl, hb⟩
  have HB2 := Lib.hid (HB1.out.trans (hb.mono HB1.out.size))
  clear hb
  refine hK.out _ _ ?_ (fun hHeld2 => ?_)
  · exact HS.out _ HB2.out
  clear hK K hHeld1
  try simp only [Act.put, sA, sB, sC]
  refine wpAnyH_take (i := 7) (v := ?_) rfl (by kernel_rfl) (by kernel_rfl) (by kernel_rfl) (fun _ _ _ h => h) (Or.inl ⟨by rfl, ?_⟩) hHeld2 ?_
  rotate_left
  · (intro w hSw; (try dsimp only at hSw); go_simp <;> with_reducible rfl)
  try simp only [Act.put, sA, sB, sC]
  refine wpAnyH_take (i := 8) (v := ?_) rfl (by kernel_rfl) (by kernel_rfl) (by kernel_rfl) (fun _ _ _ h => h) (Or.inl ⟨by rfl, ?_⟩) hHeld2 ?_
  rotate_left
  · (intro w hSw; (try dsimp only at hSw); go_simp <;> with_reducible rfl)
  try simp only [Act.put, sA, sB, sC]
  refine wpAnyH_take (i := 11) (v := ?_) rfl (by kernel_rfl) (by kernel_rfl) (by kernel_rfl) (fun _ _ _ h => h) (Or.inl ⟨by kernel_rfl, ?_⟩) hHeld2 ?_
  rotate_left
  · (intro w hSw; (try dsimp only at hSw); go_simp <;> with_reducible rfl)
  try simp only [Act.put, sA, sB, sC]
  refine wpAnyH_take (i := 12) (v := ?_) rfl (by kernel_rfl) (by kernel_rfl) (by kernel_rfl) (fun _ _ _ h => h) (Or.inl ⟨by kernel_rfl, ?_⟩) hHeld2 ?_
  rotate_left
  · (intro w hSw; (try dsimp only at hSw); go_simp <;> with_reducible rfl)
  try simp only [Act.put, sA, sB, sC]
  refine wpAnyH_take (i := 13) (v := ?_) rfl (by kernel_rfl) (by kernel_rfl) (by kernel_rfl) (fun _ _ _ h => h) (Or.inl ⟨by kernel_rfl, ?_⟩) hHeld2 ?_
  rotate_left
  · (intro w hSw; (try dsimp only at hSw); go_simp <;> with_reducible rfl)
  try simp only [Act.put, sA, sB, sC]
  refine wpAnyH_take (i := 14) (v := ?_) rfl (by kernel_rfl) (by kernel_rfl) (by kernel_rfl) (fun _ _ _ h => h) (Or.inl ⟨by kernel_rfl, ?_⟩) hHeld2 ?_
  rotate_left
  · (intro w hSw; (try dsimp only at hSw); go_simp <;> with_reducible rfl)
  try simp only [Act.put, sA, sB, sC]
  refine wpAnyH_take (i := 15) (v := ?_) rfl (by kernel_rfl) (by kernel_rfl) (by kernel_rfl) (fun _ _ _ h => h) (Or.inl ⟨by kernel_rfl, ?_⟩) hHeld2 ?_
  rotate_left
  · (intro w hSw; (try dsimp only at hSw); go_simp <;> with_reducible rfl)
  try simp only [Act.put, sA, sB, sC]
  refine wpAnyH_take (i := 16) (v := ?_) rfl (by kernel_rfl) (by kernel_rfl) (by kernel_rfl) (fun _ _ _ h => h) (Or.inl ⟨by kernel_rfl, ?_⟩) hHeld2 ?_
  rotate_left
  · (intro w hSw; (try dsimp only at hSw); go_simp <;> with_reducible rfl)
  try simp only [Act.put, sA, sB, sC]
  refine wpAnyH_ready (rs := [9]) (by kernel_rfl) (by simp) ?_
  refine AllReadyH.cons rfl (fun K hK => ?_) AllReadyH.nil
  go_simp
  have HB3 := Lib.hid (HB2.out.alloc HB2.out.size (.cells #[.int .u8 3, .int .u8 5] 5))
  have QB3 : Hid (Blk (v2.alloc (.cells #[.int .u8 3, .int .u8 5] 5)) v2.heap.size 5 #[.int .u8 3, .int .u8 5]) := Lib.hid (Blk.new _ _ _)
  generalize v2.heap.size = b2 at QB3 ⊢
  generalize v2.alloc _ = v3 at HB3 QB3 ⊢
  refine hK.out _ _ ?_ (fun hHeld3 => ?_)
  · exact HS.out _ HB3.out
  clear hK K hHeld2
  try simp only [Act.put, sA, sB, sC]
  refine wpAnyH_ready (rs := [10]) (by kernel_rfl) (by simp) ?_
  refine AllReadyH.cons rfl (fun K hK => ?_) AllReadyH.nil
  go_simp
  have hin := linner_c v3.heap.size 2 { data := #[] } (some ⟨b2, 0, none⟩) 2 [3, 5] v3 (Nat.le_refl _) (by omega) (by decide) ((reads_of_blk QB3.out rfl rfl).more QB3.out.lt) (by simp) (by decide)
  have HIN := Lib.hid hin
  clear hin
  refine HIN.out.mono ?_
  rintro e v4 ⟨y, D, d, D', d', rfl, hnd, hb, -⟩
  have HB4 := Lib.hid (HB3.out.trans (hb.mono HB3.out.size))
  have HND := Lib.hid hnd
  clear hb hnd HIN QB3
  refine hK.out _ _ ?_ (fun hHeld4 => ?_)
  · exact HS.out _ HB4.out
  clear hK K hHeld3
  try simp only [Act.put, sA, sB, sC]
  refine wpAnyH_ready (rs := [17]) (by kernel_rfl) (by simp) ?_
  refine AllReadyH.cons rfl (fun K hK => ?_) AllReadyH.nil
  go_simp
  have hq := nodeTells_n y _ 4 n2 (r1, r2) true v4 HND.out (HRM.out _ HB4.out) (by omega) HRO.out
  have HQ2 := Lib.hid hq
  clear hq HND
  unfold Nd.v at HQ2
  refine HQ2.out.mono ?_
  rintro e v5 ⟨rfl, hb⟩
  have HB5 := Lib.hid (HB4.out.trans (hb.mono HB4.out.size))
  clear hb HQ2
  refine hK.out _ _ ?_ (fun hHeld5 => ?_)
  · exact HS.out _ HB5.out
  clear hK K hHeld4
  try simp only [Act.put, sA, sB, sC]
  refine wpAnyH_take (i := 18) (v := ?_) rfl (by kernel_rfl) (by kernel_rfl) (by kernel_rfl) (fun _ _ _ h => h) (Or.inl ⟨by kernel_rfl, ?_⟩) hHeld5 ?_
  rotate_left
  · (intro w hSw; (try dsimp only at hSw); go_simp <;> with_reducible rfl)
  try simp only [Act.put, sA, sB, sC]
  refine wpAnyH_take (i := 19) (v := ?_) rfl (by kernel_rfl) (by kernel_rfl) (by kernel_rfl) (fun _ _ _ h => h) (Or.inl ⟨by rfl, ?_⟩) hHeld5 ?_
  rotate_left
  · (intro w hSw; (try dsimp only at hSw); go_simp <;> with_reducible rfl)
  try simp only [Act.put, sA, sB, sC]
  refine wpAnyH_take (i := 20) (v := ?_) rfl (by kernel_rfl) (by kernel_rfl) (by kernel_rfl) (fun _ _ _ h => h) (Or.inl ⟨by rfl, ?_⟩) hHeld5 ?_
  rotate_left
  · (intro w hSw; (try dsimp only at hSw); go_simp <;> with_reducible rfl)
  try simp only [Act.put, sA, sB, sC]
  refine wpAnyH_take (i := 23) (v := ?_) rfl (by kernel_rfl) (by kernel_rfl) (by kernel_rfl) (fun _ _ _ h => h) (Or.inl ⟨by kernel_rfl, ?_⟩) hHeld5 ?_
  rotate_left
  · (intro w hSw; (try dsimp only at hSw); go_simp <;> with_reducible rfl)
  try simp only [Act.put, sA, sB, sC]
  refine wpAnyH_ready (rs := [21]) (by kernel_rfl) (by simp) ?_
  refine AllReadyH.cons (Array.getElem?_eq_getElem (by decide)) (fun K hK => ?_) AllReadyH.nil
  simp only [List.getElem_toArray, List.getElem_cons_succ, List.getElem_cons_zero]
  rw [if_pos (by kernel_rfl)]
  go_simp
  have HB6 := Lib.hid (HB5.out.alloc HB5.out.size (.cells #[.int .u8 3, .int .u8 5] 5))
  have QB6 : Hid (Blk (v5.alloc (.cells #[.int .u8 3, .int .u8 5] 5)) v5.heap.size 5 #[.int .u8 3, .int .u8 5]) := Lib.hid (Blk.new _ _ _)
  generalize v5.heap.size = b5 at QB6 ⊢
  generalize v5.alloc _ = v6 at HB6 QB6 ⊢
  refine hK.out _ _ ?_ (fun hHeld6 => ?_)
  · exact HS.out _ HB6.out
  clear hK K hHeld5
  try simp only [Act.put, sA, sB, sC]
  refine wpAnyH_ready (rs := [22]) (by kernel_rfl) (by simp) ?_
  refine AllReadyH.cons (Array.getElem?_eq_getElem (by decide)) (fun K hK => ?_) AllReadyH.nil
  simp only [List.getElem_toArray, List.getElem_cons_succ, List.getElem_cons_zero]
  rw [if_pos (by kernel_rfl)]
  go_simp
  have hin := linner_c v6.heap.size 2 { data := #[] } (some ⟨b5, 0, none⟩) 2 [3, 5] v6 (Nat.le_refl _) (by omega) (by decide) ((reads_of_blk QB6.out rfl rfl).more QB6.out.lt) (by simp) (by decide)
  have HIN := Lib.hid hin
  clear hin
  refine HIN.out.mono ?_
  rintro e v7 ⟨y, D, d, D', d', rfl, hnd, hb, -⟩
  have HB7 := Lib.hid (HB6.out.trans (hb.mono HB6.out.size))
  have HND := Lib.hid hnd
  clear hb hnd HIN QB6
  refine hK.out _ _ ?_ (fun hHeld7 => ?_)
  · exact HS.out _ HB7.out
  clear hK K hHeld6
  try simp only [Act.put, sA, sB, sC]
  refine wpAnyH_ready (rs := [24]) (by kernel_rfl) (by simp) ?_
  refine AllReadyH.cons (Array.getElem?_eq_getElem (by decide)) (fun K hK => ?_) AllReadyH.nil
  simp only [List.getElem_toArray, List.getElem_cons_succ, List.getElem_cons_zero]
  rw [if_pos (by kernel_rfl)]
  go_simp
  have hq := nodeTells_n y _ 5 6 (r1, r2) true v7 HND.out (HRM.out _ HB7.out) (by omega) HRO.out
  have HQ2 := Lib.hid hq
  clear hq HND
  unfold Nd.v at HQ2
  refine HQ2.out.mono ?_
  rintro e v8 ⟨rfl, hb⟩
  have HB8 := Lib.hid (HB7.out.trans (hb.mono HB7.out.size))
  clear hb HQ2
  refine hK.out _ _ ?_ (fun hHeld8 => ?_)
  · exact HS.out _ HB8.out
  clear hK K hHeld7
  try simp only [Act.put, sA, sB, sC]
  refine wpAnyH_take (i := 25) (v := ?_) rfl (by kernel_rfl) (by kernel_rfl) (by kernel_rfl) (fun _ _ _ h => h) (Or.inl ⟨by kernel_rfl, ?_⟩) hHeld8 ?_
  rotate_left
  · (intro w hSw; (try dsimp only at hSw); go_simp <;> with_reducible rfl)
  try simp only [Act.put, sA, sB, sC]
  refine wpAnyH_take (i := 26) (v := ?_) rfl (by kernel_rfl) (by kernel_rfl) (by kernel_rfl) (fun _ _ _ h => h) (Or.inl ⟨by rfl, ?_⟩) hHeld8 ?_
  rotate_left
  · (intro w hSw; (try dsimp only at hSw); go_simp <;> with_reducible rfl)
  try simp only [Act.put, sA, sB, sC]
  try simp only [Act.put, List.getElem_toArray, List.getElem_cons_succ, List.getElem_cons_zero, sA, sB, sC]
  refine wpAnyH_done (by kernel_rfl) ?_ _
  refine NoPanic.normal (HQ.out _ _ _ _ _ _ _ _ _ _ _ _ _ _ _ _ _ _ _ _ _ _ _ _ _ _ _ HB8.out)
end Go.Proofs.YtgjgcbemgmkncaaGreatDoor
namespace Go.Proofs.YtgjgcbemgmkncaaGreatDoor
open Go.RowKit Go.Shelf
set_option linter.unusedVariables false
set_option linter.unusedSimpArgs false
set_option maxRecDepth 20000

set_option maxHeartbeats 12800000 in
set_option maxRecDepth 100000 in
theorem pb_round {u0 u1 u2 u3 u4 u5 u6 u7 u8 u12 u13 u14 u15 u16 u17 u18 u19 u20 u21 u22 u23 u24 u25 u26 u27 u28 u29 u30 u31 u32 u33 u34 u35 u36 u37 u38 u39 u40 u41 u42 u43 u44 u45 u46 u47 u48 u49 u50 u51 u52 u53 u54 u55 u56 u57 u58 u59 u60 u61 u62 u63 u64 u65 u66 u67 u68 u69 u70 u71 u72 u73 u74 u75 u76 u77 u78 u79 u80 u81 u82 u83 u84 u85 u86 u87 u88 u89 u90 u91 u92 u93 u94 u95 u96 u97 u98 u99 u100 u101 u102 u103 u104 u105 u106 u107 u108 u109 u110 u111 u112 u113 u114 u115 u116 u117 u118 u119 u120 u121 u122 u123 u124 u125 u126 u127 u128 u129 u130 u131 u132 u133 u134 u135 u136 u137 u138 u139 u140 u141 u142 u143 u144 u145 : Value} {ds : List Deferred} {Q : Exit → Act → World → Prop} (gs i g : Nat) (cs : List (Nat × TypeId × Array Value)) (w w0 : World) (hr0 : RoomsAt w) (h : EnW w cs [] w0) (hs : (gs, 3, slotC) ∈ cs) (hi : i < 6) (hg : g < 3)
    (hQ : ∀ (z12 z13 z74 z75 z76 z77 z78 z79 z80 z81 z82 z83 z84 z85 z86 z87 z88 z89 z90 z91 z92 z93 z94 z95 z96 z97 z98 z99 z100 z101 z102 z103 z104 z105 z106 z107 z108 z109 z110 z111 : Value) (V : World), EnW w cs [] V → Q .normal ⟨#[u0, u1, u2, u3, u4, u5, u6, u7, u8, .slice (some ⟨gs, 0, none⟩) 6 6, .int .i64 (i : Int), .int .u32 (g : Int), z12, z13, u14, u15, u16, u17, u18, u19, u20, u21, u22, u23, u24, u25, u26, u27, u28, u29, u30, u31, u32, u33, u34, u35, u36, u37, u38, u39, u40, u41, u42, u43, u44, u45, u46, u47, u48, u49, u50, u51, u52, u53, u54, u55, u56, u57, u58, u59, u60, u61, u62, u63, u64, u65, u66, u67, u68, u69, u70, u71, u72, u73, z74, z75, z76, z77, z78, z79, z80, z81, z82, z83, z84, z85, z86, z87, z88, z89, z90, z91, z92, z93, z94, z95, z96, z97, z98, z99, z100, z101, z102, z103, z104, z105, z106, z107, z108, z109, z110, z111, u112, u113, u114, u115, u116, u117, u118, u119, u120, u121, u122, u123, u124, u125, u126, u127, u128, u129, u130, u131, u132, u133, u134, u135, u136, u137, u138, u139, u140, u141, u142, u143, u144, u145], ds⟩ V) :
    Code.wp Tryz.prog (part Tryz.f15 [1, 1, 1, 1, 1, 0, 1, 2, 2, 1, 0, 2, 1, 2, 2, 1, 0, 2]) Q ⟨#[u0, u1, u2, u3, u4, u5, u6, u7, u8, .slice (some ⟨gs, 0, none⟩) 6 6, .int .i64 (i : Int), .int .u32 (g : Int), u12, u13, u14, u15, u16, u17, u18, u19, u20, u21, u22, u23, u24, u25, u26, u27, u28, u29, u30, u31, u32, u33, u34, u35, u36, u37, u38, u39, u40, u41, u42, u43, u44, u45, u46, u47, u48, u49, u50, u51, u52, u53, u54, u55, u56, u57, u58, u59, u60, u61, u62, u63, u64, u65, u66, u67, u68, u69, u70, u71, u72, u73, u74, u75, u76, u77, u78, u79, u80, u81, u82, u83, u84, u85, u86, u87, u88, u89, u90, u91, u92, u93, u94, u95, u96, u97, u98, u99, u100, u101, u102, u103, u104, u105, u106, u107, u108, u109, u110, u111, u112, u113, u114, u115, u116, u117, u118, u119, u120, u121, u122, u123, u124, u125, u126, u127, u128, u129, u130, u131, u132, u133, u134, u135, u136, u137, u138, u139, u140, u141, u142, u143, u144, u145], ds⟩ w0 := by
  conv => arg 2; whnf
  have HQ := Lib.hid hQ
  have HP := Lib.hid (And.intro hr0 hs)
  obtain ⟨n1, hn1, c1⟩ := slot_cell (h.get hs) i hi
  obtain ⟨n2, hn2, c2⟩ := slot_cell (h.get hs) (5 - i) (by omega)
  have ls := (h.get hs).lt
  have i1 : (0 : Int) ≤ (i : Int) := by omega
  have i2 : (i : Int) < 6 := by omega
  have HC := Lib.hid (And.intro c1 (And.intro c2 (And.intro ls hn1)))
  have H0 := Lib.hid h
  clear hQ hr0 hs h c2 hn1 hn2 ls
  refine wp_seq_k fun K0 hK => ?_
  have HK0 := Lib.hid hK
  clear hK
  go_wp2_with fail
  refine HK0.out _ _ ?_
  clear HK0 c1
  have H1 := Lib.hid (H0.out.const 29 #[.int .i64 n1, .int .u32 (g : Int)])
  have HC1 : Hid ((w0.alloc (.cells #[.int .i64 n1, .int .u32 (g : Int)] 29)).cell? ⟨gs, i, none⟩ = some (.int .i64 n1) ∧ (w0.alloc (.cells #[.int .i64 n1, .int .u32 (g : Int)] 29)).cell? ⟨gs, 5 - i, none⟩ = some (.int .i64 n2)) := Lib.hid ⟨((below_box w0 _).cell (p := ⟨gs, i, none⟩) HC.out.2.2.1).trans HC.out.1, ((below_box w0 _).cell (p := ⟨gs, 5 - i, none⟩) HC.out.2.2.1).trans HC.out.2.1⟩
  have HLS : Hid (gs < (w0.alloc (.cells #[.int .i64 n1, .int .u32 (g : Int)] 29)).heap.size) := Lib.hid (Nat.lt_of_lt_of_le HC.out.2.2.1 (below_box w0 _).size)
  have HRO : Hid (refOk (n1, (g : Int))) := Lib.hid ⟨HC.out.2.2.2, by dsimp only; omega, by dsimp only; omega⟩
  clear H0 HC
  generalize w0.alloc _ = V1 at H1 HC1 HLS ⊢
  generalize w0.heap.size = g12 at H1 ⊢
  refine wp_seq_k fun K1 hK => ?_
  have HK1 := Lib.hid hK
  clear hK
  refine pb24 g12 (n1, (g : Int)) _ w V1 HP.out.1 H1.out (by simp) HRO.out (fun t80 t81 t82 t83 t84 g13 bB bK V2 hb h2 => ?_)
  have H2 := Lib.hid h2
  have HC2 : Hid (V2.cell? ⟨gs, i, none⟩ = some (.int .i64 n1) ∧ V2.cell? ⟨gs, 5 - i, none⟩ = some (.int .i64 n2)) := Lib.hid ⟨(hb.cell (p := ⟨gs, i, none⟩) HLS.out).trans HC1.out.1, (hb.cell (p := ⟨gs, 5 - i, none⟩) HLS.out).trans HC1.out.2⟩
  clear h2 hb H1 HC1 HLS
  refine HK1.out _ _ ?_
  clear HK1
  refine wp_seq_k fun K2 hK => ?_
  have HK2 := Lib.hid hK
  clear hK
  refine pb25 gs g12 g13 i n1 n2 _ _ _ _ _ (n1, (g : Int)) _ w V2 H2.out (by simp) (by simp [HP.out.2]) HRO.out hi HC2.out.1 HC2.out.2 (fun t85 t86 t87 t88 t89 t90 t91 t92 t93 t94 t95 t96 t97 t98 t99 t100 t101 t102 t103 t104 t105 t106 t107 t108 t109 t110 V3 hb => ?_)
  have H3 := Lib.hid (H2.out.on hb)
  clear hb H2 HC2
  refine HK2.out _ _ ?_
  clear HK2
  go_wp2_with fail
  exact HQ.out _ _ _ _ _ _ _ _ _ _ _ _ _ _ _ _ _ _ _ _ _ _ _ _ _ _ _ _ _ _ _ _ _ _ _ _ _ _ _ _ _ (H3.out.drop.fewer (fun p hp => by simp [hp]))
set_option maxHeartbeats 12800000 in
set_option maxRecDepth 100000 in
theorem pb_loop2 {u0 u1 u2 u3 u4 u5 u6 u7 u8 u11 u12 u13 u14 u15 u16 u17 u18 u19 u20 u21 u22 u23 u24 u25 u26 u27 u28 u29 u30 u31 u32 u33 u34 u35 u36 u37 u38 u39 u40 u41 u42 u43 u44 u45 u46 u47 u48 u49 u50 u51 u52 u53 u54 u55 u56 u57 u58 u59 u60 u61 u62 u63 u64 u65 u66 u67 u68 u69 u70 u71 u72 u73 u74 u75 u76 u77 u78 u79 u80 u81 u82 u83 u84 u85 u86 u87 u88 u89 u90 u91 u92 u93 u94 u95 u96 u97 u98 u99 u100 u101 u102 u103 u104 u105 u106 u107 u108 u109 u110 u111 u112 u113 u114 u115 u116 u117 u118 u119 u120 u121 u122 u123 u124 u125 u126 u127 u128 u129 u130 u131 u132 u133 u134 u135 u136 u137 u138 u139 u140 u141 u142 u143 u144 u145 : Value} {ds : List Deferred} {Q : Exit → Act → World → Prop} (gs i : Nat) (cs : List (Nat × TypeId × Array Value)) (w w0 : World) (hr0 : RoomsAt w) (h : EnW w cs [] w0) (hs : (gs, 3, slotC) ∈ cs) (hi : i < 6)
    (hQ : ∀ (z0 z11 z12 z13 z70 z71 z72 z73 z74 z75 z76 z77 z78 z79 z80 z81 z82 z83 z84 z85 z86 z87 z88 z89 z90 z91 z92 z93 z94 z95 z96 z97 z98 z99 z100 z101 z102 z103 z104 z105 z106 z107 z108 z109 z110 z111 : Value) (V : World), EnW w cs [] V → Q .normal ⟨#[z0, u1, u2, u3, u4, u5, u6, u7, u8, .slice (some ⟨gs, 0, none⟩) 6 6, .int .i64 (i : Int), z11, z12, z13, u14, u15, u16, u17, u18, u19, u20, u21, u22, u23, u24, u25, u26, u27, u28, u29, u30, u31, u32, u33, u34, u35, u36, u37, u38, u39, u40, u41, u42, u43, u44, u45, u46, u47, u48, u49, u50, u51, u52, u53, u54, u55, u56, u57, u58, u59, u60, u61, u62, u63, u64, u65, u66, u67, u68, u69, z70, z71, z72, z73, z74, z75, z76, z77, z78, z79, z80, z81, z82, z83, z84, z85, z86, z87, z88, z89, z90, z91, z92, z93, z94, z95, z96, z97, z98, z99, z100, z101, z102, z103, z104, z105, z106, z107, z108, z109, z110, z111, u112, u113, u114, u115, u116, u117, u118, u119, u120, u121, u122, u123, u124, u125, u126, u127, u128, u129, u130, u131, u132, u133, u134, u135, u136, u137, u138, u139, u140, u141, u142, u143, u144, u145], ds⟩ V) :
    Code.wp Tryz.prog (part Tryz.f15 [1, 1, 1, 1, 1, 0, 1, 2, 2, 1, 0, 2]) Q ⟨#[u0, u1, u2, u3, u4, u5, u6, u7, u8, .slice (some ⟨gs, 0, none⟩) 6 6, .int .i64 (i : Int), u11, u12, u13, u14, u15, u16, u17, u18, u19, u20, u21, u22, u23, u24, u25, u26, u27, u28, u29, u30, u31, u32, u33, u34, u35, u36, u37, u38, u39, u40, u41, u42, u43, u44, u45, u46, u47, u48, u49, u50, u51, u52, u53, u54, u55, u56, u57, u58, u59, u60, u61, u62, u63, u64, u65, u66, u67, u68, u69, u70, u71, u72, u73, u74, u75, u76, u77, u78, u79, u80, u81, u82, u83, u84, u85, u86, u87, u88, u89, u90, u91, u92, u93, u94, u95, u96, u97, u98, u99, u100, u101, u102, u103, u104, u105, u106, u107, u108, u109, u110, u111, u112, u113, u114, u115, u116, u117, u118, u119, u120, u121, u122, u123, u124, u125, u126, u127, u128, u129, u130, u131, u132, u133, u134, u135, u136, u137, u138, u139, u140, u141, u142, u143, u144, u145], ds⟩ w0 := by
  conv => arg 2; whnf
  have HQ := Lib.hid hQ
  have HP := Lib.hid (And.intro hr0 hs)
  have H0 := Lib.hid h
  clear hQ hr0 hs h
  go_wp2_with fail
  go_loopw [11] (fun j wr => ∃ g : Nat, g ≤ 3 ∧ j = .int .u32 (g : Int) ∧ Hid (EnW w cs [] wr)) (fun j _ => 3 - (intOf j).toNat)
  case atStart => exact ⟨0, by omega, rfl, H0⟩
  case round =>
    clear H0
    obtain ⟨g, hgl, rfl, HW⟩ := hrel
    by_cases hlt : g < 3
    · have j3 : (g : Int) < 3 := by omega
      refine wp_seq_k fun K2 hK => ?_
      have HK2 := Lib.hid hK
      clear hK
      go_wp2_with fail
      refine HK2.out _ _ ?_
      clear HK2
      refine wp_seq_k fun K3 hK => ?_
      have HK3 := Lib.hid hK
      clear hK
      refine wp_block ?_
      refine pb_round gs i g cs w wr HP.out.1 HW.out HP.out.2 hi hlt (fun t12 t13 t74 t75 t76 t77 t78 t79 t80 t81 t82 t83 t84 t85 t86 t87 t88 t89 t90 t91 t92 t93 t94 t95 t96 t97 t98 t99 t100 t101 t102 t103 t104 t105 t106 t107 t108 t109 t110 t111 V hV => ?_)
      have HV := Lib.hid hV
      clear hV HW
      refine HK3.out _ _ ?_
      clear HK3
      go_wp2
      go_roundw
      case rel => exact ⟨g + 1, by omega, by go_num, HV⟩
      case measure => simp [intOf]; omega
    · obtain rfl : g = 3 := by omega
      go_wp2
      exact HQ.out _ _ _ _ _ _ _ _ _ _ _ _ _ _ _ _ _ _ _ _ _ _ _ _ _ _ _ _ _ _ _ _ _ _ _ _ _ _ _ _ _ _ _ _ _ _ _ HW.out
set_option maxHeartbeats 12800000 in
set_option maxRecDepth 100000 in
theorem pb_loop1 {u0 u1 u2 u3 u4 u5 u6 u7 u8 u10 u11 u12 u13 u14 u15 u16 u17 u18 u19 u20 u21 u22 u23 u24 u25 u26 u27 u28 u29 u30 u31 u32 u33 u34 u35 u36 u37 u38 u39 u40 u41 u42 u43 u44 u45 u46 u47 u48 u49 u50 u51 u52 u53 u54 u55 u56 u57 u58 u59 u60 u61 u62 u63 u64 u65 u66 u67 u68 u69 u70 u71 u72 u73 u74 u75 u76 u77 u78 u79 u80 u81 u82 u83 u84 u85 u86 u87 u88 u89 u90 u91 u92 u93 u94 u95 u96 u97 u98 u99 u100 u101 u102 u103 u104 u105 u106 u107 u108 u109 u110 u111 u112 u113 u114 u115 u116 u117 u118 u119 u120 u121 u122 u123 u124 u125 u126 u127 u128 u129 u130 u131 u132 u133 u134 u135 u136 u137 u138 u139 u140 u141 u142 u143 u144 u145 : Value} {ds : List Deferred} {Q : Exit → Act → World → Prop} (gs : Nat) (cs : List (Nat × TypeId × Array Value)) (w w0 : World) (hr0 : RoomsAt w) (h : EnW w cs [] w0) (hs : (gs, 3, slotC) ∈ cs)
    (hQ : ∀ (z0 z10 z11 z12 z13 z66 z67 z68 z69 z70 z71 z72 z73 z74 z75 z76 z77 z78 z79 z80 z81 z82 z83 z84 z85 z86 z87 z88 z89 z90 z91 z92 z93 z94 z95 z96 z97 z98 z99 z100 z101 z102 z103 z104 z105 z106 z107 z108 z109 z110 z111 : Value) (V : World), EnW w cs [] V → Q .normal ⟨#[z0, u1, u2, u3, u4, u5, u6, u7, u8, .slice (some ⟨gs, 0, none⟩) 6 6, z10, z11, z12, z13, u14, u15, u16, u17, u18, u19, u20, u21, u22, u23, u24, u25, u26, u27, u28, u29, u30, u31, u32, u33, u34, u35, u36, u37, u38, u39, u40, u41, u42, u43, u44, u45, u46, u47, u48, u49, u50, u51, u52, u53, u54, u55, u56, u57, u58, u59, u60, u61, u62, u63, u64, u65, z66, z67, z68, z69, z70, z71, z72, z73, z74, z75, z76, z77, z78, z79, z80, z81, z82, z83, z84, z85, z86, z87, z88, z89, z90, z91, z92, z93, z94, z95, z96, z97, z98, z99, z100, z101, z102, z103, z104, z105, z106, z107, z108, z109, z110, z111, u112, u113, u114, u115, u116, u117, u118, u119, u120, u121, u122, u123, u124, u125, u126, u127, u128, u129, u130, u131, u132, u133, u134, u135, u136, u137, u138, u139, u140, u141, u142, u143, u144, u145], ds⟩ V) :
    Code.wp Tryz.prog (part Tryz.f15 [1, 1, 1, 1, 1, 0]) Q ⟨#[u0, u1, u2, u3, u4, u5, u6, u7, u8, .slice (some ⟨gs, 0, none⟩) 6 6, u10, u11, u12, u13, u14, u15, u16, u17, u18, u19, u20, u21, u22, u23, u24, u25, u26, u27, u28, u29, u30, u31, u32, u33, u34, u35, u36, u37, u38, u39, u40, u41, u42, u43, u44, u45, u46, u47, u48, u49, u50, u51, u52, u53, u54, u55, u56, u57, u58, u59, u60, u61, u62, u63, u64, u65, u66, u67, u68, u69, u70, u71, u72, u73, u74, u75, u76, u77, u78, u79, u80, u81, u82, u83, u84, u85, u86, u87, u88, u89, u90, u91, u92, u93, u94, u95, u96, u97, u98, u99, u100, u101, u102, u103, u104, u105, u106, u107, u108, u109, u110, u111, u112, u113, u114, u115, u116, u117, u118, u119, u120, u121, u122, u123, u124, u125, u126, u127, u128, u129, u130, u131, u132, u133, u134, u135, u136, u137, u138, u139, u140, u141, u142, u143, u144, u145], ds⟩ w0 := by
  conv => arg 2; whnf
  have HQ := Lib.hid hQ
  have HP := Lib.hid (And.intro hr0 hs)
  have H0 := Lib.hid h
  clear hQ hr0 hs h
  go_wp2_with fail
  go_loopw [10] (fun j wr => ∃ i : Nat, i ≤ 6 ∧ j = .int .i64 (i : Int) ∧ Hid (EnW w cs [] wr)) (fun j _ => 6 - (intOf j).toNat)
  case atStart => exact ⟨0, by omega, rfl, H0⟩
  case round =>
    clear H0
    obtain ⟨i, hil, rfl, HW⟩ := hrel
    by_cases hlt : i < 6
    · have j3 : (i : Int) < 6 := by omega
      refine wp_seq_k fun K2 hK => ?_
      have HK2 := Lib.hid hK
      clear hK
      go_wp2_with fail
      refine HK2.out _ _ ?_
      clear HK2
      refine wp_seq_k fun K3 hK => ?_
      have HK3 := Lib.hid hK
      clear hK
      refine wp_block ?_
      refine pb_loop2 gs i cs w wr HP.out.1 HW.out HP.out.2 hlt (fun t0 t11 t12 t13 t70 t71 t72 t73 t74 t75 t76 t77 t78 t79 t80 t81 t82 t83 t84 t85 t86 t87 t88 t89 t90 t91 t92 t93 t94 t95 t96 t97 t98 t99 t100 t101 t102 t103 t104 t105 t106 t107 t108 t109 t110 t111 V hV => ?_)
      have HV := Lib.hid hV
      clear hV HW
      refine HK3.out _ _ ?_
      clear HK3
      go_wp2
      go_roundw
      case rel => exact ⟨i + 1, by omega, by go_num, HV⟩
      case measure => simp [intOf]; omega
    · obtain rfl : i = 6 := by omega
      go_wp2
      exact HQ.out _ _ _ _ _ _ _ _ _ _ _ _ _ _ _ _ _ _ _ _ _ _ _ _ _ _ _ _ _ _ _ _ _ _ _ _ _ _ _ _ _ _ _ _ _ _ _ _ _ _ _ _ HW.out
end Go.Proofs.YtgjgcbemgmkncaaGreatDoor
namespace Go.Proofs.YtgjgcbemgmkncaaGreatDoor
open Go.RowKit Go.Shelf
set_option linter.unusedVariables false
set_option linter.unusedSimpArgs false
set_option maxRecDepth 20000

set_option maxHeartbeats 12800000 in
set_option maxRecDepth 100000 in
theorem pa_loop2 {u0 u4 u5 u6 u7 u8 u9 u10 u11 u12 u13 u14 u15 u16 u17 u18 u19 u20 u21 u22 u23 u24 u25 u26 u27 u28 u29 u30 u31 u32 u33 u34 u35 u36 u37 u38 u39 u40 u41 u42 u43 u44 u45 u46 u47 u48 u49 u50 u51 u52 u53 u54 u55 u56 u57 u58 u59 u60 u61 u62 u63 u64 u65 u66 u67 u68 u69 u70 u71 u72 u73 u74 u75 u76 u77 u78 u79 u80 u81 u82 u83 u84 u85 u86 u87 u88 u89 u90 u91 u92 u93 u94 u95 u96 u97 u98 u99 u100 u101 u102 u103 u104 u105 u106 u107 u108 u109 u110 u111 u112 u113 u114 u115 u116 u117 u118 u119 u120 u121 u122 u123 u124 u125 u126 u127 u128 u129 u130 u131 u132 u133 u134 u135 u136 u137 u138 u139 u140 u141 u142 u143 u144 u145 : Value} {ds : List Deferred} {Q : Exit → Act → World → Prop} (gc gv i : Nat) (cs : List (Nat × TypeId × Array Value)) (w w0 : World) (hr0 : RoomsAt w) (h : EnW w cs [] w0) (hc : (gc, 9, codeC) ∈ cs) (hv : (gv, 9, valC) ∈ cs) (hi : i < 6)
    (hQ : ∀ (z0 z4 z5 z6 z7 z8 z24 z25 z26 z27 z28 z29 z30 z31 z32 z33 z34 z35 z36 z37 z38 z39 z40 z41 z42 z43 z44 z45 z46 z47 z48 z49 z50 z51 z52 z53 z54 z55 z56 z57 z58 z59 z60 z61 z62 z63 z64 : Value) (V : World), EnW w cs [] V → Q .normal ⟨#[z0, .slice (some ⟨gc, 0, none⟩) 6 6, .slice (some ⟨gv, 0, none⟩) 4 4, .int .i64 (i : Int), z4, z5, z6, z7, z8, u9, u10, u11, u12, u13, u14, u15, u16, u17, u18, u19, u20, u21, u22, u23, z24, z25, z26, z27, z28, z29, z30, z31, z32, z33, z34, z35, z36, z37, z38, z39, z40, z41, z42, z43, z44, z45, z46, z47, z48, z49, z50, z51, z52, z53, z54, z55, z56, z57, z58, z59, z60, z61, z62, z63, z64, u65, u66, u67, u68, u69, u70, u71, u72, u73, u74, u75, u76, u77, u78, u79, u80, u81, u82, u83, u84, u85, u86, u87, u88, u89, u90, u91, u92, u93, u94, u95, u96, u97, u98, u99, u100, u101, u102, u103, u104, u105, u106, u107, u108, u109, u110, u111, u112, u113, u114, u115, u116, u117, u118, u119, u120, u121, u122, u123, u124, u125, u126, u127, u128, u129, u130, u131, u132, u133, u134, u135, u136, u137, u138, u139, u140, u141, u142, u143, u144, u145], ds⟩ V) :
    Code.wp Tryz.prog (part Tryz.f15 [1, 1, 1, 0, 1, 2, 2, 1, 0, 2]) Q ⟨#[u0, .slice (some ⟨gc, 0, none⟩) 6 6, .slice (some ⟨gv, 0, none⟩) 4 4, .int .i64 (i : Int), u4, u5, u6, u7, u8, u9, u10, u11, u12, u13, u14, u15, u16, u17, u18, u19, u20, u21, u22, u23, u24, u25, u26, u27, u28, u29, u30, u31, u32, u33, u34, u35, u36, u37, u38, u39, u40, u41, u42, u43, u44, u45, u46, u47, u48, u49, u50, u51, u52, u53, u54, u55, u56, u57, u58, u59, u60, u61, u62, u63, u64, u65, u66, u67, u68, u69, u70, u71, u72, u73, u74, u75, u76, u77, u78, u79, u80, u81, u82, u83, u84, u85, u86, u87, u88, u89, u90, u91, u92, u93, u94, u95, u96, u97, u98, u99, u100, u101, u102, u103, u104, u105, u106, u107, u108, u109, u110, u111, u112, u113, u114, u115, u116, u117, u118, u119, u120, u121, u122, u123, u124, u125, u126, u127, u128, u129, u130, u131, u132, u133, u134, u135, u136, u137, u138, u139, u140, u141, u142, u143, u144, u145], ds⟩ w0 := by
  conv => arg 2; whnf
  have HQ := Lib.hid hQ
  have HP := Lib.hid (And.intro hr0 (And.intro hc hv))
  have H0 := Lib.hid h
  clear hQ hr0 hc hv h
  go_wp2_with fail
  go_loopw [4] (fun j wr => ∃ g : Nat, g ≤ 4 ∧ j = .int .i64 (g : Int) ∧ Hid (EnW w cs [] wr)) (fun j _ => 4 - (intOf j).toNat)
  case atStart => exact ⟨0, by omega, rfl, H0⟩
  case round =>
    clear H0
    obtain ⟨g, hgl, rfl, HW⟩ := hrel
    by_cases hlt : g < 4
    · have j3 : (g : Int) < 4 := by omega
      refine wp_seq_k fun K2 hK => ?_
      have HK2 := Lib.hid hK
      clear hK
      go_wp2_with fail
      refine HK2.out _ _ ?_
      clear HK2
      refine wp_seq_k fun K3 hK => ?_
      have HK3 := Lib.hid hK
      clear hK
      refine wp_block ?_
      refine pa_round gc gv i g cs w wr HP.out.1 HW.out HP.out.2.1 HP.out.2.2 hi hlt (fun t5 t6 t7 t8 t28 t29 t30 t31 t32 t33 t34 t35 t36 t37 t38 t39 t40 t41 t42 t43 t44 t45 t46 t47 t48 t49 t50 t51 t52 t53 t54 t55 t56 t57 t58 t59 t60 t61 t62 t63 t64 V hV => ?_)
      have HV := Lib.hid hV
      clear hV HW
      refine HK3.out _ _ ?_
      clear HK3
      go_wp2
      go_roundw
      case rel => exact ⟨g + 1, by omega, by go_num, HV⟩
      case measure => simp [intOf]; omega
    · obtain rfl : g = 4 := by omega
      go_wp2
      exact HQ.out _ _ _ _ _ _ _ _ _ _ _ _ _ _ _ _ _ _ _ _ _ _ _ _ _ _ _ _ _ _ _ _ _ _ _ _ _ _ _ _ _ _ _ _ _ _ _ _ HW.out
set_option maxHeartbeats 12800000 in
set_option maxRecDepth 100000 in
theorem pa_loop1 {u0 u3 u4 u5 u6 u7 u8 u9 u10 u11 u12 u13 u14 u15 u16 u17 u18 u19 u20 u21 u22 u23 u24 u25 u26 u27 u28 u29 u30 u31 u32 u33 u34 u35 u36 u37 u38 u39 u40 u41 u42 u43 u44 u45 u46 u47 u48 u49 u50 u51 u52 u53 u54 u55 u56 u57 u58 u59 u60 u61 u62 u63 u64 u65 u66 u67 u68 u69 u70 u71 u72 u73 u74 u75 u76 u77 u78 u79 u80 u81 u82 u83 u84 u85 u86 u87 u88 u89 u90 u91 u92 u93 u94 u95 u96 u97 u98 u99 u100 u101 u102 u103 u104 u105 u106 u107 u108 u109 u110 u111 u112 u113 u114 u115 u116 u117 u118 u119 u120 u121 u122 u123 u124 u125 u126 u127 u128 u129 u130 u131 u132 u133 u134 u135 u136 u137 u138 u139 u140 u141 u142 u143 u144 u145 : Value} {ds : List Deferred} {Q : Exit → Act → World → Prop} (gc gv : Nat) (cs : List (Nat × TypeId × Array Value)) (w w0 : World) (hr0 : RoomsAt w) (h : EnW w cs [] w0) (hc : (gc, 9, codeC) ∈ cs) (hv : (gv, 9, valC) ∈ cs)
    (hQ : ∀ (z0 z3 z4 z5 z6 z7 z8 z20 z21 z22 z23 z24 z25 z26 z27 z28 z29 z30 z31 z32 z33 z34 z35 z36 z37 z38 z39 z40 z41 z42 z43 z44 z45 z46 z47 z48 z49 z50 z51 z52 z53 z54 z55 z56 z57 z58 z59 z60 z61 z62 z63 z64 : Value) (V : World), EnW w cs [] V → Q .normal ⟨#[z0, .slice (some ⟨gc, 0, none⟩) 6 6, .slice (some ⟨gv, 0, none⟩) 4 4, z3, z4, z5, z6, z7, z8, u9, u10, u11, u12, u13, u14, u15, u16, u17, u18, u19, z20, z21, z22, z23, z24, z25, z26, z27, z28, z29, z30, z31, z32, z33, z34, z35, z36, z37, z38, z39, z40, z41, z42, z43, z44, z45, z46, z47, z48, z49, z50, z51, z52, z53, z54, z55, z56, z57, z58, z59, z60, z61, z62, z63, z64, u65, u66, u67, u68, u69, u70, u71, u72, u73, u74, u75, u76, u77, u78, u79, u80, u81, u82, u83, u84, u85, u86, u87, u88, u89, u90, u91, u92, u93, u94, u95, u96, u97, u98, u99, u100, u101, u102, u103, u104, u105, u106, u107, u108, u109, u110, u111, u112, u113, u114, u115, u116, u117, u118, u119, u120, u121, u122, u123, u124, u125, u126, u127, u128, u129, u130, u131, u132, u133, u134, u135, u136, u137, u138, u139, u140, u141, u142, u143, u144, u145], ds⟩ V) :
    Code.wp Tryz.prog (part Tryz.f15 [1, 1, 1, 0]) Q ⟨#[u0, .slice (some ⟨gc, 0, none⟩) 6 6, .slice (some ⟨gv, 0, none⟩) 4 4, u3, u4, u5, u6, u7, u8, u9, u10, u11, u12, u13, u14, u15, u16, u17, u18, u19, u20, u21, u22, u23, u24, u25, u26, u27, u28, u29, u30, u31, u32, u33, u34, u35, u36, u37, u38, u39, u40, u41, u42, u43, u44, u45, u46, u47, u48, u49, u50, u51, u52, u53, u54, u55, u56, u57, u58, u59, u60, u61, u62, u63, u64, u65, u66, u67, u68, u69, u70, u71, u72, u73, u74, u75, u76, u77, u78, u79, u80, u81, u82, u83, u84, u85, u86, u87, u88, u89, u90, u91, u92, u93, u94, u95, u96, u97, u98, u99, u100, u101, u102, u103, u104, u105, u106, u107, u108, u109, u110, u111, u112, u113, u114, u115, u116, u117, u118, u119, u120, u121, u122, u123, u124, u125, u126, u127, u128, u129, u130, u131, u132, u133, u134, u135, u136, u137, u138, u139, u140, u141, u142, u143, u144, u145], ds⟩ w0 := by
  conv => arg 2; whnf
  have HQ := Lib.hid hQ
  have HP := Lib.hid (And.intro hr0 (And.intro hc hv))
  have H0 := Lib.hid h
  clear hQ hr0 hc hv h
  go_wp2_with fail
  go_loopw [3] (fun j wr => ∃ g : Nat, g ≤ 6 ∧ j = .int .i64 (g : Int) ∧ Hid (EnW w cs [] wr)) (fun j _ => 6 - (intOf j).toNat)
  case atStart => exact ⟨0, by omega, rfl, H0⟩
  case round =>
    clear H0
    obtain ⟨g, hgl, rfl, HW⟩ := hrel
    by_cases hlt : g < 6
    · have j3 : (g : Int) < 6 := by omega
      refine wp_seq_k fun K2 hK => ?_
      have HK2 := Lib.hid hK
      clear hK
      go_wp2_with fail
      refine HK2.out _ _ ?_
      clear HK2
      refine wp_seq_k fun K3 hK => ?_
      have HK3 := Lib.hid hK
      clear hK
      refine wp_block ?_
      refine pa_loop2 gc gv g cs w wr HP.out.1 HW.out HP.out.2.1 HP.out.2.2 hlt (fun t0 t4 t5 t6 t7 t8 t24 t25 t26 t27 t28 t29 t30 t31 t32 t33 t34 t35 t36 t37 t38 t39 t40 t41 t42 t43 t44 t45 t46 t47 t48 t49 t50 t51 t52 t53 t54 t55 t56 t57 t58 t59 t60 t61 t62 t63 t64 V hV => ?_)
      have HV := Lib.hid hV
      clear hV HW
      refine HK3.out _ _ ?_
      clear HK3
      go_wp2
      go_roundw
      case rel => exact ⟨g + 1, by omega, by go_num, HV⟩
      case measure => simp [intOf]; omega
    · obtain rfl : g = 6 := by omega
      go_wp2
      exact HQ.out _ _ _ _ _ _ _ _ _ _ _ _ _ _ _ _ _ _ _ _ _ _ _ _ _ _ _ _ _ _ _ _ _ _ _ _ _ _ _ _ _ _ _ _ _ _ _ _ _ _ _ _ _ HW.out
end Go.Proofs.YtgjgcbemgmkncaaGreatDoor
namespace Go.Proofs.YtgjgcbemgmkncaaGreatDoor
open Go.RowKit Go.Shelf
set_option linter.unusedVariables false
set_option linter.unusedSimpArgs false
set_option maxRecDepth 20000

def InnerEnd2 (k : Int) (p : ByteArray) (Ab : Option Addr) (cb : Nat) (l : List Nat) (w : World) (e : Ending) (w' : World) : Prop := ∃ A5 c5, e = .returned ((innerNd k p l).v Ab cb A5 c5) ∧ NdAt w' (innerNd k p l) ((innerNd k p l).v Ab cb A5 c5) ∧ Below w.heap.size w w' ∧ l.length ≤ c5 ∧ c5 ≤ maxLen ∧ ∀ ad, A5 = some ad → w.heap.size ≤ ad.block
set_option maxHeartbeats 3200000 in
set_option maxRecDepth 100000 in
theorem linner2_n (k : Int) (p : ByteArray) (Ab : Option Addr) (cb : Nat) (l : List Nat) (w : World) (hk : -9223372036854775808 ≤ k ∧ k ≤ 9223372036854775807) (hp : p.size ≤ 9223372036854775807) (hl : Reads w w.heap.size 1 Ab l.length (l.flatMap nrow)) (hl2 : ∀ b ∈ l, b < 256) (hlen : l.length ≤ 4096) :
    Calls Tryz.prog 13 #[.int .i64 k, .string p, .slice Ab l.length cb] w (InnerEnd2 k p Ab cb l w) := by
  have h0 : InnW w k p Ab cb l 0 (.slice none 0 0) (.slice none 0 0) 0 ((w.alloc (.cells #[.int .i64 0, .string { data := #[] }, .string { data := #[] }, .string { data := #[] }, .slice none 0 0, .slice none 0 0] 26)).alloc (.cells #[.int .i64 k, .string { data := #[] }, .string { data := #[] }, .string p, .slice Ab l.length cb, .slice none 0 0] 26)) := by
    refine ⟨((Below.refl _ w).alloc (Nat.le_refl _) _).alloc (by simp) _, (Blk.new w 26 #[.int .i64 0, .string { data := #[] }, .string { data := #[] }, .string { data := #[] }, .slice none 0 0, .slice none 0 0]).alloc _, ?_, World.ownsRow_nil _ _ _ _, by simp⟩
    have q := Blk.new (w.alloc (.cells #[.int .i64 0, .string { data := #[] }, .string { data := #[] }, .string { data := #[] }, .slice none 0 0, .slice none 0 0] 26)) 26 #[.int .i64 k, .string { data := #[] }, .string { data := #[] }, .string p, .slice Ab l.length cb, .slice none 0 0]
    rw [World.size_alloc] at q
    exact q
  have HL := Lib.hid (And.intro hk (And.intro hp (And.intro hl hl2)))
  clear hk hp hl hl2
  obtain ⟨j0, hj, hj0, hj1, hj2⟩ := info_parts infoRef3
  have HJ := Lib.hid (And.intro hj (And.intro hj0 (And.intro hj1 hj2)))
  clear hj hj0 hj1 hj2
  have H0 := Lib.hid h0
  have h1 := h0.node.lt
  clear h0
  go_enter Tryz.func13, Tryz.ntmps13
  go_wp2_with fail
  go_loopw [8] (fun i wr => ∃ k' : Nat, k' ≤ l.length ∧ i = .int .i64 k' ∧ ∃ v5, Hid (InnW w k p Ab cb l 0 v5 v5 k' wr)) (fun i _ => l.length - (intOf i).toNat)
  case atStart => exact ⟨0, Nat.zero_le _, rfl, _, H0⟩
  case round =>
    obtain ⟨i, hi, rfl, v5, HW⟩ := hrel
    by_cases hlt : i < l.length
    · have i1 : (i : Int) < (l.length : Int) := by omega
      have P0 := HW.out.drew
      clear H0
      go_wp2_with fail
      refine wp_region_L 7 (fun V : World => V.cell? ⟨w.heap.size + 1, 5, none⟩ = some v5) (by kernel_rfl) ?_
      refine wpAnyL_take (i := 0) (v := ?_) rfl (by kernel_rfl) (by kernel_rfl) (by kernel_rfl) (by kernel_rfl) (fun _ _ _ h => h) (Or.inl ⟨by rfl, ?_⟩) (P0.node.cell 5) ?_
      rotate_left
      · (intro w hSw; (try dsimp only at hSw); go_simp <;> with_reducible rfl)
      try simp only [Act.put, List.setIfInBounds_toArray, List.set_cons_zero, List.set_cons_succ]
      refine wpAnyL_take (i := 1) (v := ?_) rfl (by kernel_rfl) (by kernel_rfl) (by kernel_rfl) (by kernel_rfl) (fun _ _ _ h => h) (Or.inl ⟨by rfl, ?_⟩) (P0.node.cell 5) ?_
      rotate_left
      · (intro w hSw; (try dsimp only at hSw); go_simp <;> with_reducible rfl)
      try simp only [Act.put, List.setIfInBounds_toArray, List.set_cons_zero, List.set_cons_succ]
      refine wpAnyL_take (i := 2) (v := ?_) rfl (by kernel_rfl) (by kernel_rfl) (by kernel_rfl) (by kernel_rfl) (fun _ _ _ h => h) (Or.inl ⟨by rfl, ?_⟩) (P0.node.cell 5) ?_
      rotate_left
      · (intro w hSw; (try dsimp only at hSw); go_simp <;> with_reducible rfl)
      try simp only [Act.put, List.setIfInBounds_toArray, List.set_cons_zero, List.set_cons_succ]
      refine wpAnyL_ready (rs := [3]) (by kernel_rfl) (by simp) ?_
      refine AllL.cons rfl (fun K hK => ?_) AllL.nil
      go_simp
      refine (ref_n (i : Int) _).mono ?_
      rintro e w3 ⟨rfl, hb3⟩
      have P1 := P0.on hb3
      clear hb3 P0
      unfold refV
      refine hK.out _ _ (fun _ => P1.node.cell 5) ?_
      clear hK K
      try simp only [Act.put, List.setIfInBounds_toArray, List.set_cons_zero, List.set_cons_succ]
      refine wpAnyL_ready (rs := [4]) (by kernel_rfl) (by simp) ?_
      refine AllL.cons rfl (fun K hK => ?_) AllL.nil
      go_simp
      have hb4 := below_box w3 (.cells #[.int .i64 (i : Int), .int .u32 1] 29)
      have T4 := Blk.new w3 29 #[.int .i64 (i : Int), .int .u32 1]
      have P2 := P1.on hb4
      clear hb4 P1
      refine hK.out _ _ (fun _ => P2.node.cell 5) ?_
      clear hK K
      try simp only [Act.put, List.setIfInBounds_toArray, List.set_cons_zero, List.set_cons_succ]
      refine wpAnyL_ready (rs := [5]) (by kernel_rfl) (by simp) ?_
      refine AllL.cons rfl (fun K hK => ?_) AllL.nil
      rw [if_pos (by kernel_rfl)]
      refine wp_append_fresh _ (.tmp 20) (.tmp 23) 24 rfl (w.heap.size + 2) 29 j0 (.agg #[.int .i64 0, .int .u32 0]) 2 16 Tryz.underlying24 HJ.out.1 HJ.out.2.1 HJ.out.2.2.1 HJ.out.2.2.2 rfl (by decide) v5 i ((refsTo i).flatMap rrow) rfl P2.row ⟨w3.heap.size, 0, none⟩ 1 1 [.int .i64 (i : Int), .int .u32 1] rfl rfl (cell_list_blk T4) (by simp [Value.oneCell']) (by decide) (by unfold maxLen; omega) (by omega) P2.size ?_
      intro w5 W5 ho hg hf
      obtain ⟨g5, c5, rfl⟩ := ownsRow_succ ho
      have hn6 : some (w.heap.size + 1) ≠ v5.ownBlock := fun e => by have := (P2.lt5 _ e.symm).1; omega
      have hn5 : some w.heap.size ≠ v5.ownBlock := fun e => by have := (P2.lt5 _ e.symm).1; omega
      have P3 : InnW w k p Ab cb l 0 v5 (.slice (some ⟨g5, 0, none⟩) (i + 1) c5) (i + 1) W5 := ⟨P2.below.grown hg P2.below.size (fun g e => by have := (P2.lt5 _ e).1; omega), P2.out.grown hg hn5, P2.node.grown hg hn6, by rw [refsTo_succ]; exact ho, Nat.le_trans P2.size hg.size⟩
      clear ho hg hf P2 T4
      refine hK.out _ _ (fun _ => P3.node.cell 5) ?_
      clear hK K
      try simp only [Act.put, List.setIfInBounds_toArray, List.set_cons_zero, List.set_cons_succ]
      refine wpAnyL_take (i := 6) (v := ?_) rfl (by kernel_rfl) (by kernel_rfl) (by kernel_rfl) (by kernel_rfl) (fun _ _ _ h => h) (Or.inl ⟨by rfl, ?_⟩) (P3.node.cell 5) ?_
      rotate_left
      · (intro w hSw; (try dsimp only at hSw); go_simp <;> with_reducible rfl)
      try simp only [Act.put, List.setIfInBounds_toArray, List.set_cons_zero, List.set_cons_succ]
      refine wpAnyL_ready (rs := [7]) (by kernel_rfl) (by simp) ?_
      refine AllL.cons rfl (fun K hK => ?_) AllL.nil
      have f5 := P3.node.frozen 5
      have e5 := P3.node.cell 5
      simp at e5
      have l5 := P3.node.lt
      have hn6 : some (w.heap.size + 1) ≠ (Value.slice (some ⟨g5, 0, none⟩) (i + 1) c5).ownBlock := fun e => by have := (P3.lt5 _ e.symm).1; omega
      have hg5 : W5.grownBy (W5.setCell ⟨w.heap.size + 1, 5, none⟩ (.slice (some ⟨g5, 0, none⟩) (i + 1) c5)) (some (w.heap.size + 1)) := grown_setCell ⟨rfl, rfl, rfl, Nat.le_refl _, fun _ _ _ => rfl⟩ 5 (.slice (some ⟨g5, 0, none⟩) (i + 1) c5)
      have P4 : InnW w k p Ab cb l 0 (.slice (some ⟨g5, 0, none⟩) (i + 1) c5) (.slice (some ⟨g5, 0, none⟩) (i + 1) c5) (i + 1) (W5.setCell ⟨w.heap.size + 1, 5, none⟩ (.slice (some ⟨g5, 0, none⟩) (i + 1) c5)) := ⟨P3.below.grown hg5 P3.below.size (fun g e => by injection e with e; omega), P3.out.grown hg5 (fun e => by injection e with e; omega), by have q := P3.node.set_ 5 (.slice (some ⟨g5, 0, none⟩) (i + 1) c5); simpa using q, P3.row.kept hg5 (.inr (Ne.symm hn6)), by simpa [World.setCell] using P3.size⟩
      have HP4 := Lib.hid P4
      clear P3 P4 hg5 hn6 hn5
      go_simp
      refine hK.out _ _ (fun h => Bool.noConfusion (show true = false from h)) ?_
      clear hK K e5 f5 l5
      try simp only [Act.put, List.setIfInBounds_toArray, List.set_cons_zero, List.set_cons_succ]
      refine wpAnyL_done (by kernel_rfl) ?_ _
      refine (‹∀ (a : Act) (w : World), Code.wp Tryz.prog _ _ a w → _› _ _ ?_)
      go_wp2
      go_roundw
      case rel => exact ⟨i + 1, by omega, by go_num, (.slice (some ⟨g5, 0, none⟩) (i + 1) c5), HP4⟩
      case measure => simp [intOf]; omega
    · obtain rfl : i = l.length := by omega
      have i1 : ¬ ((l.length : Int) < (l.length : Int)) := by omega
      obtain ⟨n0, n1, n2, n3, n4, n5⟩ := cells6 HW.out.node
      obtain ⟨d0, d1, d2, d3, d4, d5⟩ := cells6 HW.out.out
      have fz0 := HW.out.out.frozen 0
      have fz1 := HW.out.out.frozen 1
      have fz2 := HW.out.out.frozen 2
      have fz3 := HW.out.out.frozen 3
      have fz4 := HW.out.out.frozen 4
      have fz5 := HW.out.out.frozen 5
      have l6 := HW.out.out.lt
      obtain ⟨VV, hV, hg, q6⟩ := six_stores (.int .i64 k) (.string { data := #[] }) (.string { data := #[] }) (.string p) (.slice Ab l.length cb) v5 HW.out.out
      have hs : ∃ A5 c5, v5 = .slice A5 l.length c5 ∧ (l.length ≤ c5 ∧ c5 ≤ maxLen) ∧ ∀ ad, A5 = some ad → w.heap.size + 2 ≤ ad.block := by
        rcases HW.out.row.2 with ⟨rfl, e⟩ | ⟨g, cap, cur, rfl, hbg, _, h1, h2, _⟩
        · exact ⟨none, 0, by rw [e], ⟨by rw [e]; exact Nat.le_refl _, Nat.zero_le _⟩, fun ad e => by cases e⟩
        · exact ⟨some ⟨g, 0, none⟩, cap, rfl, ⟨h1, h2⟩, fun ad e => by injection e with e; subst e; exact hbg⟩
      obtain ⟨A5, c5, rfl, hcap, hA5⟩ := hs
      have HCAP := Lib.hid hcap
      clear hcap
      have HG := Lib.hid (And.intro hg hA5)
      clear hg hA5
      go_wp2
      rw [← hV]
      clear hV d0 d1 d2 d3 d4 d5 fz0 fz1 fz2 fz3 fz4 fz5 n0 n1 n2 n3 n4 n5
      obtain ⟨c0, c1, c2, c3, c4, c6⟩ := cells6 q6
      have hkl : (innerNd k p l).kids.length = l.length := by simp [innerNd]
      have hr5 := reads_own HW.out.row
      have hbV := HW.out.below.grown HG.out.1 HW.out.below.size (fun g e => by injection e with e; omega)
      refine bodyPost_ret (v := .agg #[.int .i64 k, .string { data := #[] }, .string { data := #[] }, .string p, .slice Ab l.length cb, .slice A5 l.length c5]) (by simp [results, Tryz.results13, go_sem, c0, c1, c2, c3, c4, c6]) rfl ⟨A5, c5, ?_, ⟨⟨HL.out.1, HL.out.2.2.2, ?_, ?_, ?_, ?_, ?_, HL.out.2.1⟩, Ab, cb, A5, c5, rfl, ?_, ?_⟩, hbV, HCAP.out.1, HCAP.out.2, fun ad e => by have := HG.out.2 ad e; omega⟩
      · unfold Nd.v; rw [hkl]; rfl
      · intro r hr
        obtain ⟨j, hj, rfl⟩ := List.mem_map.1 hr
        have := List.mem_range.1 hj
        exact ⟨⟨by dsimp only; omega, by dsimp only; omega⟩, by dsimp only; decide, by dsimp only; decide⟩
      · show l.length ≤ _; omega
      · rw [hkl]; omega
      · exact Nat.zero_le _
      · exact Nat.zero_le _
      · exact (HL.out.2.2.1.below hbV).more hbV.size
      · rw [hkl]; exact reads_off hr5 HG.out.1 (fun ad e => by have := HG.out.2 ad e; omega)
end Go.Proofs.YtgjgcbemgmkncaaGreatDoor
