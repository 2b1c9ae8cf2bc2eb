/-
  parts: bytes that do not rise.
  parts, whole.
  NodeEnds, whole.
  Layer 9: the table of rooms, as the card lays it.
  Layer 7: a slice of bytes that came in, read as numbers below 256.
  Layer 9: a node and a Ref that came in as arguments.
  NodeEnds: for every input the call returns true, and what was there stays as it was. The card ties what the package variable holds to the program's text. No other condition.
-/
import Derived.Test.YtgjgcbemgmkncaaGreatDoorPk
import Derived.Test.YtgjgcbemgmkncaaGreatDoorPh
import Derived.Test.YtgjgcbemgmkncaaGreatDoorPc
import Derived.LaidMore
import Derived.ProofKit
import Derived.OpenShut
import Derived.Stop.Joined
import Derived.Test.YtgjgcbemgmkncaaGreatDoorPa
import Derived.Test.YtgjgcbemgmkncaaGreatDoorPd
import Derived.Test.YtgjgcbemgmkncaaGreatDoorCards
import Derived.Test.YtgjgcbemgmkncaaGreatDoorTie
import Derived.SevenTiedAt
set_option linter.unusedVariables false
set_option linter.unusedSimpArgs false
namespace Go.Proofs.YtgjgcbemgmkncaaGreatDoor
open Go.RowKit Go.Shelf
set_option maxRecDepth 100000
set_option maxHeartbeats 12800000
theorem pc34 {u0 u1 u2 u3 u4 u5 u6 u7 u8 u9 u10 u11 u12 u13 u14 u15 u18 u19 u20 u21 u22 u23 u24 u25 u26 u27 u28 u29 u30 u31 u32 u33 u34 u35 u36 u37 u38 u39 u40 u41 u42 u43 u44 u45 u46 u47 u48 u49 u50 u51 u52 u53 u54 u55 u56 u57 u58 u59 u60 u61 u62 u63 u64 u65 u66 u67 u68 u69 u70 u71 u72 u73 u74 u75 u76 u77 u78 u79 u80 u81 u82 u83 u84 u85 u86 u87 u88 u89 u90 u91 u92 u93 u94 u95 u96 u97 u98 u99 u100 u101 u102 u103 u104 u105 u106 u107 u108 u109 u110 u111 u112 u113 u114 u115 u116 u117 u118 u119 u120 u121 u122 u123 u124 u125 u126 u127 u128 u129 u130 u131 u132 u133 u134 u135 u136 u137 u138 u139 u140 u141 u142 u143 u144 u145 : Value} {ds : List Deferred} {Q : Exit → Act → World → Prop} (gn gm : Nat) (x y : Nd) (A A' D D' : Option Addr) (ca ca' cd cd' : Nat) (cs : List (Nat × TypeId × Array Value)) (bs : List NB) (w w0 : World) (h : EnW w cs bs w0) (hx : (⟨gn, x, A, ca, A', ca'⟩ : NB) ∈ bs) (hy : (⟨gm, y, D, cd, D', cd'⟩ : NB) ∈ bs)
    (hQ : ∀ (z136 z137 z138 z139 z140 z141 z142 z143 z144 : Value) (V : World), Below w0.heap.size w0 V → Q .normal ⟨#[u0, u1, u2, u3, u4, u5, u6, u7, u8, u9, u10, u11, u12, u13, u14, u15, .pointer (some ⟨gn, 0, none⟩), .pointer (some ⟨gm, 0, none⟩), u18, u19, u20, u21, u22, u23, u24, u25, u26, u27, u28, u29, u30, u31, u32, u33, u34, u35, u36, u37, u38, u39, u40, u41, u42, u43, u44, u45, u46, u47, u48, u49, u50, u51, u52, u53, u54, u55, u56, u57, u58, u59, u60, u61, u62, u63, u64, u65, u66, u67, u68, u69, u70, u71, u72, u73, u74, u75, u76, u77, u78, u79, u80, u81, u82, u83, u84, u85, u86, u87, u88, u89, u90, u91, u92, u93, u94, u95, u96, u97, u98, u99, u100, u101, u102, u103, u104, u105, u106, u107, u108, u109, u110, u111, u112, u113, u114, u115, u116, u117, u118, u119, u120, u121, u122, u123, u124, u125, u126, u127, u128, u129, u130, u131, u132, u133, u134, u135, z136, z137, z138, z139, z140, z141, z142, z143, z144, .bool false], ds⟩ V) :
    Code.wp Tryz.prog (part Tryz.f15 [1, 1, 1, 1, 1, 1, 1, 0, 1, 2, 2, 1, 0, 2, 1, 1, 1, 0, 0]) Q ⟨#[u0, u1, u2, u3, u4, u5, u6, u7, u8, u9, u10, u11, u12, u13, u14, u15, .pointer (some ⟨gn, 0, none⟩), .pointer (some ⟨gm, 0, none⟩), u18, u19, u20, u21, u22, u23, u24, u25, u26, u27, u28, u29, u30, u31, u32, u33, u34, u35, u36, u37, u38, u39, u40, u41, u42, u43, u44, u45, u46, u47, u48, u49, u50, u51, u52, u53, u54, u55, u56, u57, u58, u59, u60, u61, u62, u63, u64, u65, u66, u67, u68, u69, u70, u71, u72, u73, u74, u75, u76, u77, u78, u79, u80, u81, u82, u83, u84, u85, u86, u87, u88, u89, u90, u91, u92, u93, u94, u95, u96, u97, u98, u99, u100, u101, u102, u103, u104, u105, u106, u107, u108, u109, u110, u111, u112, u113, u114, u115, u116, u117, u118, u119, u120, u121, u122, u123, u124, u125, u126, u127, u128, u129, u130, u131, u132, u133, u134, u135, u136, u137, u138, u139, u140, u141, u142, u143, u144, u145], ds⟩ w0 := by
  conv => arg 2; whnf
  have HQ := Lib.hid hQ
  have HS : Hid (∀ V : World, Below w0.heap.size w0 V → (fun V : World => (V.cell? ⟨gn, 0, none⟩ = some (.int .i64 x.kind) ∧ V.cell? ⟨gn, 1, none⟩ = some (.string x.code) ∧ V.cell? ⟨gn, 2, none⟩ = some (.string x.value) ∧ V.cell? ⟨gn, 3, none⟩ = some (.string x.path) ∧ V.cell? ⟨gn, 4, none⟩ = some (.slice A x.bytes.length ca) ∧ V.cell? ⟨gn, 5, none⟩ = some (.slice A' x.kids.length ca')) ∧ (V.cell? ⟨gm, 0, none⟩ = some (.int .i64 y.kind) ∧ V.cell? ⟨gm, 1, none⟩ = some (.string y.code) ∧ V.cell? ⟨gm, 2, none⟩ = some (.string y.value) ∧ V.cell? ⟨gm, 3, none⟩ = some (.string y.path) ∧ V.cell? ⟨gm, 4, none⟩ = some (.slice D y.bytes.length cd) ∧ V.cell? ⟨gm, 5, none⟩ = some (.slice D' y.kids.length cd'))) V) := Lib.hid (fun V hb => ⟨cells6 ((h.on hb).ctx.box _ hx).2.blk, cells6 ((h.on hb).ctx.box _ hy).2.blk⟩)
  have HB0 : Hid (Below w0.heap.size w0 w0.drew) := Lib.hid (Below.refl _ _).drew
  have HX := Lib.hid (asked h hx)
  have HY := Lib.hid (asked h hy)
  clear hQ h hx hy
  refine wp_region_noPanic ?_
  refine wp_region_held_drew (S := (fun V : World => (V.cell? ⟨gn, 0, none⟩ = some (.int .i64 x.kind) ∧ V.cell? ⟨gn, 1, none⟩ = some (.string x.code) ∧ V.cell? ⟨gn, 2, none⟩ = some (.string x.value) ∧ V.cell? ⟨gn, 3, none⟩ = some (.string x.path) ∧ V.cell? ⟨gn, 4, none⟩ = some (.slice A x.bytes.length ca) ∧ V.cell? ⟨gn, 5, none⟩ = some (.slice A' x.kids.length ca')) ∧ (V.cell? ⟨gm, 0, none⟩ = some (.int .i64 y.kind) ∧ V.cell? ⟨gm, 1, none⟩ = some (.string y.code) ∧ V.cell? ⟨gm, 2, none⟩ = some (.string y.value) ∧ V.cell? ⟨gm, 3, none⟩ = some (.string y.path) ∧ V.cell? ⟨gm, 4, none⟩ = some (.slice D y.bytes.length cd) ∧ V.cell? ⟨gm, 5, none⟩ = some (.slice D' y.kids.length cd')))) (by kernel_rfl) ?_ (fun hHeld0 => ?_)
  · exact HS.out _ HB0.out
  refine wpAnyH_take (i := 0) (v := ?_) rfl (by kernel_rfl) (by kernel_rfl) (by kernel_rfl) (fun _ _ _ h => h) (Or.inl ⟨by rfl, ?_⟩) hHeld0 ?_
  rotate_left
  · (intro w hSw; (try dsimp only at hSw); go_simp <;> with_reducible rfl)
  try simp only [Act.put, sA, sB, sC]
  refine wpAnyH_ready (rs := [1]) (by kernel_rfl) (by simp) ?_
  refine AllReadyH.cons rfl (fun K hK => ?_) AllReadyH.nil
  go_simp
  refine (ref_n 3 _).mono ?_
  rintro e w1 ⟨rfl, hb⟩
  have HB1 := Lib.hid (HB0.out.trans (hb.mono HB0.out.size))
  clear hb
  unfold refV
  refine hK.out _ _ ?_ (fun hHeld1 => ?_)
  · exact HS.out _ HB1.out
  clear hK K hHeld0
  try simp only [Act.put, sA, sB, sC]
  refine wpAnyH_ready (rs := [2]) (by kernel_rfl) (by simp) ?_
  refine AllReadyH.cons rfl (fun K hK => ?_) AllReadyH.nil
  go_simp
  refine ((HX.out _ HB1.out).1 1 _ (3, 1) _ (by omega) (refOk_one (by omega))).mono ?_
  rintro e w2 ⟨rfl, hb⟩
  have HB2 := Lib.hid (HB1.out.trans (hb.mono HB1.out.size))
  clear hb
  refine hK.out _ _ ?_ (fun hHeld2 => ?_)
  · exact HS.out _ HB2.out
  clear hK K hHeld1
  try simp only [Act.put, sA, sB, sC]
  refine wpAnyH_take (i := 3) (v := ?_) rfl (by kernel_rfl) (by kernel_rfl) (by kernel_rfl) (fun _ _ _ h => h) (Or.inl ⟨by rfl, ?_⟩) hHeld2 ?_
  rotate_left
  · (intro w hSw; (try dsimp only at hSw); go_simp <;> with_reducible rfl)
  try simp only [Act.put, sA, sB, sC]
  refine wpAnyH_take (i := 4) (v := ?_) rfl (by kernel_rfl) (by kernel_rfl) (by kernel_rfl) (fun _ _ _ h => h) (Or.inl ⟨by rfl, ?_⟩) hHeld2 ?_
  rotate_left
  · (intro w hSw; (try dsimp only at hSw); go_simp <;> with_reducible rfl)
  try simp only [Act.put, sA, sB, sC]
  refine wpAnyH_take (i := 5) (v := ?_) rfl (by kernel_rfl) (by kernel_rfl) (by kernel_rfl) (fun _ _ _ h => h) (Or.inl ⟨by kernel_rfl, ?_⟩) hHeld2 ?_
  rotate_left
  · (intro w hSw; (try dsimp only at hSw); go_simp <;> with_reducible rfl)
  try simp only [Act.put, sA, sB, sC]
  refine wpAnyH_ready (rs := [6]) (by kernel_rfl) (by simp) ?_
  refine AllReadyH.cons rfl (fun K hK => ?_) AllReadyH.nil
  go_simp
  refine (ref_n 3 _).mono ?_
  rintro e w3 ⟨rfl, hb⟩
  have HB3 := Lib.hid (HB2.out.trans (hb.mono HB2.out.size))
  clear hb
  unfold refV
  refine hK.out _ _ ?_ (fun hHeld3 => ?_)
  · exact HS.out _ HB3.out
  clear hK K hHeld2
  try simp only [Act.put, sA, sB, sC]
  refine wpAnyH_ready (rs := [7]) (by kernel_rfl) (by simp) ?_
  refine AllReadyH.cons rfl (fun K hK => ?_) AllReadyH.nil
  go_simp
  refine ((HY.out _ HB3.out).1 1 _ (3, 1) _ (by omega) (refOk_one (by omega))).mono ?_
  rintro e w4 ⟨rfl, hb⟩
  have HB4 := Lib.hid (HB3.out.trans (hb.mono HB3.out.size))
  clear hb
  refine hK.out _ _ ?_ (fun hHeld4 => ?_)
  · exact HS.out _ HB4.out
  clear hK K hHeld3
  try simp only [Act.put, sA, sB, sC]
  refine wpAnyH_take (i := 8) (v := ?_) rfl (by kernel_rfl) (by kernel_rfl) (by kernel_rfl) (fun _ _ _ h => h) (Or.inl ⟨by kernel_rfl, ?_⟩) hHeld4 ?_
  rotate_left
  · (intro w hSw; (try dsimp only at hSw); go_simp <;> with_reducible rfl)
  try simp only [Act.put, sA, sB, sC]
  refine wpAnyH_take (i := 9) (v := ?_) rfl (by kernel_rfl) (by kernel_rfl) (by kernel_rfl) (fun _ _ _ h => h) (Or.inl ⟨by rfl, ?_⟩) hHeld4 ?_
  rotate_left
  · (intro w hSw; (try dsimp only at hSw); go_simp <;> with_reducible rfl)
  try simp only [Act.put, sA, sB, sC]
  try simp only [Act.put, List.getElem_toArray, List.getElem_cons_succ, List.getElem_cons_zero, sA, sB, sC]
  refine wpAnyH_done (by kernel_rfl) ?_ _
  refine NoPanic.normal (HQ.out _ _ _ _ _ _ _ _ _ _ HB4.out)
theorem pc_round {u0 u1 u2 u3 u4 u5 u6 u7 u8 u9 u10 u11 u12 u13 u16 u17 u18 u19 u20 u21 u22 u23 u24 u25 u26 u27 u28 u29 u30 u31 u32 u33 u34 u35 u36 u37 u38 u39 u40 u41 u42 u43 u44 u45 u46 u47 u48 u49 u50 u51 u52 u53 u54 u55 u56 u57 u58 u59 u60 u61 u62 u63 u64 u65 u66 u67 u68 u69 u70 u71 u72 u73 u74 u75 u76 u77 u78 u79 u80 u81 u82 u83 u84 u85 u86 u87 u88 u89 u90 u91 u92 u93 u94 u95 u96 u97 u98 u99 u100 u101 u102 u103 u104 u105 u106 u107 u108 u109 u110 u111 u112 u113 u114 u115 u116 u117 u118 u119 u120 u121 u122 u123 u124 u125 u126 u127 u128 u129 u130 u131 u132 u133 u134 u135 u136 u137 u138 u139 u140 u141 u142 u143 u144 u145 : Value} {ds : List Deferred} {Q : Exit → Act → World → Prop} (gl i : Nat) (Al : Option Addr) (l : List Nat) (cs : List (Nat × TypeId × Array Value)) (w w0 : World) (hr0 : RoomsAt w) (h : EnW w cs [] w0) (hi : i < 5) (c1 : w0.cell? ⟨gl, i, none⟩ = some (.slice Al l.length l.length)) (hrd : Reads w0 w0.heap.size 1 Al l.length (l.flatMap nrow)) (hl0 : 0 < l.length) (hl3 : l.length ≤ 3) (hl2 : ∀ b ∈ l, b < 256)
    (hQ : ∀ (z16 z17 z122 z123 z124 z125 z126 z127 z128 z129 z130 z131 z132 z133 z134 z135 z136 z137 z138 z139 z140 z141 z142 z143 z144 z145 : Value) (V : World), EnW w cs [] V → Q .normal ⟨#[u0, u1, u2, u3, u4, u5, u6, u7, u8, u9, u10, u11, u12, u13, .slice (some ⟨gl, 0, none⟩) 5 5, .int .i64 (i : Int), z16, z17, u18, u19, u20, u21, u22, u23, u24, u25, u26, u27, u28, u29, u30, u31, u32, u33, u34, u35, u36, u37, u38, u39, u40, u41, u42, u43, u44, u45, u46, u47, u48, u49, u50, u51, u52, u53, u54, u55, u56, u57, u58, u59, u60, u61, u62, u63, u64, u65, u66, u67, u68, u69, u70, u71, u72, u73, u74, u75, u76, u77, u78, u79, u80, u81, u82, u83, u84, u85, u86, u87, u88, u89, u90, u91, u92, u93, u94, u95, u96, u97, u98, u99, u100, u101, u102, u103, u104, u105, u106, u107, u108, u109, u110, u111, u112, u113, u114, u115, u116, u117, u118, u119, u120, u121, z122, z123, z124, z125, z126, z127, z128, z129, z130, z131, z132, z133, z134, z135, z136, z137, z138, z139, z140, z141, z142, z143, z144, z145], ds⟩ V) :
    Code.wp Tryz.prog (part Tryz.f15 [1, 1, 1, 1, 1, 1, 1, 0, 1, 2, 2, 1, 0, 2]) Q ⟨#[u0, u1, u2, u3, u4, u5, u6, u7, u8, u9, u10, u11, u12, u13, .slice (some ⟨gl, 0, none⟩) 5 5, .int .i64 (i : Int), u16, u17, u18, u19, u20, u21, u22, u23, u24, u25, u26, u27, u28, u29, u30, u31, u32, u33, u34, u35, u36, u37, u38, u39, u40, u41, u42, u43, u44, u45, u46, u47, u48, u49, u50, u51, u52, u53, u54, u55, u56, u57, u58, u59, u60, u61, u62, u63, u64, u65, u66, u67, u68, u69, u70, u71, u72, u73, u74, u75, u76, u77, u78, u79, u80, u81, u82, u83, u84, u85, u86, u87, u88, u89, u90, u91, u92, u93, u94, u95, u96, u97, u98, u99, u100, u101, u102, u103, u104, u105, u106, u107, u108, u109, u110, u111, u112, u113, u114, u115, u116, u117, u118, u119, u120, u121, u122, u123, u124, u125, u126, u127, u128, u129, u130, u131, u132, u133, u134, u135, u136, u137, u138, u139, u140, u141, u142, u143, u144, u145], ds⟩ w0 := by
  conv => arg 2; whnf
  have HQ := Lib.hid hQ
  have HP := Lib.hid hr0
  have H0 := Lib.hid h
  have HL := Lib.hid (linner2_n 2 { data := #[] } Al l.length l w0 (by omega) (by decide) hrd hl2 (by omega))
  have i1 : (0 : Int) ≤ (i : Int) := by omega
  have i2 : (i : Int) < 5 := by omega
  clear hQ hr0 h hrd hl2
  refine wp_seq_k fun K0 hK => ?_
  have HK0 := Lib.hid hK
  clear hK
  go_wp2_with fail
  refine HL.out.mono ?_
  rintro e w1 ⟨A5, c5, rfl, hnd, hb, hc1, hc2, hA5⟩
  have hk1 : (innerNd 2 { data := #[] } l).kids.length = l.length := (innerNd_lens _ _ _).2
  have hk2 : 0 < (innerNd 2 { data := #[] } l).kids.length := by omega
  have hk3 : (innerNd 2 { data := #[] } l).kids.length ≤ c5 := by omega
  have hk4 : (innerNd 2 { data := #[] } l).kids.length ≤ 3 := by omega
  clear hk1 hl0 hl3 hc1 HL c1
  have H1 := Lib.hid ((H0.out.on hb).new hnd)
  have HF1 := Lib.hid (And.intro (H0.out.on hb).far.1 hnd.rows)
  clear hb hnd H0
  generalize innerNd 2 { data := #[] } l = x at H1 HF1 hk2 hk3 hk4 ⊢
  unfold Nd.v
  go_wp2_with fail
  refine HK0.out _ _ ?_
  clear HK0
  have HK4 := Lib.hid (And.intro hk2 (And.intro hk3 (And.intro hk4 (And.intro hc2 hA5))))
  clear hk2 hk3 hk4 hc2 hA5
  unfold Nd.c at H1
  have HW1 : Hid (w1.heap.size < (w1.alloc (.cells #[.int .i64 x.kind, .string x.code, .string x.value, .string x.path, .slice Al x.bytes.length l.length, .slice A5 x.kids.length c5] 26)).heap.size) := Lib.hid (by simp)
  generalize w1.heap.size = gn at H1 HF1 HW1 ⊢
  generalize w1.alloc _ = W1 at H1 HW1 ⊢
  refine wp_seq_k fun K1 hK => ?_
  have HK1 := Lib.hid hK
  clear hK
  obtain ⟨e0, e1, e2, e3, e4, e5⟩ := cells6 H1.out.ctx.b0.blk
  have H2 := Lib.hid (H1.out.new H1.out.ctx.b0.node)
  have HF2 := Lib.hid (And.intro H1.out.far H1.out.ctx.b0.node.rows)
  have HWW : Hid (gn < W1.heap.size) := HW1
  clear H1 HW1
  go_wp2_with fail
  refine HK1.out _ _ ?_
  clear HK1 e0 e1 e2 e3 e4 e5
  unfold Nd.c at H2
  generalize W1.heap.size = gm at H2 HF2 HWW ⊢
  generalize W1.alloc _ = W2 at H2 ⊢
  obtain ⟨kd, rfl⟩ : ∃ kd, A5 = some kd := by
    obtain ⟨_, _, h⟩ := node_reads H2.out.ctx.b0.node
    obtain ⟨kd, hk, _⟩ := h.2 HK4.out.1
    exact ⟨kd, hk⟩
  refine wp_seq_k fun K2 hK => ?_
  have HK2 := Lib.hid hK
  clear hK
  obtain ⟨e0, e1, e2, e3, e4, e5⟩ := cells6 H2.out.ctx.b0.blk
  have fz5 := H2.out.ctx.b0.blk.frozen 5
  have lgm := H2.out.ctx.b0.blk.lt
  obtain ⟨n, hn⟩ : ∃ n, n = x.kids.length - 1 := ⟨_, rfl⟩
  obtain ⟨hk2, hk3, hk4, hc2, -⟩ := HK4.out
  have q1 : x.kids.length = n + 1 := by omega
  have hlk : (x.kids.take n).length = n := by rw [List.length_take]; omega
  have H3 : Hid (EnW w cs [⟨gm, x.withK (x.kids.take n), Al, l.length, some kd, c5⟩, ⟨gn, x, Al, l.length, some kd, c5⟩] (W2.setCell ⟨gm, 5, none⟩ (.slice (some kd) n c5))) := Lib.hid (by
    have hg : W2.grownBy (W2.setCell ⟨gm, 5, none⟩ (.slice (some kd) n c5)) (some gm) := grown_setCell ⟨rfl, rfl, rfl, Nat.le_refl _, fun _ _ _ => rfl⟩ _ _
    have hq := H2.out.ctx.b0.blk.set_ 5 (.slice (some kd) n c5)
    obtain ⟨hwf, h1, h2⟩ := node_reads H2.out.ctx.b0.node
    have hrd : Reads W2 W2.heap.size 2 (some kd) (x.kids.take n).length ((x.kids.take n).flatMap rrow) := by
      have e : x.kids.flatMap rrow = (x.kids.take n).flatMap rrow ++ (x.kids.drop n).flatMap rrow := by rw [← List.flatMap_append, List.take_append_drop]
      rw [hlk]
      rw [e, q1] at h2
      refine Reads.take_ (m := 1) h2 ?_
      rw [flat_len rrow_len, hlk]
    have hrw := HF2.out.2
    have hnr : gm ∉ rowsOf (x.v Al l.length (some kd) c5) := fun hm => absurd (hrw gm hm) (Nat.lt_irrefl _)
    refine H2.out.turn HP.out hg ?_ (H2.out.ctx.b0.node.withK (fun r hr => hwf.refs r (List.mem_of_mem_take hr)) (by omega) hrd) ?_ HF2.out.1.1 (fun b hb => ?_)
    · have hq' : Blk (W2.setCell ⟨gm, 5, none⟩ (.slice (some kd) n c5)) gm 26 #[.int .i64 x.kind, .string x.code, .string x.value, .string x.path, .slice Al x.bytes.length l.length, .slice (some kd) n c5] := by simpa [Nd.c] using hq
      unfold Nd.c Nd.withK
      dsimp only
      rw [hlk]
      exact hq'
    · intro hm
      rcases mem_rowsOf hm with ⟨ad, e, hp, rfl⟩ | ⟨ad, e, hp, rfl⟩
      · exact hnr (by subst e; exact rows_mem4 hp)
      · exact hnr (by injection e with e; subst e; exact rows_mem5 hk2)
    · rcases List.mem_singleton.1 hb with rfl
      exact ⟨(HF2.out.1.2 _ (by simp)).1, (HF2.out.1.2 _ (by simp)).2⟩)
  have s1 : (x.kids.length : Int) - 1 = (n : Int) := by omega
  have s2 : (n : Int) ≤ (c5 : Int) := by omega
  have s3 : (0 : Int) ≤ (n : Int) := by omega
  have s4 : n ≤ c5 := by omega
  unfold maxLen at hc2
  clear hn hlk H2 q1 hk2 hk3
  go_wp2_with fail
  refine HK2.out _ _ ?_
  clear HK2 e0 e1 e2 e3 e4 e5 fz5 lgm s1 s2 s3 s4
  generalize W2.setCell _ _ = W3 at H3 ⊢
  refine wp_seq_k fun K3 hK => ?_
  have HK3 := Lib.hid hK
  clear hK
  refine pc34 gn gm x (x.withK (x.kids.take n)) Al (some kd) Al (some kd) l.length c5 l.length c5 cs _ w W3 H3.out (by simp) (by simp) (fun t136 t137 t138 t139 t140 t141 t142 t143 t144 V hb => ?_)
  have H4 := Lib.hid (H3.out.on hb)
  clear hb H3
  refine HK3.out _ _ ?_
  clear HK3
  go_wp2_with fail
  exact HQ.out _ _ _ _ _ _ _ _ _ _ _ _ _ _ _ _ _ _ _ _ _ _ _ _ _ _ _ H4.out.drop
end Go.Proofs.YtgjgcbemgmkncaaGreatDoor
namespace Go.Proofs.YtgjgcbemgmkncaaGreatDoor
open Go.RowKit Go.Shelf
set_option maxRecDepth 100000
set_option maxHeartbeats 12800000
theorem EnW.const_ {w W : World} {cs : List (Nat × TypeId × Array Value)} {bs : List NB} (h : EnW w cs bs W) {n : Nat} (hn : W.heap.size = n) (t : TypeId) (c : Array Value) : EnW w ((n, t, c) :: cs) bs (W.alloc (.cells c t)) := by
  subst hn
  exact h.const t c
theorem below5 {P : Nat → Prop} (h : P 0 ∧ P 1 ∧ P 2 ∧ P 3 ∧ P 4) : ∀ i, i < 5 → P i := by
  intro i hi
  obtain ⟨h0, h1, h2, h3, h4⟩ := h
  obtain rfl | rfl | rfl | rfl | rfl : i = 0 ∨ i = 1 ∨ i = 2 ∨ i = 3 ∨ i = 4 := by omega
  all_goals assumption
theorem list_cell {w W : World} {cs : List (Nat × TypeId × Array Value)} {b gl : Nat} (h : EnW w cs [] W) (h0 : (b, 5, #[.int .u8 1, .int .u8 1]) ∈ cs) (h1 : (b + 1, 5, #[.int .u8 2, .int .u8 1]) ∈ cs) (h2 : (b + 1 + 1, 5, #[.int .u8 1, .int .u8 2, .int .u8 2]) ∈ cs) (h3 : (b + 1 + 1 + 1, 5, #[.int .u8 0, .int .u8 255]) ∈ cs) (h4 : (b + 1 + 1 + 1 + 1, 5, #[.int .u8 1]) ∈ cs) (hl : (gl, 23, #[.slice (some ⟨b, 0, none⟩) 2 2, .slice (some ⟨b + 1, 0, none⟩) 2 2, .slice (some ⟨b + 1 + 1, 0, none⟩) 3 3, .slice (some ⟨b + 1 + 1 + 1, 0, none⟩) 2 2, .slice (some ⟨b + 1 + 1 + 1 + 1, 0, none⟩) 1 1]) ∈ cs) :
    ∀ i, i < 5 → ∃ (Al : Option Addr) (l : List Nat), 0 < l.length ∧ l.length ≤ 3 ∧ (∀ x ∈ l, x < 256) ∧ W.cell? ⟨gl, i, none⟩ = some (.slice Al l.length l.length) ∧ Reads W W.heap.size 1 Al l.length (l.flatMap nrow) :=
  below5 ⟨⟨some ⟨b, 0, none⟩, [1, 1], by decide, by decide, by simp, (h.get hl).cell 0, (reads_of_blk (h.get h0) rfl rfl).more (h.get h0).lt⟩, ⟨some ⟨b + 1, 0, none⟩, [2, 1], by decide, by decide, by simp, (h.get hl).cell 1, (reads_of_blk (h.get h1) rfl rfl).more (h.get h1).lt⟩, ⟨some ⟨b + 1 + 1, 0, none⟩, [1, 2, 2], by decide, by decide, by simp, (h.get hl).cell 2, (reads_of_blk (h.get h2) rfl rfl).more (h.get h2).lt⟩, ⟨some ⟨b + 1 + 1 + 1, 0, none⟩, [0, 255], by decide, by decide, by simp, (h.get hl).cell 3, (reads_of_blk (h.get h3) rfl rfl).more (h.get h3).lt⟩, ⟨some ⟨b + 1 + 1 + 1 + 1, 0, none⟩, [1], by decide, by decide, by simp, (h.get hl).cell 4, (reads_of_blk (h.get h4) rfl rfl).more (h.get h4).lt⟩⟩
theorem pc_loop {u0 u1 u2 u3 u4 u5 u6 u7 u8 u9 u10 u11 u12 u13 u15 u16 u17 u18 u19 u20 u21 u22 u23 u24 u25 u26 u27 u28 u29 u30 u31 u32 u33 u34 u35 u36 u37 u38 u39 u40 u41 u42 u43 u44 u45 u46 u47 u48 u49 u50 u51 u52 u53 u54 u55 u56 u57 u58 u59 u60 u61 u62 u63 u64 u65 u66 u67 u68 u69 u70 u71 u72 u73 u74 u75 u76 u77 u78 u79 u80 u81 u82 u83 u84 u85 u86 u87 u88 u89 u90 u91 u92 u93 u94 u95 u96 u97 u98 u99 u100 u101 u102 u103 u104 u105 u106 u107 u108 u109 u110 u111 u112 u113 u114 u115 u116 u117 u118 u119 u120 u121 u122 u123 u124 u125 u126 u127 u128 u129 u130 u131 u132 u133 u134 u135 u136 u137 u138 u139 u140 u141 u142 u143 u144 u145 : Value} {ds : List Deferred} {Q : Exit → Act → World → Prop} (gl : Nat) (cs : List (Nat × TypeId × Array Value)) (w w0 : World) (hr0 : RoomsAt w) (h : EnW w cs [] w0) (hL : ∀ V, EnW w cs [] V → ∀ i, i < 5 → ∃ (Al : Option Addr) (l : List Nat), 0 < l.length ∧ l.length ≤ 3 ∧ (∀ x ∈ l, x < 256) ∧ V.cell? ⟨gl, i, none⟩ = some (.slice Al l.length l.length) ∧ Reads V V.heap.size 1 Al l.length (l.flatMap nrow))
    (hQ : ∀ (z0 z15 z16 z17 z118 z119 z120 z121 z122 z123 z124 z125 z126 z127 z128 z129 z130 z131 z132 z133 z134 z135 z136 z137 z138 z139 z140 z141 z142 z143 z144 z145 : Value) (V : World), EnW w cs [] V → Q .normal ⟨#[z0, u1, u2, u3, u4, u5, u6, u7, u8, u9, u10, u11, u12, u13, .slice (some ⟨gl, 0, none⟩) 5 5, z15, z16, z17, u18, u19, u20, u21, u22, u23, u24, u25, u26, u27, u28, u29, u30, u31, u32, u33, u34, u35, u36, u37, u38, u39, u40, u41, u42, u43, u44, u45, u46, u47, u48, u49, u50, u51, u52, u53, u54, u55, u56, u57, u58, u59, u60, u61, u62, u63, u64, u65, u66, u67, u68, u69, u70, u71, u72, u73, u74, u75, u76, u77, u78, u79, u80, u81, u82, u83, u84, u85, u86, u87, u88, u89, u90, u91, u92, u93, u94, u95, u96, u97, u98, u99, u100, u101, u102, u103, u104, u105, u106, u107, u108, u109, u110, u111, u112, u113, u114, u115, u116, u117, z118, z119, z120, z121, z122, z123, z124, z125, z126, z127, z128, z129, z130, z131, z132, z133, z134, z135, z136, z137, z138, z139, z140, z141, z142, z143, z144, z145], ds⟩ V) :
    Code.wp Tryz.prog (part Tryz.f15 [1, 1, 1, 1, 1, 1, 1, 0]) Q ⟨#[u0, u1, u2, u3, u4, u5, u6, u7, u8, u9, u10, u11, u12, u13, .slice (some ⟨gl, 0, none⟩) 5 5, u15, u16, u17, u18, u19, u20, u21, u22, u23, u24, u25, u26, u27, u28, u29, u30, u31, u32, u33, u34, u35, u36, u37, u38, u39, u40, u41, u42, u43, u44, u45, u46, u47, u48, u49, u50, u51, u52, u53, u54, u55, u56, u57, u58, u59, u60, u61, u62, u63, u64, u65, u66, u67, u68, u69, u70, u71, u72, u73, u74, u75, u76, u77, u78, u79, u80, u81, u82, u83, u84, u85, u86, u87, u88, u89, u90, u91, u92, u93, u94, u95, u96, u97, u98, u99, u100, u101, u102, u103, u104, u105, u106, u107, u108, u109, u110, u111, u112, u113, u114, u115, u116, u117, u118, u119, u120, u121, u122, u123, u124, u125, u126, u127, u128, u129, u130, u131, u132, u133, u134, u135, u136, u137, u138, u139, u140, u141, u142, u143, u144, u145], ds⟩ w0 := by
  conv => arg 2; whnf
  have HQ := Lib.hid hQ
  have HP := Lib.hid (And.intro hr0 hL)
  have H0 := Lib.hid h
  clear hQ hr0 hL h
  go_wp2_with fail
  go_loopw [15] (fun j wr => ∃ g : Nat, g ≤ 5 ∧ j = .int .i64 (g : Int) ∧ Hid (EnW w cs [] wr)) (fun j _ => 5 - (intOf j).toNat)
  case atStart => exact ⟨0, by omega, rfl, H0⟩
  case round =>
    clear H0
    obtain ⟨g, hgl, rfl, HW⟩ := hrel
    by_cases hlt : g < 5
    · have j3 : (g : Int) < 5 := by omega
      refine wp_seq_k fun K2 hK => ?_
      have HK2 := Lib.hid hK
      clear hK
      go_wp2_with fail
      refine HK2.out _ _ ?_
      clear HK2
      refine wp_seq_k fun K3 hK => ?_
      have HK3 := Lib.hid hK
      clear hK
      refine wp_block ?_
      obtain ⟨Al, l, p1, p2, p3, p4, p5⟩ := HP.out.2 _ HW.out g hlt
      refine pc_round gl g Al l cs w wr HP.out.1 HW.out hlt p4 p5 p1 p2 p3 (fun t16 t17 t122 t123 t124 t125 t126 t127 t128 t129 t130 t131 t132 t133 t134 t135 t136 t137 t138 t139 t140 t141 t142 t143 t144 t145 V hV => ?_)
      have HV := Lib.hid hV
      clear hV HW p1 p2 p3 p4 p5
      refine HK3.out _ _ ?_
      clear HK3
      go_wp2
      go_roundw
      case rel => exact ⟨g + 1, by omega, by go_num, HV⟩
      case measure => simp [intOf]; omega
    · obtain rfl : g = 5 := by omega
      go_wp2
      exact HQ.out _ _ _ _ _ _ _ _ _ _ _ _ _ _ _ _ _ _ _ _ _ _ _ _ _ _ _ _ _ _ _ _ _ HW.out
theorem parts_n (w : World) (hr : RoomsAt w) : Calls Tryz.prog 15 #[] w (BoolEnd true w) := by
  have H0 := Lib.hid (EnW.start hr)
  have HR := Lib.hid hr
  clear hr
  go_enter Tryz.func15, Tryz.ntmps15
  refine wp_seq_k fun K0 hK => ?_
  have HK0 := Lib.hid hK
  clear hK
  go_wp2_with fail
  refine HK0.out _ _ ?_
  clear HK0
  refine wp_seq_k fun K1 hK => ?_
  have HK1 := Lib.hid hK
  clear hK
  have H1 : Hid (EnW w ((w.heap.size, 9, codeC) :: []) [] (w.alloc (.cells #[.string { data := #[] }, .string { data := #[97] }, .string { data := #[97, 0, 0] }, .string { data := #[0, 0] }, .string { data := #[97, 98, 99, 100, 101, 102, 103, 104, 105, 106, 107, 108, 109, 110, 111, 112, 0, 0] }, .string { data := #[97, 98, 99, 100, 101, 102, 103, 104, 105, 106, 107, 108, 109, 110, 111, 112, 113, 0, 0] }] 9))) := Lib.hid (H0.out.const 9 codeC)
  clear H0
  go_wp2_with fail
  refine HK1.out _ _ ?_
  clear HK1
  generalize w.heap.size = gc at H1 ⊢
  generalize w.alloc _ = WH1 at H1 ⊢
  refine wp_seq_k fun K2 hK => ?_
  have HK2 := Lib.hid hK
  clear hK
  have H2 : Hid (EnW w ((WH1.heap.size, 9, valC) :: [(gc, 9, codeC)]) [] (WH1.alloc (.cells #[.string { data := #[] }, .string { data := #[120] }, .string { data := #[48, 49, 50, 51, 52, 53, 54, 55, 56, 57, 48, 49, 50, 51, 52, 53, 54, 55, 56, 57, 48, 49, 50, 51, 52, 53, 54, 55, 56, 57, 48, 49] }, .string { data := #[48, 49, 50, 51, 52, 53, 54, 55, 56, 57, 48, 49, 50, 51, 52, 53, 54, 55, 56, 57, 48, 49, 50, 51, 52, 53, 54, 55, 56, 57, 48, 49, 50] }] 9))) := Lib.hid (H1.out.const 9 valC)
  clear H1
  go_wp2_with fail
  refine HK2.out _ _ ?_
  clear HK2
  generalize WH1.heap.size = gv at H2 ⊢
  generalize WH1.alloc _ = WH2 at H2 ⊢
  refine wp_seq_k fun K3 hK => ?_
  have HK3 := Lib.hid hK
  clear hK
  refine pa_loop1 gc gv [(gv, 9, valC), (gc, 9, codeC)] w WH2 HR.out H2.out (by simp) (by simp) (fun t0 t3 t4 t5 t6 t7 t8 t20 t21 t22 t23 t24 t25 t26 t27 t28 t29 t30 t31 t32 t33 t34 t35 t36 t37 t38 t39 t40 t41 t42 t43 t44 t45 t46 t47 t48 t49 t50 t51 t52 t53 t54 t55 t56 t57 t58 t59 t60 t61 t62 t63 t64 V1 h1 => ?_)
  have H3 := Lib.hid h1
  clear h1 H2
  refine HK3.out _ _ ?_
  clear HK3
  refine wp_seq_k fun K4 hK => ?_
  have HK4 := Lib.hid hK
  clear hK
  have H4 : Hid (EnW w ((V1.heap.size, 3, slotC) :: [(gv, 9, valC), (gc, 9, codeC)]) [] (V1.alloc (.cells #[.int .i64 (-9223372036854775808), .int .i64 (-1), .int .i64 0, .int .i64 4095, .int .i64 4096, .int .i64 9223372036854775807] 3))) := Lib.hid (H3.out.const 3 slotC)
  clear H3
  go_wp2_with fail
  refine HK4.out _ _ ?_
  clear HK4
  generalize V1.heap.size = gs at H4 ⊢
  generalize V1.alloc _ = WH4 at H4 ⊢
  refine wp_seq_k fun K5 hK => ?_
  have HK5 := Lib.hid hK
  clear hK
  refine pb_loop1 gs ((gs, 3, slotC) :: [(gv, 9, valC), (gc, 9, codeC)]) w WH4 HR.out H4.out (by simp) (fun s0 s10 s11 s12 s13 s66 s67 s68 s69 s70 s71 s72 s73 s74 s75 s76 s77 s78 s79 s80 s81 s82 s83 s84 s85 s86 s87 s88 s89 s90 s91 s92 s93 s94 s95 s96 s97 s98 s99 s100 s101 s102 s103 s104 s105 s106 s107 s108 s109 s110 s111 V2 h1 => ?_)
  have H5 := Lib.hid h1
  clear h1 H4
  refine HK5.out _ _ ?_
  clear HK5
  refine wp_seq_k fun K6 hK => ?_
  have HK6 := Lib.hid hK
  clear hK
  have hsz : ∀ (W : World) (o : Obj) (n : Nat), W.heap.size = n → (W.alloc o).heap.size = n + 1 := fun W o n h => by simp [h]
  have h6 : EnW w ((V2.heap.size + 1 + 1 + 1 + 1 + 1, 23, #[.slice (some ⟨V2.heap.size, 0, none⟩) 2 2, .slice (some ⟨V2.heap.size + 1, 0, none⟩) 2 2, .slice (some ⟨V2.heap.size + 1 + 1, 0, none⟩) 3 3, .slice (some ⟨V2.heap.size + 1 + 1 + 1, 0, none⟩) 2 2, .slice (some ⟨V2.heap.size + 1 + 1 + 1 + 1, 0, none⟩) 1 1]) :: (V2.heap.size + 1 + 1 + 1 + 1, 5, #[.int .u8 1]) :: (V2.heap.size + 1 + 1 + 1, 5, #[.int .u8 0, .int .u8 255]) :: (V2.heap.size + 1 + 1, 5, #[.int .u8 1, .int .u8 2, .int .u8 2]) :: (V2.heap.size + 1, 5, #[.int .u8 2, .int .u8 1]) :: (V2.heap.size, 5, #[.int .u8 1, .int .u8 1]) :: ((gs, 3, slotC) :: [(gv, 9, valC), (gc, 9, codeC)])) [] ((((((V2.alloc (.cells #[.int .u8 1, .int .u8 1] 5)).alloc (.cells #[.int .u8 2, .int .u8 1] 5)).alloc (.cells #[.int .u8 1, .int .u8 2, .int .u8 2] 5)).alloc (.cells #[.int .u8 0, .int .u8 255] 5)).alloc (.cells #[.int .u8 1] 5)).alloc (.cells #[.slice (some ⟨V2.heap.size, 0, none⟩) 2 2, .slice (some ⟨V2.heap.size + 1, 0, none⟩) 2 2, .slice (some ⟨V2.heap.size + 1 + 1, 0, none⟩) 3 3, .slice (some ⟨V2.heap.size + 1 + 1 + 1, 0, none⟩) 2 2, .slice (some ⟨V2.heap.size + 1 + 1 + 1 + 1, 0, none⟩) 1 1] 23)) :=
    (((((H5.out.const_ rfl 5 #[.int .u8 1, .int .u8 1]).const_ (hsz _ _ _ rfl) 5 #[.int .u8 2, .int .u8 1]).const_ (hsz _ _ _ (hsz _ _ _ rfl)) 5 #[.int .u8 1, .int .u8 2, .int .u8 2]).const_ (hsz _ _ _ (hsz _ _ _ (hsz _ _ _ rfl))) 5 #[.int .u8 0, .int .u8 255]).const_ (hsz _ _ _ (hsz _ _ _ (hsz _ _ _ (hsz _ _ _ rfl)))) 5 #[.int .u8 1]).const_ (hsz _ _ _ (hsz _ _ _ (hsz _ _ _ (hsz _ _ _ (hsz _ _ _ rfl))))) 23 _
  have H6 := Lib.hid h6
  clear h6 hsz H5
  go_wp2_with fail
  refine HK6.out _ _ ?_
  clear HK6
  generalize (((((V2.alloc (.cells #[.int .u8 1, .int .u8 1] 5)).alloc (.cells #[.int .u8 2, .int .u8 1] 5)).alloc (.cells #[.int .u8 1, .int .u8 2, .int .u8 2] 5)).alloc (.cells #[.int .u8 0, .int .u8 255] 5)).alloc (.cells #[.int .u8 1] 5)).alloc _ = V3 at H6 ⊢
  generalize V2.heap.size = b at H6 ⊢
  refine wp_seq_k fun K7 hK => ?_
  have HK7 := Lib.hid hK
  clear hK
  refine pc_loop (b + 1 + 1 + 1 + 1 + 1) _ w V3 HR.out H6.out (fun V hV => list_cell (b := b) hV (by simp) (by simp) (by simp) (by simp) (by simp) (by simp)) (fun r0 r15 r16 r17 r118 r119 r120 r121 r122 r123 r124 r125 r126 r127 r128 r129 r130 r131 r132 r133 r134 r135 r136 r137 r138 r139 r140 r141 r142 r143 r144 r145 V4 h1 => ?_)
  have H7 := Lib.hid h1
  clear h1 H6
  refine HK7.out _ _ ?_
  clear HK7
  go_wp2
  go_ret
  exact ⟨rfl, H7.out.ctx.below⟩
end Go.Proofs.YtgjgcbemgmkncaaGreatDoor
namespace Go.Proofs.YtgjgcbemgmkncaaGreatDoor
open Go.RowKit Go.Shelf
set_option maxRecDepth 100000
set_option maxHeartbeats 12800000
theorem nodeEnds_n (w : World) (hr : RoomsAt w) : Calls Tryz.prog 4 #[] w (BoolEnd true w) := by
  have H0 := Lib.hid (EnW.start hr)
  have HR := Lib.hid hr
  clear hr
  go_enter Tryz.func4, Tryz.ntmps4
  refine wp_seq_k fun K0 hK => ?_
  have HK0 := Lib.hid hK
  clear hK
  go_wp2_with fail
  refine HK0.out _ _ ?_
  clear HK0
  refine wp_seq_k fun K1 hK => ?_
  have HK1 := Lib.hid hK
  clear hK
  have H1 : Hid (EnW w ((w.heap.size, 3, cntC) :: []) [] (w.alloc (.cells #[.int .i64 0, .int .i64 1, .int .i64 2, .int .i64 3, .int .i64 4, .int .i64 5, .int .i64 15, .int .i64 16, .int .i64 17, .int .i64 47, .int .i64 48, .int .i64 49, .int .i64 255, .int .i64 256, .int .i64 257] 3))) := Lib.hid (H0.out.const 3 cntC)
  clear H0
  go_wp2_with fail
  refine HK1.out _ _ ?_
  clear HK1
  generalize w.heap.size = gc at H1 ⊢
  generalize w.alloc _ = WH1 at H1 ⊢
  refine wp_seq_k fun K2 hK => ?_
  have HK2 := Lib.hid hK
  clear hK
  have H2 : Hid (EnW w ((WH1.heap.size, 9, pathC) :: [(gc, 3, cntC)]) [] (WH1.alloc (.cells #[.string { data := #[] }, .string { data := #[97] }, .string { data := #[97, 98, 99, 100, 101, 102, 103, 104, 105, 106, 107, 108, 109, 110, 111, 112, 113, 114, 115, 116, 117, 118, 119, 120, 121, 122, 48, 49, 50, 51, 52, 53, 54, 55] }, .string { data := #[97, 98, 99, 100, 101, 102, 103, 104, 105, 106, 107, 108, 109, 110, 111, 112, 113, 114, 115, 116, 117, 118, 119, 120, 121, 122, 48, 49, 50, 51, 52, 53, 54, 55, 56] }] 9))) := Lib.hid (H1.out.const 9 pathC)
  clear H1
  go_wp2_with fail
  refine HK2.out _ _ ?_
  clear HK2
  generalize WH1.heap.size = gp at H2 ⊢
  generalize WH1.alloc _ = WH2 at H2 ⊢
  refine wp_seq_k fun K3 hK => ?_
  have HK3 := Lib.hid hK
  clear hK
  refine en_loop1 gc gp [(gp, 9, pathC), (gc, 3, cntC)] w WH2 HR.out H2.out (by simp) (by simp) (fun t0 t3 t4 t5 t6 t7 t8 t11 t12 t13 t14 t15 t16 t17 t18 t19 t20 t21 t22 t23 t24 t25 t26 t27 t28 t29 t30 t31 t32 t33 t34 t35 t36 t37 t38 t39 t40 t41 t42 t43 t44 t45 t46 t47 t48 t49 t50 t51 t52 t53 t54 t55 t56 t57 t58 t59 t60 t61 t62 t63 t64 t65 t66 t67 t68 t69 t70 t71 t72 t73 t74 t75 t76 t77 t78 t79 t80 t81 t82 t83 t84 t85 t86 t87 t88 t89 t90 t91 V1 h1 => ?_)
  have H3 := Lib.hid h1
  clear h1 H2
  refine HK3.out _ _ ?_
  clear HK3
  have hp := parts_n V1 H3.out.ctx.rooms
  have HPN := Lib.hid hp
  clear hp
  go_wp2_with fail
  refine HPN.out.mono ?_
  rintro e w1 ⟨rfl, hb⟩
  have H4 := Lib.hid (H3.out.on hb)
  clear hb HPN H3
  have hp := awake_n w1 H4.out.ctx.rooms
  have HPN := Lib.hid hp
  clear hp
  go_wp2_with fail
  refine HPN.out.mono ?_
  rintro e w2 ⟨rfl, hb⟩
  have H5 := Lib.hid (H4.out.on hb)
  clear hb HPN H4
  go_wp2
  go_ret
  exact ⟨rfl, H5.out.ctx.below⟩
end Go.Proofs.YtgjgcbemgmkncaaGreatDoor
namespace Go.Proofs.YtgjgcbemgmkncaaGreatDoor
open Go.ChangeShapes Go.WideShapes Go.ChangeAt Go.RowKit
set_option maxRecDepth 100000
set_option maxHeartbeats 12800000
theorem gRooms : Tryz.prog.globalNamed "burgage/node.rooms" = some 0 := by kernel_rfl
theorem tRooms : (Tryz.prog.globals[0]?).map (·.type) = some 58 := by kernel_rfl
theorem uRooms : Tryz.prog.underlying 58 = some (.array 6 3) := by kernel_rfl
theorem cellsInt : Tryz.prog.cellsOf 3 = 1 := by kernel_rfl
theorem ints_of_data {H : Type} {enc : TypeId × Value → H} {W : World} {base : Nat} {spare : Nat → Bool} {held : Bool} {fuel : Nat} {cs : List Value} {ks : List Int} {pl : List MemPlace} (hk : ks.length = 6)
    (h : DataW.trod enc Tryz.prog W base spare held fuel 58 cs = some (.agg (ks.map fun k => .lit (.int .i64 k)), pl)) : ∀ i, i < 6 → cs[i]? = (ks[i]?).map fun k => .int .i64 k := by
  obtain ⟨xs, m, _, hx, _, hn, hel⟩ := DataW.trod_array uRooms h
  intro i hi
  have h1 := hel i hi
  rw [cellsInt, Nat.mul_one] at h1
  simp only [Prod.mk.injEq, DataW.agg.injEq] at hx
  obtain ⟨x, hxi⟩ : ∃ x, xs[i]? = some x := ⟨_, List.getElem?_eq_getElem (by omega)⟩
  rw [hxi] at h1
  obtain ⟨n, e1, e2, _⟩ := DataW.trod_int Tryz.underlying3 h1
  have h2 : (xs.map (·.1))[i]? = some (.lit (.int .i64 n)) := by rw [List.getElem?_map, hxi, e2]; rfl
  rw [← hx.1, List.getElem?_map] at h2
  have h3 : (cs.drop i)[0]? = some (.int .i64 n) := by
    have := congrArg (fun l : List Value => l[0]?) e1
    simpa [List.getElem?_take] using this
  rw [List.getElem?_drop, Nat.add_zero] at h3
  rw [h3]
  cases hki : ks[i]? with
  | none => rw [hki] at h2; cases h2
  | some k => rw [hki] at h2; simp at h2; simp [h2]
theorem rooms_of_laid {W : World} (h : laidMetH Tryz.prog [("burgage/node.rooms", Rows.laid_burgage_node_rooms)] W) : RoomsAt W := by
  rw [MakeChecks.laidMetH_plain _ _ _ (by kernel_rfl)] at h
  obtain ⟨ps, ⟨g0, t0, cs0, f0, p0, q0, hg0, ht0, hv0, hd0, _⟩, _⟩ := h
  obtain rfl := Option.some.inj (gRooms.symm.trans hg0)
  obtain rfl := Option.some.inj (tRooms.symm.trans ht0)
  have hc := ints_of_data (ks := [0, 0, 4, 16, 48, 256]) rfl hd0
  have hw : ∀ i, W.cell? ⟨0, i, none⟩ = cs0[i]? := World.var?_cell hg0 hv0
  have hl : ∀ i, cs0[i]? = cs0.toList[i]? := fun i => by first | rw [Array.getElem?_toList] | (cases cs0; rfl)
  unfold RoomsAt
  refine ⟨?_, ?_, ?_, ?_, ?_, ?_⟩
  · rw [hw, hl, hc 0 (by decide)]; rfl
  · rw [hw, hl, hc 1 (by decide)]; rfl
  · rw [hw, hl, hc 2 (by decide)]; rfl
  · rw [hw, hl, hc 3 (by decide)]; rfl
  · rw [hw, hl, hc 4 (by decide)]; rfl
  · rw [hw, hl, hc 5 (by decide)]; rfl
theorem door_met (os : Os) (args : Array Value) : laidMetH Tryz.prog [("burgage/node.rooms", Rows.laid_burgage_node_rooms)] ((World.doorLaid Tryz.prog 400 os).forCall (fun _ _ => 0) ⟨#[], args, []⟩).memory :=
  laidMetH_of_parts3 (fuel := 8) (laidMet_of_run' 8 (by kernel_rfl) (by kernel_rfl)) (by kernel_rfl) (by kernel_rfl)
end Go.Proofs.YtgjgcbemgmkncaaGreatDoor
namespace Go.Proofs.YtgjgcbemgmkncaaGreatDoor
open Go.ChangeShapes Go.WideShapes Go.ChangeAt Go.RowKit
section
variable {H : Type} {enc : TypeId × Value → H} {P : Program} {w : World} {base : Nat} {spare : Nat → Bool} {held : Bool}
end
section
variable {H : Type} {enc : TypeId × Value → H} {w : World} {base : Nat} {spare : Nat → Bool} {held : Bool}
end
end Go.Proofs.YtgjgcbemgmkncaaGreatDoor
namespace Go.Proofs.YtgjgcbemgmkncaaGreatDoor
open Go.ChangeShapes Go.WideShapes Go.ChangeAt Go.RowKit
set_option maxRecDepth 100000
set_option maxHeartbeats 12800000
section
variable {H : Type} {enc : TypeId × Value → H} {w : World} {base : Nat} {spare : Nat → Bool} {held : Bool}
end
end Go.Proofs.YtgjgcbemgmkncaaGreatDoor
namespace Go.Proofs.YtgjgcbemgmkncaaGreatDoor.nodeEndsLaw
open Go.ChangeShapes Go.WideShapes Go.ChangeAt Go.RowKit
theorem own : ownKnob Tryz.prog.godebug = none := by kernel_rfl
theorem laid : laidOutB Tryz.prog = true := by kernel_rfl
set_option maxRecDepth 100000 in
theorem lifted (os : Os) (started : os.Started) (H : Type) (enc : TypeId × Value → H) :
    ReturnsInHanded {} Tryz.checked os 4 .any (fun w args => (Rows.nodeEndsSpec.pre enc Tryz.prog Tryz.f4 [] false w args ∧ laidMetH Tryz.prog [("burgage/node.rooms", Rows.laid_burgage_node_rooms)] w) ∧ sizedMet enc Tryz.prog Tryz.f4 (OpenSpec.ofChange Rows.nodeEndsSpec) false w args)
      (Rows.nodeEndsSpec.post enc Tryz.prog Tryz.f4 false true false false) := by
  refine returnsInHanded_of_change_and (C := Tryz.checked) (X := fun w _ => laidMetH Tryz.prog [("burgage/node.rooms", Rows.laid_burgage_node_rooms)] w) (fun _ _ _ hh h => h.of_heap hh) own started (by kernel_rfl) Tryz.func4
    (ChangeSpec.witness_shaped (enc := enc) (C := Tryz.checked) (os := os) (X := fun w _ => laidMetH Tryz.prog [("burgage/node.rooms", Rows.laid_burgage_node_rooms)] w) false (World.doorLaid Tryz.prog 400 os) #[] 8 rfl (World.shaped_of_RefB (by kernel_rfl) (by kernel_rfl)) (by kernel_rfl) (by kernel_rfl) (by kernel_rfl) (door_met os _)) ?_
  intro W base args ds gs before hval0 hW _ _ hL _
  refine law_post (fn := Tryz.f4) (s := Rows.nodeEndsSpec) (n := 4) (tb := 4) laid rfl rfl Tryz.underlying4 (by kernel_rfl) (fun h => ?_) hW ?_
  · match ds, h with
    | [], _ => rfl
  · have hval : ∀ (j : Nat) t v, Tryz.f4.params[j]? = some t → args[j]? = some v → Value.okWide Tryz.prog W .any base t v := hval0
    obtain ⟨p, q, hA0, hV, rfl, hfz, hnd⟩ := hW
    have hA : DataW.TrodAll enc Tryz.prog W 0 (fun _ => true) true Tryz.f4.params.toList args.toList ds p := hA0
    rw [Tryz.params4] at hA hval
    obtain ⟨hargs, rfl, rfl⟩ := trodAll_nil hA
    obtain rfl : args = #[] := by cases args; simp_all
    clear hA0 hval0
    exact nodeEnds_n W (rooms_of_laid hL)
theorem over : Rows.nodeEndsRow.holds Tryz.pinned (OpenSpec.ofChange Rows.nodeEndsSpec) :=
  OpenClaim.holds_of_wide 4 Tryz.f4 rfl rfl rfl rfl rfl rfl rfl ⟨rfl, rfl, rfl, rfl, rfl⟩ rfl rfl rfl rfl rfl (by kernel_rfl) Tryz.func4 (by kernel_rfl)
    (of_decide_eq_true (by kernel_rfl)) (by unfold Func.isWrapper; first | (rw [if_pos (by decide +kernel)]; kernel_rfl) | (rw [if_neg (by decide +kernel)]; exact ⟨rfl, rfl⟩))
    (fun os started H enc _ => lifted os started H enc)
theorem proved : Rows.NodeEndsCardSaid :=
  Claim7.holds_tied_plain_at .later [] [.data] true (true, "265d713297f47f1f92faab045d69917c4782ab53b34673aabc621a1993803fba") true
    over (fun _ h => by cases h) (by kernel_rfl) (fun _ h => by cases h) nodeEnds_row_tie rfl ⟨rfl, rfl⟩ (by kernel_rfl) rfl
    (fun f fn hf hfn => by
      obtain rfl : f = 4 := Option.some.inj ((show Tryz.prog.funcNamed "burgage/burgagelaw09.NodeEnds" = some 4 by kernel_rfl).symm.trans hf) |>.symm
      obtain rfl : fn = Tryz.f4 := (Option.some.inj (Tryz.func4.symm.trans hfn)).symm
      refine ⟨by kernel_rfl, fun j t ht => ?_⟩
      rw [Tryz.params4] at ht
      simp at ht)
    (by kernel_rfl)
#print axioms proved
end Go.Proofs.YtgjgcbemgmkncaaGreatDoor.nodeEndsLaw
