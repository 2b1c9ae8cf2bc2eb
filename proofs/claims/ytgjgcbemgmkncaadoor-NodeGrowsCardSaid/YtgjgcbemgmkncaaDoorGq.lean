/-
  NodeGrows: the first loop's round up to the top.
  NodeGrows: the first loop's round: the low node.
  NodeGrows: the first loop's round: what is asked.
  NodeGrows: the second loop's round up to the top.
  NodeGrows: the second loop's round: the low node.
  NodeGrows: the second loop's round: what is asked.
-/
import Derived.Test.YtgjgcbemgmkncaaDoorGi
import Derived.Test.YtgjgcbemgmkncaaDoorGj
import Derived.Test.YtgjgcbemgmkncaaDoorGk
import Derived.Test.YtgjgcbemgmkncaaDoorGl
import Derived.Test.YtgjgcbemgmkncaaDoorGm
import Derived.Test.YtgjgcbemgmkncaaDoorGn
namespace Go.Proofs.YtgjgcbemgmkncaaDoor
open Go.RowKit Go.Shelf
set_option linter.unusedVariables false
set_option linter.unusedSimpArgs false

set_option maxHeartbeats 12800000 in
set_option maxRecDepth 100000 in
theorem grA {u1 u2 u3 u4 u10 u11 u12 u13 u14 u15 u16 u17 u18 u19 u20 u21 u22 u23 u24 u25 u26 u27 u28 u29 u30 u31 u32 u33 u34 u35 u36 u37 u38 u39 u40 u41 u42 u43 u44 u45 u46 u47 u48 u49 u50 u51 u52 u53 u54 u55 u56 u57 u58 u59 u60 u61 u62 u63 u64 u65 u66 u67 u68 u69 u70 u71 u72 u73 u74 u75 u76 u77 u78 u79 u80 u81 u82 u83 u84 u85 u86 u87 u88 u89 u90 u91 u92 u93 u94 u95 u96 u97 u98 u99 u100 u101 u102 u103 u104 u105 u106 u107 u108 u109 u110 u111 u112 u113 u114 u115 u116 u117 u118 u119 u120 u121 u122 u123 u124 u125 u126 u127 u128 u129 u130 u131 u132 u133 u134 u135 u136 u137 u138 u139 u140 u141 u142 u143 u144 u145 u146 u147 u148 u149 u150 u151 u152 u153 u154 u155 u156 u157 u158 u159 u160 u161 u162 u163 u164 u165 u166 u167 u168 u169 u170 u171 u172 u173 u174 u175 u176 u177 u178 u179 u180 u181 u182 u183 u184 u185 u186 u187 u188 u189 u190 u191 u192 u193 u194 u195 u196 u197 u198 u199 u200 u201 u202 : Value} {ds : List Deferred} {Q : Exit → Act → World → Prop} (ln c0 i b g5 g6 g7 : Nat) (ad : Addr) (f g : Kids) (w w0 : World)
    (hS : GrW w g5 g6 g7 f g w0) (hr0 : RoomsAt w) (hadl : ad.block < w.heap.size) (hbyte : w.cell? (ad.add i) = some (.int .u8 (b : Int))) (hb256 : b < 256) (hi : i < ln) (hln : ln ≤ 256)
    (hQ : ∀ (z10 z11 z35 z36 z37 z38 z39 z40 z41 z42 z43 z44 z45 z46 z47 z48 z49 z50 z51 z52 z53 z54 z55 z56 z57 z58 z59 z60 z61 z62 z63 z64 z65 z66 z67 z68 z69 z70 z71 z72 : Value) (cn : Int) (f2 : Kids) (W : World), f2 = (if (f b).isSome = true then f else setK f b (some ((i : Int), 1))) → cn = (cntK f2 : Int) → GrW w g5 g6 g7 f2 g W → Code.wp Tryd.prog (part Tryd.f3 [1, 1, 1, 1, 1, 1, 1, 0, 1, 2, 2, 1, 0, 2, 1, 1, 1]) Q ⟨#[.slice (some ad) ln c0, u1, u2, u3, u4, .pointer (some ⟨g5, 0, none⟩), .pointer (some ⟨g6, 0, none⟩), .pointer (some ⟨g7, 0, none⟩), .int .i64 cn, .int .i64 (i : Int), z10, z11, u12, u13, u14, u15, u16, u17, u18, u19, u20, u21, u22, u23, u24, u25, u26, u27, u28, u29, u30, u31, u32, u33, u34, z35, z36, z37, z38, z39, z40, z41, z42, z43, z44, z45, z46, z47, z48, z49, z50, z51, z52, z53, z54, z55, z56, z57, z58, z59, z60, z61, z62, z63, z64, z65, z66, z67, z68, z69, z70, z71, z72, u73, u74, u75, u76, u77, u78, u79, u80, u81, u82, u83, u84, u85, u86, u87, u88, u89, u90, u91, u92, u93, u94, u95, u96, u97, u98, u99, u100, u101, u102, u103, u104, u105, u106, u107, u108, u109, u110, u111, u112, u113, u114, u115, u116, u117, u118, u119, u120, u121, u122, u123, u124, u125, u126, u127, u128, u129, u130, u131, u132, u133, u134, u135, u136, u137, u138, u139, u140, u141, u142, u143, u144, u145, u146, u147, u148, u149, u150, u151, u152, u153, u154, u155, u156, u157, u158, u159, u160, u161, u162, u163, u164, u165, u166, u167, u168, u169, u170, u171, u172, u173, u174, u175, u176, u177, u178, u179, u180, u181, u182, u183, u184, u185, u186, u187, u188, u189, u190, u191, u192, u193, u194, u195, u196, u197, u198, u199, u200, u201, u202], ds⟩ W) :
    Code.wp Tryd.prog (part Tryd.f3 [1, 1, 1, 1, 1, 1, 1, 0, 1, 2, 2, 1, 0, 2]) Q ⟨#[.slice (some ad) ln c0, u1, u2, u3, u4, .pointer (some ⟨g5, 0, none⟩), .pointer (some ⟨g6, 0, none⟩), .pointer (some ⟨g7, 0, none⟩), .int .i64 (cntK f : Int), .int .i64 (i : Int), u10, u11, u12, u13, u14, u15, u16, u17, u18, u19, u20, u21, u22, u23, u24, u25, u26, u27, u28, u29, u30, u31, u32, u33, u34, u35, u36, u37, u38, u39, u40, u41, u42, u43, u44, u45, u46, u47, u48, u49, u50, u51, u52, u53, u54, u55, u56, u57, u58, u59, u60, u61, u62, u63, u64, u65, u66, u67, u68, u69, u70, u71, u72, u73, u74, u75, u76, u77, u78, u79, u80, u81, u82, u83, u84, u85, u86, u87, u88, u89, u90, u91, u92, u93, u94, u95, u96, u97, u98, u99, u100, u101, u102, u103, u104, u105, u106, u107, u108, u109, u110, u111, u112, u113, u114, u115, u116, u117, u118, u119, u120, u121, u122, u123, u124, u125, u126, u127, u128, u129, u130, u131, u132, u133, u134, u135, u136, u137, u138, u139, u140, u141, u142, u143, u144, u145, u146, u147, u148, u149, u150, u151, u152, u153, u154, u155, u156, u157, u158, u159, u160, u161, u162, u163, u164, u165, u166, u167, u168, u169, u170, u171, u172, u173, u174, u175, u176, u177, u178, u179, u180, u181, u182, u183, u184, u185, u186, u187, u188, u189, u190, u191, u192, u193, u194, u195, u196, u197, u198, u199, u200, u201, u202], ds⟩ w0 := by
  conv => arg 2; whnf
  have HQ := Lib.hid hQ
  clear hQ
  obtain ⟨A, c, A', c', hbx, hrws⟩ := hS.top
  have HS := Lib.hid hS
  have HRW := Lib.hid hrws
  have hbyte0 : w0.cell? (ad.add i) = some (.int .u8 (b : Int)) := (hS.below.cell (p := ad.add i) (by rw [block_of_add]; exact hadl)).trans hbyte
  have hadl0 : ad.block < w0.heap.size := Nat.lt_of_lt_of_le hadl hS.below.size
  have i1 : (0 : Int) ≤ (i : Int) := by omega
  have i2 : (i : Int) < (ln : Int) := by omega
  have j1 : (0 : Int) ≤ (b : Int) := by omega
  have j2 : (b : Int) < 256 := by omega
  clear hS hrws hbyte
  refine wp_seq_k fun K1 hK => ?_
  have HK1 := Lib.hid hK
  clear hK
  cases hf : (f b).isSome with
  | true =>
    refine gr12 (ofNd zeroNd f 5) zeroNd 8 A c A' c' g5 ln c0 i b ad w0 hbx HS.out.rooms hadl0 hbyte0 i1 i2 (fun W h1 h2 => ?_) (fun y35 y36 y37 y38 y39 y40 y41 y42 y43 y44 y45 gN B1 d1 B2 d2 V hb hx hg hrw => ?_)
    · have := Add_n (ofNd zeroNd f 5) _ b ((i : Int), 1) true W h1 h2 hb256 (kid_ref (by omega)).2
      rw [add_top ((i : Int), 1) hb256 HS.out.fok rfl (kid_ref (by omega)).1, if_pos hf] at this
      exact this
    have S1 := HS.out.on hb
    have hc := S1.has.cell b
    rw [List.getElem?_toArray, hasL_at f hb256, hf] at hc
    have hby : V.cell? (ad.add i) = some (.int .u8 (b : Int)) := (hb.cell (p := ad.add i) (by rw [block_of_add]; exact hadl0)).trans hbyte0
    have HV := Lib.hid S1
    have HF := Lib.hid hf
    clear hb hx hg hrw S1 hbx hf hbyte0
    refine HK1.out _ _ ?_
    clear HK1
    refine wp_seq_k fun K2 hK => ?_
    have HK2 := Lib.hid hK
    clear hK
    go_wp2_with fail
    refine HK2.out _ _ ?_
    clear HK2
    refine wp_seq_k fun K3 hK => ?_
    have HK3 := Lib.hid hK
    clear hK
    go_wp2_with fail
    refine HK3.out _ _ ?_
    clear HK3
    exact HQ.out _ _ _ _ _ _ _ _ _ _ _ _ _ _ _ _ _ _ _ _ _ _ _ _ _ _ _ _ _ _ _ _ _ _ _ _ _ _ _ _ _ f _ (by rw [if_pos HF.out]) rfl HV.out
  | false =>
    refine gr12 (ofNd zeroNd f 5) (ofNd zeroNd (setK f b (some ((i : Int), 1))) 5) 0 A c A' c' g5 ln c0 i b ad w0 hbx HS.out.rooms hadl0 hbyte0 i1 i2 (fun W h1 h2 => ?_) (fun y35 y36 y37 y38 y39 y40 y41 y42 y43 y44 y45 gN B1 d1 B2 d2 V hb hx hg hrw => ?_)
    · have := Add_n (ofNd zeroNd f 5) _ b ((i : Int), 1) true W h1 h2 hb256 (kid_ref (by omega)).2
      rw [add_top ((i : Int), 1) hb256 HS.out.fok rfl (kid_ref (by omega)).1, if_neg (by rw [hf]; simp)] at this
      exact this
    have S1 := HS.out.on hb
    have hc := S1.has.cell b
    rw [List.getElem?_toArray, hasL_at f hb256, hf] at hc
    have hby : V.cell? (ad.add i) = some (.int .u8 (b : Int)) := (hb.cell (p := ad.add i) (by rw [block_of_add]; exact hadl0)).trans hbyte0
    obtain ⟨C, e, C', e', hbx2, _⟩ := S1.top
    have hbx3 := hbx.below hb
    have hok := HS.out.fok.set hb256 (kid_ref (i := i) (by omega)).1 (kid_ref (i := i) (by omega)).2
    have hr3 : ∀ r ∈ rowsOf ((ofNd zeroNd (setK f b (some ((i : Int), 1))) 5).v B1 d1 B2 d2), r ≠ g5 ∧ r ≠ g6 ∧ r ≠ g7 := fun r hm => by
      have h1 := (hrw r hm).1
      have h2 := hbx.lt
      obtain ⟨_, _, _, _, h3, _⟩ := HS.out.low
      have h4 := h3.lt
      have h5 := HS.out.has.lt
      omega
    obtain ⟨VV, hV, hgr, hbn⟩ := store_node (W := V) (g := g5) (t := 27) hbx3.blk rfl hx.node (fun hm => (hr3 _ hm).1 rfl)
    have HT := Lib.hid (S1.turned hr0 hb256 hok hgr hbn hr3)
    have hcn : cntK (setK f b (some ((i : Int), 1))) = cntK f + 1 := cnt_set_some _ hb256 (by cases h : f b with
      | none => rfl
      | some q => rw [h] at hf; cases hf)
    have HCN := Lib.hid hcn
    have hle := cnt_256 f
    have sw : IntKind.i64.wrap ((cntK f : Int) + 1) = (cntK f : Int) + 1 := IntWalk.i64_in _ (by omega)
    obtain ⟨n0, n1, n2, n3, n4, n5⟩ := hx.cells
    obtain ⟨d0, d1', d2', d3', d4', d5'⟩ := hbx3.cells
    obtain ⟨fz0, fz1, fz2, fz3, fz4, fz5⟩ := hbx3.frozen
    have l6 := hbx3.lt
    have hq7 := S1.has.grown hgr (fun e => HS.out.ne.2.1 (by injection e with e; exact e.symm))
    have k0 := hq7.cell b
    rw [List.getElem?_toArray, hasL_at f hb256, hf] at k0
    have k1 := hq7.frozen b
    have k2 := hq7.lt
    have hby2 : VV.cell? (ad.add i) = some (.int .u8 (b : Int)) := by
      refine (World.cell?_of_block ?_).trans hby
      rw [block_of_add]
      exact hgr.block _ (Nat.lt_of_lt_of_le hadl0 hb.size) (fun e => by injection e with e; have := HS.out.ge.1; omega)
    have HF := Lib.hid hf
    clear hb hg hrw S1 hf hbyte0 hbx2 hbn hok hr3 hcn hq7 hx hbx hbx3
    refine HK1.out _ _ ?_
    clear HK1
    refine wp_seq_k fun K2 hK => ?_
    have HK2 := Lib.hid hK
    clear hK
    go_wp2_with fail
    refine HK2.out _ _ ?_
    clear HK2
    refine wp_seq_k fun K3 hK => ?_
    have HK3 := Lib.hid hK
    clear hK
    refine wp_seq_k fun K4 hK => ?_
    have HK4 := Lib.hid hK
    clear hK
    go_wp2_with fail
    refine HK4.out _ _ ?_
    clear HK4
    refine wp_cond_true rfl ?_
    refine wp_seq_k fun K5 hK => ?_
    have HK5 := Lib.hid hK
    clear hK
    go_wp2_with fail
    rw [← hV]
    refine HK5.out _ _ ?_
    clear HK5 hV n0 n1 n2 n3 n4 n5 d0 d1' d2' d3' d4' d5' fz0 fz1 fz2 fz3 fz4 fz5 l6 hc hby
    go_wp2_with fail
    refine HK3.out _ _ ?_
    clear HK3
    exact HQ.out _ _ _ _ _ _ _ _ _ _ _ _ _ _ _ _ _ _ _ _ _ _ _ _ _ _ _ _ _ _ _ _ _ _ _ _ _ _ _ _ _ (setK f b (some ((i : Int), 1))) _ (by rw [if_neg (by rw [HF.out]; simp)]) (by rw [HCN.out]; push_cast; rfl) HT.out
end Go.Proofs.YtgjgcbemgmkncaaDoor
namespace Go.Proofs.YtgjgcbemgmkncaaDoor
open Go.RowKit Go.Shelf
set_option linter.unusedVariables false
set_option linter.unusedSimpArgs false

set_option maxHeartbeats 12800000 in
set_option maxRecDepth 100000 in
theorem grB {u1 u2 u3 u4 u5 u7 u8 u10 u11 u12 u13 u14 u15 u16 u17 u18 u19 u20 u21 u22 u23 u24 u25 u26 u27 u28 u29 u30 u31 u32 u33 u34 u35 u36 u37 u38 u39 u40 u41 u42 u43 u44 u45 u46 u47 u48 u49 u50 u51 u52 u53 u54 u55 u56 u57 u58 u59 u60 u61 u62 u63 u64 u65 u66 u67 u68 u69 u70 u71 u72 u73 u74 u75 u76 u77 u78 u79 u80 u81 u82 u83 u84 u85 u86 u87 u88 u89 u90 u91 u92 u93 u94 u95 u96 u97 u98 u99 u100 u101 u102 u103 u104 u105 u106 u107 u108 u109 u110 u111 u112 u113 u114 u115 u116 u117 u118 u119 u120 u121 u122 u123 u124 u125 u126 u127 u128 u129 u130 u131 u132 u133 u134 u135 u136 u137 u138 u139 u140 u141 u142 u143 u144 u145 u146 u147 u148 u149 u150 u151 u152 u153 u154 u155 u156 u157 u158 u159 u160 u161 u162 u163 u164 u165 u166 u167 u168 u169 u170 u171 u172 u173 u174 u175 u176 u177 u178 u179 u180 u181 u182 u183 u184 u185 u186 u187 u188 u189 u190 u191 u192 u193 u194 u195 u196 u197 u198 u199 u200 u201 u202 : Value} {ds : List Deferred} {Q : Exit → Act → World → Prop} (ln c0 i b g5 g6 g7 : Nat) (ad : Addr) (f g : Kids) (w w0 : World)
    (hS : GrW w g5 g6 g7 f g w0) (hr0 : RoomsAt w) (hadl : ad.block < w.heap.size) (hbyte : w.cell? (ad.add i) = some (.int .u8 (b : Int))) (hb256 : b < 256) (hi : i < ln) (hln : ln ≤ 256)
    (hQ : ∀ (z12 z13 z73 z74 z75 z76 z77 z78 z79 z80 z81 z82 z83 z84 z85 z86 : Value) (g2 : Kids) (W : World), g2 = (if (g b).isSome = true then g else setK g b (some ((i : Int), 1))) → GrW w g5 g6 g7 f g2 W → Code.wp Tryd.prog (part Tryd.f3 [1, 1, 1, 1, 1, 1, 1, 0, 1, 2, 2, 1, 0, 2, 1, 1, 1, 1, 1]) Q ⟨#[.slice (some ad) ln c0, u1, u2, u3, u4, u5, .pointer (some ⟨g6, 0, none⟩), u7, u8, .int .i64 (i : Int), u10, u11, z12, z13, u14, u15, u16, u17, u18, u19, u20, u21, u22, u23, u24, u25, u26, u27, u28, u29, u30, u31, u32, u33, u34, u35, u36, u37, u38, u39, u40, u41, u42, u43, u44, u45, u46, u47, u48, u49, u50, u51, u52, u53, u54, u55, u56, u57, u58, u59, u60, u61, u62, u63, u64, u65, u66, u67, u68, u69, u70, u71, u72, z73, z74, z75, z76, z77, z78, z79, z80, z81, z82, z83, z84, z85, z86, u87, u88, u89, u90, u91, u92, u93, u94, u95, u96, u97, u98, u99, u100, u101, u102, u103, u104, u105, u106, u107, u108, u109, u110, u111, u112, u113, u114, u115, u116, u117, u118, u119, u120, u121, u122, u123, u124, u125, u126, u127, u128, u129, u130, u131, u132, u133, u134, u135, u136, u137, u138, u139, u140, u141, u142, u143, u144, u145, u146, u147, u148, u149, u150, u151, u152, u153, u154, u155, u156, u157, u158, u159, u160, u161, u162, u163, u164, u165, u166, u167, u168, u169, u170, u171, u172, u173, u174, u175, u176, u177, u178, u179, u180, u181, u182, u183, u184, u185, u186, u187, u188, u189, u190, u191, u192, u193, u194, u195, u196, u197, u198, u199, u200, u201, u202], ds⟩ W) :
    Code.wp Tryd.prog (part Tryd.f3 [1, 1, 1, 1, 1, 1, 1, 0, 1, 2, 2, 1, 0, 2, 1, 1, 1]) Q ⟨#[.slice (some ad) ln c0, u1, u2, u3, u4, u5, .pointer (some ⟨g6, 0, none⟩), u7, u8, .int .i64 (i : Int), u10, u11, u12, u13, u14, u15, u16, u17, u18, u19, u20, u21, u22, u23, u24, u25, u26, u27, u28, u29, u30, u31, u32, u33, u34, u35, u36, u37, u38, u39, u40, u41, u42, u43, u44, u45, u46, u47, u48, u49, u50, u51, u52, u53, u54, u55, u56, u57, u58, u59, u60, u61, u62, u63, u64, u65, u66, u67, u68, u69, u70, u71, u72, u73, u74, u75, u76, u77, u78, u79, u80, u81, u82, u83, u84, u85, u86, u87, u88, u89, u90, u91, u92, u93, u94, u95, u96, u97, u98, u99, u100, u101, u102, u103, u104, u105, u106, u107, u108, u109, u110, u111, u112, u113, u114, u115, u116, u117, u118, u119, u120, u121, u122, u123, u124, u125, u126, u127, u128, u129, u130, u131, u132, u133, u134, u135, u136, u137, u138, u139, u140, u141, u142, u143, u144, u145, u146, u147, u148, u149, u150, u151, u152, u153, u154, u155, u156, u157, u158, u159, u160, u161, u162, u163, u164, u165, u166, u167, u168, u169, u170, u171, u172, u173, u174, u175, u176, u177, u178, u179, u180, u181, u182, u183, u184, u185, u186, u187, u188, u189, u190, u191, u192, u193, u194, u195, u196, u197, u198, u199, u200, u201, u202], ds⟩ w0 := by
  conv => arg 2; whnf
  have HQ := Lib.hid hQ
  clear hQ
  obtain ⟨A, c, A', c', hbx, hrws⟩ := hS.low
  have HS := Lib.hid hS
  have hbyte0 : w0.cell? (ad.add i) = some (.int .u8 (b : Int)) := (hS.below.cell (p := ad.add i) (by rw [block_of_add]; exact hadl)).trans hbyte
  have hadl0 : ad.block < w0.heap.size := Nat.lt_of_lt_of_le hadl hS.below.size
  have i1 : (0 : Int) ≤ (i : Int) := by omega
  have i2 : (i : Int) < (ln : Int) := by omega
  clear hS hrws hbyte
  refine wp_seq_k fun K1 hK => ?_
  have HK1 := Lib.hid hK
  clear hK
  cases hf : (g b).isSome with
  | true =>
    refine gr19 (ofNd pNd g (kindK g)) zeroNd 8 A c A' c' g6 ln c0 i b ad w0 hbx HS.out.rooms hadl0 hbyte0 i1 i2 (fun W h1 h2 => ?_) (fun y73 y74 y75 y76 y77 y78 y79 y80 y81 y82 y83 gN B1 d1 B2 d2 V hb hx hg hrw => ?_)
    · have := Add_n (ofNd pNd g (kindK g)) _ b ((i : Int), 1) false W h1 h2 hb256 (kid_ref (by omega)).2
      rw [add_low ((i : Int), 1) hb256 HS.out.gok pNd_path (cnt_two HS.out.two) (kid_ref (by omega)).1, if_pos hf] at this
      exact this
    have S1 := HS.out.on hb
    have HV := Lib.hid S1
    have HF := Lib.hid hf
    clear hb hx hg hrw S1 hbx hf hbyte0
    refine HK1.out _ _ ?_
    clear HK1
    refine wp_seq_k fun K2 hK => ?_
    have HK2 := Lib.hid hK
    clear hK
    go_wp2_with fail
    refine HK2.out _ _ ?_
    clear HK2
    exact HQ.out _ _ _ _ _ _ _ _ _ _ _ _ _ _ _ _ g _ (by rw [if_pos HF.out]) HV.out
  | false =>
    refine gr19 (ofNd pNd g (kindK g)) (ofNd pNd (setK g b (some ((i : Int), 1))) (kindK (setK g b (some ((i : Int), 1))))) 0 A c A' c' g6 ln c0 i b ad w0 hbx HS.out.rooms hadl0 hbyte0 i1 i2 (fun W h1 h2 => ?_) (fun y73 y74 y75 y76 y77 y78 y79 y80 y81 y82 y83 gN B1 d1 B2 d2 V hb hx hg hrw => ?_)
    · have := Add_n (ofNd pNd g (kindK g)) _ b ((i : Int), 1) false W h1 h2 hb256 (kid_ref (by omega)).2
      rw [add_low ((i : Int), 1) hb256 HS.out.gok pNd_path (cnt_two HS.out.two) (kid_ref (by omega)).1, if_neg (by rw [hf]; simp)] at this
      exact this
    have S1 := HS.out.on hb
    have hbx3 := hbx.below hb
    have hok := HS.out.gok.set hb256 (kid_ref (i := i) (by omega)).1 (kid_ref (i := i) (by omega)).2
    have h2 : setK g b (some ((i : Int), 1)) 0 = some (0, 1) ∧ setK g b (some ((i : Int), 1)) 255 = some (1, 1) := by
      have e0 : (0 : Nat) ≠ b := fun e => by rw [← e, HS.out.two.1] at hf; cases hf
      have e1 : (255 : Nat) ≠ b := fun e => by rw [← e, HS.out.two.2] at hf; cases hf
      unfold setK
      rw [if_neg e0, if_neg e1]
      exact HS.out.two
    have hr3 : ∀ r ∈ rowsOf ((ofNd pNd (setK g b (some ((i : Int), 1))) (kindK (setK g b (some ((i : Int), 1))))).v B1 d1 B2 d2), r ≠ g5 ∧ r ≠ g6 ∧ r ≠ g7 := fun r hm => by
      have h1 := (hrw r hm).1
      have h2 := hbx.lt
      obtain ⟨_, _, _, _, h3, _⟩ := HS.out.top
      have h4 := h3.lt
      have h5 := HS.out.has.lt
      omega
    obtain ⟨VV, hV, hgr, hbn⟩ := store_node (W := V) (g := g6) (t := 27) hbx3.blk rfl hx.node (fun hm => (hr3 _ hm).2.1 rfl)
    have HT := Lib.hid (S1.lowered hr0 hok h2 hgr hbn hr3)
    obtain ⟨n0, n1, n2, n3, n4, n5⟩ := hx.cells
    obtain ⟨d0, d1', d2', d3', d4', d5'⟩ := hbx3.cells
    obtain ⟨fz0, fz1, fz2, fz3, fz4, fz5⟩ := hbx3.frozen
    have l6 := hbx3.lt
    have HF := Lib.hid hf
    clear hb hg hrw S1 hf hbyte0 hbn hok hr3 hx hbx hbx3 h2
    refine HK1.out _ _ ?_
    clear HK1
    refine wp_seq_k fun K2 hK => ?_
    have HK2 := Lib.hid hK
    clear hK
    go_wp2_with fail
    rw [← hV]
    refine HK2.out _ _ ?_
    clear HK2
    exact HQ.out _ _ _ _ _ _ _ _ _ _ _ _ _ _ _ _ (setK g b (some ((i : Int), 1))) _ (by rw [if_neg (by rw [HF.out]; simp)]) HT.out
end Go.Proofs.YtgjgcbemgmkncaaDoor
namespace Go.Proofs.YtgjgcbemgmkncaaDoor
open Go.RowKit Go.Shelf
set_option linter.unusedVariables false
set_option linter.unusedSimpArgs false

set_option maxHeartbeats 12800000 in
set_option maxRecDepth 100000 in
theorem grC {u0 u1 u2 u3 u4 u7 u9 u10 u11 u12 u13 u14 u15 u16 u17 u18 u19 u20 u21 u22 u23 u24 u25 u26 u27 u28 u29 u30 u31 u32 u33 u34 u35 u36 u37 u38 u39 u40 u41 u42 u43 u44 u45 u46 u47 u48 u49 u50 u51 u52 u53 u54 u55 u56 u57 u58 u59 u60 u61 u62 u63 u64 u65 u66 u67 u68 u69 u70 u71 u72 u73 u74 u75 u76 u77 u78 u79 u80 u81 u82 u83 u84 u85 u86 u87 u88 u89 u90 u91 u92 u93 u94 u95 u96 u97 u98 u99 u100 u101 u102 u103 u104 u105 u106 u107 u108 u109 u110 u111 u112 u113 u114 u115 u116 u117 u118 u119 u120 u121 u122 u123 u124 u125 u126 u127 u128 u129 u130 u131 u132 u133 u134 u135 u136 u137 u138 u139 u140 u141 u142 u143 u144 u145 u146 u147 u148 u149 u150 u151 u152 u153 u154 u155 u156 u157 u158 u159 u160 u161 u162 u163 u164 u165 u166 u167 u168 u169 u170 u171 u172 u173 u174 u175 u176 u177 u178 u179 u180 u181 u182 u183 u184 u185 u186 u187 u188 u189 u190 u191 u192 u193 u194 u195 u196 u197 u198 u199 u200 u201 u202 : Value} {ds : List Deferred} {Q : Exit → Act → World → Prop} (g5 g6 g7 : Nat) (f g : Kids) (cn : Int) (w w0 : World)
    (hS : GrW w g5 g6 g7 f g w0) (hcn : cn = (cntK f : Int))
    (hQ : ∀ (z14 z15 z87 z88 z89 z90 z91 z92 z93 z94 z95 z96 z97 z98 z99 z100 z101 z102 z103 z104 z105 z106 z107 z108 z109 z110 z111 z112 z113 z114 : Value)  (W : World), GrW w g5 g6 g7 f g W → Q .normal ⟨#[u0, u1, u2, u3, u4, .pointer (some ⟨g5, 0, none⟩), .pointer (some ⟨g6, 0, none⟩), u7, .int .i64 cn, u9, u10, u11, u12, u13, z14, z15, u16, u17, u18, u19, u20, u21, u22, u23, u24, u25, u26, u27, u28, u29, u30, u31, u32, u33, u34, u35, u36, u37, u38, u39, u40, u41, u42, u43, u44, u45, u46, u47, u48, u49, u50, u51, u52, u53, u54, u55, u56, u57, u58, u59, u60, u61, u62, u63, u64, u65, u66, u67, u68, u69, u70, u71, u72, u73, u74, u75, u76, u77, u78, u79, u80, u81, u82, u83, u84, u85, u86, z87, z88, z89, z90, z91, z92, z93, z94, z95, z96, z97, z98, z99, z100, z101, z102, z103, z104, z105, z106, z107, z108, z109, z110, z111, z112, z113, z114, u115, u116, u117, u118, u119, u120, u121, u122, u123, u124, u125, u126, u127, u128, u129, u130, u131, u132, u133, u134, u135, u136, u137, u138, u139, u140, u141, u142, u143, u144, u145, u146, u147, u148, u149, u150, u151, u152, u153, u154, u155, u156, u157, u158, u159, u160, u161, u162, u163, u164, u165, u166, u167, u168, u169, u170, u171, u172, u173, u174, u175, u176, u177, u178, u179, u180, u181, u182, u183, u184, u185, u186, u187, u188, u189, u190, u191, u192, u193, u194, u195, u196, u197, u198, u199, u200, u201, u202], ds⟩ W) :
    Code.wp Tryd.prog (part Tryd.f3 [1, 1, 1, 1, 1, 1, 1, 0, 1, 2, 2, 1, 0, 2, 1, 1, 1, 1, 1]) Q ⟨#[u0, u1, u2, u3, u4, .pointer (some ⟨g5, 0, none⟩), .pointer (some ⟨g6, 0, none⟩), u7, .int .i64 cn, u9, u10, u11, u12, u13, u14, u15, u16, u17, u18, u19, u20, u21, u22, u23, u24, u25, u26, u27, u28, u29, u30, u31, u32, u33, u34, u35, u36, u37, u38, u39, u40, u41, u42, u43, u44, u45, u46, u47, u48, u49, u50, u51, u52, u53, u54, u55, u56, u57, u58, u59, u60, u61, u62, u63, u64, u65, u66, u67, u68, u69, u70, u71, u72, u73, u74, u75, u76, u77, u78, u79, u80, u81, u82, u83, u84, u85, u86, u87, u88, u89, u90, u91, u92, u93, u94, u95, u96, u97, u98, u99, u100, u101, u102, u103, u104, u105, u106, u107, u108, u109, u110, u111, u112, u113, u114, u115, u116, u117, u118, u119, u120, u121, u122, u123, u124, u125, u126, u127, u128, u129, u130, u131, u132, u133, u134, u135, u136, u137, u138, u139, u140, u141, u142, u143, u144, u145, u146, u147, u148, u149, u150, u151, u152, u153, u154, u155, u156, u157, u158, u159, u160, u161, u162, u163, u164, u165, u166, u167, u168, u169, u170, u171, u172, u173, u174, u175, u176, u177, u178, u179, u180, u181, u182, u183, u184, u185, u186, u187, u188, u189, u190, u191, u192, u193, u194, u195, u196, u197, u198, u199, u200, u201, u202], ds⟩ w0 := by
  conv => arg 2; whnf
  have HQ := Lib.hid hQ
  clear hQ
  obtain ⟨A, c, A', c', hbx, _⟩ := hS.low
  have hle := cnt_256 g
  have ho := of_n (ofNd pNd g (kindK g)).kids.length w0 hS.rooms
  rw [(len_ofNd pNd g (kindK g)).1] at ho
  have HO := Lib.hid ho
  obtain ⟨e0, e1, e2, e3, e4, e5⟩ := hbx.cells
  rw [(len_ofNd pNd g (kindK g)).1] at e5
  obtain ⟨p, hp⟩ : ∃ p, ofN (cntK g : Int) = p := ⟨_, rfl⟩
  rw [hp] at HO
  have hkp : kindK g = p.1 := by unfold kindK; rw [hp]
  have HS := Lib.hid hS
  have HC := Lib.hid hcn
  have HP := Lib.hid hkp
  clear hS hcn hp ho hkp hbx
  refine wp_seq_k fun K1 hK => ?_
  have HK1 := Lib.hid hK
  clear hK
  go_wp2_with fail
  refine HO.out.mono ?_
  rintro e w1 ⟨rfl, rfl⟩
  go_wp2_with fail
  refine HK1.out _ _ ?_
  clear HK1 HO e0 e1 e2 e3 e4 e5
  obtain ⟨B, d, B', d', hbt, _⟩ := HS.out.top
  have ha := Anchor_n (ofNd zeroNd f 5) _ w1 hbt.node HS.out.rooms
  rw [(may_top HS.out.fok rfl).2] at ha
  have HA := Lib.hid ha
  obtain ⟨e0, e1, e2, e3, e4, e5⟩ := hbt.cells
  rw [(len_ofNd zeroNd f 5).1] at e5
  unfold Nd.v at HA
  rw [(len_ofNd zeroNd f 5).1] at HA
  clear ha hbt
  go_wp2_with fail
  refine HA.out.mono ?_
  rintro e w2 ⟨rfl, hb⟩
  have S1 := HS.out.on hb
  have H1 := Lib.hid S1
  clear hb HA e0 e1 e2 e3 e4 e5 HS S1
  obtain ⟨B, d, B', d', hbt, _⟩ := H1.out.top
  obtain ⟨e0, e1, e2, e3, e4, e5⟩ := hbt.cells
  rw [(len_ofNd zeroNd f 5).1] at e5
  obtain ⟨C, k, C', k', hbl, _⟩ := H1.out.low
  obtain ⟨x0, x1, x2, x3, x4, x5⟩ := hbl.cells
  have ha := Right_no (ofNd pNd g (kindK g)) _ w2 hbl.node H1.out.rooms (by show kindK g ≠ 1; have := (kindK_room g).2.2.1; omega)
  rw [(right_low H1.out.gok pNd_path (cnt_two H1.out.two)).1] at ha
  have HA := Lib.hid ha
  unfold Nd.v at HA
  have hnc : ((cntK f : Int) != cn) = false := by rw [HC.out]; simp
  clear ha hbt hbl
  go_wp2_with fail
  refine HA.out.mono ?_
  rintro e w3 ⟨rfl, hb⟩
  have S1 := H1.out.on hb
  have H2 := Lib.hid S1
  clear hb HA e0 e1 e2 e3 e4 e5 x0 x1 x2 x3 x4 x5 H1 S1
  obtain ⟨C, k, C', k', hbl, _⟩ := H2.out.low
  obtain ⟨x0, x1, x2, x3, x4, x5⟩ := hbl.cells
  have x0' : w3.cell? ⟨g6, 0, none⟩ = some (.int .i64 p.1) := by rw [x0]; exact congrArg (fun k => some (Value.int .i64 k)) HP.out
  clear x0 hbl
  go_wp2_with fail
  exact HQ.out _ _ _ _ _ _ _ _ _ _ _ _ _ _ _ _ _ _ _ _ _ _ _ _ _ _ _ _ _ _ _ H2.out
end Go.Proofs.YtgjgcbemgmkncaaDoor
namespace Go.Proofs.YtgjgcbemgmkncaaDoor
open Go.RowKit Go.Shelf
set_option linter.unusedVariables false
set_option linter.unusedSimpArgs false

set_option maxHeartbeats 12800000 in
set_option maxRecDepth 100000 in
theorem grD {u1 u2 u3 u4 u9 u10 u11 u12 u13 u14 u15 u17 u18 u19 u20 u21 u22 u23 u24 u25 u26 u27 u28 u29 u30 u31 u32 u33 u34 u35 u36 u37 u38 u39 u40 u41 u42 u43 u44 u45 u46 u47 u48 u49 u50 u51 u52 u53 u54 u55 u56 u57 u58 u59 u60 u61 u62 u63 u64 u65 u66 u67 u68 u69 u70 u71 u72 u73 u74 u75 u76 u77 u78 u79 u80 u81 u82 u83 u84 u85 u86 u87 u88 u89 u90 u91 u92 u93 u94 u95 u96 u97 u98 u99 u100 u101 u102 u103 u104 u105 u106 u107 u108 u109 u110 u111 u112 u113 u114 u115 u116 u117 u118 u119 u120 u121 u122 u123 u124 u125 u126 u127 u128 u129 u130 u131 u132 u133 u134 u135 u136 u137 u138 u139 u140 u141 u142 u143 u144 u145 u146 u147 u148 u149 u150 u151 u152 u153 u154 u155 u156 u157 u158 u159 u160 u161 u162 u163 u164 u165 u166 u167 u168 u169 u170 u171 u172 u173 u174 u175 u176 u177 u178 u179 u180 u181 u182 u183 u184 u185 u186 u187 u188 u189 u190 u191 u192 u193 u194 u195 u196 u197 u198 u199 u200 u201 u202 : Value} {ds : List Deferred} {Q : Exit → Act → World → Prop} (ln c0 i b g5 g6 g7 : Nat) (ad : Addr) (f g : Kids) (w w0 : World)
    (hS : GrW w g5 g6 g7 f g w0) (hr0 : RoomsAt w) (hadl : ad.block < w.heap.size) (hbyte : w.cell? (ad.add i) = some (.int .u8 (b : Int))) (hb256 : b < 256) (hi : i < ln) (hln : ln ≤ 256)
    (hQ : ∀ (z17 z18 z121 z122 z123 z124 z125 z126 z127 z128 z129 z130 z131 z132 z133 z134 z135 z136 z137 z138 z139 z140 z141 z142 z143 z144 z145 z146 z147 z148 : Value) (cn : Int) (f2 : Kids) (W : World), f2 = setK f b none → cn = (cntK f2 : Int) → GrW w g5 g6 g7 f2 g W → Code.wp Tryd.prog (part Tryd.f3 [1, 1, 1, 1, 1, 1, 1, 1, 0, 1, 2, 2, 1, 0, 2, 1, 1, 1]) Q ⟨#[.slice (some ad) ln c0, u1, u2, u3, u4, .pointer (some ⟨g5, 0, none⟩), .pointer (some ⟨g6, 0, none⟩), .pointer (some ⟨g7, 0, none⟩), .int .i64 cn, u9, u10, u11, u12, u13, u14, u15, .int .i64 (i : Int), z17, z18, u19, u20, u21, u22, u23, u24, u25, u26, u27, u28, u29, u30, u31, u32, u33, u34, u35, u36, u37, u38, u39, u40, u41, u42, u43, u44, u45, u46, u47, u48, u49, u50, u51, u52, u53, u54, u55, u56, u57, u58, u59, u60, u61, u62, u63, u64, u65, u66, u67, u68, u69, u70, u71, u72, u73, u74, u75, u76, u77, u78, u79, u80, u81, u82, u83, u84, u85, u86, u87, u88, u89, u90, u91, u92, u93, u94, u95, u96, u97, u98, u99, u100, u101, u102, u103, u104, u105, u106, u107, u108, u109, u110, u111, u112, u113, u114, u115, u116, u117, u118, u119, u120, z121, z122, z123, z124, z125, z126, z127, z128, z129, z130, z131, z132, z133, z134, z135, z136, z137, z138, z139, z140, z141, z142, z143, z144, z145, z146, z147, z148, u149, u150, u151, u152, u153, u154, u155, u156, u157, u158, u159, u160, u161, u162, u163, u164, u165, u166, u167, u168, u169, u170, u171, u172, u173, u174, u175, u176, u177, u178, u179, u180, u181, u182, u183, u184, u185, u186, u187, u188, u189, u190, u191, u192, u193, u194, u195, u196, u197, u198, u199, u200, u201, u202], ds⟩ W) :
    Code.wp Tryd.prog (part Tryd.f3 [1, 1, 1, 1, 1, 1, 1, 1, 0, 1, 2, 2, 1, 0, 2]) Q ⟨#[.slice (some ad) ln c0, u1, u2, u3, u4, .pointer (some ⟨g5, 0, none⟩), .pointer (some ⟨g6, 0, none⟩), .pointer (some ⟨g7, 0, none⟩), .int .i64 (cntK f : Int), u9, u10, u11, u12, u13, u14, u15, .int .i64 (i : Int), u17, u18, u19, u20, u21, u22, u23, u24, u25, u26, u27, u28, u29, u30, u31, u32, u33, u34, u35, u36, u37, u38, u39, u40, u41, u42, u43, u44, u45, u46, u47, u48, u49, u50, u51, u52, u53, u54, u55, u56, u57, u58, u59, u60, u61, u62, u63, u64, u65, u66, u67, u68, u69, u70, u71, u72, u73, u74, u75, u76, u77, u78, u79, u80, u81, u82, u83, u84, u85, u86, u87, u88, u89, u90, u91, u92, u93, u94, u95, u96, u97, u98, u99, u100, u101, u102, u103, u104, u105, u106, u107, u108, u109, u110, u111, u112, u113, u114, u115, u116, u117, u118, u119, u120, u121, u122, u123, u124, u125, u126, u127, u128, u129, u130, u131, u132, u133, u134, u135, u136, u137, u138, u139, u140, u141, u142, u143, u144, u145, u146, u147, u148, u149, u150, u151, u152, u153, u154, u155, u156, u157, u158, u159, u160, u161, u162, u163, u164, u165, u166, u167, u168, u169, u170, u171, u172, u173, u174, u175, u176, u177, u178, u179, u180, u181, u182, u183, u184, u185, u186, u187, u188, u189, u190, u191, u192, u193, u194, u195, u196, u197, u198, u199, u200, u201, u202], ds⟩ w0 := by
  conv => arg 2; whnf
  have HQ := Lib.hid hQ
  clear hQ
  obtain ⟨A, c, A', c', hbx, hrws⟩ := hS.top
  have HS := Lib.hid hS
  have hbyte0 : w0.cell? (ad.add i) = some (.int .u8 (b : Int)) := (hS.below.cell (p := ad.add i) (by rw [block_of_add]; exact hadl)).trans hbyte
  have hadl0 : ad.block < w0.heap.size := Nat.lt_of_lt_of_le hadl hS.below.size
  have i1 : (0 : Int) ≤ (i : Int) := by omega
  have i2 : (i : Int) < (ln : Int) := by omega
  have j1 : (0 : Int) ≤ (b : Int) := by omega
  have j2 : (b : Int) < 256 := by omega
  clear hS hrws hbyte
  refine wp_seq_k fun K1 hK => ?_
  have HK1 := Lib.hid hK
  clear hK
  cases hf : (f b).isSome with
  | false =>
    refine gr28 (ofNd zeroNd f 5) zeroNd 5 A c A' c' g5 ln c0 i b ad w0 hbx HS.out.rooms hadl0 hbyte0 i1 i2 (fun W h1 h2 => ?_) (fun y121 y122 y123 y124 y125 y126 y127 y128 y129 gN B1 d1 B2 d2 V hb hx hg hrw => ?_)
    · have := Cut_n (ofNd zeroNd f 5) _ b true W h1 h2 hb256
      rw [cut_top b HS.out.fok rfl, if_neg (by rw [hf]; simp)] at this
      exact this
    have S1 := HS.out.on hb
    have hc := S1.has.cell b
    rw [List.getElem?_toArray, hasL_at f hb256, hf] at hc
    have hby : V.cell? (ad.add i) = some (.int .u8 (b : Int)) := (hb.cell (p := ad.add i) (by rw [block_of_add]; exact hadl0)).trans hbyte0
    have HV := Lib.hid S1
    have hfe : f = setK f b none := by
      funext x
      unfold setK
      by_cases hx : x = b
      · subst hx
        rw [if_pos rfl]
        cases h : f x with
        | none => rfl
        | some q => rw [h] at hf; cases hf
      · rw [if_neg hx]
    have HF := Lib.hid hfe
    clear hb hx hg hrw S1 hbx hf hbyte0 hfe
    refine HK1.out _ _ ?_
    clear HK1
    refine wp_seq_k fun K2 hK => ?_
    have HK2 := Lib.hid hK
    clear hK
    go_wp2_with fail
    refine HK2.out _ _ ?_
    clear HK2
    refine wp_seq_k fun K3 hK => ?_
    have HK3 := Lib.hid hK
    clear hK
    go_wp2_with fail
    refine HK3.out _ _ ?_
    clear HK3
    exact HQ.out _ _ _ _ _ _ _ _ _ _ _ _ _ _ _ _ _ _ _ _ _ _ _ _ _ _ _ _ _ _ _ f _ HF.out rfl HV.out
  | true =>
    refine gr28 (ofNd zeroNd f 5) (ofNd zeroNd (setK f b none) 5) 0 A c A' c' g5 ln c0 i b ad w0 hbx HS.out.rooms hadl0 hbyte0 i1 i2 (fun W h1 h2 => ?_) (fun y121 y122 y123 y124 y125 y126 y127 y128 y129 gN B1 d1 B2 d2 V hb hx hg hrw => ?_)
    · have := Cut_n (ofNd zeroNd f 5) _ b true W h1 h2 hb256
      rw [cut_top b HS.out.fok rfl, if_pos hf] at this
      exact this
    have S1 := HS.out.on hb
    have hc := S1.has.cell b
    rw [List.getElem?_toArray, hasL_at f hb256, hf] at hc
    have hby : V.cell? (ad.add i) = some (.int .u8 (b : Int)) := (hb.cell (p := ad.add i) (by rw [block_of_add]; exact hadl0)).trans hbyte0
    have hbx3 := hbx.below hb
    have hok := HS.out.fok.del b
    have hr3 : ∀ r ∈ rowsOf ((ofNd zeroNd (setK f b none) 5).v B1 d1 B2 d2), r ≠ g5 ∧ r ≠ g6 ∧ r ≠ g7 := fun r hm => by
      have h1 := (hrw r hm).1
      have h2 := hbx.lt
      obtain ⟨_, _, _, _, h3, _⟩ := HS.out.low
      have h4 := h3.lt
      have h5 := HS.out.has.lt
      omega
    obtain ⟨VV, hV, hgr, hbn⟩ := store_node (W := V) (g := g5) (t := 27) hbx3.blk rfl hx.node (fun hm => (hr3 _ hm).1 rfl)
    have HT := Lib.hid (S1.turned hr0 (o := none) hb256 hok hgr hbn hr3)
    obtain ⟨q, hq⟩ := Option.isSome_iff_exists.1 hf
    have hcn := cnt_set_none hb256 hq
    have hcm : (cntK f : Int) - 1 = (cntK (setK f b none) : Int) := by omega
    have HCN := Lib.hid hcm
    have hle := cnt_256 f
    have sw : IntKind.i64.wrap ((cntK f : Int) - 1) = (cntK f : Int) - 1 := IntWalk.i64_in _ (by omega)
    obtain ⟨n0, n1, n2, n3, n4, n5⟩ := hx.cells
    obtain ⟨d0, d1', d2', d3', d4', d5'⟩ := hbx3.cells
    obtain ⟨fz0, fz1, fz2, fz3, fz4, fz5⟩ := hbx3.frozen
    have l6 := hbx3.lt
    have hq7 := S1.has.grown hgr (fun e => HS.out.ne.2.1 (by injection e with e; exact e.symm))
    have k0 := hq7.cell b
    rw [List.getElem?_toArray, hasL_at f hb256, hf] at k0
    have k1 := hq7.frozen b
    have k2 := hq7.lt
    have hby2 : VV.cell? (ad.add i) = some (.int .u8 (b : Int)) := by
      refine (World.cell?_of_block ?_).trans hby
      rw [block_of_add]
      exact hgr.block _ (Nat.lt_of_lt_of_le hadl0 hb.size) (fun e => by injection e with e; have := HS.out.ge.1; omega)
    clear hb hg hrw S1 hf hbyte0 hbn hok hr3 hcn hq7 hx hbx hbx3 hq hcm
    refine HK1.out _ _ ?_
    clear HK1
    refine wp_seq_k fun K2 hK => ?_
    have HK2 := Lib.hid hK
    clear hK
    go_wp2_with fail
    refine HK2.out _ _ ?_
    clear HK2
    refine wp_seq_k fun K3 hK => ?_
    have HK3 := Lib.hid hK
    clear hK
    refine wp_seq_k fun K4 hK => ?_
    have HK4 := Lib.hid hK
    clear hK
    go_wp2_with fail
    refine HK4.out _ _ ?_
    clear HK4
    refine wp_cond_true rfl ?_
    refine wp_seq_k fun K5 hK => ?_
    have HK5 := Lib.hid hK
    clear hK
    go_wp2_with fail
    rw [← hV]
    refine HK5.out _ _ ?_
    clear HK5 hV n0 n1 n2 n3 n4 n5 d0 d1' d2' d3' d4' d5' fz0 fz1 fz2 fz3 fz4 fz5 l6 hc hby
    go_wp2_with fail
    refine HK3.out _ _ ?_
    clear HK3
    exact HQ.out _ _ _ _ _ _ _ _ _ _ _ _ _ _ _ _ _ _ _ _ _ _ _ _ _ _ _ _ _ _ _ (setK f b none) _ rfl HCN.out HT.out
end Go.Proofs.YtgjgcbemgmkncaaDoor
namespace Go.Proofs.YtgjgcbemgmkncaaDoor
open Go.RowKit Go.Shelf
set_option linter.unusedVariables false
set_option linter.unusedSimpArgs false

set_option maxHeartbeats 12800000 in
set_option maxRecDepth 100000 in
theorem grE {u2 u3 u4 u5 u7 u8 u9 u10 u11 u12 u13 u14 u15 u17 u18 u19 u20 u21 u22 u23 u24 u25 u26 u27 u28 u29 u30 u31 u32 u33 u34 u35 u36 u37 u38 u39 u40 u41 u42 u43 u44 u45 u46 u47 u48 u49 u50 u51 u52 u53 u54 u55 u56 u57 u58 u59 u60 u61 u62 u63 u64 u65 u66 u67 u68 u69 u70 u71 u72 u73 u74 u75 u76 u77 u78 u79 u80 u81 u82 u83 u84 u85 u86 u87 u88 u89 u90 u91 u92 u93 u94 u95 u96 u97 u98 u99 u100 u101 u102 u103 u104 u105 u106 u107 u108 u109 u110 u111 u112 u113 u114 u115 u116 u117 u118 u119 u120 u121 u122 u123 u124 u125 u126 u127 u128 u129 u130 u131 u132 u133 u134 u135 u136 u137 u138 u139 u140 u141 u142 u143 u144 u145 u146 u147 u148 u149 u150 u151 u152 u153 u154 u155 u156 u157 u158 u159 u160 u161 u162 u163 u164 u165 u166 u167 u168 u169 u170 u171 u172 u173 u174 u175 u176 u177 u178 u179 u180 u181 u182 u183 u184 u185 u186 u187 u188 u189 u190 u191 u192 u193 u194 u195 u196 u197 u198 u199 u200 u201 u202 : Value} {ds : List Deferred} {Q : Exit → Act → World → Prop} (ln c0 i b g5 g6 g7 : Nat) (ad : Addr) (f g : Kids) (w w0 : World) (keep : Bool)
    (hS : GrW w g5 g6 g7 f g w0) (hr0 : RoomsAt w) (hadl : ad.block < w.heap.size) (hbyte : w.cell? (ad.add i) = some (.int .u8 (b : Int))) (hb256 : b < 256) (hi : i < ln) (hln : ln ≤ 256)
    (hQ : ∀ (z19 z20 z149 z150 z151 z152 z153 z154 z155 z156 z157 z158 z159 z160 z161 z162 z163 z164 z165 z166 z167 z168 z169 z170 z171 z172 z173 z174 z175 z176 z177 z178 z179 : Value) (g2 : Kids) (W : World), g2 = (if b = 0 ∨ b = 255 then g else setK g b none) → GrW w g5 g6 g7 f g2 W → Code.wp Tryd.prog (part Tryd.f3 [1, 1, 1, 1, 1, 1, 1, 1, 0, 1, 2, 2, 1, 0, 2, 1, 1, 1, 1]) Q ⟨#[.slice (some ad) ln c0, .bool keep, u2, u3, u4, u5, .pointer (some ⟨g6, 0, none⟩), u7, u8, u9, u10, u11, u12, u13, u14, u15, .int .i64 (i : Int), u17, u18, z19, z20, u21, u22, u23, u24, u25, u26, u27, u28, u29, u30, u31, u32, u33, u34, u35, u36, u37, u38, u39, u40, u41, u42, u43, u44, u45, u46, u47, u48, u49, u50, u51, u52, u53, u54, u55, u56, u57, u58, u59, u60, u61, u62, u63, u64, u65, u66, u67, u68, u69, u70, u71, u72, u73, u74, u75, u76, u77, u78, u79, u80, u81, u82, u83, u84, u85, u86, u87, u88, u89, u90, u91, u92, u93, u94, u95, u96, u97, u98, u99, u100, u101, u102, u103, u104, u105, u106, u107, u108, u109, u110, u111, u112, u113, u114, u115, u116, u117, u118, u119, u120, u121, u122, u123, u124, u125, u126, u127, u128, u129, u130, u131, u132, u133, u134, u135, u136, u137, u138, u139, u140, u141, u142, u143, u144, u145, u146, u147, u148, z149, z150, z151, z152, z153, z154, z155, z156, z157, z158, z159, z160, z161, z162, z163, z164, z165, z166, z167, z168, z169, z170, z171, z172, z173, z174, z175, z176, z177, z178, z179, u180, u181, u182, u183, u184, u185, u186, u187, u188, u189, u190, u191, u192, u193, u194, u195, u196, u197, u198, u199, u200, u201, u202], ds⟩ W) :
    Code.wp Tryd.prog (part Tryd.f3 [1, 1, 1, 1, 1, 1, 1, 1, 0, 1, 2, 2, 1, 0, 2, 1, 1, 1]) Q ⟨#[.slice (some ad) ln c0, .bool keep, u2, u3, u4, u5, .pointer (some ⟨g6, 0, none⟩), u7, u8, u9, u10, u11, u12, u13, u14, u15, .int .i64 (i : Int), u17, u18, u19, u20, u21, u22, u23, u24, u25, u26, u27, u28, u29, u30, u31, u32, u33, u34, u35, u36, u37, u38, u39, u40, u41, u42, u43, u44, u45, u46, u47, u48, u49, u50, u51, u52, u53, u54, u55, u56, u57, u58, u59, u60, u61, u62, u63, u64, u65, u66, u67, u68, u69, u70, u71, u72, u73, u74, u75, u76, u77, u78, u79, u80, u81, u82, u83, u84, u85, u86, u87, u88, u89, u90, u91, u92, u93, u94, u95, u96, u97, u98, u99, u100, u101, u102, u103, u104, u105, u106, u107, u108, u109, u110, u111, u112, u113, u114, u115, u116, u117, u118, u119, u120, u121, u122, u123, u124, u125, u126, u127, u128, u129, u130, u131, u132, u133, u134, u135, u136, u137, u138, u139, u140, u141, u142, u143, u144, u145, u146, u147, u148, u149, u150, u151, u152, u153, u154, u155, u156, u157, u158, u159, u160, u161, u162, u163, u164, u165, u166, u167, u168, u169, u170, u171, u172, u173, u174, u175, u176, u177, u178, u179, u180, u181, u182, u183, u184, u185, u186, u187, u188, u189, u190, u191, u192, u193, u194, u195, u196, u197, u198, u199, u200, u201, u202], ds⟩ w0 := by
  conv => arg 2; whnf
  have HQ := Lib.hid hQ
  clear hQ
  have HS := Lib.hid hS
  have hbyte0 : w0.cell? (ad.add i) = some (.int .u8 (b : Int)) := (hS.below.cell (p := ad.add i) (by rw [block_of_add]; exact hadl)).trans hbyte
  have hadl0 : ad.block < w0.heap.size := Nat.lt_of_lt_of_le hadl hS.below.size
  have i1 : (0 : Int) ≤ (i : Int) := by omega
  have i2 : (i : Int) < (ln : Int) := by omega
  clear hS hbyte
  by_cases hb0 : b = 0
  · have q0 : ((b : Int) != 0) = false := by simp [hb0]
    have HB := Lib.hid hb0
    clear hb0
    refine wp_seq_k fun K1 hK => ?_
    have HK1 := Lib.hid hK
    clear hK
    go_wp2_with fail
    refine HK1.out _ _ ?_
    exact HQ.out _ _ _ _ _ _ _ _ _ _ _ _ _ _ _ _ _ _ _ _ _ _ _ _ _ _ _ _ _ _ _ _ _ g _ (by rw [if_pos (.inl HB.out)]) HS.out
  by_cases hb1 : b = 255
  · have q0 : ((b : Int) != 0) = true := by simp [hb0]
    have q1 : ((b : Int) != 255) = false := by simp [hb1]
    have HB := Lib.hid hb1
    clear hb1 hb0
    refine wp_seq_k fun K1 hK => ?_
    have HK1 := Lib.hid hK
    clear hK
    go_wp2_with fail
    refine HK1.out _ _ ?_
    exact HQ.out _ _ _ _ _ _ _ _ _ _ _ _ _ _ _ _ _ _ _ _ _ _ _ _ _ _ _ _ _ _ _ _ _ g _ (by rw [if_pos (.inr HB.out)]) HS.out
  have q0 : ((b : Int) != 0) = true := by simp [hb0]
  have q1 : ((b : Int) != 255) = true := by simp; omega
  have HB : Hid (¬ (b = 0 ∨ b = 255)) := Lib.hid (by rintro (e | e); exact hb0 e; exact hb1 e)
  refine wp_seq_k fun K1 hK => ?_
  have HK1 := Lib.hid hK
  clear hK
  refine wp_seq_k fun K2 hK => ?_
  have HK2 := Lib.hid hK
  clear hK
  go_wp2_with fail
  refine HK2.out _ _ ?_
  clear HK2
  refine wp_cond_true rfl ?_
  refine wp_seq_k fun K3 hK => ?_
  have HK3 := Lib.hid hK
  clear hK
  obtain ⟨A, c, A', c', hbx, _⟩ := HS.out.low
  have hkl : ¬ (((ofNd pNd g (kindK g)).kids.length : Int) > 256) := by rw [(len_ofNd _ _ _).1]; have := cnt_256 g; omega
  have hcl : ∀ W, NdAt W (ofNd pNd g (kindK g)) ((ofNd pNd g (kindK g)).v A c A' c') → RoomsAt W → Calls Tryd.prog 12 #[(ofNd pNd g (kindK g)).v A c A' c', .int .u8 (b : Int), .bool false] W (NdPair (if (g b).isSome = true then (ofNd pNd (setK g b none) (kindK (setK g b none)), (0 : Int)) else (zeroNd, 5)).1 (if (g b).isSome = true then (ofNd pNd (setK g b none) (kindK (setK g b none)), (0 : Int)) else (zeroNd, 5)).2 W) := fun W h1 h2 => by
    have := Cut_n (ofNd pNd g (kindK g)) _ b false W h1 h2 hb256
    rw [cut_low hb256 HS.out.gok pNd_path (cnt_two HS.out.two)] at this
    exact this
  have HCL := Lib.hid hcl
  clear hcl hb0 hb1
  have hpost : ∀ (y161 y162 y163 y164 y165 y166 y167 y168 y169 y170 y171 y172 y173 y174 y175 y176 : Value) (y : Nd) (cd : Int) (gN : Nat) (B1 : Option Addr) (d1 : Nat) (B2 : Option Addr) (d2 : Nat) (V : World), (y, cd) = (if (g b).isSome = true then (ofNd pNd (setK g b none) (kindK (setK g b none)), (0 : Int)) else (zeroNd, 5)) → Below w0.heap.size w0 V → BoxAt V gN y B1 d1 B2 d2 → w0.heap.size ≤ gN → (∀ r ∈ rowsOf (y.v B1 d1 B2 d2), w0.heap.size ≤ r ∧ r ≠ gN) → K3 ⟨#[.slice (some ad) ln c0, .bool keep, u2, u3, u4, u5, .pointer (some ⟨g6, 0, none⟩), u7, u8, u9, u10, u11, u12, u13, u14, u15, .int .i64 (i : Int), u17, u18, .pointer (some ⟨gN, 0, none⟩), .int .i64 cd, u21, u22, u23, u24, u25, u26, u27, u28, u29, u30, u31, u32, u33, u34, u35, u36, u37, u38, u39, u40, u41, u42, u43, u44, u45, u46, u47, u48, u49, u50, u51, u52, u53, u54, u55, u56, u57, u58, u59, u60, u61, u62, u63, u64, u65, u66, u67, u68, u69, u70, u71, u72, u73, u74, u75, u76, u77, u78, u79, u80, u81, u82, u83, u84, u85, u86, u87, u88, u89, u90, u91, u92, u93, u94, u95, u96, u97, u98, u99, u100, u101, u102, u103, u104, u105, u106, u107, u108, u109, u110, u111, u112, u113, u114, u115, u116, u117, u118, u119, u120, u121, u122, u123, u124, u125, u126, u127, u128, u129, u130, u131, u132, u133, u134, u135, u136, u137, u138, u139, u140, u141, u142, u143, u144, u145, u146, u147, u148, .slice (some ad) ln c0, .int .i64 (i : Int), .pointer (some (ad.add i)), .int .u8 (b : Int), .bool true, .bool true, .slice (some ad) ln c0, .int .i64 (i : Int), .pointer (some (ad.add i)), .int .u8 (b : Int), .bool true, .bool true, y161, y162, y163, y164, y165, y166, y167, y168, y169, y170, y171, y172, y173, y174, y175, y176, u177, u178, u179, u180, u181, u182, u183, u184, u185, u186, u187, u188, u189, u190, u191, u192, u193, u194, u195, u196, u197, u198, u199, u200, u201, u202], ds⟩ V := by
    intro y161 y162 y163 y164 y165 y166 y167 y168 y169 y170 y171 y172 y173 y174 y175 y176 y cd gN B1 d1 B2 d2 V hyc hb hx hg hrw
    have S1 := HS.out.on hb
    refine HK3.out _ _ ?_
    clear HK3
    cases hf : (g b).isSome with
    | false =>
      rw [hf, if_neg (by simp)] at hyc
      injection hyc with h1 h2
      subst h1 h2
      have hge : g = setK g b none := by
        funext x
        unfold setK
        by_cases hx : x = b
        · subst hx
          rw [if_pos rfl]
          cases h : g x with
          | none => rfl
          | some q => rw [h] at hf; cases hf
        · rw [if_neg hx]
      have HF := Lib.hid (And.intro hge S1)
      clear hb hx hg hrw S1 hbx hf hbyte0 hge
      go_wp2_with fail
      refine HK1.out _ _ ?_
      exact HQ.out _ _ _ _ _ _ _ _ _ _ _ _ _ _ _ _ _ _ _ _ _ _ _ _ _ _ _ _ _ _ _ _ _ g _ (by rw [if_neg HB.out]; exact HF.out.1) HF.out.2
    | true =>
      rw [hf, if_pos rfl] at hyc
      injection hyc with h1 h2
      subst h1 h2
      have hbx3 := hbx.below hb
      have h2 : setK g b none 0 = some (0, 1) ∧ setK g b none 255 = some (1, 1) := by
        unfold setK
        rw [if_neg (fun e => HB.out (.inl e.symm)), if_neg (fun e => HB.out (.inr e.symm))]
        exact HS.out.two
      have hr3 : ∀ r ∈ rowsOf ((ofNd pNd (setK g b none) (kindK (setK g b none))).v B1 d1 B2 d2), r ≠ g5 ∧ r ≠ g6 ∧ r ≠ g7 := fun r hm => by
        have h1 := (hrw r hm).1
        have h2 := hbx.lt
        obtain ⟨_, _, _, _, h3, _⟩ := HS.out.top
        have h4 := h3.lt
        have h5 := HS.out.has.lt
        omega
      obtain ⟨VV, hV, hgr, hbn⟩ := store_node (W := V) (g := g6) (t := 27) hbx3.blk rfl hx.node (fun hm => (hr3 _ hm).2.1 rfl)
      have HT := Lib.hid (S1.lowered hr0 (HS.out.gok.del b) h2 hgr hbn hr3)
      obtain ⟨n0, n1, n2, n3, n4, n5⟩ := hx.cells
      obtain ⟨d0, d1', d2', d3', d4', d5'⟩ := hbx3.cells
      obtain ⟨fz0, fz1, fz2, fz3, fz4, fz5⟩ := hbx3.frozen
      have l6 := hbx3.lt
      clear hb hg hrw S1 hf hbyte0 hbn hr3 hx hbx hbx3 h2
      go_wp2_with fail
      rw [← hV]
      refine HK1.out _ _ ?_
      exact HQ.out _ _ _ _ _ _ _ _ _ _ _ _ _ _ _ _ _ _ _ _ _ _ _ _ _ _ _ _ _ _ _ _ _ (setK g b none) _ (by rw [if_neg HB.out]) HT.out
  have HPO := Lib.hid hpost
  clear hpost
  obtain ⟨yc, hyc⟩ : ∃ yc, yc = (if (g b).isSome = true then (ofNd pNd (setK g b none) (kindK (setK g b none)), (0 : Int)) else (zeroNd, 5)) := ⟨_, rfl⟩
  rw [← hyc] at HCL
  cases keep with
  | false => exact gr36f (ofNd pNd g (kindK g)) yc.1 yc.2 A c A' c' g6 ln c0 i b ad w0 hbx HS.out.rooms hadl0 hbyte0 i1 i2 HCL.out (fun y161 y162 y163 y164 y165 y166 y167 y168 y169 y170 y171 y172 y173 y174 y175 y176 gN B1 d1 B2 d2 V hb hx hg hrw => HPO.out y161 y162 y163 y164 y165 y166 y167 y168 y169 y170 y171 y172 y173 y174 y175 y176 _ _ gN B1 d1 B2 d2 V hyc hb hx hg hrw)
  | true => exact gr36t (ofNd pNd g (kindK g)) yc.1 yc.2 A c A' c' g6 ln c0 i b ad w0 hbx HS.out.rooms hadl0 hbyte0 i1 i2 hkl HCL.out (fun y161 y162 y163 y164 y165 y166 y167 y168 y169 y170 y171 y172 y173 y174 y175 y176 gN B1 d1 B2 d2 V hb hx hg hrw => HPO.out y161 y162 y163 y164 y165 y166 y167 y168 y169 y170 y171 y172 y173 y174 y175 y176 _ _ gN B1 d1 B2 d2 V hyc hb hx hg hrw)
end Go.Proofs.YtgjgcbemgmkncaaDoor
namespace Go.Proofs.YtgjgcbemgmkncaaDoor
open Go.RowKit Go.Shelf
set_option linter.unusedVariables false
set_option linter.unusedSimpArgs false

set_option maxHeartbeats 12800000 in
set_option maxRecDepth 100000 in
theorem grF {u0 u1 u2 u3 u4 u7 u9 u10 u11 u12 u13 u14 u15 u16 u17 u18 u19 u20 u21 u22 u23 u24 u25 u26 u27 u28 u29 u30 u31 u32 u33 u34 u35 u36 u37 u38 u39 u40 u41 u42 u43 u44 u45 u46 u47 u48 u49 u50 u51 u52 u53 u54 u55 u56 u57 u58 u59 u60 u61 u62 u63 u64 u65 u66 u67 u68 u69 u70 u71 u72 u73 u74 u75 u76 u77 u78 u79 u80 u81 u82 u83 u84 u85 u86 u87 u88 u89 u90 u91 u92 u93 u94 u95 u96 u97 u98 u99 u100 u101 u102 u103 u104 u105 u106 u107 u108 u109 u110 u111 u112 u113 u114 u115 u116 u117 u118 u119 u120 u121 u122 u123 u124 u125 u126 u127 u128 u129 u130 u131 u132 u133 u134 u135 u136 u137 u138 u139 u140 u141 u142 u143 u144 u145 u146 u147 u148 u149 u150 u151 u152 u153 u154 u155 u156 u157 u158 u159 u160 u161 u162 u163 u164 u165 u166 u167 u168 u169 u170 u171 u172 u173 u174 u175 u176 u177 u178 u179 u180 u181 u182 u183 u184 u185 u186 u187 u188 u189 u190 u191 u192 u193 u194 u195 u196 u197 u198 u199 u200 u201 u202 : Value} {ds : List Deferred} {Q : Exit → Act → World → Prop} (g5 g6 g7 : Nat) (f g : Kids) (cn : Int) (w w0 : World)
    (hS : GrW w g5 g6 g7 f g w0) (hcn : cn = (cntK f : Int))
    (hQ : ∀ (z180 z181 z182 z183 z184 z185 z186 z187 z188 z189 z190 z191 z192 z193 z194 : Value)  (W : World), GrW w g5 g6 g7 f g W → Q .normal ⟨#[u0, u1, u2, u3, u4, .pointer (some ⟨g5, 0, none⟩), .pointer (some ⟨g6, 0, none⟩), u7, .int .i64 cn, u9, u10, u11, u12, u13, u14, u15, u16, u17, u18, u19, u20, u21, u22, u23, u24, u25, u26, u27, u28, u29, u30, u31, u32, u33, u34, u35, u36, u37, u38, u39, u40, u41, u42, u43, u44, u45, u46, u47, u48, u49, u50, u51, u52, u53, u54, u55, u56, u57, u58, u59, u60, u61, u62, u63, u64, u65, u66, u67, u68, u69, u70, u71, u72, u73, u74, u75, u76, u77, u78, u79, u80, u81, u82, u83, u84, u85, u86, u87, u88, u89, u90, u91, u92, u93, u94, u95, u96, u97, u98, u99, u100, u101, u102, u103, u104, u105, u106, u107, u108, u109, u110, u111, u112, u113, u114, u115, u116, u117, u118, u119, u120, u121, u122, u123, u124, u125, u126, u127, u128, u129, u130, u131, u132, u133, u134, u135, u136, u137, u138, u139, u140, u141, u142, u143, u144, u145, u146, u147, u148, u149, u150, u151, u152, u153, u154, u155, u156, u157, u158, u159, u160, u161, u162, u163, u164, u165, u166, u167, u168, u169, u170, u171, u172, u173, u174, u175, u176, u177, u178, u179, z180, z181, z182, z183, z184, z185, z186, z187, z188, z189, z190, z191, z192, z193, z194, u195, u196, u197, u198, u199, u200, u201, u202], ds⟩ W) :
    Code.wp Tryd.prog (part Tryd.f3 [1, 1, 1, 1, 1, 1, 1, 1, 0, 1, 2, 2, 1, 0, 2, 1, 1, 1, 1]) Q ⟨#[u0, u1, u2, u3, u4, .pointer (some ⟨g5, 0, none⟩), .pointer (some ⟨g6, 0, none⟩), u7, .int .i64 cn, u9, u10, u11, u12, u13, u14, u15, u16, u17, u18, u19, u20, u21, u22, u23, u24, u25, u26, u27, u28, u29, u30, u31, u32, u33, u34, u35, u36, u37, u38, u39, u40, u41, u42, u43, u44, u45, u46, u47, u48, u49, u50, u51, u52, u53, u54, u55, u56, u57, u58, u59, u60, u61, u62, u63, u64, u65, u66, u67, u68, u69, u70, u71, u72, u73, u74, u75, u76, u77, u78, u79, u80, u81, u82, u83, u84, u85, u86, u87, u88, u89, u90, u91, u92, u93, u94, u95, u96, u97, u98, u99, u100, u101, u102, u103, u104, u105, u106, u107, u108, u109, u110, u111, u112, u113, u114, u115, u116, u117, u118, u119, u120, u121, u122, u123, u124, u125, u126, u127, u128, u129, u130, u131, u132, u133, u134, u135, u136, u137, u138, u139, u140, u141, u142, u143, u144, u145, u146, u147, u148, u149, u150, u151, u152, u153, u154, u155, u156, u157, u158, u159, u160, u161, u162, u163, u164, u165, u166, u167, u168, u169, u170, u171, u172, u173, u174, u175, u176, u177, u178, u179, u180, u181, u182, u183, u184, u185, u186, u187, u188, u189, u190, u191, u192, u193, u194, u195, u196, u197, u198, u199, u200, u201, u202], ds⟩ w0 := by
  conv => arg 2; whnf
  have HQ := Lib.hid hQ
  clear hQ
  obtain ⟨C, k, C', k', hbl, _⟩ := hS.low
  have ha := Right_no (ofNd pNd g (kindK g)) _ w0 hbl.node hS.rooms (by show kindK g ≠ 1; have := (kindK_room g).2.2.1; omega)
  rw [(right_low hS.gok pNd_path (cnt_two hS.two)).1] at ha
  have HA := Lib.hid ha
  obtain ⟨x0, x1, x2, x3, x4, x5⟩ := hbl.cells
  have HS := Lib.hid hS
  have HC := Lib.hid hcn
  unfold Nd.v at HA
  clear hS hcn ha hbl
  go_wp2_with fail
  refine HA.out.mono ?_
  rintro e w1 ⟨rfl, hb⟩
  have S1 := HS.out.on hb
  have H1 := Lib.hid S1
  clear hb HA x0 x1 x2 x3 x4 x5 HS S1
  obtain ⟨B, d, B', d', hbt, _⟩ := H1.out.top
  have ha := Anchor_n (ofNd zeroNd f 5) _ w1 hbt.node H1.out.rooms
  rw [(may_top H1.out.fok rfl).2] at ha
  have HA := Lib.hid ha
  obtain ⟨e0, e1, e2, e3, e4, e5⟩ := hbt.cells
  unfold Nd.v at HA
  clear ha hbt
  go_wp2_with fail
  refine HA.out.mono ?_
  rintro e w2 ⟨rfl, hb⟩
  have S1 := H1.out.on hb
  have H2 := Lib.hid S1
  clear hb HA e0 e1 e2 e3 e4 e5 H1 S1
  obtain ⟨B, d, B', d', hbt, _⟩ := H2.out.top
  obtain ⟨e0, e1, e2, e3, e4, e5⟩ := hbt.cells
  rw [(len_ofNd zeroNd f 5).1] at e5
  have hnc : ((cntK f : Int) != cn) = false := by rw [HC.out]; simp
  clear hbt
  go_wp2_with fail
  exact HQ.out _ _ _ _ _ _ _ _ _ _ _ _ _ _ _ _ H2.out
end Go.Proofs.YtgjgcbemgmkncaaDoor
