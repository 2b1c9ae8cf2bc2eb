/-
  Layer 7: FewEnds' last loop: a row that does not exist.
-/
import Derived.Test.YtmcpfhhggapkcaaFewE1
import Derived.Test.YtmcpfhhggapkcaaFewF1
namespace Go.Proofs.Ytmcpfhhggapkcaa
open Go.RowKit Go.Shelf
set_option linter.unusedVariables false
set_option linter.unusedSimpArgs false
attribute [local go_sem] Oper.semAt_some

theorem gnone {W V V' : World} {row : Option Nat} (h : W.grownBy V none) (hg : V.grownBy V' row) (hr : ∀ r, row = some r → W.heap.size ≤ r) : W.grownBy V' none :=
  ⟨hg.os.trans h.os, hg.tape.trans h.tape, hg.output.trans h.output, Nat.le_trans h.size hg.size, fun k hk _ => (hg.block k (Nat.lt_of_lt_of_le hk h.size) (fun e => by have := hr k e.symm; omega)).trans (h.block k hk (by simp))⟩
theorem gbelow {W V V' : World} (h : W.grownBy V none) (hb : Below V.heap.size V V') : W.grownBy V' none := gnone (row := none) h ⟨hb.os, hb.tape, hb.output, hb.size, fun k hk _ => hb.block k hk⟩ (fun r e => by cases e)
theorem grefl (W : World) : W.grownBy W none := ⟨rfl, rfl, rfl, Nat.le_refl _, fun _ _ _ => rfl⟩
theorem NoRow.gr {W W' : World} {p : Option Addr} (h : NoRow W p) (hg : W.grownBy W' none) : NoRow W' p := by
  rcases h with h | ⟨g, h1, h2⟩
  · exact .inl h
  · exact .inr ⟨g, h1, hg.cell h2 (by simp)⟩

set_option maxHeartbeats 6400000 in
set_option maxRecDepth 100000 in
theorem none_range (g0 gb : Nat) (p : Option Addr) {u1 u2 u3 u4 u5 u6 u7 u8 u9 u10 u11 u12 u13 u14 u15 u16 u17 u18 u19 u20 u21 u22 u23 u24 u25 u26 u27 u28 u29 u30 u31 u32 u33 u34 u35 u36 u37 u38 u39 u40 u41 u42 u43 u44 u45 u46 u47 u48 u49 u50 u51 u52 u53 u54 u55 u56 u57 u58 u59 u60 u61 u62 u63 u64 u65 u66 u67 u68 u69 u70 u71 u72 u73 u74 u75 u76 u77 u78 u79 u80 u81 u82 u83 u84 u85 u86 u87 u88 u89 u90 u91 u92 u93 u94 u95 u96 u97 u98 u99 u100 u101 u102 u103 u104 u105 u106 u107 u108 u109 u110 u111 u112 u113 u114 u115 u116 u117 u118 u119 u120 u121 u122 u123 u124 u125 u126 u127 u128 u129 u130 u131 u132 u133 u134 u135 u136 u137 u138 u140 u141 u142 u143 u144 u145 u146 u147 u148 u149 u150 u151 u152 u153 u154 u155 u156 u157 u158 u159 u160 u161 u162 u163 u164 u165 u166 u167 u168 u169 u170 u171 u172 u173 u174 u175 u176 u177 u178 u179 u180 u181 u182 u183 u184 u185 u186 u187 u188 u189 u190 u191 u192 u193 u194 u195 u196 u197 u198 u199 u200 u201 u202 u203 u204 u205 u206 u207 : Value} {ds : List Deferred} (wx : World) {Q : Exit → Act → World → Prop} (hgb : wx.cell? ⟨gb, 0, none⟩ = some (.pointer p)) (hp : NoRow wx p) (h0 : Blk wx g0 4 #[.bool false])
    (hQ : ∀ (D : Nat) (W : World), wx.heap.size ≤ D → wx.grownBy W none → W.heap[D]? = some (.deferred (some [])) → Q .normal ⟨#[.pointer (some ⟨g0, 0, none⟩), u1, u2, u3, u4, u5, u6, u7, u8, u9, u10, u11, u12, u13, u14, u15, u16, u17, u18, u19, u20, u21, u22, u23, u24, u25, u26, u27, u28, u29, u30, u31, u32, u33, u34, u35, u36, u37, u38, u39, u40, u41, u42, u43, u44, u45, u46, u47, u48, u49, u50, u51, u52, u53, u54, u55, u56, u57, u58, u59, u60, u61, u62, u63, u64, u65, u66, u67, u68, u69, u70, u71, u72, u73, u74, u75, u76, u77, u78, u79, u80, u81, u82, u83, u84, u85, u86, u87, u88, u89, u90, u91, u92, u93, u94, u95, u96, u97, u98, u99, u100, u101, u102, u103, u104, u105, u106, u107, u108, u109, u110, u111, u112, u113, u114, u115, u116, u117, u118, u119, u120, u121, u122, u123, u124, u125, u126, u127, u128, u129, u130, u131, u132, u133, u134, u135, u136, u137, u138, .func (.func 35) #[] #[.pointer (some ⟨gb, 0, none⟩)], u140, u141, u142, u143, u144, u145, u146, u147, u148, u149, u150, u151, u152, u153, u154, u155, u156, u157, u158, u159, u160, u161, u162, u163, u164, u165, u166, u167, u168, u169, u170, u171, u172, u173, u174, u175, u176, u177, u178, u179, u180, u181, u182, u183, u184, u185, u186, u187, u188, u189, u190, u191, u192, u193, u194, u195, u196, u197, u198, u199, u200, u201, u202, u203, u204, u205, u206, u207], { target := .collected D, args := #[] } :: ds⟩ W) :
    Code.wp Try.prog (part Try.f7 [1, 1, 1, 1, 1, 1, 1, 1, 1, 1, 1, 0, 1, 2, 2, 1, 0, 2, 1, 1, 1, 1, 0, 1]) Q ⟨#[.pointer (some ⟨g0, 0, none⟩), u1, u2, u3, u4, u5, u6, u7, u8, u9, u10, u11, u12, u13, u14, u15, u16, u17, u18, u19, u20, u21, u22, u23, u24, u25, u26, u27, u28, u29, u30, u31, u32, u33, u34, u35, u36, u37, u38, u39, u40, u41, u42, u43, u44, u45, u46, u47, u48, u49, u50, u51, u52, u53, u54, u55, u56, u57, u58, u59, u60, u61, u62, u63, u64, u65, u66, u67, u68, u69, u70, u71, u72, u73, u74, u75, u76, u77, u78, u79, u80, u81, u82, u83, u84, u85, u86, u87, u88, u89, u90, u91, u92, u93, u94, u95, u96, u97, u98, u99, u100, u101, u102, u103, u104, u105, u106, u107, u108, u109, u110, u111, u112, u113, u114, u115, u116, u117, u118, u119, u120, u121, u122, u123, u124, u125, u126, u127, u128, u129, u130, u131, u132, u133, u134, u135, u136, u137, u138, .func (.func 35) #[] #[.pointer (some ⟨gb, 0, none⟩)], u140, u141, u142, u143, u144, u145, u146, u147, u148, u149, u150, u151, u152, u153, u154, u155, u156, u157, u158, u159, u160, u161, u162, u163, u164, u165, u166, u167, u168, u169, u170, u171, u172, u173, u174, u175, u176, u177, u178, u179, u180, u181, u182, u183, u184, u185, u186, u187, u188, u189, u190, u191, u192, u193, u194, u195, u196, u197, u198, u199, u200, u201, u202, u203, u204, u205, u206, u207], ds⟩ wx := by
  conv => arg 2; whnf
  have HQ := Lib.hid hQ
  clear hQ
  refine wp_block ?_
  refine (wpIn_wide (n := 10)).1 ?_
  refine wpIn_rangeFunc_ownH rfl (by decide) (gf := 35) (lb := #[.pointer (some ⟨gb, 0, none⟩)]) rfl trivial (enters_of Try.func35 (by kernel_rfl) rfl)
    (all_none gb 9 wx.heap.size p wx (Nat.le_refl _) (by decide) hgb hp) (fun h k => h.trans k) (fun W l o o' hl h1 h2 h3 => KeepsB.book W l o o' h1 h2) (Below.refl _ _) (fun _ => rfl)
    (fun pre W => wx.grownBy W none) (fun c pre W => True) (fun s W W' row hs hg hr => gnone hs hg (fun r e => (hr r e).1)) (fun c s W W' row hs hg hr => trivial) (grefl wx)
    (fun x a' W => a' = ⟨#[.pointer (some ⟨g0, 0, none⟩), u1, u2, u3, u4, u5, u6, u7, u8, u9, u10, u11, u12, u13, u14, u15, u16, u17, u18, u19, u20, u21, u22, u23, u24, u25, u26, u27, u28, u29, u30, u31, u32, u33, u34, u35, u36, u37, u38, u39, u40, u41, u42, u43, u44, u45, u46, u47, u48, u49, u50, u51, u52, u53, u54, u55, u56, u57, u58, u59, u60, u61, u62, u63, u64, u65, u66, u67, u68, u69, u70, u71, u72, u73, u74, u75, u76, u77, u78, u79, u80, u81, u82, u83, u84, u85, u86, u87, u88, u89, u90, u91, u92, u93, u94, u95, u96, u97, u98, u99, u100, u101, u102, u103, u104, u105, u106, u107, u108, u109, u110, u111, u112, u113, u114, u115, u116, u117, u118, u119, u120, u121, u122, u123, u124, u125, u126, u127, u128, u129, u130, u131, u132, u133, u134, u135, u136, u137, u138, .func (.func 35) #[] #[.pointer (some ⟨gb, 0, none⟩)], .int .u8 (x.1.val : Int), refV x.2, u142, u143, u144, u145, u146, u147, u148, u149, u150, u151, u152, u153, u154, u155, u156, u157, u158, u159, u160, u161, u162, u163, u164, u165, u166, u167, u168, u169, u170, u171, u172, u173, u174, u175, u176, u177, u178, u179, u180, u181, u182, u183, u184, u185, u186, u187, u188, u189, u190, u191, u192, u193, u194, u195, u196, u197, u198, u199, u200, u201, u202, u203, u204, u205, u206, u207], []⟩) (fun x a' s W W' row hs hg hr => hs) ?assign ?body ?done ?stop
  case assign =>
    rintro l pre x W K hi hK
    have hfin : K ⟨#[.pointer (some ⟨g0, 0, none⟩), u1, u2, u3, u4, u5, u6, u7, u8, u9, u10, u11, u12, u13, u14, u15, u16, u17, u18, u19, u20, u21, u22, u23, u24, u25, u26, u27, u28, u29, u30, u31, u32, u33, u34, u35, u36, u37, u38, u39, u40, u41, u42, u43, u44, u45, u46, u47, u48, u49, u50, u51, u52, u53, u54, u55, u56, u57, u58, u59, u60, u61, u62, u63, u64, u65, u66, u67, u68, u69, u70, u71, u72, u73, u74, u75, u76, u77, u78, u79, u80, u81, u82, u83, u84, u85, u86, u87, u88, u89, u90, u91, u92, u93, u94, u95, u96, u97, u98, u99, u100, u101, u102, u103, u104, u105, u106, u107, u108, u109, u110, u111, u112, u113, u114, u115, u116, u117, u118, u119, u120, u121, u122, u123, u124, u125, u126, u127, u128, u129, u130, u131, u132, u133, u134, u135, u136, u137, u138, .func (.func 35) #[] #[.pointer (some ⟨gb, 0, none⟩)], .int .u8 (x.1.val : Int), refV x.2, u142, u143, u144, u145, u146, u147, u148, u149, u150, u151, u152, u153, u154, u155, u156, u157, u158, u159, u160, u161, u162, u163, u164, u165, u166, u167, u168, u169, u170, u171, u172, u173, u174, u175, u176, u177, u178, u179, u180, u181, u182, u183, u184, u185, u186, u187, u188, u189, u190, u191, u192, u193, u194, u195, u196, u197, u198, u199, u200, u201, u202, u203, u204, u205, u206, u207], []⟩ W := hK _ _ (KeepsFrom.refl _ _) (KeepsB.refl _ _) hi rfl
    have HF := Lib.hid hfin
    clear hfin hK
    gi_wp2
    exact HF.out
  case body =>
    rintro l pre x a' W hl ⟨rec, hrec⟩ hi rfl hlen2
    have k0 := h0.grown hi (by simp)
    have e0 := k0.cell 0
    have f0 := k0.frozen 0
    have l0 := k0.lt
    simp at e0
    have hkf : KeepsFrom wx.heap.size W (W.setCell ⟨g0, 0, none⟩ (.bool false)) := (KeepsOthers.setCell _ _ _).from _
    have HKF := Lib.hid hkf
    clear hkf k0
    gi_wp2
    exact ⟨HKF.out, trivial⟩
  case done =>
    rintro D xs W hD rfl hi hk
    exact HQ.out D W hD hi hk
  case stop =>
    rintro D c pre W hD hsp hx hk
    exact hsp.elim

set_option maxHeartbeats 6400000 in
set_option maxRecDepth 100000 in
theorem none_round (g0 gl i : Nat) (p : Option Addr) {u1 u2 u3 u4 u5 u6 u7 u8 u9 u10 u11 u14 u15 u16 u17 u18 u19 u20 u21 u22 u23 u24 u25 u26 u27 u28 u29 u30 u31 u32 u33 u34 u35 u36 u37 u38 u39 u40 u41 u42 u43 u44 u45 u46 u47 u48 u49 u50 u51 u52 u53 u54 u55 u56 u57 u58 u59 u60 u61 u62 u63 u64 u65 u66 u67 u68 u69 u70 u71 u72 u73 u74 u75 u76 u77 u78 u79 u80 u81 u82 u83 u84 u85 u86 u87 u88 u89 u90 u91 u92 u93 u94 u95 u96 u97 u98 u99 u100 u101 u102 u103 u104 u105 u106 u107 u108 u109 u110 u111 u112 u113 u114 u115 u116 u117 u118 u119 u120 u121 u122 u123 u124 u125 u126 u127 u128 u129 u130 u131 u132 u133 u134 u135 u136 u137 u138 u139 u140 u141 u142 u143 u144 u145 u146 u147 u148 u149 u150 u151 u152 u153 u154 u155 u156 u157 u158 u159 u160 u161 u162 u163 u164 u165 u166 u167 u168 u169 u170 u171 u172 u173 u174 u175 u176 u177 u178 u179 u180 u181 u182 u183 u184 u185 u186 u187 u188 u189 u190 u191 u192 u193 u194 u195 u196 u197 u198 u199 u200 u201 u202 u203 u204 u205 u206 u207 : Value} {ds : List Deferred} (W0 : World) {Q : Exit → Act → World → Prop} (hi : i < 2) (hcell : W0.cell? ⟨gl, i, none⟩ = some (.pointer p)) (hp : NoRow W0 p) (h0 : Blk W0 g0 4 #[.bool false])
    (hQ : ∀ (y14 y15 y16 y17 y18 y19 y20 y21 y114 y115 y116 y117 y118 y119 y120 y121 y122 y123 y124 y125 y126 y127 y128 y129 y130 y131 y132 y133 y134 y135 y136 y137 y138 y139 y140 y141 y142 y143 y144 y145 y146 y147 y148 y149 y150 y151 y152 y153 y154 y155 y156 y157 y158 y159 y160 y161 y162 y163 y164 y165 y166 y167 y168 y169 y170 y171 y172 y173 y174 y175 y176 y177 y178 y179 y180 y181 y182 y183 y184 y185 y186 y187 y188 y189 y190 y191 y192 y193 : Value) (D : Nat) (W : World), W0.heap.size ≤ D → W0.grownBy W none → W.heap[D]? = some (.deferred (some [])) → Q .normal ⟨#[.pointer (some ⟨g0, 0, none⟩), u1, u2, u3, u4, u5, u6, u7, u8, u9, u10, u11, .slice (some ⟨gl, 0, none⟩) 2 2, .int .i64 ((i : Int) + 1), y14, y15, y16, y17, y18, y19, y20, y21, u22, u23, u24, u25, u26, u27, u28, u29, u30, u31, u32, u33, u34, u35, u36, u37, u38, u39, u40, u41, u42, u43, u44, u45, u46, u47, u48, u49, u50, u51, u52, u53, u54, u55, u56, u57, u58, u59, u60, u61, u62, u63, u64, u65, u66, u67, u68, u69, u70, u71, u72, u73, u74, u75, u76, u77, u78, u79, u80, u81, u82, u83, u84, u85, u86, u87, u88, u89, u90, u91, u92, u93, u94, u95, u96, u97, u98, u99, u100, u101, u102, u103, u104, u105, u106, u107, u108, u109, u110, u111, u112, u113, y114, y115, y116, y117, y118, y119, y120, y121, y122, y123, y124, y125, y126, y127, y128, y129, y130, y131, y132, y133, y134, y135, y136, y137, y138, y139, y140, y141, y142, y143, y144, y145, y146, y147, y148, y149, y150, y151, y152, y153, y154, y155, y156, y157, y158, y159, y160, y161, y162, y163, y164, y165, y166, y167, y168, y169, y170, y171, y172, y173, y174, y175, y176, y177, y178, y179, y180, y181, y182, y183, y184, y185, y186, y187, y188, y189, y190, y191, y192, y193, u194, u195, u196, u197, u198, u199, u200, u201, u202, u203, u204, u205, u206, u207], { target := .collected D, args := #[] } :: ds⟩ W) :
    Code.wp Try.prog (part Try.f7 [1, 1, 1, 1, 1, 1, 1, 1, 1, 1, 1, 0, 1, 2, 2]) Q ⟨#[.pointer (some ⟨g0, 0, none⟩), u1, u2, u3, u4, u5, u6, u7, u8, u9, u10, u11, .slice (some ⟨gl, 0, none⟩) 2 2, .int .i64 (i : Int), u14, u15, u16, u17, u18, u19, u20, u21, u22, u23, u24, u25, u26, u27, u28, u29, u30, u31, u32, u33, u34, u35, u36, u37, u38, u39, u40, u41, u42, u43, u44, u45, u46, u47, u48, u49, u50, u51, u52, u53, u54, u55, u56, u57, u58, u59, u60, u61, u62, u63, u64, u65, u66, u67, u68, u69, u70, u71, u72, u73, u74, u75, u76, u77, u78, u79, u80, u81, u82, u83, u84, u85, u86, u87, u88, u89, u90, u91, u92, u93, u94, u95, u96, u97, u98, u99, u100, u101, u102, u103, u104, u105, u106, u107, u108, u109, u110, u111, u112, u113, u114, u115, u116, u117, u118, u119, u120, u121, u122, u123, u124, u125, u126, u127, u128, u129, u130, u131, u132, u133, u134, u135, u136, u137, u138, u139, u140, u141, u142, u143, u144, u145, u146, u147, u148, u149, u150, u151, u152, u153, u154, u155, u156, u157, u158, u159, u160, u161, u162, u163, u164, u165, u166, u167, u168, u169, u170, u171, u172, u173, u174, u175, u176, u177, u178, u179, u180, u181, u182, u183, u184, u185, u186, u187, u188, u189, u190, u191, u192, u193, u194, u195, u196, u197, u198, u199, u200, u201, u202, u203, u204, u205, u206, u207], ds⟩ W0 := by
  conv => arg 2; whnf
  have HQ := Lib.hid hQ
  have HP := Lib.hid (And.intro hp h0)
  have i1 : (0 : Int) ≤ (i : Int) := by omega
  have i2 : (i : Int) < 2 := by omega
  clear hQ hp h0
  refine wp_seq_k fun K0 hK => ?_
  have HK0 := Lib.hid hK
  clear hK
  go_wp2_with fail
  refine HK0.out _ _ ?_
  clear HK0
  refine wp_seq_k fun K1 hK => ?_
  have HK1 := Lib.hid hK
  clear hK
  refine wp_block ?_
  refine wp_seq_k fun K2 hK => ?_
  have HK2 := Lib.hid hK
  clear hK
  go_wp2_with fail
  refine HK2.out _ _ ?_
  clear HK2
  refine wp_seq_k fun K3 hK => ?_
  have HK3 := Lib.hid hK
  clear hK
  go_wp2_with fail
  refine (no_take p W0 HP.out.1 1).mono ?_
  rintro e w1 ⟨rfl, hb1⟩
  go_wp2_with fail
  refine HK3.out _ _ ?_
  clear HK3 hcell
  have G1 := Lib.hid (gbelow (gbelow (grefl W0) hb1) (below_box w1 (.cells #[.int .i64 0, .int .u32 0] 31)))
  have hr1 := Blk.new w1 31 #[.int .i64 0, .int .u32 0]
  generalize w1.alloc (.cells #[.int .i64 0, .int .u32 0] 31) = w2 at G1 hr1 ⊢
  generalize w1.heap.size = q1 at hr1 ⊢
  have HR1 := Lib.hid hr1
  clear hr1 hb1
  refine wp_seq_k fun K4 hK => ?_
  have HK4 := Lib.hid hK
  clear hK
  go_wp2_with fail
  refine (no_find p w2 (HP.out.1.gr G1.out) 1).mono ?_
  rintro e w3 ⟨rfl, hb3⟩
  go_wp2_with fail
  refine HK4.out _ _ ?_
  clear HK4
  have G2 := Lib.hid (gbelow (gbelow G1.out hb3) (below_box w3 (.cells #[.int .i64 0, .int .u32 0] 31)))
  have hr1 := (HR1.out.below hb3 HR1.out.lt).alloc (.cells #[.int .i64 0, .int .u32 0] 31)
  have hr2 := Blk.new w3 31 #[.int .i64 0, .int .u32 0]
  generalize w3.alloc (.cells #[.int .i64 0, .int .u32 0] 31) = w4 at G2 hr1 hr2 ⊢
  generalize w3.heap.size = q2 at hr2 ⊢
  have HR2 := Lib.hid (And.intro hr1 hr2)
  clear hr1 hr2 hb3 G1 HR1
  refine wp_seq_k fun K5 hK => ?_
  have HK5 := Lib.hid hK
  clear hK
  go_wp2_with fail
  refine (no_next p w4 (HP.out.1.gr G2.out) 0).mono ?_
  rintro e w5 ⟨rfl, hb5⟩
  go_wp2_with fail
  refine HK5.out _ _ ?_
  clear HK5
  have G3 := Lib.hid (gbelow (gbelow G2.out hb5) (below_box w5 (.cells #[.int .i64 0, .int .u32 0] 31)))
  have hr1 := (HR2.out.1.below hb5 HR2.out.1.lt).alloc (.cells #[.int .i64 0, .int .u32 0] 31)
  have hr2 := (HR2.out.2.below hb5 HR2.out.2.lt).alloc (.cells #[.int .i64 0, .int .u32 0] 31)
  have hr3 := Blk.new w5 31 #[.int .i64 0, .int .u32 0]
  generalize w5.alloc (.cells #[.int .i64 0, .int .u32 0] 31) = w6 at G3 hr1 hr2 hr3 ⊢
  generalize w5.heap.size = q3 at hr3 ⊢
  have HR3 := Lib.hid (And.intro hr1 (And.intro hr2 hr3))
  clear hr1 hr2 hr3 hb5 G2 HR2
  refine wp_seq_k fun K6 hK => ?_
  have HK6 := Lib.hid hK
  clear hK
  refine wp_seq_k fun K7 hK => ?_
  have HK7 := Lib.hid hK
  clear hK
  go_wp2_with fail
  refine (All_any _ _).mono ?_
  rintro e w7 ⟨rfl, rfl⟩
  go_wp2_with fail
  refine HK7.out _ _ ?_
  clear HK7
  have hq := Blk.new w6 24 #[.pointer p]
  have cq : (w6.alloc (.cells #[.pointer p] 24)).cell? ⟨w6.heap.size, 0, none⟩ = some (.pointer p) := hq.cell 0
  have G4 := Lib.hid (gbelow G3.out (below_box w6 (.cells #[.pointer p] 24)))
  have HR4 : Hid (Blk (w6.alloc (.cells #[.pointer p] 24)) q1 31 #[.int .i64 0, .int .u32 0] ∧ Blk (w6.alloc (.cells #[.pointer p] 24)) q2 31 #[.int .i64 0, .int .u32 0] ∧ Blk (w6.alloc (.cells #[.pointer p] 24)) q3 31 #[.int .i64 0, .int .u32 0]) := Lib.hid ⟨HR3.out.1.alloc _, HR3.out.2.1.alloc _, HR3.out.2.2.alloc _⟩
  refine none_range g0 w6.heap.size p (w6.alloc (.cells #[.pointer p] 24)) cq (HP.out.1.gr G4.out) (HP.out.2.grown G4.out (by simp)) ?_
  intro D w8 hD hg8 hdef
  have hD0 : W0.heap.size ≤ D := Nat.le_trans G4.out.size hD
  have G5 := Lib.hid (gnone G4.out hg8 (fun r e => by cases e))
  have HR5 : Hid (Blk w8 q1 31 #[.int .i64 0, .int .u32 0] ∧ Blk w8 q2 31 #[.int .i64 0, .int .u32 0] ∧ Blk w8 q3 31 #[.int .i64 0, .int .u32 0] ∧ w8.heap[D]? = some (.deferred (some []))) := Lib.hid ⟨HR4.out.1.grown hg8 (by simp), HR4.out.2.1.grown hg8 (by simp), HR4.out.2.2.grown hg8 (by simp), hdef⟩
  clear hq cq hD hg8 hdef G3 G4 HR3 HR4
  dsimp only
  refine HK6.out _ _ ?_
  clear HK6
  have e10 := HR5.out.1.cell 0
  have e11 := HR5.out.1.cell 1
  have e20 := HR5.out.2.1.cell 0
  have e21 := HR5.out.2.1.cell 1
  have e30 := HR5.out.2.2.1.cell 0
  have e31 := HR5.out.2.2.1.cell 1
  simp at e10 e11 e20 e21 e30 e31
  have gr0 := guardRef
  have nr : ∀ V : World, (binOp .neq 31 (.agg #[.int .i64 0, .int .u32 0]) (.agg #[.int .i64 0, .int .u32 0])).run Try.prog V = .ok (.bool false) V := fun V => (neqRef (0, 0) (0, 0) V).trans (by simp)
  go_wp2_with fail
  have hPut : Calls Try.prog 10 #[.pointer p, .int .u8 1, .agg #[.int .i64 0, .int .u32 0]] w8 (fun e w' => e = .returned (.int .i64 1) ∧ Below w8.heap.size w8 w') := no_put p w8 (HP.out.1.gr G5.out) 1 (0, 0)
  refine hPut.mono ?_
  rintro e w9 ⟨rfl, hb9⟩
  have G6 := Lib.hid (gbelow G5.out hb9)
  have HR6 : Hid (Blk w9 q1 31 #[.int .i64 0, .int .u32 0] ∧ Blk w9 q2 31 #[.int .i64 0, .int .u32 0] ∧ Blk w9 q3 31 #[.int .i64 0, .int .u32 0] ∧ w9.heap[D]? = some (.deferred (some []))) := Lib.hid ⟨HR5.out.1.below hb9 HR5.out.1.lt, HR5.out.2.1.below hb9 HR5.out.2.1.lt, HR5.out.2.2.1.below hb9 HR5.out.2.2.1.lt, (hb9.block D (Array.getElem?_eq_some_iff.1 HR5.out.2.2.2).1).trans HR5.out.2.2.2⟩
  clear hPut hb9 G5 HR5 e10 e11 e20 e21 e30 e31
  have e10 := HR6.out.1.cell 0
  have e11 := HR6.out.1.cell 1
  simp at e10 e11
  go_wp2_with fail
  have hTurn : Calls Try.prog 28 #[.pointer p, .int .u8 1, .agg #[.int .i64 0, .int .u32 0]] w9 (fun e w' => e = .returned (.int .i64 1) ∧ Below w9.heap.size w9 w') := no_turn p w9 (HP.out.1.gr G6.out) 1 (0, 0)
  refine hTurn.mono ?_
  rintro e wa ⟨rfl, hba⟩
  have G7 := Lib.hid (gbelow G6.out hba)
  have HR7 : Hid (Blk wa q1 31 #[.int .i64 0, .int .u32 0] ∧ Blk wa q2 31 #[.int .i64 0, .int .u32 0] ∧ Blk wa q3 31 #[.int .i64 0, .int .u32 0] ∧ wa.heap[D]? = some (.deferred (some []))) := Lib.hid ⟨HR6.out.1.below hba HR6.out.1.lt, HR6.out.2.1.below hba HR6.out.2.1.lt, HR6.out.2.2.1.below hba HR6.out.2.2.1.lt, (hba.block D (Array.getElem?_eq_some_iff.1 HR6.out.2.2.2).1).trans HR6.out.2.2.2⟩
  clear hTurn hba G6 HR6 e10 e11
  have e10 := HR7.out.1.cell 0
  have e11 := HR7.out.1.cell 1
  have e20 := HR7.out.2.1.cell 0
  have e21 := HR7.out.2.1.cell 1
  have e30 := HR7.out.2.2.1.cell 0
  have e31 := HR7.out.2.2.1.cell 1
  simp at e10 e11 e20 e21 e30 e31
  have HNR := Lib.hid (HP.out.1.gr G7.out)
  go_wp2_with fail
  refine (no_len p wa HNR.out).mono ?_
  rintro e wb ⟨rfl, rfl⟩
  go_wp2_with fail
  refine (no_room p _ HNR.out).mono ?_
  rintro e wc ⟨rfl, rfl⟩
  go_wp2_with fail
  refine (no_copy p _ HNR.out).mono ?_
  rintro e wd ⟨rfl, rfl⟩
  go_wp2_with fail
  refine HK1.out _ _ ?_
  clear HK1
  go_wp2_with fail
  exact HQ.out _ _ _ _ _ _ _ _ _ _ _ _ _ _ _ _ _ _ _ _ _ _ _ _ _ _ _ _ _ _ _ _ _ _ _ _ _ _ _ _ _ _ _ _ _ _ _ _ _ _ _ _ _ _ _ _ _ _ _ _ _ _ _ _ _ _ _ _ _ _ _ _ _ _ _ _ _ _ _ _ _ _ _ _ _ _ _ _  D _ hD0 G7.out HR7.out.2.2.2
end Go.Proofs.Ytmcpfhhggapkcaa
