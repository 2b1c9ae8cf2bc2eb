/-
  Walks: burgagelaw27.Made, the deed.
-/
import Derived.Test.YtlmehmmdbdembaaMadeM
namespace Go.Proofs.Ytlmehmmdbdembaa
open Go.RowKit
set_option linter.unusedVariables false
set_option linter.unusedSimpArgs false

set_option maxHeartbeats 3200000 in
set_option maxRecDepth 100000 in
theorem m6 {gk gc n : Nat} {v : Value} {xs : List Value} {c : Cod} {u0 u1 u2 u5 u7 u8 u9 u10 u11 u12 u13 u14 u15 u16 u17 u18 u19 u20 u21 u22 u23 u24 u25 u26 u27 u28 u29 u30 u31 u32 u33 u34 u35 u36 u37 u38 u39 u40 u41 u42 u43 u44 u45 u46 u47 u48 u49 u50 u51 u52 u53 u54 u55 u56 u57 u58 u59 u60 u61 u62 u63 u64 u65 u66 u67 u68 u69 u70 u71 u72 u73 u74 u75 u76 u77 u78 u79 u80 u81 u82 u83 u84 u85 u86 u87 u88 u89 u90 u91 u92 u93 u94 u95 u96 u97 u98 u99 u100 u101 u102 u103 u104 u105 u106 u107 u108 u109 u110 u111 u112 u113 u114 u115 u116 u117 u118 u119 u120 u121 u122 u123 u124 u125 u126 u127 u128 u129 u130 u131 u132 u133 u134 u135 u136 u137 u138 u139 : Value} (w wx : World) {Q : Exit → Act → World → Prop} (hM : M0 w gk gc v n xs c wx) (hc : c.ok)
    (hQ : ∀ (s27 s28 s29 s30 s31 s32 s33 : Value) (gr : Nat) (d : Int) (W' : World), 1 ≤ d ∧ d ≤ 10 → M0 w gk gc v n xs c W' → Blk W' gr 31 #[.int .i64 d, .int .i64 0, .int .u32 0, .int .u8 0, .string ⟨#[]⟩, .string ⟨#[]⟩, .string ⟨#[]⟩, .int .i64 0, .int .i64 0, .int .u64 0, .int .u64 0, .int .u8 0] → w.heap.size ≤ gr → Q .normal ⟨#[u0, u1, u2, v, .slice (some ⟨gk, 0, none⟩) 8 8, u5, .pointer (some ⟨gc, 0, none⟩), .pointer (some ⟨gr, 0, none⟩), u8, u9, u10, u11, u12, u13, u14, u15, u16, u17, u18, u19, u20, u21, u22, u23, u24, u25, u26, s27, s28, s29, s30, s31, s32, s33, u34, u35, u36, u37, u38, u39, u40, u41, u42, u43, u44, u45, u46, u47, u48, u49, u50, u51, u52, u53, u54, u55, u56, u57, u58, u59, u60, u61, u62, u63, u64, u65, u66, u67, u68, u69, u70, u71, u72, u73, u74, u75, u76, u77, u78, u79, u80, u81, u82, u83, u84, u85, u86, u87, u88, u89, u90, u91, u92, u93, u94, u95, u96, u97, u98, u99, u100, u101, u102, u103, u104, u105, u106, u107, u108, u109, u110, u111, u112, u113, u114, u115, u116, u117, u118, u119, u120, u121, u122, u123, u124, u125, u126, u127, u128, u129, u130, u131, u132, u133, u134, u135, u136, u137, u138, u139], []⟩ W') :
    Code.wp Try.prog (part Try.f28 [1, 1, 1, 0, 1, 2, 2, 1, 1, 0, 2, 1, 0]) Q ⟨#[u0, u1, u2, v, .slice (some ⟨gk, 0, none⟩) 8 8, u5, .pointer (some ⟨gc, 0, none⟩), u7, u8, u9, u10, u11, u12, u13, u14, u15, u16, u17, u18, u19, u20, u21, u22, u23, u24, u25, u26, u27, u28, u29, u30, u31, u32, u33, u34, u35, u36, u37, u38, u39, u40, u41, u42, u43, u44, u45, u46, u47, u48, u49, u50, u51, u52, u53, u54, u55, u56, u57, u58, u59, u60, u61, u62, u63, u64, u65, u66, u67, u68, u69, u70, u71, u72, u73, u74, u75, u76, u77, u78, u79, u80, u81, u82, u83, u84, u85, u86, u87, u88, u89, u90, u91, u92, u93, u94, u95, u96, u97, u98, u99, u100, u101, u102, u103, u104, u105, u106, u107, u108, u109, u110, u111, u112, u113, u114, u115, u116, u117, u118, u119, u120, u121, u122, u123, u124, u125, u126, u127, u128, u129, u130, u131, u132, u133, u134, u135, u136, u137, u138, u139], []⟩ wx := by
  conv => arg 2; whnf
  have HQ := Lib.hid hQ
  clear hQ
  obtain ⟨hk1, hk2, hk3, hk4⟩ := hM
  obtain ⟨c0, c1, c2, c3, c4, c5⟩ := cod_cells hk2
  have lc := hk2.lt
  have HM := Lib.hid (show M0 w gk gc v n xs c wx from ⟨hk1, hk2, hk3, hk4⟩)
  have hsz := hk4.size
  have HC := Lib.hid hc
  clear hc
  obtain ⟨b, hb, hb0, hb1⟩ := tmod_in (x := c.d) 16 (by have := HC.out; obtain ⟨⟨_, _⟩, ⟨_, _⟩, ⟨_, _⟩, ⟨_, _⟩, ⟨_, _⟩, ⟨_, _⟩⟩ := this; omega) (by decide)
  clear hk1 hk2 hk3 hk4
  have hbc : b = 0 ∨ b = 1 ∨ b = 2 ∨ b = 3 ∨ b = 4 ∨ b = 5 ∨ b = 6 ∨ b = 7 ∨ b = 8 ∨ b = 9 ∨ b = 10 ∨ b = 11 ∨ b = 12 ∨ b = 13 ∨ b = 14 ∨ b = 15 := by omega
  clear hb0 hb1
  rcases hbc with rfl | rfl | rfl | rfl | rfl | rfl | rfl | rfl | rfl | rfl | rfl | rfl | rfl | rfl | rfl | rfl
  all_goals
    go_wp2
    exact HQ.out _ _ _ _ _ _ _ _ _ _ ⟨by decide, by decide⟩ ((HM.out.alloc _).alloc _) (blk_newAt (by simp)) (by omega)

end Go.Proofs.Ytlmehmmdbdembaa
