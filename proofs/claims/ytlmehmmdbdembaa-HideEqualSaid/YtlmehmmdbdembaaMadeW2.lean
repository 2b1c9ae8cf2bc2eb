/-
  Walks: burgagelaw27.Made, handles and keys.
-/
import Derived.Test.YtlmehmmdbdembaaMadeM
namespace Go.Proofs.Ytlmehmmdbdembaa
open Go.RowKit
set_option linter.unusedVariables false
set_option linter.unusedSimpArgs false

set_option maxHeartbeats 3200000 in
set_option maxRecDepth 100000 in
theorem m14 {gk gc gr n : Nat} {v : Value} {xs : List Value} {c : Cod} {r : Req} {tn : Int} {u0 u1 u2 u5 u9 u10 u11 u12 u13 u14 u15 u16 u17 u18 u19 u20 u21 u22 u23 u24 u25 u26 u27 u28 u29 u30 u31 u32 u33 u34 u35 u36 u37 u38 u39 u40 u41 u42 u43 u44 u45 u46 u47 u48 u49 u50 u51 u52 u53 u54 u55 u56 u57 u58 u59 u60 u61 u62 u63 u64 u65 u66 u67 u68 u69 u70 u71 u72 u73 u74 u75 u76 u77 u78 u79 u80 u81 u82 u83 u84 u85 u86 u87 u88 u89 u90 u91 u92 u93 u94 u95 u96 u97 u98 u99 u100 u101 u102 u103 u104 u105 u106 u107 u108 u109 u110 u111 u112 u113 u114 u115 u116 u117 u118 u119 u120 u121 u122 u123 u124 u125 u126 u127 u128 u129 u130 u131 u132 u133 u134 u135 u136 u137 u138 u139 : Value} (w wx : World) {Q : Exit → Act → World → Prop} (hM : MIn w gk gc gr v n xs c r wx) (hr : Small r) (hc : c.ok) (htn : 1 ≤ tn ∧ tn ≤ 2)
    (hQ : ∀ (s65 s66 s67 s68 s69 s70 s71 s72 s73 : Value) (r' : Req) (W' : World), MIn w gk gc gr v n xs c r' W' → Small r' → Q .normal ⟨#[u0, u1, u2, v, .slice (some ⟨gk, 0, none⟩) 8 8, u5, .pointer (some ⟨gc, 0, none⟩), .pointer (some ⟨gr, 0, none⟩), .int .i64 tn, u9, u10, u11, u12, u13, u14, u15, u16, u17, u18, u19, u20, u21, u22, u23, u24, u25, u26, u27, u28, u29, u30, u31, u32, u33, u34, u35, u36, u37, u38, u39, u40, u41, u42, u43, u44, u45, u46, u47, u48, u49, u50, u51, u52, u53, u54, u55, u56, u57, u58, u59, u60, u61, u62, u63, u64, s65, s66, s67, s68, s69, s70, s71, s72, s73, u74, u75, u76, u77, u78, u79, u80, u81, u82, u83, u84, u85, u86, u87, u88, u89, u90, u91, u92, u93, u94, u95, u96, u97, u98, u99, u100, u101, u102, u103, u104, u105, u106, u107, u108, u109, u110, u111, u112, u113, u114, u115, u116, u117, u118, u119, u120, u121, u122, u123, u124, u125, u126, u127, u128, u129, u130, u131, u132, u133, u134, u135, u136, u137, u138, u139], []⟩ W') :
    Code.wp Try.prog (part Try.f28 [1, 1, 1, 0, 1, 2, 2, 1, 1, 0, 2, 1, 1, 1, 0, 2, 1, 3, 0]) Q ⟨#[u0, u1, u2, v, .slice (some ⟨gk, 0, none⟩) 8 8, u5, .pointer (some ⟨gc, 0, none⟩), .pointer (some ⟨gr, 0, none⟩), .int .i64 tn, u9, u10, u11, u12, u13, u14, u15, u16, u17, u18, u19, u20, u21, u22, u23, u24, u25, u26, u27, u28, u29, u30, u31, u32, u33, u34, u35, u36, u37, u38, u39, u40, u41, u42, u43, u44, u45, u46, u47, u48, u49, u50, u51, u52, u53, u54, u55, u56, u57, u58, u59, u60, u61, u62, u63, u64, u65, u66, u67, u68, u69, u70, u71, u72, u73, u74, u75, u76, u77, u78, u79, u80, u81, u82, u83, u84, u85, u86, u87, u88, u89, u90, u91, u92, u93, u94, u95, u96, u97, u98, u99, u100, u101, u102, u103, u104, u105, u106, u107, u108, u109, u110, u111, u112, u113, u114, u115, u116, u117, u118, u119, u120, u121, u122, u123, u124, u125, u126, u127, u128, u129, u130, u131, u132, u133, u134, u135, u136, u137, u138, u139], []⟩ wx := by
  conv => arg 2; whnf
  have HQ := Lib.hid hQ
  clear hQ
  obtain ⟨⟨hk1, hk2, hk3, hk4⟩, hk5, hk6⟩ := hM
  obtain ⟨q0, q1, q2, q3, q4, q5, q6, q7, q8, q9, q10, q11⟩ := req_cells hk5
  obtain ⟨c0, c1, c2, c3, c4, c5⟩ := cod_cells hk2
  have HM := Lib.hid (show MIn w gk gc gr v n xs c r wx from ⟨⟨hk1, hk2, hk3, hk4⟩, hk5, hk6⟩)
  have HR := Lib.hid hr
  have HC := Lib.hid hc
  clear hr hc
  have f1 := hk5.frozen 1
  have f2 := hk5.frozen 2
  have f3 := hk5.frozen 3
  obtain ⟨b, hb, hb0, hb1⟩ := and_one (x := c.h / 64) (by have := HC.out.h; omega) (by have := HC.out.h; omega)
  clear hk1 hk2 hk3 hk4 hk5 hk6
  go_wp2
  exact HQ.out _ _ _ _ _ _ _ _ _ ⟨r.deed, tn, 1 + b, 7, r.key, r.val, r.old, r.lim, r.tenant, r.qk, r.qb, r.rights⟩ _ (((HM.out.store 1 (r' := ⟨r.deed, tn, r.gen, r.rig, r.key, r.val, r.old, r.lim, r.tenant, r.qk, r.qb, r.rights⟩) rfl).store 2 (r' := ⟨r.deed, tn, 1 + b, r.rig, r.key, r.val, r.old, r.lim, r.tenant, r.qk, r.qb, r.rights⟩) rfl).store 3 rfl) ⟨HR.out.deed, ⟨by dsimp only; omega, by dsimp only; omega⟩, ⟨by dsimp only; omega, by dsimp only; omega⟩, ⟨by dsimp only; decide, by dsimp only; decide⟩, HR.out.key, HR.out.val, HR.out.old, HR.out.lim, HR.out.tenant, HR.out.qk, HR.out.qb, HR.out.rights⟩

set_option maxHeartbeats 3200000 in
set_option maxRecDepth 100000 in
theorem m7 {gk gc gr n : Nat} {v : Value} {xs : List Value} {c : Cod} {r : Req} {u0 u1 u2 u5 u8 u9 u10 u11 u12 u13 u14 u15 u16 u17 u18 u19 u20 u21 u22 u23 u24 u25 u26 u27 u28 u29 u30 u31 u32 u33 u34 u35 u36 u37 u38 u39 u40 u41 u42 u43 u44 u45 u46 u47 u48 u49 u50 u51 u52 u53 u54 u55 u56 u57 u58 u59 u60 u61 u62 u63 u64 u65 u66 u67 u68 u69 u70 u71 u72 u73 u74 u75 u76 u77 u78 u79 u80 u81 u82 u83 u84 u85 u86 u87 u88 u89 u90 u91 u92 u93 u94 u95 u96 u97 u98 u99 u100 u101 u102 u103 u104 u105 u106 u107 u108 u109 u110 u111 u112 u113 u114 u115 u116 u117 u118 u119 u120 u121 u122 u123 u124 u125 u126 u127 u128 u129 u130 u131 u132 u133 u134 u135 u136 u137 u138 u139 : Value} (w wx : World) {Q : Exit → Act → World → Prop} (hM : MIn w gk gc gr v n xs c r wx) (hr : Small r) (hc : c.ok)
    (hQ : ∀ (s34 s35 s36 s37 s38 : Value) (tn : Int) (W' : World), MIn w gk gc gr v n xs c r W' → 1 ≤ tn → tn ≤ 2 → Q .normal ⟨#[u0, u1, u2, v, .slice (some ⟨gk, 0, none⟩) 8 8, u5, .pointer (some ⟨gc, 0, none⟩), .pointer (some ⟨gr, 0, none⟩), .int .i64 tn, u9, u10, u11, u12, u13, u14, u15, u16, u17, u18, u19, u20, u21, u22, u23, u24, u25, u26, u27, u28, u29, u30, u31, u32, u33, s34, s35, s36, s37, s38, u39, u40, u41, u42, u43, u44, u45, u46, u47, u48, u49, u50, u51, u52, u53, u54, u55, u56, u57, u58, u59, u60, u61, u62, u63, u64, u65, u66, u67, u68, u69, u70, u71, u72, u73, u74, u75, u76, u77, u78, u79, u80, u81, u82, u83, u84, u85, u86, u87, u88, u89, u90, u91, u92, u93, u94, u95, u96, u97, u98, u99, u100, u101, u102, u103, u104, u105, u106, u107, u108, u109, u110, u111, u112, u113, u114, u115, u116, u117, u118, u119, u120, u121, u122, u123, u124, u125, u126, u127, u128, u129, u130, u131, u132, u133, u134, u135, u136, u137, u138, u139], []⟩ W') :
    Code.wp Try.prog (part Try.f28 [1, 1, 1, 0, 1, 2, 2, 1, 1, 0, 2, 1, 1, 0]) Q ⟨#[u0, u1, u2, v, .slice (some ⟨gk, 0, none⟩) 8 8, u5, .pointer (some ⟨gc, 0, none⟩), .pointer (some ⟨gr, 0, none⟩), u8, u9, u10, u11, u12, u13, u14, u15, u16, u17, u18, u19, u20, u21, u22, u23, u24, u25, u26, u27, u28, u29, u30, u31, u32, u33, u34, u35, u36, u37, u38, u39, u40, u41, u42, u43, u44, u45, u46, u47, u48, u49, u50, u51, u52, u53, u54, u55, u56, u57, u58, u59, u60, u61, u62, u63, u64, u65, u66, u67, u68, u69, u70, u71, u72, u73, u74, u75, u76, u77, u78, u79, u80, u81, u82, u83, u84, u85, u86, u87, u88, u89, u90, u91, u92, u93, u94, u95, u96, u97, u98, u99, u100, u101, u102, u103, u104, u105, u106, u107, u108, u109, u110, u111, u112, u113, u114, u115, u116, u117, u118, u119, u120, u121, u122, u123, u124, u125, u126, u127, u128, u129, u130, u131, u132, u133, u134, u135, u136, u137, u138, u139], []⟩ wx := by
  conv => arg 2; whnf
  have HQ := Lib.hid hQ
  clear hQ
  obtain ⟨⟨hk1, hk2, hk3, hk4⟩, hk5, hk6⟩ := hM
  obtain ⟨q0, q1, q2, q3, q4, q5, q6, q7, q8, q9, q10, q11⟩ := req_cells hk5
  obtain ⟨c0, c1, c2, c3, c4, c5⟩ := cod_cells hk2
  have HM := Lib.hid (show MIn w gk gc gr v n xs c r wx from ⟨⟨hk1, hk2, hk3, hk4⟩, hk5, hk6⟩)
  have HR := Lib.hid hr
  have HC := Lib.hid hc
  clear hr hc
  obtain ⟨b, hb, hb0, hb1⟩ := and_one (x := c.h) (by have := HC.out.h; omega) (by have := HC.out.h; omega)
  clear hk1 hk2 hk3 hk4 hk5 hk6
  go_wp2
  exact HQ.out _ _ _ _ _ (1 + b) _ HM.out (by omega) (by omega)

set_option maxHeartbeats 3200000 in
set_option maxRecDepth 100000 in
theorem m15 {gk gc gr n : Nat} {v : Value} {xs : List Value} {c : Cod} {r : Req} {tn : Int} {u0 u1 u2 u5 u9 u10 u11 u12 u13 u14 u15 u16 u17 u18 u19 u20 u21 u22 u23 u24 u25 u26 u27 u28 u29 u30 u31 u32 u33 u34 u35 u36 u37 u38 u39 u40 u41 u42 u43 u44 u45 u46 u47 u48 u49 u50 u51 u52 u53 u54 u55 u56 u57 u58 u59 u60 u61 u62 u63 u64 u65 u66 u67 u68 u69 u70 u71 u72 u73 u74 u75 u76 u77 u78 u79 u80 u81 u82 u83 u84 u85 u86 u87 u88 u89 u90 u91 u92 u93 u94 u95 u96 u97 u98 u99 u100 u101 u102 u103 u104 u105 u106 u107 u108 u109 u110 u111 u112 u113 u114 u115 u116 u117 u118 u119 u120 u121 u122 u123 u124 u125 u126 u127 u128 u129 u130 u131 u132 u133 u134 u135 u136 u137 u138 u139 : Value} (w wx : World) {Q : Exit → Act → World → Prop} (hM : MIn w gk gc gr v n xs c r wx) (hr : Small r) (hc : c.ok) (htn : 1 ≤ tn ∧ tn ≤ 2)
    (hQ : ∀ (s74 s75 s76 s77 s78 s79 s80 : Value) (r' : Req) (W' : World), MIn w gk gc gr v n xs c r' W' → Small r' → Q .normal ⟨#[u0, u1, u2, v, .slice (some ⟨gk, 0, none⟩) 8 8, u5, .pointer (some ⟨gc, 0, none⟩), .pointer (some ⟨gr, 0, none⟩), .int .i64 tn, u9, u10, u11, u12, u13, u14, u15, u16, u17, u18, u19, u20, u21, u22, u23, u24, u25, u26, u27, u28, u29, u30, u31, u32, u33, u34, u35, u36, u37, u38, u39, u40, u41, u42, u43, u44, u45, u46, u47, u48, u49, u50, u51, u52, u53, u54, u55, u56, u57, u58, u59, u60, u61, u62, u63, u64, u65, u66, u67, u68, u69, u70, u71, u72, u73, s74, s75, s76, s77, s78, s79, s80, u81, u82, u83, u84, u85, u86, u87, u88, u89, u90, u91, u92, u93, u94, u95, u96, u97, u98, u99, u100, u101, u102, u103, u104, u105, u106, u107, u108, u109, u110, u111, u112, u113, u114, u115, u116, u117, u118, u119, u120, u121, u122, u123, u124, u125, u126, u127, u128, u129, u130, u131, u132, u133, u134, u135, u136, u137, u138, u139], []⟩ W') :
    Code.wp Try.prog (part Try.f28 [1, 1, 1, 0, 1, 2, 2, 1, 1, 0, 2, 1, 1, 1, 0, 2, 1, 3, 1, 0]) Q ⟨#[u0, u1, u2, v, .slice (some ⟨gk, 0, none⟩) 8 8, u5, .pointer (some ⟨gc, 0, none⟩), .pointer (some ⟨gr, 0, none⟩), .int .i64 tn, u9, u10, u11, u12, u13, u14, u15, u16, u17, u18, u19, u20, u21, u22, u23, u24, u25, u26, u27, u28, u29, u30, u31, u32, u33, u34, u35, u36, u37, u38, u39, u40, u41, u42, u43, u44, u45, u46, u47, u48, u49, u50, u51, u52, u53, u54, u55, u56, u57, u58, u59, u60, u61, u62, u63, u64, u65, u66, u67, u68, u69, u70, u71, u72, u73, u74, u75, u76, u77, u78, u79, u80, u81, u82, u83, u84, u85, u86, u87, u88, u89, u90, u91, u92, u93, u94, u95, u96, u97, u98, u99, u100, u101, u102, u103, u104, u105, u106, u107, u108, u109, u110, u111, u112, u113, u114, u115, u116, u117, u118, u119, u120, u121, u122, u123, u124, u125, u126, u127, u128, u129, u130, u131, u132, u133, u134, u135, u136, u137, u138, u139], []⟩ wx := by
  conv => arg 2; whnf
  have HQ := Lib.hid hQ
  clear hQ
  obtain ⟨⟨hk1, hk2, hk3, hk4⟩, hk5, hk6⟩ := hM
  obtain ⟨q0, q1, q2, q3, q4, q5, q6, q7, q8, q9, q10, q11⟩ := req_cells hk5
  obtain ⟨c0, c1, c2, c3, c4, c5⟩ := cod_cells hk2
  have HM := Lib.hid (show MIn w gk gc gr v n xs c r wx from ⟨⟨hk1, hk2, hk3, hk4⟩, hk5, hk6⟩)
  have HR := Lib.hid hr
  have HC := Lib.hid hc
  clear hr hc
  have f3 := hk5.frozen 3
  clear hk1 hk2 hk3 hk4 hk5 hk6
  go_wp2
  all_goals first
    | exact HQ.out _ _ _ _ _ _ _ r _ HM.out HR.out
    | exact HQ.out _ _ _ _ _ _ _ ⟨r.deed, r.ten, r.gen, 1, r.key, r.val, r.old, r.lim, r.tenant, r.qk, r.qb, r.rights⟩ _ (HM.out.store 3 rfl) ⟨HR.out.deed, HR.out.ten, HR.out.gen, ⟨by dsimp only; decide, by dsimp only; decide⟩, HR.out.key, HR.out.val, HR.out.old, HR.out.lim, HR.out.tenant, HR.out.qk, HR.out.qb, HR.out.rights⟩

set_option maxHeartbeats 3200000 in
set_option maxRecDepth 100000 in
theorem m17 {gk gc gr n : Nat} {v : Value} {xs : List Value} {c : Cod} {r : Req} {tn : Int} {u0 u1 u2 u5 u9 u10 u11 u12 u13 u14 u15 u16 u17 u18 u19 u20 u21 u22 u23 u24 u25 u26 u27 u28 u29 u30 u31 u32 u33 u34 u35 u36 u37 u38 u39 u40 u41 u42 u43 u44 u45 u46 u47 u48 u49 u50 u51 u52 u53 u54 u55 u56 u57 u58 u59 u60 u61 u62 u63 u64 u65 u66 u67 u68 u69 u70 u71 u72 u73 u74 u75 u76 u77 u78 u79 u80 u81 u82 u83 u84 u85 u86 u87 u88 u89 u90 u91 u92 u93 u94 u95 u96 u97 u98 u99 u100 u101 u102 u103 u104 u105 u106 u107 u108 u109 u110 u111 u112 u113 u114 u115 u116 u117 u118 u119 u120 u121 u122 u123 u124 u125 u126 u127 u128 u129 u130 u131 u132 u133 u134 u135 u136 u137 u138 u139 : Value} (w wx : World) {Q : Exit → Act → World → Prop} (hM : MIn w gk gc gr v n xs c r wx) (hr : Small r) (hc : c.ok) (htn : 1 ≤ tn ∧ tn ≤ 2)
    (hQ : ∀ (s81 s82 s83 s84 s85 s86 s87 s88 s89 s90 : Value) (r' : Req) (W' : World), MIn w gk gc gr v n xs c r' W' → Small r' → Q .normal ⟨#[u0, u1, u2, v, .slice (some ⟨gk, 0, none⟩) 8 8, u5, .pointer (some ⟨gc, 0, none⟩), .pointer (some ⟨gr, 0, none⟩), .int .i64 tn, u9, u10, u11, u12, u13, u14, u15, u16, u17, u18, u19, u20, u21, u22, u23, u24, u25, u26, u27, u28, u29, u30, u31, u32, u33, u34, u35, u36, u37, u38, u39, u40, u41, u42, u43, u44, u45, u46, u47, u48, u49, u50, u51, u52, u53, u54, u55, u56, u57, u58, u59, u60, u61, u62, u63, u64, u65, u66, u67, u68, u69, u70, u71, u72, u73, u74, u75, u76, u77, u78, u79, u80, s81, s82, s83, s84, s85, s86, s87, s88, s89, s90, u91, u92, u93, u94, u95, u96, u97, u98, u99, u100, u101, u102, u103, u104, u105, u106, u107, u108, u109, u110, u111, u112, u113, u114, u115, u116, u117, u118, u119, u120, u121, u122, u123, u124, u125, u126, u127, u128, u129, u130, u131, u132, u133, u134, u135, u136, u137, u138, u139], []⟩ W') :
    Code.wp Try.prog (part Try.f28 [1, 1, 1, 0, 1, 2, 2, 1, 1, 0, 2, 1, 1, 1, 0, 2, 1, 3, 1, 1, 0]) Q ⟨#[u0, u1, u2, v, .slice (some ⟨gk, 0, none⟩) 8 8, u5, .pointer (some ⟨gc, 0, none⟩), .pointer (some ⟨gr, 0, none⟩), .int .i64 tn, u9, u10, u11, u12, u13, u14, u15, u16, u17, u18, u19, u20, u21, u22, u23, u24, u25, u26, u27, u28, u29, u30, u31, u32, u33, u34, u35, u36, u37, u38, u39, u40, u41, u42, u43, u44, u45, u46, u47, u48, u49, u50, u51, u52, u53, u54, u55, u56, u57, u58, u59, u60, u61, u62, u63, u64, u65, u66, u67, u68, u69, u70, u71, u72, u73, u74, u75, u76, u77, u78, u79, u80, u81, u82, u83, u84, u85, u86, u87, u88, u89, u90, u91, u92, u93, u94, u95, u96, u97, u98, u99, u100, u101, u102, u103, u104, u105, u106, u107, u108, u109, u110, u111, u112, u113, u114, u115, u116, u117, u118, u119, u120, u121, u122, u123, u124, u125, u126, u127, u128, u129, u130, u131, u132, u133, u134, u135, u136, u137, u138, u139], []⟩ wx := by
  conv => arg 2; whnf
  have HQ := Lib.hid hQ
  clear hQ
  obtain ⟨⟨hk1, hk2, hk3, hk4⟩, hk5, hk6⟩ := hM
  obtain ⟨q0, q1, q2, q3, q4, q5, q6, q7, q8, q9, q10, q11⟩ := req_cells hk5
  obtain ⟨c0, c1, c2, c3, c4, c5⟩ := cod_cells hk2
  have HM := Lib.hid (show MIn w gk gc gr v n xs c r wx from ⟨⟨hk1, hk2, hk3, hk4⟩, hk5, hk6⟩)
  have HR := Lib.hid hr
  have HC := Lib.hid hc
  clear hr hc
  have f4 := hk5.frozen 4
  obtain ⟨y0, y1, y2, y3, y4, y5, y6, y7⟩ := kw_cells hk1
  obtain ⟨b, hb, hb0, hb1⟩ := tmod_in (x := c.k) 8 (by have := HC.out; obtain ⟨⟨_, _⟩, ⟨_, _⟩, ⟨_, _⟩, ⟨_, _⟩, ⟨_, _⟩, ⟨_, _⟩⟩ := this; omega) (by decide)
  clear hk1 hk2 hk3 hk4 hk5 hk6
  have hbc : b = 0 ∨ b = 1 ∨ b = 2 ∨ b = 3 ∨ b = 4 ∨ b = 5 ∨ b = 6 ∨ b = 7 := by omega
  clear hb0 hb1
  rcases hbc with rfl | rfl | rfl | rfl | rfl | rfl | rfl | rfl
  all_goals
    go_wp2
    all_goals first
      | exact HQ.out _ _ _ _ _ _ _ _ _ _ r _ HM.out HR.out
      | exact HQ.out _ _ _ _ _ _ _ _ _ _ ⟨r.deed, r.ten, r.gen, r.rig, ⟨#[97]⟩, r.val, r.old, r.lim, r.tenant, r.qk, r.qb, r.rights⟩ _ (HM.out.store 4 (r' := ⟨r.deed, r.ten, r.gen, r.rig, ⟨#[97]⟩, r.val, r.old, r.lim, r.tenant, r.qk, r.qb, r.rights⟩) rfl) ⟨HR.out.deed, HR.out.ten, HR.out.gen, HR.out.rig, by dsimp only; decide, HR.out.val, HR.out.old, HR.out.lim, HR.out.tenant, HR.out.qk, HR.out.qb, HR.out.rights⟩
      | exact HQ.out _ _ _ _ _ _ _ _ _ _ ⟨r.deed, r.ten, r.gen, r.rig, ⟨#[98]⟩, r.val, r.old, r.lim, r.tenant, r.qk, r.qb, r.rights⟩ _ (HM.out.store 4 (r' := ⟨r.deed, r.ten, r.gen, r.rig, ⟨#[98]⟩, r.val, r.old, r.lim, r.tenant, r.qk, r.qb, r.rights⟩) rfl) ⟨HR.out.deed, HR.out.ten, HR.out.gen, HR.out.rig, by dsimp only; decide, HR.out.val, HR.out.old, HR.out.lim, HR.out.tenant, HR.out.qk, HR.out.qb, HR.out.rights⟩
      | exact HQ.out _ _ _ _ _ _ _ _ _ _ ⟨r.deed, r.ten, r.gen, r.rig, ⟨#[97, 98]⟩, r.val, r.old, r.lim, r.tenant, r.qk, r.qb, r.rights⟩ _ (HM.out.store 4 (r' := ⟨r.deed, r.ten, r.gen, r.rig, ⟨#[97, 98]⟩, r.val, r.old, r.lim, r.tenant, r.qk, r.qb, r.rights⟩) rfl) ⟨HR.out.deed, HR.out.ten, HR.out.gen, HR.out.rig, by dsimp only; decide, HR.out.val, HR.out.old, HR.out.lim, HR.out.tenant, HR.out.qk, HR.out.qb, HR.out.rights⟩
      | exact HQ.out _ _ _ _ _ _ _ _ _ _ ⟨r.deed, r.ten, r.gen, r.rig, ⟨#[]⟩, r.val, r.old, r.lim, r.tenant, r.qk, r.qb, r.rights⟩ _ (HM.out.store 4 (r' := ⟨r.deed, r.ten, r.gen, r.rig, ⟨#[]⟩, r.val, r.old, r.lim, r.tenant, r.qk, r.qb, r.rights⟩) rfl) ⟨HR.out.deed, HR.out.ten, HR.out.gen, HR.out.rig, by dsimp only; decide, HR.out.val, HR.out.old, HR.out.lim, HR.out.tenant, HR.out.qk, HR.out.qb, HR.out.rights⟩
      | exact HQ.out _ _ _ _ _ _ _ _ _ _ ⟨r.deed, r.ten, r.gen, r.rig, ⟨#[97, 0]⟩, r.val, r.old, r.lim, r.tenant, r.qk, r.qb, r.rights⟩ _ (HM.out.store 4 (r' := ⟨r.deed, r.ten, r.gen, r.rig, ⟨#[97, 0]⟩, r.val, r.old, r.lim, r.tenant, r.qk, r.qb, r.rights⟩) rfl) ⟨HR.out.deed, HR.out.ten, HR.out.gen, HR.out.rig, by dsimp only; decide, HR.out.val, HR.out.old, HR.out.lim, HR.out.tenant, HR.out.qk, HR.out.qb, HR.out.rights⟩
      | exact HQ.out _ _ _ _ _ _ _ _ _ _ ⟨r.deed, r.ten, r.gen, r.rig, ⟨#[97, 98, 99, 100]⟩, r.val, r.old, r.lim, r.tenant, r.qk, r.qb, r.rights⟩ _ (HM.out.store 4 (r' := ⟨r.deed, r.ten, r.gen, r.rig, ⟨#[97, 98, 99, 100]⟩, r.val, r.old, r.lim, r.tenant, r.qk, r.qb, r.rights⟩) rfl) ⟨HR.out.deed, HR.out.ten, HR.out.gen, HR.out.rig, by dsimp only; decide, HR.out.val, HR.out.old, HR.out.lim, HR.out.tenant, HR.out.qk, HR.out.qb, HR.out.rights⟩
      | exact HQ.out _ _ _ _ _ _ _ _ _ _ ⟨r.deed, r.ten, r.gen, r.rig, ⟨#[97, 99]⟩, r.val, r.old, r.lim, r.tenant, r.qk, r.qb, r.rights⟩ _ (HM.out.store 4 (r' := ⟨r.deed, r.ten, r.gen, r.rig, ⟨#[97, 99]⟩, r.val, r.old, r.lim, r.tenant, r.qk, r.qb, r.rights⟩) rfl) ⟨HR.out.deed, HR.out.ten, HR.out.gen, HR.out.rig, by dsimp only; decide, HR.out.val, HR.out.old, HR.out.lim, HR.out.tenant, HR.out.qk, HR.out.qb, HR.out.rights⟩

set_option maxHeartbeats 3200000 in
set_option maxRecDepth 100000 in
theorem m19 {gk gc gr n : Nat} {v : Value} {xs : List Value} {c : Cod} {r : Req} {tn : Int} {u0 u1 u2 u5 u9 u10 u11 u12 u13 u14 u15 u16 u17 u18 u19 u20 u21 u22 u23 u24 u25 u26 u27 u28 u29 u30 u31 u32 u33 u34 u35 u36 u37 u38 u39 u40 u41 u42 u43 u44 u45 u46 u47 u48 u49 u50 u51 u52 u53 u54 u55 u56 u57 u58 u59 u60 u61 u62 u63 u64 u65 u66 u67 u68 u69 u70 u71 u72 u73 u74 u75 u76 u77 u78 u79 u80 u81 u82 u83 u84 u85 u86 u87 u88 u89 u90 u91 u92 u93 u94 u95 u96 u97 u98 u99 u100 u101 u102 u103 u104 u105 u106 u107 u108 u109 u110 u111 u112 u113 u114 u115 u116 u117 u118 u119 u120 u121 u122 u123 u124 u125 u126 u127 u128 u129 u130 u131 u132 u133 u134 u135 u136 u137 u138 u139 : Value} (w wx : World) {Q : Exit → Act → World → Prop} (hM : MIn w gk gc gr v n xs c r wx) (hr : Small r) (hc : c.ok) (htn : 1 ≤ tn ∧ tn ≤ 2)
    (hQ : ∀ (s91 s92 s93 s94 : Value) (r' : Req) (W' : World), MIn w gk gc gr v n xs c r' W' → Small r' → Q .normal ⟨#[u0, u1, u2, v, .slice (some ⟨gk, 0, none⟩) 8 8, u5, .pointer (some ⟨gc, 0, none⟩), .pointer (some ⟨gr, 0, none⟩), .int .i64 tn, u9, u10, u11, u12, u13, u14, u15, u16, u17, u18, u19, u20, u21, u22, u23, u24, u25, u26, u27, u28, u29, u30, u31, u32, u33, u34, u35, u36, u37, u38, u39, u40, u41, u42, u43, u44, u45, u46, u47, u48, u49, u50, u51, u52, u53, u54, u55, u56, u57, u58, u59, u60, u61, u62, u63, u64, u65, u66, u67, u68, u69, u70, u71, u72, u73, u74, u75, u76, u77, u78, u79, u80, u81, u82, u83, u84, u85, u86, u87, u88, u89, u90, s91, s92, s93, s94, u95, u96, u97, u98, u99, u100, u101, u102, u103, u104, u105, u106, u107, u108, u109, u110, u111, u112, u113, u114, u115, u116, u117, u118, u119, u120, u121, u122, u123, u124, u125, u126, u127, u128, u129, u130, u131, u132, u133, u134, u135, u136, u137, u138, u139], []⟩ W') :
    Code.wp Try.prog (part Try.f28 [1, 1, 1, 0, 1, 2, 2, 1, 1, 0, 2, 1, 1, 1, 0, 2, 1, 3, 1, 1, 1, 0]) Q ⟨#[u0, u1, u2, v, .slice (some ⟨gk, 0, none⟩) 8 8, u5, .pointer (some ⟨gc, 0, none⟩), .pointer (some ⟨gr, 0, none⟩), .int .i64 tn, u9, u10, u11, u12, u13, u14, u15, u16, u17, u18, u19, u20, u21, u22, u23, u24, u25, u26, u27, u28, u29, u30, u31, u32, u33, u34, u35, u36, u37, u38, u39, u40, u41, u42, u43, u44, u45, u46, u47, u48, u49, u50, u51, u52, u53, u54, u55, u56, u57, u58, u59, u60, u61, u62, u63, u64, u65, u66, u67, u68, u69, u70, u71, u72, u73, u74, u75, u76, u77, u78, u79, u80, u81, u82, u83, u84, u85, u86, u87, u88, u89, u90, u91, u92, u93, u94, u95, u96, u97, u98, u99, u100, u101, u102, u103, u104, u105, u106, u107, u108, u109, u110, u111, u112, u113, u114, u115, u116, u117, u118, u119, u120, u121, u122, u123, u124, u125, u126, u127, u128, u129, u130, u131, u132, u133, u134, u135, u136, u137, u138, u139], []⟩ wx := by
  conv => arg 2; whnf
  have HQ := Lib.hid hQ
  clear hQ
  obtain ⟨⟨hk1, hk2, hk3, hk4⟩, hk5, hk6⟩ := hM
  obtain ⟨q0, q1, q2, q3, q4, q5, q6, q7, q8, q9, q10, q11⟩ := req_cells hk5
  obtain ⟨c0, c1, c2, c3, c4, c5⟩ := cod_cells hk2
  have HM := Lib.hid (show MIn w gk gc gr v n xs c r wx from ⟨⟨hk1, hk2, hk3, hk4⟩, hk5, hk6⟩)
  have HR := Lib.hid hr
  have HC := Lib.hid hc
  clear hr hc
  have f4 := hk5.frozen 4
  clear hk1 hk2 hk3 hk4 hk5 hk6
  go_wp2
  all_goals first
    | exact HQ.out _ _ _ _ r _ HM.out HR.out
    | exact HQ.out _ _ _ _ ⟨r.deed, r.ten, r.gen, r.rig, ⟨#[97, 32, 107, 101, 121, 32, 116, 104, 97, 116, 32, 105, 115, 32, 116, 111, 111, 32, 108, 111, 110, 103]⟩, r.val, r.old, r.lim, r.tenant, r.qk, r.qb, r.rights⟩ _ (HM.out.store 4 rfl) ⟨HR.out.deed, HR.out.ten, HR.out.gen, HR.out.rig, by dsimp only; decide, HR.out.val, HR.out.old, HR.out.lim, HR.out.tenant, HR.out.qk, HR.out.qb, HR.out.rights⟩

end Go.Proofs.Ytlmehmmdbdembaa
