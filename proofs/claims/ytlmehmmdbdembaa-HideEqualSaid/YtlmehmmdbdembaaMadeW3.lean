/-
  Walks: burgagelaw27.Made, texts and numbers.
-/
import Derived.Test.YtlmehmmdbdembaaMadeM
namespace Go.Proofs.Ytlmehmmdbdembaa
open Go.RowKit
set_option linter.unusedVariables false
set_option linter.unusedSimpArgs false

set_option maxHeartbeats 3200000 in
set_option maxRecDepth 100000 in
theorem m21 {gk gc gr n : Nat} {v : Value} {xs : List Value} {c : Cod} {r : Req} {tn : Int} {u0 u1 u2 u5 u9 u10 u11 u12 u13 u14 u15 u16 u17 u18 u19 u20 u21 u22 u23 u24 u25 u26 u27 u28 u29 u30 u31 u32 u33 u34 u35 u36 u37 u38 u39 u40 u41 u42 u43 u44 u45 u46 u47 u48 u49 u50 u51 u52 u53 u54 u55 u56 u57 u58 u59 u60 u61 u62 u63 u64 u65 u66 u67 u68 u69 u70 u71 u72 u73 u74 u75 u76 u77 u78 u79 u80 u81 u82 u83 u84 u85 u86 u87 u88 u89 u90 u91 u92 u93 u94 u95 u96 u97 u98 u99 u100 u101 u102 u103 u104 u105 u106 u107 u108 u109 u110 u111 u112 u113 u114 u115 u116 u117 u118 u119 u120 u121 u122 u123 u124 u125 u126 u127 u128 u129 u130 u131 u132 u133 u134 u135 u136 u137 u138 u139 : Value} (w wx : World) {Q : Exit → Act → World → Prop} (hM : MIn w gk gc gr v n xs c r wx) (hr : Small r) (hc : c.ok) (htn : 1 ≤ tn ∧ tn ≤ 2)
    (hQ : ∀ (s95 s96 s97 s98 s99 s100 s101 s102 s103 s104 s105 s106 s107 s108 s109 : Value) (r' : Req) (W' : World), MIn w gk gc gr v n xs c r' W' → Small r' → Q .normal ⟨#[u0, u1, u2, v, .slice (some ⟨gk, 0, none⟩) 8 8, u5, .pointer (some ⟨gc, 0, none⟩), .pointer (some ⟨gr, 0, none⟩), .int .i64 tn, u9, u10, u11, u12, u13, u14, u15, u16, u17, u18, u19, u20, u21, u22, u23, u24, u25, u26, u27, u28, u29, u30, u31, u32, u33, u34, u35, u36, u37, u38, u39, u40, u41, u42, u43, u44, u45, u46, u47, u48, u49, u50, u51, u52, u53, u54, u55, u56, u57, u58, u59, u60, u61, u62, u63, u64, u65, u66, u67, u68, u69, u70, u71, u72, u73, u74, u75, u76, u77, u78, u79, u80, u81, u82, u83, u84, u85, u86, u87, u88, u89, u90, u91, u92, u93, u94, s95, s96, s97, s98, s99, s100, s101, s102, s103, s104, s105, s106, s107, s108, s109, u110, u111, u112, u113, u114, u115, u116, u117, u118, u119, u120, u121, u122, u123, u124, u125, u126, u127, u128, u129, u130, u131, u132, u133, u134, u135, u136, u137, u138, u139], []⟩ W') :
    Code.wp Try.prog (part Try.f28 [1, 1, 1, 0, 1, 2, 2, 1, 1, 0, 2, 1, 1, 1, 0, 2, 1, 3, 1, 1, 1, 1, 0]) Q ⟨#[u0, u1, u2, v, .slice (some ⟨gk, 0, none⟩) 8 8, u5, .pointer (some ⟨gc, 0, none⟩), .pointer (some ⟨gr, 0, none⟩), .int .i64 tn, u9, u10, u11, u12, u13, u14, u15, u16, u17, u18, u19, u20, u21, u22, u23, u24, u25, u26, u27, u28, u29, u30, u31, u32, u33, u34, u35, u36, u37, u38, u39, u40, u41, u42, u43, u44, u45, u46, u47, u48, u49, u50, u51, u52, u53, u54, u55, u56, u57, u58, u59, u60, u61, u62, u63, u64, u65, u66, u67, u68, u69, u70, u71, u72, u73, u74, u75, u76, u77, u78, u79, u80, u81, u82, u83, u84, u85, u86, u87, u88, u89, u90, u91, u92, u93, u94, u95, u96, u97, u98, u99, u100, u101, u102, u103, u104, u105, u106, u107, u108, u109, u110, u111, u112, u113, u114, u115, u116, u117, u118, u119, u120, u121, u122, u123, u124, u125, u126, u127, u128, u129, u130, u131, u132, u133, u134, u135, u136, u137, u138, u139], []⟩ wx := by
  conv => arg 2; whnf
  have HQ := Lib.hid hQ
  clear hQ
  obtain ⟨⟨hk1, hk2, hk3, hk4⟩, hk5, hk6⟩ := hM
  obtain ⟨q0, q1, q2, q3, q4, q5, q6, q7, q8, q9, q10, q11⟩ := req_cells hk5
  obtain ⟨c0, c1, c2, c3, c4, c5⟩ := cod_cells hk2
  have HM := Lib.hid (show MIn w gk gc gr v n xs c r wx from ⟨⟨hk1, hk2, hk3, hk4⟩, hk5, hk6⟩)
  have HR := Lib.hid hr
  have HC := Lib.hid hc
  clear hr hc
  have f5 := hk5.frozen 5
  have lc := hk2.lt
  have lr := hk5.lt
  have lk := hk1.lt
  obtain ⟨b, hb, hb0, hb1⟩ := tmod_in (x := c.v) 4 (by have := HC.out; obtain ⟨⟨_, _⟩, ⟨_, _⟩, ⟨_, _⟩, ⟨_, _⟩, ⟨_, _⟩, ⟨_, _⟩⟩ := this; omega) (by decide)
  clear hk1 hk2 hk3 hk4 hk5 hk6
  have hbc : b = 0 ∨ b = 1 ∨ b = 2 ∨ b = 3 := by omega
  clear hb0 hb1
  rcases hbc with rfl | rfl | rfl | rfl
  all_goals
    go_wp2
    all_goals first
      | exact HQ.out _ _ _ _ _ _ _ _ _ _ _ _ _ _ _ r _ HM.out HR.out
      | exact HQ.out _ _ _ _ _ _ _ _ _ _ _ _ _ _ _ ⟨r.deed, r.ten, r.gen, r.rig, r.key, ⟨#[120]⟩, r.old, r.lim, r.tenant, r.qk, r.qb, r.rights⟩ _ ((HM.out.store 5 (r' := ⟨r.deed, r.ten, r.gen, r.rig, r.key, ⟨#[120]⟩, r.old, r.lim, r.tenant, r.qk, r.qb, r.rights⟩) rfl).alloc _) ⟨HR.out.deed, HR.out.ten, HR.out.gen, HR.out.rig, HR.out.key, by dsimp only; decide, HR.out.old, HR.out.lim, HR.out.tenant, HR.out.qk, HR.out.qb, HR.out.rights⟩
      | exact HQ.out _ _ _ _ _ _ _ _ _ _ _ _ _ _ _ ⟨r.deed, r.ten, r.gen, r.rig, r.key, ⟨#[121]⟩, r.old, r.lim, r.tenant, r.qk, r.qb, r.rights⟩ _ ((HM.out.store 5 (r' := ⟨r.deed, r.ten, r.gen, r.rig, r.key, ⟨#[121]⟩, r.old, r.lim, r.tenant, r.qk, r.qb, r.rights⟩) rfl).alloc _) ⟨HR.out.deed, HR.out.ten, HR.out.gen, HR.out.rig, HR.out.key, by dsimp only; decide, HR.out.old, HR.out.lim, HR.out.tenant, HR.out.qk, HR.out.qb, HR.out.rights⟩
      | exact HQ.out _ _ _ _ _ _ _ _ _ _ _ _ _ _ _ ⟨r.deed, r.ten, r.gen, r.rig, r.key, ⟨#[]⟩, r.old, r.lim, r.tenant, r.qk, r.qb, r.rights⟩ _ ((HM.out.store 5 (r' := ⟨r.deed, r.ten, r.gen, r.rig, r.key, ⟨#[]⟩, r.old, r.lim, r.tenant, r.qk, r.qb, r.rights⟩) rfl).alloc _) ⟨HR.out.deed, HR.out.ten, HR.out.gen, HR.out.rig, HR.out.key, by dsimp only; decide, HR.out.old, HR.out.lim, HR.out.tenant, HR.out.qk, HR.out.qb, HR.out.rights⟩
      | exact HQ.out _ _ _ _ _ _ _ _ _ _ _ _ _ _ _ ⟨r.deed, r.ten, r.gen, r.rig, r.key, ⟨#[122, 122]⟩, r.old, r.lim, r.tenant, r.qk, r.qb, r.rights⟩ _ ((HM.out.store 5 (r' := ⟨r.deed, r.ten, r.gen, r.rig, r.key, ⟨#[122, 122]⟩, r.old, r.lim, r.tenant, r.qk, r.qb, r.rights⟩) rfl).alloc _) ⟨HR.out.deed, HR.out.ten, HR.out.gen, HR.out.rig, HR.out.key, by dsimp only; decide, HR.out.old, HR.out.lim, HR.out.tenant, HR.out.qk, HR.out.qb, HR.out.rights⟩

set_option maxHeartbeats 3200000 in
set_option maxRecDepth 100000 in
theorem m23 {gk gc gr n : Nat} {v : Value} {xs : List Value} {c : Cod} {r : Req} {tn : Int} {u0 u1 u2 u5 u9 u10 u11 u12 u13 u14 u15 u16 u17 u18 u19 u20 u21 u22 u23 u24 u25 u26 u27 u28 u29 u30 u31 u32 u33 u34 u35 u36 u37 u38 u39 u40 u41 u42 u43 u44 u45 u46 u47 u48 u49 u50 u51 u52 u53 u54 u55 u56 u57 u58 u59 u60 u61 u62 u63 u64 u65 u66 u67 u68 u69 u70 u71 u72 u73 u74 u75 u76 u77 u78 u79 u80 u81 u82 u83 u84 u85 u86 u87 u88 u89 u90 u91 u92 u93 u94 u95 u96 u97 u98 u99 u100 u101 u102 u103 u104 u105 u106 u107 u108 u109 u110 u111 u112 u113 u114 u115 u116 u117 u118 u119 u120 u121 u122 u123 u124 u125 u126 u127 u128 u129 u130 u131 u132 u133 u134 u135 u136 u137 u138 u139 : Value} (w wx : World) {Q : Exit → Act → World → Prop} (hM : MIn w gk gc gr v n xs c r wx) (hr : Small r) (hc : c.ok) (htn : 1 ≤ tn ∧ tn ≤ 2)
    (hQ : ∀ (s110 s111 s112 s113 s114 s115 s116 s117 s118 s119 s120 : Value) (r' : Req) (W' : World), MIn w gk gc gr v n xs c r' W' → Small r' → Q .normal ⟨#[u0, u1, u2, v, .slice (some ⟨gk, 0, none⟩) 8 8, u5, .pointer (some ⟨gc, 0, none⟩), .pointer (some ⟨gr, 0, none⟩), .int .i64 tn, u9, u10, u11, u12, u13, u14, u15, u16, u17, u18, u19, u20, u21, u22, u23, u24, u25, u26, u27, u28, u29, u30, u31, u32, u33, u34, u35, u36, u37, u38, u39, u40, u41, u42, u43, u44, u45, u46, u47, u48, u49, u50, u51, u52, u53, u54, u55, u56, u57, u58, u59, u60, u61, u62, u63, u64, u65, u66, u67, u68, u69, u70, u71, u72, u73, u74, u75, u76, u77, u78, u79, u80, u81, u82, u83, u84, u85, u86, u87, u88, u89, u90, u91, u92, u93, u94, u95, u96, u97, u98, u99, u100, u101, u102, u103, u104, u105, u106, u107, u108, u109, s110, s111, s112, s113, s114, s115, s116, s117, s118, s119, s120, u121, u122, u123, u124, u125, u126, u127, u128, u129, u130, u131, u132, u133, u134, u135, u136, u137, u138, u139], []⟩ W') :
    Code.wp Try.prog (part Try.f28 [1, 1, 1, 0, 1, 2, 2, 1, 1, 0, 2, 1, 1, 1, 0, 2, 1, 3, 1, 1, 1, 1, 1, 0]) Q ⟨#[u0, u1, u2, v, .slice (some ⟨gk, 0, none⟩) 8 8, u5, .pointer (some ⟨gc, 0, none⟩), .pointer (some ⟨gr, 0, none⟩), .int .i64 tn, u9, u10, u11, u12, u13, u14, u15, u16, u17, u18, u19, u20, u21, u22, u23, u24, u25, u26, u27, u28, u29, u30, u31, u32, u33, u34, u35, u36, u37, u38, u39, u40, u41, u42, u43, u44, u45, u46, u47, u48, u49, u50, u51, u52, u53, u54, u55, u56, u57, u58, u59, u60, u61, u62, u63, u64, u65, u66, u67, u68, u69, u70, u71, u72, u73, u74, u75, u76, u77, u78, u79, u80, u81, u82, u83, u84, u85, u86, u87, u88, u89, u90, u91, u92, u93, u94, u95, u96, u97, u98, u99, u100, u101, u102, u103, u104, u105, u106, u107, u108, u109, u110, u111, u112, u113, u114, u115, u116, u117, u118, u119, u120, u121, u122, u123, u124, u125, u126, u127, u128, u129, u130, u131, u132, u133, u134, u135, u136, u137, u138, u139], []⟩ wx := by
  conv => arg 2; whnf
  have HQ := Lib.hid hQ
  clear hQ
  obtain ⟨⟨hk1, hk2, hk3, hk4⟩, hk5, hk6⟩ := hM
  obtain ⟨q0, q1, q2, q3, q4, q5, q6, q7, q8, q9, q10, q11⟩ := req_cells hk5
  obtain ⟨c0, c1, c2, c3, c4, c5⟩ := cod_cells hk2
  have HM := Lib.hid (show MIn w gk gc gr v n xs c r wx from ⟨⟨hk1, hk2, hk3, hk4⟩, hk5, hk6⟩)
  have HR := Lib.hid hr
  have HC := Lib.hid hc
  clear hr hc
  have f6 := hk5.frozen 6
  have lc := hk2.lt
  have lr := hk5.lt
  have lk := hk1.lt
  obtain ⟨b, hb, hb0, hb1⟩ := tmod_in (x := c.v / 4) 4 (by have := HC.out; obtain ⟨⟨_, _⟩, ⟨_, _⟩, ⟨_, _⟩, ⟨_, _⟩, ⟨_, _⟩, ⟨_, _⟩⟩ := this; omega) (by decide)
  clear hk1 hk2 hk3 hk4 hk5 hk6
  have hbc : b = 0 ∨ b = 1 ∨ b = 2 ∨ b = 3 := by omega
  clear hb0 hb1
  rcases hbc with rfl | rfl | rfl | rfl
  all_goals
    go_wp2
    all_goals first
      | exact HQ.out _ _ _ _ _ _ _ _ _ _ _ r _ HM.out HR.out
      | exact HQ.out _ _ _ _ _ _ _ _ _ _ _ ⟨r.deed, r.ten, r.gen, r.rig, r.key, r.val, ⟨#[120]⟩, r.lim, r.tenant, r.qk, r.qb, r.rights⟩ _ ((HM.out.store 6 (r' := ⟨r.deed, r.ten, r.gen, r.rig, r.key, r.val, ⟨#[120]⟩, r.lim, r.tenant, r.qk, r.qb, r.rights⟩) rfl).alloc _) ⟨HR.out.deed, HR.out.ten, HR.out.gen, HR.out.rig, HR.out.key, HR.out.val, by dsimp only; decide, HR.out.lim, HR.out.tenant, HR.out.qk, HR.out.qb, HR.out.rights⟩
      | exact HQ.out _ _ _ _ _ _ _ _ _ _ _ ⟨r.deed, r.ten, r.gen, r.rig, r.key, r.val, ⟨#[121]⟩, r.lim, r.tenant, r.qk, r.qb, r.rights⟩ _ ((HM.out.store 6 (r' := ⟨r.deed, r.ten, r.gen, r.rig, r.key, r.val, ⟨#[121]⟩, r.lim, r.tenant, r.qk, r.qb, r.rights⟩) rfl).alloc _) ⟨HR.out.deed, HR.out.ten, HR.out.gen, HR.out.rig, HR.out.key, HR.out.val, by dsimp only; decide, HR.out.lim, HR.out.tenant, HR.out.qk, HR.out.qb, HR.out.rights⟩
      | exact HQ.out _ _ _ _ _ _ _ _ _ _ _ ⟨r.deed, r.ten, r.gen, r.rig, r.key, r.val, ⟨#[]⟩, r.lim, r.tenant, r.qk, r.qb, r.rights⟩ _ ((HM.out.store 6 (r' := ⟨r.deed, r.ten, r.gen, r.rig, r.key, r.val, ⟨#[]⟩, r.lim, r.tenant, r.qk, r.qb, r.rights⟩) rfl).alloc _) ⟨HR.out.deed, HR.out.ten, HR.out.gen, HR.out.rig, HR.out.key, HR.out.val, by dsimp only; decide, HR.out.lim, HR.out.tenant, HR.out.qk, HR.out.qb, HR.out.rights⟩
      | exact HQ.out _ _ _ _ _ _ _ _ _ _ _ ⟨r.deed, r.ten, r.gen, r.rig, r.key, r.val, ⟨#[122, 122]⟩, r.lim, r.tenant, r.qk, r.qb, r.rights⟩ _ ((HM.out.store 6 (r' := ⟨r.deed, r.ten, r.gen, r.rig, r.key, r.val, ⟨#[122, 122]⟩, r.lim, r.tenant, r.qk, r.qb, r.rights⟩) rfl).alloc _) ⟨HR.out.deed, HR.out.ten, HR.out.gen, HR.out.rig, HR.out.key, HR.out.val, by dsimp only; decide, HR.out.lim, HR.out.tenant, HR.out.qk, HR.out.qb, HR.out.rights⟩

set_option maxHeartbeats 3200000 in
set_option maxRecDepth 100000 in
theorem m25 {gk gc gr n : Nat} {v : Value} {xs : List Value} {c : Cod} {r : Req} {tn : Int} {u0 u1 u2 u5 u9 u10 u11 u12 u13 u14 u15 u16 u17 u18 u19 u20 u21 u22 u23 u24 u25 u26 u27 u28 u29 u30 u31 u32 u33 u34 u35 u36 u37 u38 u39 u40 u41 u42 u43 u44 u45 u46 u47 u48 u49 u50 u51 u52 u53 u54 u55 u56 u57 u58 u59 u60 u61 u62 u63 u64 u65 u66 u67 u68 u69 u70 u71 u72 u73 u74 u75 u76 u77 u78 u79 u80 u81 u82 u83 u84 u85 u86 u87 u88 u89 u90 u91 u92 u93 u94 u95 u96 u97 u98 u99 u100 u101 u102 u103 u104 u105 u106 u107 u108 u109 u110 u111 u112 u113 u114 u115 u116 u117 u118 u119 u120 u121 u122 u123 u124 u125 u126 u127 u128 u129 u130 u131 u132 u133 u134 u135 u136 u137 u138 u139 : Value} (w wx : World) {Q : Exit → Act → World → Prop} (hM : MIn w gk gc gr v n xs c r wx) (hr : Small r) (hc : c.ok) (htn : 1 ≤ tn ∧ tn ≤ 2)
    (hQ : ∀ (s121 s122 s123 s124 s125 s126 s127 s128 : Value) (r' : Req) (W' : World), MIn w gk gc gr v n xs c r' W' → Small r' → Q .normal ⟨#[u0, u1, u2, v, .slice (some ⟨gk, 0, none⟩) 8 8, u5, .pointer (some ⟨gc, 0, none⟩), .pointer (some ⟨gr, 0, none⟩), .int .i64 tn, u9, u10, u11, u12, u13, u14, u15, u16, u17, u18, u19, u20, u21, u22, u23, u24, u25, u26, u27, u28, u29, u30, u31, u32, u33, u34, u35, u36, u37, u38, u39, u40, u41, u42, u43, u44, u45, u46, u47, u48, u49, u50, u51, u52, u53, u54, u55, u56, u57, u58, u59, u60, u61, u62, u63, u64, u65, u66, u67, u68, u69, u70, u71, u72, u73, u74, u75, u76, u77, u78, u79, u80, u81, u82, u83, u84, u85, u86, u87, u88, u89, u90, u91, u92, u93, u94, u95, u96, u97, u98, u99, u100, u101, u102, u103, u104, u105, u106, u107, u108, u109, u110, u111, u112, u113, u114, u115, u116, u117, u118, u119, u120, s121, s122, s123, s124, s125, s126, s127, s128, u129, u130, u131, u132, u133, u134, u135, u136, u137, u138, u139], []⟩ W') :
    Code.wp Try.prog (part Try.f28 [1, 1, 1, 0, 1, 2, 2, 1, 1, 0, 2, 1, 1, 1, 0, 2, 1, 3, 1, 1, 1, 1, 1, 1]) Q ⟨#[u0, u1, u2, v, .slice (some ⟨gk, 0, none⟩) 8 8, u5, .pointer (some ⟨gc, 0, none⟩), .pointer (some ⟨gr, 0, none⟩), .int .i64 tn, u9, u10, u11, u12, u13, u14, u15, u16, u17, u18, u19, u20, u21, u22, u23, u24, u25, u26, u27, u28, u29, u30, u31, u32, u33, u34, u35, u36, u37, u38, u39, u40, u41, u42, u43, u44, u45, u46, u47, u48, u49, u50, u51, u52, u53, u54, u55, u56, u57, u58, u59, u60, u61, u62, u63, u64, u65, u66, u67, u68, u69, u70, u71, u72, u73, u74, u75, u76, u77, u78, u79, u80, u81, u82, u83, u84, u85, u86, u87, u88, u89, u90, u91, u92, u93, u94, u95, u96, u97, u98, u99, u100, u101, u102, u103, u104, u105, u106, u107, u108, u109, u110, u111, u112, u113, u114, u115, u116, u117, u118, u119, u120, u121, u122, u123, u124, u125, u126, u127, u128, u129, u130, u131, u132, u133, u134, u135, u136, u137, u138, u139], []⟩ wx := by
  conv => arg 2; whnf
  have HQ := Lib.hid hQ
  clear hQ
  obtain ⟨⟨hk1, hk2, hk3, hk4⟩, hk5, hk6⟩ := hM
  obtain ⟨q0, q1, q2, q3, q4, q5, q6, q7, q8, q9, q10, q11⟩ := req_cells hk5
  obtain ⟨c0, c1, c2, c3, c4, c5⟩ := cod_cells hk2
  have HM := Lib.hid (show MIn w gk gc gr v n xs c r wx from ⟨⟨hk1, hk2, hk3, hk4⟩, hk5, hk6⟩)
  have HR := Lib.hid hr
  have HC := Lib.hid hc
  clear hr hc
  have f7 := hk5.frozen 7
  obtain ⟨b, hb, hb0, hb1⟩ := tmod_in (x := c.x) 5 (by have := HC.out; obtain ⟨⟨_, _⟩, ⟨_, _⟩, ⟨_, _⟩, ⟨_, _⟩, ⟨_, _⟩, ⟨_, _⟩⟩ := this; omega) (by decide)
  clear hk1 hk2 hk3 hk4 hk5 hk6
  go_wp2
  all_goals first
    | exact HQ.out _ _ _ _ _ _ _ _ r _ HM.out HR.out
    | exact HQ.out _ _ _ _ _ _ _ _ ⟨r.deed, r.ten, r.gen, r.rig, r.key, r.val, r.old, b, r.tenant, r.qk, r.qb, r.rights⟩ _ (HM.out.store 7 rfl) ⟨HR.out.deed, HR.out.ten, HR.out.gen, HR.out.rig, HR.out.key, HR.out.val, HR.out.old, ⟨by dsimp only; omega, by dsimp only; omega⟩, HR.out.tenant, HR.out.qk, HR.out.qb, HR.out.rights⟩

set_option maxHeartbeats 3200000 in
set_option maxRecDepth 100000 in
theorem m8 {gk gc gr n : Nat} {v : Value} {xs : List Value} {c : Cod} {r : Req} {tn : Int} {u0 u1 u2 u5 u9 u10 u11 u12 u13 u14 u15 u16 u17 u18 u19 u20 u21 u22 u23 u24 u25 u26 u27 u28 u29 u30 u31 u32 u33 u34 u35 u36 u37 u38 u39 u40 u41 u42 u43 u44 u45 u46 u47 u48 u49 u50 u51 u52 u53 u54 u55 u56 u57 u58 u59 u60 u61 u62 u63 u64 u65 u66 u67 u68 u69 u70 u71 u72 u73 u74 u75 u76 u77 u78 u79 u80 u81 u82 u83 u84 u85 u86 u87 u88 u89 u90 u91 u92 u93 u94 u95 u96 u97 u98 u99 u100 u101 u102 u103 u104 u105 u106 u107 u108 u109 u110 u111 u112 u113 u114 u115 u116 u117 u118 u119 u120 u121 u122 u123 u124 u125 u126 u127 u128 u129 u130 u131 u132 u133 u134 u135 u136 u137 u138 u139 : Value} (w wx : World) {Q : Exit → Act → World → Prop} (hM : MIn w gk gc gr v n xs c r wx) (hr : Small r) (hc : c.ok) (htn : 1 ≤ tn ∧ tn ≤ 2)
    (hQ : ∀ (s39 s40 : Value) (r' : Req) (W' : World), MIn w gk gc gr v n xs c r' W' → Small r' → Q .normal ⟨#[u0, u1, u2, v, .slice (some ⟨gk, 0, none⟩) 8 8, u5, .pointer (some ⟨gc, 0, none⟩), .pointer (some ⟨gr, 0, none⟩), .int .i64 tn, u9, u10, u11, u12, u13, u14, u15, u16, u17, u18, u19, u20, u21, u22, u23, u24, u25, u26, u27, u28, u29, u30, u31, u32, u33, u34, u35, u36, u37, u38, s39, s40, u41, u42, u43, u44, u45, u46, u47, u48, u49, u50, u51, u52, u53, u54, u55, u56, u57, u58, u59, u60, u61, u62, u63, u64, u65, u66, u67, u68, u69, u70, u71, u72, u73, u74, u75, u76, u77, u78, u79, u80, u81, u82, u83, u84, u85, u86, u87, u88, u89, u90, u91, u92, u93, u94, u95, u96, u97, u98, u99, u100, u101, u102, u103, u104, u105, u106, u107, u108, u109, u110, u111, u112, u113, u114, u115, u116, u117, u118, u119, u120, u121, u122, u123, u124, u125, u126, u127, u128, u129, u130, u131, u132, u133, u134, u135, u136, u137, u138, u139], []⟩ W') :
    Code.wp Try.prog (part Try.f28 [1, 1, 1, 0, 1, 2, 2, 1, 1, 0, 2, 1, 1, 1, 0, 2, 1, 4, 0]) Q ⟨#[u0, u1, u2, v, .slice (some ⟨gk, 0, none⟩) 8 8, u5, .pointer (some ⟨gc, 0, none⟩), .pointer (some ⟨gr, 0, none⟩), .int .i64 tn, u9, u10, u11, u12, u13, u14, u15, u16, u17, u18, u19, u20, u21, u22, u23, u24, u25, u26, u27, u28, u29, u30, u31, u32, u33, u34, u35, u36, u37, u38, u39, u40, u41, u42, u43, u44, u45, u46, u47, u48, u49, u50, u51, u52, u53, u54, u55, u56, u57, u58, u59, u60, u61, u62, u63, u64, u65, u66, u67, u68, u69, u70, u71, u72, u73, u74, u75, u76, u77, u78, u79, u80, u81, u82, u83, u84, u85, u86, u87, u88, u89, u90, u91, u92, u93, u94, u95, u96, u97, u98, u99, u100, u101, u102, u103, u104, u105, u106, u107, u108, u109, u110, u111, u112, u113, u114, u115, u116, u117, u118, u119, u120, u121, u122, u123, u124, u125, u126, u127, u128, u129, u130, u131, u132, u133, u134, u135, u136, u137, u138, u139], []⟩ wx := by
  conv => arg 2; whnf
  have HQ := Lib.hid hQ
  clear hQ
  obtain ⟨⟨hk1, hk2, hk3, hk4⟩, hk5, hk6⟩ := hM
  obtain ⟨q0, q1, q2, q3, q4, q5, q6, q7, q8, q9, q10, q11⟩ := req_cells hk5
  obtain ⟨c0, c1, c2, c3, c4, c5⟩ := cod_cells hk2
  have HM := Lib.hid (show MIn w gk gc gr v n xs c r wx from ⟨⟨hk1, hk2, hk3, hk4⟩, hk5, hk6⟩)
  have HR := Lib.hid hr
  have HC := Lib.hid hc
  clear hr hc
  have f8 := hk5.frozen 8
  clear hk1 hk2 hk3 hk4 hk5 hk6
  go_wp2
  exact HQ.out _ _ ⟨r.deed, r.ten, r.gen, r.rig, r.key, r.val, r.old, r.lim, tn, r.qk, r.qb, r.rights⟩ _ (HM.out.store 8 rfl) ⟨HR.out.deed, HR.out.ten, HR.out.gen, HR.out.rig, HR.out.key, HR.out.val, HR.out.old, HR.out.lim, ⟨by dsimp only; omega, by dsimp only; omega⟩, HR.out.qk, HR.out.qb, HR.out.rights⟩

set_option maxHeartbeats 3200000 in
set_option maxRecDepth 100000 in
theorem m9 {gk gc gr n : Nat} {v : Value} {xs : List Value} {c : Cod} {r : Req} {tn : Int} {u0 u1 u2 u5 u9 u10 u11 u12 u13 u14 u15 u16 u17 u18 u19 u20 u21 u22 u23 u24 u25 u26 u27 u28 u29 u30 u31 u32 u33 u34 u35 u36 u37 u38 u39 u40 u41 u42 u43 u44 u45 u46 u47 u48 u49 u50 u51 u52 u53 u54 u55 u56 u57 u58 u59 u60 u61 u62 u63 u64 u65 u66 u67 u68 u69 u70 u71 u72 u73 u74 u75 u76 u77 u78 u79 u80 u81 u82 u83 u84 u85 u86 u87 u88 u89 u90 u91 u92 u93 u94 u95 u96 u97 u98 u99 u100 u101 u102 u103 u104 u105 u106 u107 u108 u109 u110 u111 u112 u113 u114 u115 u116 u117 u118 u119 u120 u121 u122 u123 u124 u125 u126 u127 u128 u129 u130 u131 u132 u133 u134 u135 u136 u137 u138 u139 : Value} (w wx : World) {Q : Exit → Act → World → Prop} (hM : MIn w gk gc gr v n xs c r wx) (hr : Small r) (hc : c.ok) (htn : 1 ≤ tn ∧ tn ≤ 2)
    (hQ : ∀ (s41 s42 s43 s44 s45 s46 s47 s48 s49 s50 s51 s52 s53 : Value) (r' : Req) (W' : World), MIn w gk gc gr v n xs c r' W' → Small r' → Q .normal ⟨#[u0, u1, u2, v, .slice (some ⟨gk, 0, none⟩) 8 8, u5, .pointer (some ⟨gc, 0, none⟩), .pointer (some ⟨gr, 0, none⟩), .int .i64 tn, u9, u10, u11, u12, u13, u14, u15, u16, u17, u18, u19, u20, u21, u22, u23, u24, u25, u26, u27, u28, u29, u30, u31, u32, u33, u34, u35, u36, u37, u38, u39, u40, s41, s42, s43, s44, s45, s46, s47, s48, s49, s50, s51, s52, s53, u54, u55, u56, u57, u58, u59, u60, u61, u62, u63, u64, u65, u66, u67, u68, u69, u70, u71, u72, u73, u74, u75, u76, u77, u78, u79, u80, u81, u82, u83, u84, u85, u86, u87, u88, u89, u90, u91, u92, u93, u94, u95, u96, u97, u98, u99, u100, u101, u102, u103, u104, u105, u106, u107, u108, u109, u110, u111, u112, u113, u114, u115, u116, u117, u118, u119, u120, u121, u122, u123, u124, u125, u126, u127, u128, u129, u130, u131, u132, u133, u134, u135, u136, u137, u138, u139], []⟩ W') :
    Code.wp Try.prog (part Try.f28 [1, 1, 1, 0, 1, 2, 2, 1, 1, 0, 2, 1, 1, 1, 0, 2, 1, 4, 1, 0]) Q ⟨#[u0, u1, u2, v, .slice (some ⟨gk, 0, none⟩) 8 8, u5, .pointer (some ⟨gc, 0, none⟩), .pointer (some ⟨gr, 0, none⟩), .int .i64 tn, u9, u10, u11, u12, u13, u14, u15, u16, u17, u18, u19, u20, u21, u22, u23, u24, u25, u26, u27, u28, u29, u30, u31, u32, u33, u34, u35, u36, u37, u38, u39, u40, u41, u42, u43, u44, u45, u46, u47, u48, u49, u50, u51, u52, u53, u54, u55, u56, u57, u58, u59, u60, u61, u62, u63, u64, u65, u66, u67, u68, u69, u70, u71, u72, u73, u74, u75, u76, u77, u78, u79, u80, u81, u82, u83, u84, u85, u86, u87, u88, u89, u90, u91, u92, u93, u94, u95, u96, u97, u98, u99, u100, u101, u102, u103, u104, u105, u106, u107, u108, u109, u110, u111, u112, u113, u114, u115, u116, u117, u118, u119, u120, u121, u122, u123, u124, u125, u126, u127, u128, u129, u130, u131, u132, u133, u134, u135, u136, u137, u138, u139], []⟩ wx := by
  conv => arg 2; whnf
  have HQ := Lib.hid hQ
  clear hQ
  obtain ⟨⟨hk1, hk2, hk3, hk4⟩, hk5, hk6⟩ := hM
  obtain ⟨q0, q1, q2, q3, q4, q5, q6, q7, q8, q9, q10, q11⟩ := req_cells hk5
  obtain ⟨c0, c1, c2, c3, c4, c5⟩ := cod_cells hk2
  have HM := Lib.hid (show MIn w gk gc gr v n xs c r wx from ⟨⟨hk1, hk2, hk3, hk4⟩, hk5, hk6⟩)
  have HR := Lib.hid hr
  have HC := Lib.hid hc
  clear hr hc
  have f9 := hk5.frozen 9
  have f10 := hk5.frozen 10
  obtain ⟨b, hb, hb0, hb1⟩ := tmod_in (x := c.k) 5 (by have := HC.out; obtain ⟨⟨_, _⟩, ⟨_, _⟩, ⟨_, _⟩, ⟨_, _⟩, ⟨_, _⟩, ⟨_, _⟩⟩ := this; omega) (by decide)
  obtain ⟨d, hd, hd0, hd1⟩ := tmod_in (x := c.x) 40 (by have := HC.out; obtain ⟨⟨_, _⟩, ⟨_, _⟩, ⟨_, _⟩, ⟨_, _⟩, ⟨_, _⟩, ⟨_, _⟩⟩ := this; omega) (by decide)
  clear hk1 hk2 hk3 hk4 hk5 hk6
  go_wp2
  all_goals first
    | exact HQ.out _ _ _ _ _ _ _ _ _ _ _ _ _ r _ HM.out HR.out
    | exact HQ.out _ _ _ _ _ _ _ _ _ _ _ _ _ ⟨r.deed, r.ten, r.gen, r.rig, r.key, r.val, r.old, r.lim, r.tenant, b, d, r.rights⟩ _ ((HM.out.store 9 (r' := ⟨r.deed, r.ten, r.gen, r.rig, r.key, r.val, r.old, r.lim, r.tenant, b, r.qb, r.rights⟩) rfl).store 10 rfl) ⟨HR.out.deed, HR.out.ten, HR.out.gen, HR.out.rig, HR.out.key, HR.out.val, HR.out.old, HR.out.lim, HR.out.tenant, ⟨by dsimp only; omega, by dsimp only; omega⟩, ⟨by dsimp only; omega, by dsimp only; omega⟩, HR.out.rights⟩

set_option maxHeartbeats 3200000 in
set_option maxRecDepth 100000 in
theorem m11 {gk gc gr n : Nat} {v : Value} {xs : List Value} {c : Cod} {r : Req} {tn : Int} {u0 u1 u2 u5 u9 u10 u11 u12 u13 u14 u15 u16 u17 u18 u19 u20 u21 u22 u23 u24 u25 u26 u27 u28 u29 u30 u31 u32 u33 u34 u35 u36 u37 u38 u39 u40 u41 u42 u43 u44 u45 u46 u47 u48 u49 u50 u51 u52 u53 u54 u55 u56 u57 u58 u59 u60 u61 u62 u63 u64 u65 u66 u67 u68 u69 u70 u71 u72 u73 u74 u75 u76 u77 u78 u79 u80 u81 u82 u83 u84 u85 u86 u87 u88 u89 u90 u91 u92 u93 u94 u95 u96 u97 u98 u99 u100 u101 u102 u103 u104 u105 u106 u107 u108 u109 u110 u111 u112 u113 u114 u115 u116 u117 u118 u119 u120 u121 u122 u123 u124 u125 u126 u127 u128 u129 u130 u131 u132 u133 u134 u135 u136 u137 u138 u139 : Value} (w wx : World) {Q : Exit → Act → World → Prop} (hM : MIn w gk gc gr v n xs c r wx) (hr : Small r) (hc : c.ok) (htn : 1 ≤ tn ∧ tn ≤ 2)
    (hQ : ∀ (s54 s55 s56 s57 s58 s59 s60 : Value) (r' : Req) (W' : World), MIn w gk gc gr v n xs c r' W' → Small r' → Q .normal ⟨#[u0, u1, u2, v, .slice (some ⟨gk, 0, none⟩) 8 8, u5, .pointer (some ⟨gc, 0, none⟩), .pointer (some ⟨gr, 0, none⟩), .int .i64 tn, u9, u10, u11, u12, u13, u14, u15, u16, u17, u18, u19, u20, u21, u22, u23, u24, u25, u26, u27, u28, u29, u30, u31, u32, u33, u34, u35, u36, u37, u38, u39, u40, u41, u42, u43, u44, u45, u46, u47, u48, u49, u50, u51, u52, u53, s54, s55, s56, s57, s58, s59, s60, u61, u62, u63, u64, u65, u66, u67, u68, u69, u70, u71, u72, u73, u74, u75, u76, u77, u78, u79, u80, u81, u82, u83, u84, u85, u86, u87, u88, u89, u90, u91, u92, u93, u94, u95, u96, u97, u98, u99, u100, u101, u102, u103, u104, u105, u106, u107, u108, u109, u110, u111, u112, u113, u114, u115, u116, u117, u118, u119, u120, u121, u122, u123, u124, u125, u126, u127, u128, u129, u130, u131, u132, u133, u134, u135, u136, u137, u138, u139], []⟩ W') :
    Code.wp Try.prog (part Try.f28 [1, 1, 1, 0, 1, 2, 2, 1, 1, 0, 2, 1, 1, 1, 0, 2, 1, 4, 1, 1]) Q ⟨#[u0, u1, u2, v, .slice (some ⟨gk, 0, none⟩) 8 8, u5, .pointer (some ⟨gc, 0, none⟩), .pointer (some ⟨gr, 0, none⟩), .int .i64 tn, u9, u10, u11, u12, u13, u14, u15, u16, u17, u18, u19, u20, u21, u22, u23, u24, u25, u26, u27, u28, u29, u30, u31, u32, u33, u34, u35, u36, u37, u38, u39, u40, u41, u42, u43, u44, u45, u46, u47, u48, u49, u50, u51, u52, u53, u54, u55, u56, u57, u58, u59, u60, u61, u62, u63, u64, u65, u66, u67, u68, u69, u70, u71, u72, u73, u74, u75, u76, u77, u78, u79, u80, u81, u82, u83, u84, u85, u86, u87, u88, u89, u90, u91, u92, u93, u94, u95, u96, u97, u98, u99, u100, u101, u102, u103, u104, u105, u106, u107, u108, u109, u110, u111, u112, u113, u114, u115, u116, u117, u118, u119, u120, u121, u122, u123, u124, u125, u126, u127, u128, u129, u130, u131, u132, u133, u134, u135, u136, u137, u138, u139], []⟩ wx := by
  conv => arg 2; whnf
  have HQ := Lib.hid hQ
  clear hQ
  obtain ⟨⟨hk1, hk2, hk3, hk4⟩, hk5, hk6⟩ := hM
  obtain ⟨q0, q1, q2, q3, q4, q5, q6, q7, q8, q9, q10, q11⟩ := req_cells hk5
  obtain ⟨c0, c1, c2, c3, c4, c5⟩ := cod_cells hk2
  have HM := Lib.hid (show MIn w gk gc gr v n xs c r wx from ⟨⟨hk1, hk2, hk3, hk4⟩, hk5, hk6⟩)
  have HR := Lib.hid hr
  have HC := Lib.hid hc
  clear hr hc
  have f11 := hk5.frozen 11
  obtain ⟨b, hb, hb0, hb1⟩ := tmod_in (x := c.k) 9 (by have := HC.out; obtain ⟨⟨_, _⟩, ⟨_, _⟩, ⟨_, _⟩, ⟨_, _⟩, ⟨_, _⟩, ⟨_, _⟩⟩ := this; omega) (by decide)
  clear hk1 hk2 hk3 hk4 hk5 hk6
  go_wp2
  all_goals first
    | exact HQ.out _ _ _ _ _ _ _ r _ HM.out HR.out
    | exact HQ.out _ _ _ _ _ _ _ ⟨r.deed, r.ten, r.gen, r.rig, r.key, r.val, r.old, r.lim, r.tenant, r.qk, r.qb, b⟩ _ (HM.out.store 11 rfl) ⟨HR.out.deed, HR.out.ten, HR.out.gen, HR.out.rig, HR.out.key, HR.out.val, HR.out.old, HR.out.lim, HR.out.tenant, HR.out.qk, HR.out.qb, ⟨by dsimp only; omega, by dsimp only; omega⟩⟩

end Go.Proofs.Ytlmehmmdbdembaa
