/-
  Walks: burgagelaw27.Made, texts and numbers.
  Walks: burgagelaw27.Made, the switch.
  Walks: burgagelaw27.Made, the deed.
  Walks: burgagelaw27.Made.
  Layer 27: OrderTenants' plain law: what a request does to the tenants; generations, handles, limits.
  Layer 27: OrderTenants' plain law: a request's step.
  Layer 27: OrderTenants' state in memory.
  Layer 27: OrderTenants: the search for a good handle.
-/
import Derived.Test.YtkgflepgkhnclaaGreatDoorOte
namespace Go.Proofs.YtkgflepgkhnclaaGreatDoor
open Go.RowKit
set_option linter.unusedVariables false
set_option linter.unusedSimpArgs false

set_option maxHeartbeats 3200000 in
set_option maxRecDepth 100000 in
theorem m21 {gk gc gr n : Nat} {v : Value} {xs : List Value} {c : Cod} {r : Req} {tn : Int} {u0 u1 u2 u5 u9 u10 u11 u12 u13 u14 u15 u16 u17 u18 u19 u20 u21 u22 u23 u24 u25 u26 u27 u28 u29 u30 u31 u32 u33 u34 u35 u36 u37 u38 u39 u40 u41 u42 u43 u44 u45 u46 u47 u48 u49 u50 u51 u52 u53 u54 u55 u56 u57 u58 u59 u60 u61 u62 u63 u64 u65 u66 u67 u68 u69 u70 u71 u72 u73 u74 u75 u76 u77 u78 u79 u80 u81 u82 u83 u84 u85 u86 u87 u88 u89 u90 u91 u92 u93 u94 u95 u96 u97 u98 u99 u100 u101 u102 u103 u104 u105 u106 u107 u108 u109 u110 u111 u112 u113 u114 u115 u116 u117 u118 u119 u120 u121 u122 u123 u124 u125 u126 u127 u128 u129 u130 u131 u132 u133 u134 u135 u136 u137 u138 u139 : Value} (w wx : World) {Q : Exit → Act → World → Prop} (hM : MIn w gk gc gr v n xs c r wx) (hr : SmallR r) (hc : c.ok) (htn : 1 ≤ tn ∧ tn ≤ 2)
    (hQ : ∀ (s95 s96 s97 s98 s99 s100 s101 s102 s103 s104 s105 s106 s107 s108 s109 : Value) (r' : Req) (W' : World), MIn w gk gc gr v n xs c r' W' → SmallR r' → Q .normal ⟨#[u0, u1, u2, v, .slice (some ⟨gk, 0, none⟩) 8 8, u5, .pointer (some ⟨gc, 0, none⟩), .pointer (some ⟨gr, 0, none⟩), .int .i64 tn, u9, u10, u11, u12, u13, u14, u15, u16, u17, u18, u19, u20, u21, u22, u23, u24, u25, u26, u27, u28, u29, u30, u31, u32, u33, u34, u35, u36, u37, u38, u39, u40, u41, u42, u43, u44, u45, u46, u47, u48, u49, u50, u51, u52, u53, u54, u55, u56, u57, u58, u59, u60, u61, u62, u63, u64, u65, u66, u67, u68, u69, u70, u71, u72, u73, u74, u75, u76, u77, u78, u79, u80, u81, u82, u83, u84, u85, u86, u87, u88, u89, u90, u91, u92, u93, u94, s95, s96, s97, s98, s99, s100, s101, s102, s103, s104, s105, s106, s107, s108, s109, u110, u111, u112, u113, u114, u115, u116, u117, u118, u119, u120, u121, u122, u123, u124, u125, u126, u127, u128, u129, u130, u131, u132, u133, u134, u135, u136, u137, u138, u139], []⟩ W') :
    Code.wp Tryz.prog (part Tryz.f7 [1, 1, 1, 0, 1, 2, 2, 1, 1, 0, 2, 1, 1, 1, 0, 2, 1, 3, 1, 1, 1, 1, 0]) Q ⟨#[u0, u1, u2, v, .slice (some ⟨gk, 0, none⟩) 8 8, u5, .pointer (some ⟨gc, 0, none⟩), .pointer (some ⟨gr, 0, none⟩), .int .i64 tn, u9, u10, u11, u12, u13, u14, u15, u16, u17, u18, u19, u20, u21, u22, u23, u24, u25, u26, u27, u28, u29, u30, u31, u32, u33, u34, u35, u36, u37, u38, u39, u40, u41, u42, u43, u44, u45, u46, u47, u48, u49, u50, u51, u52, u53, u54, u55, u56, u57, u58, u59, u60, u61, u62, u63, u64, u65, u66, u67, u68, u69, u70, u71, u72, u73, u74, u75, u76, u77, u78, u79, u80, u81, u82, u83, u84, u85, u86, u87, u88, u89, u90, u91, u92, u93, u94, u95, u96, u97, u98, u99, u100, u101, u102, u103, u104, u105, u106, u107, u108, u109, u110, u111, u112, u113, u114, u115, u116, u117, u118, u119, u120, u121, u122, u123, u124, u125, u126, u127, u128, u129, u130, u131, u132, u133, u134, u135, u136, u137, u138, u139], []⟩ wx := by
  conv => arg 2; whnf
  have HQ := Lib.hid hQ
  clear hQ
  obtain ⟨⟨hk1, hk2, hk3, hk4⟩, hk5, hk6⟩ := hM
  obtain ⟨q0, q1, q2, q3, q4, q5, q6, q7, q8, q9, q10, q11⟩ := req_cells hk5
  obtain ⟨c0, c1, c2, c3, c4, c5⟩ := cod_cells hk2
  have HM := Lib.hid (show MIn w gk gc gr v n xs c r wx from ⟨⟨hk1, hk2, hk3, hk4⟩, hk5, hk6⟩)
  have HR := Lib.hid hr
  have HC := Lib.hid hc
  clear hr hc
  have f5 := hk5.frozen 5
  have lc := hk2.lt
  have lr := hk5.lt
  have lk := hk1.lt
  obtain ⟨b, hb, hb0, hb1⟩ := tmod_in (x := c.v) 4 (by have := HC.out; obtain ⟨⟨_, _⟩, ⟨_, _⟩, ⟨_, _⟩, ⟨_, _⟩, ⟨_, _⟩, ⟨_, _⟩⟩ := this; omega) (by decide)
  clear hk1 hk2 hk3 hk4 hk5 hk6
  have hbc : b = 0 ∨ b = 1 ∨ b = 2 ∨ b = 3 := by omega
  clear hb0 hb1
  rcases hbc with rfl | rfl | rfl | rfl
  all_goals
    go_wp2
    all_goals first
      | exact HQ.out _ _ _ _ _ _ _ _ _ _ _ _ _ _ _ r _ HM.out HR.out
      | exact HQ.out _ _ _ _ _ _ _ _ _ _ _ _ _ _ _ ⟨r.deed, r.ten, r.gen, r.rig, r.key, ⟨#[120]⟩, r.old, r.lim, r.tenant, r.qk, r.qb, r.rights⟩ _ ((HM.out.store 5 (r' := ⟨r.deed, r.ten, r.gen, r.rig, r.key, ⟨#[120]⟩, r.old, r.lim, r.tenant, r.qk, r.qb, r.rights⟩) rfl).alloc _) ⟨HR.out.deed, HR.out.ten, HR.out.gen, HR.out.rig, HR.out.key, by dsimp only; decide, HR.out.old, HR.out.lim, HR.out.tenant, HR.out.qk, HR.out.qb, HR.out.rights⟩
      | exact HQ.out _ _ _ _ _ _ _ _ _ _ _ _ _ _ _ ⟨r.deed, r.ten, r.gen, r.rig, r.key, ⟨#[121]⟩, r.old, r.lim, r.tenant, r.qk, r.qb, r.rights⟩ _ ((HM.out.store 5 (r' := ⟨r.deed, r.ten, r.gen, r.rig, r.key, ⟨#[121]⟩, r.old, r.lim, r.tenant, r.qk, r.qb, r.rights⟩) rfl).alloc _) ⟨HR.out.deed, HR.out.ten, HR.out.gen, HR.out.rig, HR.out.key, by dsimp only; decide, HR.out.old, HR.out.lim, HR.out.tenant, HR.out.qk, HR.out.qb, HR.out.rights⟩
      | exact HQ.out _ _ _ _ _ _ _ _ _ _ _ _ _ _ _ ⟨r.deed, r.ten, r.gen, r.rig, r.key, ⟨#[]⟩, r.old, r.lim, r.tenant, r.qk, r.qb, r.rights⟩ _ ((HM.out.store 5 (r' := ⟨r.deed, r.ten, r.gen, r.rig, r.key, ⟨#[]⟩, r.old, r.lim, r.tenant, r.qk, r.qb, r.rights⟩) rfl).alloc _) ⟨HR.out.deed, HR.out.ten, HR.out.gen, HR.out.rig, HR.out.key, by dsimp only; decide, HR.out.old, HR.out.lim, HR.out.tenant, HR.out.qk, HR.out.qb, HR.out.rights⟩
      | exact HQ.out _ _ _ _ _ _ _ _ _ _ _ _ _ _ _ ⟨r.deed, r.ten, r.gen, r.rig, r.key, ⟨#[122, 122]⟩, r.old, r.lim, r.tenant, r.qk, r.qb, r.rights⟩ _ ((HM.out.store 5 (r' := ⟨r.deed, r.ten, r.gen, r.rig, r.key, ⟨#[122, 122]⟩, r.old, r.lim, r.tenant, r.qk, r.qb, r.rights⟩) rfl).alloc _) ⟨HR.out.deed, HR.out.ten, HR.out.gen, HR.out.rig, HR.out.key, by dsimp only; decide, HR.out.old, HR.out.lim, HR.out.tenant, HR.out.qk, HR.out.qb, HR.out.rights⟩

set_option maxHeartbeats 3200000 in
set_option maxRecDepth 100000 in
theorem m23 {gk gc gr n : Nat} {v : Value} {xs : List Value} {c : Cod} {r : Req} {tn : Int} {u0 u1 u2 u5 u9 u10 u11 u12 u13 u14 u15 u16 u17 u18 u19 u20 u21 u22 u23 u24 u25 u26 u27 u28 u29 u30 u31 u32 u33 u34 u35 u36 u37 u38 u39 u40 u41 u42 u43 u44 u45 u46 u47 u48 u49 u50 u51 u52 u53 u54 u55 u56 u57 u58 u59 u60 u61 u62 u63 u64 u65 u66 u67 u68 u69 u70 u71 u72 u73 u74 u75 u76 u77 u78 u79 u80 u81 u82 u83 u84 u85 u86 u87 u88 u89 u90 u91 u92 u93 u94 u95 u96 u97 u98 u99 u100 u101 u102 u103 u104 u105 u106 u107 u108 u109 u110 u111 u112 u113 u114 u115 u116 u117 u118 u119 u120 u121 u122 u123 u124 u125 u126 u127 u128 u129 u130 u131 u132 u133 u134 u135 u136 u137 u138 u139 : Value} (w wx : World) {Q : Exit → Act → World → Prop} (hM : MIn w gk gc gr v n xs c r wx) (hr : SmallR r) (hc : c.ok) (htn : 1 ≤ tn ∧ tn ≤ 2)
    (hQ : ∀ (s110 s111 s112 s113 s114 s115 s116 s117 s118 s119 s120 : Value) (r' : Req) (W' : World), MIn w gk gc gr v n xs c r' W' → SmallR r' → Q .normal ⟨#[u0, u1, u2, v, .slice (some ⟨gk, 0, none⟩) 8 8, u5, .pointer (some ⟨gc, 0, none⟩), .pointer (some ⟨gr, 0, none⟩), .int .i64 tn, u9, u10, u11, u12, u13, u14, u15, u16, u17, u18, u19, u20, u21, u22, u23, u24, u25, u26, u27, u28, u29, u30, u31, u32, u33, u34, u35, u36, u37, u38, u39, u40, u41, u42, u43, u44, u45, u46, u47, u48, u49, u50, u51, u52, u53, u54, u55, u56, u57, u58, u59, u60, u61, u62, u63, u64, u65, u66, u67, u68, u69, u70, u71, u72, u73, u74, u75, u76, u77, u78, u79, u80, u81, u82, u83, u84, u85, u86, u87, u88, u89, u90, u91, u92, u93, u94, u95, u96, u97, u98, u99, u100, u101, u102, u103, u104, u105, u106, u107, u108, u109, s110, s111, s112, s113, s114, s115, s116, s117, s118, s119, s120, u121, u122, u123, u124, u125, u126, u127, u128, u129, u130, u131, u132, u133, u134, u135, u136, u137, u138, u139], []⟩ W') :
    Code.wp Tryz.prog (part Tryz.f7 [1, 1, 1, 0, 1, 2, 2, 1, 1, 0, 2, 1, 1, 1, 0, 2, 1, 3, 1, 1, 1, 1, 1, 0]) Q ⟨#[u0, u1, u2, v, .slice (some ⟨gk, 0, none⟩) 8 8, u5, .pointer (some ⟨gc, 0, none⟩), .pointer (some ⟨gr, 0, none⟩), .int .i64 tn, u9, u10, u11, u12, u13, u14, u15, u16, u17, u18, u19, u20, u21, u22, u23, u24, u25, u26, u27, u28, u29, u30, u31, u32, u33, u34, u35, u36, u37, u38, u39, u40, u41, u42, u43, u44, u45, u46, u47, u48, u49, u50, u51, u52, u53, u54, u55, u56, u57, u58, u59, u60, u61, u62, u63, u64, u65, u66, u67, u68, u69, u70, u71, u72, u73, u74, u75, u76, u77, u78, u79, u80, u81, u82, u83, u84, u85, u86, u87, u88, u89, u90, u91, u92, u93, u94, u95, u96, u97, u98, u99, u100, u101, u102, u103, u104, u105, u106, u107, u108, u109, u110, u111, u112, u113, u114, u115, u116, u117, u118, u119, u120, u121, u122, u123, u124, u125, u126, u127, u128, u129, u130, u131, u132, u133, u134, u135, u136, u137, u138, u139], []⟩ wx := by
  conv => arg 2; whnf
  have HQ := Lib.hid hQ
  clear hQ
  obtain ⟨⟨hk1, hk2, hk3, hk4⟩, hk5, hk6⟩ := hM
  obtain ⟨q0, q1, q2, q3, q4, q5, q6, q7, q8, q9, q10, q11⟩ := req_cells hk5
  obtain ⟨c0, c1, c2, c3, c4, c5⟩ := cod_cells hk2
  have HM := Lib.hid (show MIn w gk gc gr v n xs c r wx from ⟨⟨hk1, hk2, hk3, hk4⟩, hk5, hk6⟩)
  have HR := Lib.hid hr
  have HC := Lib.hid hc
  clear hr hc
  have f6 := hk5.frozen 6
  have lc := hk2.lt
  have lr := hk5.lt
  have lk := hk1.lt
  obtain ⟨b, hb, hb0, hb1⟩ := tmod_in (x := c.v / 4) 4 (by have := HC.out; obtain ⟨⟨_, _⟩, ⟨_, _⟩, ⟨_, _⟩, ⟨_, _⟩, ⟨_, _⟩, ⟨_, _⟩⟩ := this; omega) (by decide)
  clear hk1 hk2 hk3 hk4 hk5 hk6
  have hbc : b = 0 ∨ b = 1 ∨ b = 2 ∨ b = 3 := by omega
  clear hb0 hb1
  rcases hbc with rfl | rfl | rfl | rfl
  all_goals
    go_wp2
    all_goals first
      | exact HQ.out _ _ _ _ _ _ _ _ _ _ _ r _ HM.out HR.out
      | exact HQ.out _ _ _ _ _ _ _ _ _ _ _ ⟨r.deed, r.ten, r.gen, r.rig, r.key, r.val, ⟨#[120]⟩, r.lim, r.tenant, r.qk, r.qb, r.rights⟩ _ ((HM.out.store 6 (r' := ⟨r.deed, r.ten, r.gen, r.rig, r.key, r.val, ⟨#[120]⟩, r.lim, r.tenant, r.qk, r.qb, r.rights⟩) rfl).alloc _) ⟨HR.out.deed, HR.out.ten, HR.out.gen, HR.out.rig, HR.out.key, HR.out.val, by dsimp only; decide, HR.out.lim, HR.out.tenant, HR.out.qk, HR.out.qb, HR.out.rights⟩
      | exact HQ.out _ _ _ _ _ _ _ _ _ _ _ ⟨r.deed, r.ten, r.gen, r.rig, r.key, r.val, ⟨#[121]⟩, r.lim, r.tenant, r.qk, r.qb, r.rights⟩ _ ((HM.out.store 6 (r' := ⟨r.deed, r.ten, r.gen, r.rig, r.key, r.val, ⟨#[121]⟩, r.lim, r.tenant, r.qk, r.qb, r.rights⟩) rfl).alloc _) ⟨HR.out.deed, HR.out.ten, HR.out.gen, HR.out.rig, HR.out.key, HR.out.val, by dsimp only; decide, HR.out.lim, HR.out.tenant, HR.out.qk, HR.out.qb, HR.out.rights⟩
      | exact HQ.out _ _ _ _ _ _ _ _ _ _ _ ⟨r.deed, r.ten, r.gen, r.rig, r.key, r.val, ⟨#[]⟩, r.lim, r.tenant, r.qk, r.qb, r.rights⟩ _ ((HM.out.store 6 (r' := ⟨r.deed, r.ten, r.gen, r.rig, r.key, r.val, ⟨#[]⟩, r.lim, r.tenant, r.qk, r.qb, r.rights⟩) rfl).alloc _) ⟨HR.out.deed, HR.out.ten, HR.out.gen, HR.out.rig, HR.out.key, HR.out.val, by dsimp only; decide, HR.out.lim, HR.out.tenant, HR.out.qk, HR.out.qb, HR.out.rights⟩
      | exact HQ.out _ _ _ _ _ _ _ _ _ _ _ ⟨r.deed, r.ten, r.gen, r.rig, r.key, r.val, ⟨#[122, 122]⟩, r.lim, r.tenant, r.qk, r.qb, r.rights⟩ _ ((HM.out.store 6 (r' := ⟨r.deed, r.ten, r.gen, r.rig, r.key, r.val, ⟨#[122, 122]⟩, r.lim, r.tenant, r.qk, r.qb, r.rights⟩) rfl).alloc _) ⟨HR.out.deed, HR.out.ten, HR.out.gen, HR.out.rig, HR.out.key, HR.out.val, by dsimp only; decide, HR.out.lim, HR.out.tenant, HR.out.qk, HR.out.qb, HR.out.rights⟩

set_option maxHeartbeats 3200000 in
set_option maxRecDepth 100000 in
theorem m25 {gk gc gr n : Nat} {v : Value} {xs : List Value} {c : Cod} {r : Req} {tn : Int} {u0 u1 u2 u5 u9 u10 u11 u12 u13 u14 u15 u16 u17 u18 u19 u20 u21 u22 u23 u24 u25 u26 u27 u28 u29 u30 u31 u32 u33 u34 u35 u36 u37 u38 u39 u40 u41 u42 u43 u44 u45 u46 u47 u48 u49 u50 u51 u52 u53 u54 u55 u56 u57 u58 u59 u60 u61 u62 u63 u64 u65 u66 u67 u68 u69 u70 u71 u72 u73 u74 u75 u76 u77 u78 u79 u80 u81 u82 u83 u84 u85 u86 u87 u88 u89 u90 u91 u92 u93 u94 u95 u96 u97 u98 u99 u100 u101 u102 u103 u104 u105 u106 u107 u108 u109 u110 u111 u112 u113 u114 u115 u116 u117 u118 u119 u120 u121 u122 u123 u124 u125 u126 u127 u128 u129 u130 u131 u132 u133 u134 u135 u136 u137 u138 u139 : Value} (w wx : World) {Q : Exit → Act → World → Prop} (hM : MIn w gk gc gr v n xs c r wx) (hr : SmallR r) (hc : c.ok) (htn : 1 ≤ tn ∧ tn ≤ 2)
    (hQ : ∀ (s121 s122 s123 s124 s125 s126 s127 s128 : Value) (r' : Req) (W' : World), MIn w gk gc gr v n xs c r' W' → SmallR r' → Q .normal ⟨#[u0, u1, u2, v, .slice (some ⟨gk, 0, none⟩) 8 8, u5, .pointer (some ⟨gc, 0, none⟩), .pointer (some ⟨gr, 0, none⟩), .int .i64 tn, u9, u10, u11, u12, u13, u14, u15, u16, u17, u18, u19, u20, u21, u22, u23, u24, u25, u26, u27, u28, u29, u30, u31, u32, u33, u34, u35, u36, u37, u38, u39, u40, u41, u42, u43, u44, u45, u46, u47, u48, u49, u50, u51, u52, u53, u54, u55, u56, u57, u58, u59, u60, u61, u62, u63, u64, u65, u66, u67, u68, u69, u70, u71, u72, u73, u74, u75, u76, u77, u78, u79, u80, u81, u82, u83, u84, u85, u86, u87, u88, u89, u90, u91, u92, u93, u94, u95, u96, u97, u98, u99, u100, u101, u102, u103, u104, u105, u106, u107, u108, u109, u110, u111, u112, u113, u114, u115, u116, u117, u118, u119, u120, s121, s122, s123, s124, s125, s126, s127, s128, u129, u130, u131, u132, u133, u134, u135, u136, u137, u138, u139], []⟩ W') :
    Code.wp Tryz.prog (part Tryz.f7 [1, 1, 1, 0, 1, 2, 2, 1, 1, 0, 2, 1, 1, 1, 0, 2, 1, 3, 1, 1, 1, 1, 1, 1]) Q ⟨#[u0, u1, u2, v, .slice (some ⟨gk, 0, none⟩) 8 8, u5, .pointer (some ⟨gc, 0, none⟩), .pointer (some ⟨gr, 0, none⟩), .int .i64 tn, u9, u10, u11, u12, u13, u14, u15, u16, u17, u18, u19, u20, u21, u22, u23, u24, u25, u26, u27, u28, u29, u30, u31, u32, u33, u34, u35, u36, u37, u38, u39, u40, u41, u42, u43, u44, u45, u46, u47, u48, u49, u50, u51, u52, u53, u54, u55, u56, u57, u58, u59, u60, u61, u62, u63, u64, u65, u66, u67, u68, u69, u70, u71, u72, u73, u74, u75, u76, u77, u78, u79, u80, u81, u82, u83, u84, u85, u86, u87, u88, u89, u90, u91, u92, u93, u94, u95, u96, u97, u98, u99, u100, u101, u102, u103, u104, u105, u106, u107, u108, u109, u110, u111, u112, u113, u114, u115, u116, u117, u118, u119, u120, u121, u122, u123, u124, u125, u126, u127, u128, u129, u130, u131, u132, u133, u134, u135, u136, u137, u138, u139], []⟩ wx := by
  conv => arg 2; whnf
  have HQ := Lib.hid hQ
  clear hQ
  obtain ⟨⟨hk1, hk2, hk3, hk4⟩, hk5, hk6⟩ := hM
  obtain ⟨q0, q1, q2, q3, q4, q5, q6, q7, q8, q9, q10, q11⟩ := req_cells hk5
  obtain ⟨c0, c1, c2, c3, c4, c5⟩ := cod_cells hk2
  have HM := Lib.hid (show MIn w gk gc gr v n xs c r wx from ⟨⟨hk1, hk2, hk3, hk4⟩, hk5, hk6⟩)
  have HR := Lib.hid hr
  have HC := Lib.hid hc
  clear hr hc
  have f7 := hk5.frozen 7
  obtain ⟨b, hb, hb0, hb1⟩ := tmod_in (x := c.x) 5 (by have := HC.out; obtain ⟨⟨_, _⟩, ⟨_, _⟩, ⟨_, _⟩, ⟨_, _⟩, ⟨_, _⟩, ⟨_, _⟩⟩ := this; omega) (by decide)
  clear hk1 hk2 hk3 hk4 hk5 hk6
  go_wp2
  all_goals first
    | exact HQ.out _ _ _ _ _ _ _ _ r _ HM.out HR.out
    | exact HQ.out _ _ _ _ _ _ _ _ ⟨r.deed, r.ten, r.gen, r.rig, r.key, r.val, r.old, b, r.tenant, r.qk, r.qb, r.rights⟩ _ (HM.out.store 7 rfl) ⟨HR.out.deed, HR.out.ten, HR.out.gen, HR.out.rig, HR.out.key, HR.out.val, HR.out.old, ⟨by dsimp only; omega, by dsimp only; omega⟩, HR.out.tenant, HR.out.qk, HR.out.qb, HR.out.rights⟩

set_option maxHeartbeats 3200000 in
set_option maxRecDepth 100000 in
theorem m8 {gk gc gr n : Nat} {v : Value} {xs : List Value} {c : Cod} {r : Req} {tn : Int} {u0 u1 u2 u5 u9 u10 u11 u12 u13 u14 u15 u16 u17 u18 u19 u20 u21 u22 u23 u24 u25 u26 u27 u28 u29 u30 u31 u32 u33 u34 u35 u36 u37 u38 u39 u40 u41 u42 u43 u44 u45 u46 u47 u48 u49 u50 u51 u52 u53 u54 u55 u56 u57 u58 u59 u60 u61 u62 u63 u64 u65 u66 u67 u68 u69 u70 u71 u72 u73 u74 u75 u76 u77 u78 u79 u80 u81 u82 u83 u84 u85 u86 u87 u88 u89 u90 u91 u92 u93 u94 u95 u96 u97 u98 u99 u100 u101 u102 u103 u104 u105 u106 u107 u108 u109 u110 u111 u112 u113 u114 u115 u116 u117 u118 u119 u120 u121 u122 u123 u124 u125 u126 u127 u128 u129 u130 u131 u132 u133 u134 u135 u136 u137 u138 u139 : Value} (w wx : World) {Q : Exit → Act → World → Prop} (hM : MIn w gk gc gr v n xs c r wx) (hr : SmallR r) (hc : c.ok) (htn : 1 ≤ tn ∧ tn ≤ 2)
    (hQ : ∀ (s39 s40 : Value) (r' : Req) (W' : World), MIn w gk gc gr v n xs c r' W' → SmallR r' → Q .normal ⟨#[u0, u1, u2, v, .slice (some ⟨gk, 0, none⟩) 8 8, u5, .pointer (some ⟨gc, 0, none⟩), .pointer (some ⟨gr, 0, none⟩), .int .i64 tn, u9, u10, u11, u12, u13, u14, u15, u16, u17, u18, u19, u20, u21, u22, u23, u24, u25, u26, u27, u28, u29, u30, u31, u32, u33, u34, u35, u36, u37, u38, s39, s40, u41, u42, u43, u44, u45, u46, u47, u48, u49, u50, u51, u52, u53, u54, u55, u56, u57, u58, u59, u60, u61, u62, u63, u64, u65, u66, u67, u68, u69, u70, u71, u72, u73, u74, u75, u76, u77, u78, u79, u80, u81, u82, u83, u84, u85, u86, u87, u88, u89, u90, u91, u92, u93, u94, u95, u96, u97, u98, u99, u100, u101, u102, u103, u104, u105, u106, u107, u108, u109, u110, u111, u112, u113, u114, u115, u116, u117, u118, u119, u120, u121, u122, u123, u124, u125, u126, u127, u128, u129, u130, u131, u132, u133, u134, u135, u136, u137, u138, u139], []⟩ W') :
    Code.wp Tryz.prog (part Tryz.f7 [1, 1, 1, 0, 1, 2, 2, 1, 1, 0, 2, 1, 1, 1, 0, 2, 1, 4, 0]) Q ⟨#[u0, u1, u2, v, .slice (some ⟨gk, 0, none⟩) 8 8, u5, .pointer (some ⟨gc, 0, none⟩), .pointer (some ⟨gr, 0, none⟩), .int .i64 tn, u9, u10, u11, u12, u13, u14, u15, u16, u17, u18, u19, u20, u21, u22, u23, u24, u25, u26, u27, u28, u29, u30, u31, u32, u33, u34, u35, u36, u37, u38, u39, u40, u41, u42, u43, u44, u45, u46, u47, u48, u49, u50, u51, u52, u53, u54, u55, u56, u57, u58, u59, u60, u61, u62, u63, u64, u65, u66, u67, u68, u69, u70, u71, u72, u73, u74, u75, u76, u77, u78, u79, u80, u81, u82, u83, u84, u85, u86, u87, u88, u89, u90, u91, u92, u93, u94, u95, u96, u97, u98, u99, u100, u101, u102, u103, u104, u105, u106, u107, u108, u109, u110, u111, u112, u113, u114, u115, u116, u117, u118, u119, u120, u121, u122, u123, u124, u125, u126, u127, u128, u129, u130, u131, u132, u133, u134, u135, u136, u137, u138, u139], []⟩ wx := by
  conv => arg 2; whnf
  have HQ := Lib.hid hQ
  clear hQ
  obtain ⟨⟨hk1, hk2, hk3, hk4⟩, hk5, hk6⟩ := hM
  obtain ⟨q0, q1, q2, q3, q4, q5, q6, q7, q8, q9, q10, q11⟩ := req_cells hk5
  obtain ⟨c0, c1, c2, c3, c4, c5⟩ := cod_cells hk2
  have HM := Lib.hid (show MIn w gk gc gr v n xs c r wx from ⟨⟨hk1, hk2, hk3, hk4⟩, hk5, hk6⟩)
  have HR := Lib.hid hr
  have HC := Lib.hid hc
  clear hr hc
  have f8 := hk5.frozen 8
  clear hk1 hk2 hk3 hk4 hk5 hk6
  go_wp2
  exact HQ.out _ _ ⟨r.deed, r.ten, r.gen, r.rig, r.key, r.val, r.old, r.lim, tn, r.qk, r.qb, r.rights⟩ _ (HM.out.store 8 rfl) ⟨HR.out.deed, HR.out.ten, HR.out.gen, HR.out.rig, HR.out.key, HR.out.val, HR.out.old, HR.out.lim, ⟨by dsimp only; omega, by dsimp only; omega⟩, HR.out.qk, HR.out.qb, HR.out.rights⟩

set_option maxHeartbeats 3200000 in
set_option maxRecDepth 100000 in
theorem m9 {gk gc gr n : Nat} {v : Value} {xs : List Value} {c : Cod} {r : Req} {tn : Int} {u0 u1 u2 u5 u9 u10 u11 u12 u13 u14 u15 u16 u17 u18 u19 u20 u21 u22 u23 u24 u25 u26 u27 u28 u29 u30 u31 u32 u33 u34 u35 u36 u37 u38 u39 u40 u41 u42 u43 u44 u45 u46 u47 u48 u49 u50 u51 u52 u53 u54 u55 u56 u57 u58 u59 u60 u61 u62 u63 u64 u65 u66 u67 u68 u69 u70 u71 u72 u73 u74 u75 u76 u77 u78 u79 u80 u81 u82 u83 u84 u85 u86 u87 u88 u89 u90 u91 u92 u93 u94 u95 u96 u97 u98 u99 u100 u101 u102 u103 u104 u105 u106 u107 u108 u109 u110 u111 u112 u113 u114 u115 u116 u117 u118 u119 u120 u121 u122 u123 u124 u125 u126 u127 u128 u129 u130 u131 u132 u133 u134 u135 u136 u137 u138 u139 : Value} (w wx : World) {Q : Exit → Act → World → Prop} (hM : MIn w gk gc gr v n xs c r wx) (hr : SmallR r) (hc : c.ok) (htn : 1 ≤ tn ∧ tn ≤ 2)
    (hQ : ∀ (s41 s42 s43 s44 s45 s46 s47 s48 s49 s50 s51 s52 s53 : Value) (r' : Req) (W' : World), MIn w gk gc gr v n xs c r' W' → SmallR r' → Q .normal ⟨#[u0, u1, u2, v, .slice (some ⟨gk, 0, none⟩) 8 8, u5, .pointer (some ⟨gc, 0, none⟩), .pointer (some ⟨gr, 0, none⟩), .int .i64 tn, u9, u10, u11, u12, u13, u14, u15, u16, u17, u18, u19, u20, u21, u22, u23, u24, u25, u26, u27, u28, u29, u30, u31, u32, u33, u34, u35, u36, u37, u38, u39, u40, s41, s42, s43, s44, s45, s46, s47, s48, s49, s50, s51, s52, s53, u54, u55, u56, u57, u58, u59, u60, u61, u62, u63, u64, u65, u66, u67, u68, u69, u70, u71, u72, u73, u74, u75, u76, u77, u78, u79, u80, u81, u82, u83, u84, u85, u86, u87, u88, u89, u90, u91, u92, u93, u94, u95, u96, u97, u98, u99, u100, u101, u102, u103, u104, u105, u106, u107, u108, u109, u110, u111, u112, u113, u114, u115, u116, u117, u118, u119, u120, u121, u122, u123, u124, u125, u126, u127, u128, u129, u130, u131, u132, u133, u134, u135, u136, u137, u138, u139], []⟩ W') :
    Code.wp Tryz.prog (part Tryz.f7 [1, 1, 1, 0, 1, 2, 2, 1, 1, 0, 2, 1, 1, 1, 0, 2, 1, 4, 1, 0]) Q ⟨#[u0, u1, u2, v, .slice (some ⟨gk, 0, none⟩) 8 8, u5, .pointer (some ⟨gc, 0, none⟩), .pointer (some ⟨gr, 0, none⟩), .int .i64 tn, u9, u10, u11, u12, u13, u14, u15, u16, u17, u18, u19, u20, u21, u22, u23, u24, u25, u26, u27, u28, u29, u30, u31, u32, u33, u34, u35, u36, u37, u38, u39, u40, u41, u42, u43, u44, u45, u46, u47, u48, u49, u50, u51, u52, u53, u54, u55, u56, u57, u58, u59, u60, u61, u62, u63, u64, u65, u66, u67, u68, u69, u70, u71, u72, u73, u74, u75, u76, u77, u78, u79, u80, u81, u82, u83, u84, u85, u86, u87, u88, u89, u90, u91, u92, u93, u94, u95, u96, u97, u98, u99, u100, u101, u102, u103, u104, u105, u106, u107, u108, u109, u110, u111, u112, u113, u114, u115, u116, u117, u118, u119, u120, u121, u122, u123, u124, u125, u126, u127, u128, u129, u130, u131, u132, u133, u134, u135, u136, u137, u138, u139], []⟩ wx := by
  conv => arg 2; whnf
  have HQ := Lib.hid hQ
  clear hQ
  obtain ⟨⟨hk1, hk2, hk3, hk4⟩, hk5, hk6⟩ := hM
  obtain ⟨q0, q1, q2, q3, q4, q5, q6, q7, q8, q9, q10, q11⟩ := req_cells hk5
  obtain ⟨c0, c1, c2, c3, c4, c5⟩ := cod_cells hk2
  have HM := Lib.hid (show MIn w gk gc gr v n xs c r wx from ⟨⟨hk1, hk2, hk3, hk4⟩, hk5, hk6⟩)
  have HR := Lib.hid hr
  have HC := Lib.hid hc
  clear hr hc
  have f9 := hk5.frozen 9
  have f10 := hk5.frozen 10
  obtain ⟨b, hb, hb0, hb1⟩ := tmod_in (x := c.k) 5 (by have := HC.out; obtain ⟨⟨_, _⟩, ⟨_, _⟩, ⟨_, _⟩, ⟨_, _⟩, ⟨_, _⟩, ⟨_, _⟩⟩ := this; omega) (by decide)
  obtain ⟨d, hd, hd0, hd1⟩ := tmod_in (x := c.x) 40 (by have := HC.out; obtain ⟨⟨_, _⟩, ⟨_, _⟩, ⟨_, _⟩, ⟨_, _⟩, ⟨_, _⟩, ⟨_, _⟩⟩ := this; omega) (by decide)
  clear hk1 hk2 hk3 hk4 hk5 hk6
  go_wp2
  all_goals first
    | exact HQ.out _ _ _ _ _ _ _ _ _ _ _ _ _ r _ HM.out HR.out
    | exact HQ.out _ _ _ _ _ _ _ _ _ _ _ _ _ ⟨r.deed, r.ten, r.gen, r.rig, r.key, r.val, r.old, r.lim, r.tenant, b, d, r.rights⟩ _ ((HM.out.store 9 (r' := ⟨r.deed, r.ten, r.gen, r.rig, r.key, r.val, r.old, r.lim, r.tenant, b, r.qb, r.rights⟩) rfl).store 10 rfl) ⟨HR.out.deed, HR.out.ten, HR.out.gen, HR.out.rig, HR.out.key, HR.out.val, HR.out.old, HR.out.lim, HR.out.tenant, ⟨by dsimp only; omega, by dsimp only; omega⟩, ⟨by dsimp only; omega, by dsimp only; omega⟩, HR.out.rights⟩

set_option maxHeartbeats 3200000 in
set_option maxRecDepth 100000 in
theorem m11 {gk gc gr n : Nat} {v : Value} {xs : List Value} {c : Cod} {r : Req} {tn : Int} {u0 u1 u2 u5 u9 u10 u11 u12 u13 u14 u15 u16 u17 u18 u19 u20 u21 u22 u23 u24 u25 u26 u27 u28 u29 u30 u31 u32 u33 u34 u35 u36 u37 u38 u39 u40 u41 u42 u43 u44 u45 u46 u47 u48 u49 u50 u51 u52 u53 u54 u55 u56 u57 u58 u59 u60 u61 u62 u63 u64 u65 u66 u67 u68 u69 u70 u71 u72 u73 u74 u75 u76 u77 u78 u79 u80 u81 u82 u83 u84 u85 u86 u87 u88 u89 u90 u91 u92 u93 u94 u95 u96 u97 u98 u99 u100 u101 u102 u103 u104 u105 u106 u107 u108 u109 u110 u111 u112 u113 u114 u115 u116 u117 u118 u119 u120 u121 u122 u123 u124 u125 u126 u127 u128 u129 u130 u131 u132 u133 u134 u135 u136 u137 u138 u139 : Value} (w wx : World) {Q : Exit → Act → World → Prop} (hM : MIn w gk gc gr v n xs c r wx) (hr : SmallR r) (hc : c.ok) (htn : 1 ≤ tn ∧ tn ≤ 2)
    (hQ : ∀ (s54 s55 s56 s57 s58 s59 s60 : Value) (r' : Req) (W' : World), MIn w gk gc gr v n xs c r' W' → SmallR r' → Q .normal ⟨#[u0, u1, u2, v, .slice (some ⟨gk, 0, none⟩) 8 8, u5, .pointer (some ⟨gc, 0, none⟩), .pointer (some ⟨gr, 0, none⟩), .int .i64 tn, u9, u10, u11, u12, u13, u14, u15, u16, u17, u18, u19, u20, u21, u22, u23, u24, u25, u26, u27, u28, u29, u30, u31, u32, u33, u34, u35, u36, u37, u38, u39, u40, u41, u42, u43, u44, u45, u46, u47, u48, u49, u50, u51, u52, u53, s54, s55, s56, s57, s58, s59, s60, u61, u62, u63, u64, u65, u66, u67, u68, u69, u70, u71, u72, u73, u74, u75, u76, u77, u78, u79, u80, u81, u82, u83, u84, u85, u86, u87, u88, u89, u90, u91, u92, u93, u94, u95, u96, u97, u98, u99, u100, u101, u102, u103, u104, u105, u106, u107, u108, u109, u110, u111, u112, u113, u114, u115, u116, u117, u118, u119, u120, u121, u122, u123, u124, u125, u126, u127, u128, u129, u130, u131, u132, u133, u134, u135, u136, u137, u138, u139], []⟩ W') :
    Code.wp Tryz.prog (part Tryz.f7 [1, 1, 1, 0, 1, 2, 2, 1, 1, 0, 2, 1, 1, 1, 0, 2, 1, 4, 1, 1]) Q ⟨#[u0, u1, u2, v, .slice (some ⟨gk, 0, none⟩) 8 8, u5, .pointer (some ⟨gc, 0, none⟩), .pointer (some ⟨gr, 0, none⟩), .int .i64 tn, u9, u10, u11, u12, u13, u14, u15, u16, u17, u18, u19, u20, u21, u22, u23, u24, u25, u26, u27, u28, u29, u30, u31, u32, u33, u34, u35, u36, u37, u38, u39, u40, u41, u42, u43, u44, u45, u46, u47, u48, u49, u50, u51, u52, u53, u54, u55, u56, u57, u58, u59, u60, u61, u62, u63, u64, u65, u66, u67, u68, u69, u70, u71, u72, u73, u74, u75, u76, u77, u78, u79, u80, u81, u82, u83, u84, u85, u86, u87, u88, u89, u90, u91, u92, u93, u94, u95, u96, u97, u98, u99, u100, u101, u102, u103, u104, u105, u106, u107, u108, u109, u110, u111, u112, u113, u114, u115, u116, u117, u118, u119, u120, u121, u122, u123, u124, u125, u126, u127, u128, u129, u130, u131, u132, u133, u134, u135, u136, u137, u138, u139], []⟩ wx := by
  conv => arg 2; whnf
  have HQ := Lib.hid hQ
  clear hQ
  obtain ⟨⟨hk1, hk2, hk3, hk4⟩, hk5, hk6⟩ := hM
  obtain ⟨q0, q1, q2, q3, q4, q5, q6, q7, q8, q9, q10, q11⟩ := req_cells hk5
  obtain ⟨c0, c1, c2, c3, c4, c5⟩ := cod_cells hk2
  have HM := Lib.hid (show MIn w gk gc gr v n xs c r wx from ⟨⟨hk1, hk2, hk3, hk4⟩, hk5, hk6⟩)
  have HR := Lib.hid hr
  have HC := Lib.hid hc
  clear hr hc
  have f11 := hk5.frozen 11
  obtain ⟨b, hb, hb0, hb1⟩ := tmod_in (x := c.k) 9 (by have := HC.out; obtain ⟨⟨_, _⟩, ⟨_, _⟩, ⟨_, _⟩, ⟨_, _⟩, ⟨_, _⟩, ⟨_, _⟩⟩ := this; omega) (by decide)
  clear hk1 hk2 hk3 hk4 hk5 hk6
  go_wp2
  all_goals first
    | exact HQ.out _ _ _ _ _ _ _ r _ HM.out HR.out
    | exact HQ.out _ _ _ _ _ _ _ ⟨r.deed, r.ten, r.gen, r.rig, r.key, r.val, r.old, r.lim, r.tenant, r.qk, r.qb, b⟩ _ (HM.out.store 11 rfl) ⟨HR.out.deed, HR.out.ten, HR.out.gen, HR.out.rig, HR.out.key, HR.out.val, HR.out.old, HR.out.lim, HR.out.tenant, HR.out.qk, HR.out.qb, ⟨by dsimp only; omega, by dsimp only; omega⟩⟩

end Go.Proofs.YtkgflepgkhnclaaGreatDoor
namespace Go.Proofs.YtkgflepgkhnclaaGreatDoor
open Go.RowKit
set_option linter.unusedVariables false
set_option linter.unusedSimpArgs false

set_option maxHeartbeats 3200000 in
set_option maxRecDepth 100000 in
theorem mA {gk gc gr n : Nat} {v : Value} {xs : List Value} {c : Cod} {r : Req} {tn : Int} {u0 u1 u2 u5 u9 u10 u11 u12 u13 u14 u15 u16 u17 u18 u19 u20 u21 u22 u23 u24 u25 u26 u27 u28 u29 u30 u31 u32 u33 u34 u35 u36 u37 u38 u39 u40 u41 u42 u43 u44 u45 u46 u47 u48 u49 u50 u51 u52 u53 u54 u55 u56 u57 u58 u59 u60 u61 u62 u63 u64 u65 u66 u67 u68 u69 u70 u71 u72 u73 u74 u75 u76 u77 u78 u79 u80 u81 u82 u83 u84 u85 u86 u87 u88 u89 u90 u91 u92 u93 u94 u95 u96 u97 u98 u99 u100 u101 u102 u103 u104 u105 u106 u107 u108 u109 u110 u111 u112 u113 u114 u115 u116 u117 u118 u119 u120 u121 u122 u123 u124 u125 u126 u127 u128 u129 u130 u131 u132 u133 u134 u135 u136 u137 u138 u139 : Value} (w wx : World) {Q : Exit → Act → World → Prop} (hM : MIn w gk gc gr v n xs c r wx) (hr : SmallR r) (hc : c.ok) (htn : 1 ≤ tn ∧ tn ≤ 2)
    (hQ : ∀ (s65 s66 s67 s68 s69 s70 s71 s72 s73 s74 s75 s76 s77 s78 s79 s80 s81 s82 s83 s84 s85 s86 s87 s88 s89 s90 s91 s92 s93 s94 s95 s96 s97 s98 s99 s100 s101 s102 s103 s104 s105 s106 s107 s108 s109 s110 s111 s112 s113 s114 s115 s116 s117 s118 s119 s120 s121 s122 s123 s124 s125 s126 s127 s128 : Value) (r' : Req) (W' : World), MIn w gk gc gr v n xs c r' W' → SmallR r' → Q .normal ⟨#[u0, u1, u2, v, .slice (some ⟨gk, 0, none⟩) 8 8, u5, .pointer (some ⟨gc, 0, none⟩), .pointer (some ⟨gr, 0, none⟩), .int .i64 tn, u9, u10, u11, u12, u13, u14, u15, u16, u17, u18, u19, u20, u21, u22, u23, u24, u25, u26, u27, u28, u29, u30, u31, u32, u33, u34, u35, u36, u37, u38, u39, u40, u41, u42, u43, u44, u45, u46, u47, u48, u49, u50, u51, u52, u53, u54, u55, u56, u57, u58, u59, u60, u61, u62, u63, u64, s65, s66, s67, s68, s69, s70, s71, s72, s73, s74, s75, s76, s77, s78, s79, s80, s81, s82, s83, s84, s85, s86, s87, s88, s89, s90, s91, s92, s93, s94, s95, s96, s97, s98, s99, s100, s101, s102, s103, s104, s105, s106, s107, s108, s109, s110, s111, s112, s113, s114, s115, s116, s117, s118, s119, s120, s121, s122, s123, s124, s125, s126, s127, s128, u129, u130, u131, u132, u133, u134, u135, u136, u137, u138, u139], []⟩ W') :
    Code.wp Tryz.prog (part Tryz.f7 [1, 1, 1, 0, 1, 2, 2, 1, 1, 0, 2, 1, 1, 1, 0, 2, 1, 3]) Q ⟨#[u0, u1, u2, v, .slice (some ⟨gk, 0, none⟩) 8 8, u5, .pointer (some ⟨gc, 0, none⟩), .pointer (some ⟨gr, 0, none⟩), .int .i64 tn, u9, u10, u11, u12, u13, u14, u15, u16, u17, u18, u19, u20, u21, u22, u23, u24, u25, u26, u27, u28, u29, u30, u31, u32, u33, u34, u35, u36, u37, u38, u39, u40, u41, u42, u43, u44, u45, u46, u47, u48, u49, u50, u51, u52, u53, u54, u55, u56, u57, u58, u59, u60, u61, u62, u63, u64, u65, u66, u67, u68, u69, u70, u71, u72, u73, u74, u75, u76, u77, u78, u79, u80, u81, u82, u83, u84, u85, u86, u87, u88, u89, u90, u91, u92, u93, u94, u95, u96, u97, u98, u99, u100, u101, u102, u103, u104, u105, u106, u107, u108, u109, u110, u111, u112, u113, u114, u115, u116, u117, u118, u119, u120, u121, u122, u123, u124, u125, u126, u127, u128, u129, u130, u131, u132, u133, u134, u135, u136, u137, u138, u139], []⟩ wx := by
  conv => arg 2; whnf
  have HQ := Lib.hid hQ
  clear hQ
  refine wp_seq_k fun K0 hK0 => ?_
  have HK0 := Lib.hid hK0
  clear hK0
  refine m14 _ _ hM hr hc htn (fun _ _ _ _ _ _ _ _ _ r0 wx0 hM hr => ?_)
  refine HK0.out _ _ ?_
  clear HK0
  refine wp_seq_k fun K1 hK1 => ?_
  have HK1 := Lib.hid hK1
  clear hK1
  refine m15 _ _ hM hr hc htn (fun _ _ _ _ _ _ _ r1 wx1 hM hr => ?_)
  refine HK1.out _ _ ?_
  clear HK1
  refine wp_seq_k fun K2 hK2 => ?_
  have HK2 := Lib.hid hK2
  clear hK2
  refine m17 _ _ hM hr hc htn (fun _ _ _ _ _ _ _ _ _ _ r2 wx2 hM hr => ?_)
  refine HK2.out _ _ ?_
  clear HK2
  refine wp_seq_k fun K3 hK3 => ?_
  have HK3 := Lib.hid hK3
  clear hK3
  refine m19 _ _ hM hr hc htn (fun _ _ _ _ r3 wx3 hM hr => ?_)
  refine HK3.out _ _ ?_
  clear HK3
  refine wp_seq_k fun K4 hK4 => ?_
  have HK4 := Lib.hid hK4
  clear hK4
  refine m21 _ _ hM hr hc htn (fun _ _ _ _ _ _ _ _ _ _ _ _ _ _ _ r4 wx4 hM hr => ?_)
  refine HK4.out _ _ ?_
  clear HK4
  refine wp_seq_k fun K5 hK5 => ?_
  have HK5 := Lib.hid hK5
  clear hK5
  refine m23 _ _ hM hr hc htn (fun _ _ _ _ _ _ _ _ _ _ _ r5 wx5 hM hr => ?_)
  refine HK5.out _ _ ?_
  clear HK5
  refine m25 _ _ hM hr hc htn (fun _ _ _ _ _ _ _ _ r6 wx6 hM hr => ?_)
  exact HQ.out _ _ _ _ _ _ _ _ _ _ _ _ _ _ _ _ _ _ _ _ _ _ _ _ _ _ _ _ _ _ _ _ _ _ _ _ _ _ _ _ _ _ _ _ _ _ _ _ _ _ _ _ _ _ _ _ _ _ _ _ _ _ _ _ _ _ hM hr

set_option maxHeartbeats 3200000 in
set_option maxRecDepth 100000 in
theorem mB {gk gc gr n : Nat} {v : Value} {xs : List Value} {c : Cod} {r : Req} {tn : Int} {u0 u1 u2 u5 u9 u10 u11 u12 u13 u14 u15 u16 u17 u18 u19 u20 u21 u22 u23 u24 u25 u26 u27 u28 u29 u30 u31 u32 u33 u34 u35 u36 u37 u38 u39 u40 u41 u42 u43 u44 u45 u46 u47 u48 u49 u50 u51 u52 u53 u54 u55 u56 u57 u58 u59 u60 u61 u62 u63 u64 u65 u66 u67 u68 u69 u70 u71 u72 u73 u74 u75 u76 u77 u78 u79 u80 u81 u82 u83 u84 u85 u86 u87 u88 u89 u90 u91 u92 u93 u94 u95 u96 u97 u98 u99 u100 u101 u102 u103 u104 u105 u106 u107 u108 u109 u110 u111 u112 u113 u114 u115 u116 u117 u118 u119 u120 u121 u122 u123 u124 u125 u126 u127 u128 u129 u130 u131 u132 u133 u134 u135 u136 u137 u138 u139 : Value} (w wx : World) {Q : Exit → Act → World → Prop} (hM : MIn w gk gc gr v n xs c r wx) (hr : SmallR r) (hc : c.ok) (htn : 1 ≤ tn ∧ tn ≤ 2)
    (hQ : ∀ (s39 s40 s41 s42 s43 s44 s45 s46 s47 s48 s49 s50 s51 s52 s53 s54 s55 s56 s57 s58 s59 s60 : Value) (r' : Req) (W' : World), MIn w gk gc gr v n xs c r' W' → SmallR r' → Q .normal ⟨#[u0, u1, u2, v, .slice (some ⟨gk, 0, none⟩) 8 8, u5, .pointer (some ⟨gc, 0, none⟩), .pointer (some ⟨gr, 0, none⟩), .int .i64 tn, u9, u10, u11, u12, u13, u14, u15, u16, u17, u18, u19, u20, u21, u22, u23, u24, u25, u26, u27, u28, u29, u30, u31, u32, u33, u34, u35, u36, u37, u38, s39, s40, s41, s42, s43, s44, s45, s46, s47, s48, s49, s50, s51, s52, s53, s54, s55, s56, s57, s58, s59, s60, u61, u62, u63, u64, u65, u66, u67, u68, u69, u70, u71, u72, u73, u74, u75, u76, u77, u78, u79, u80, u81, u82, u83, u84, u85, u86, u87, u88, u89, u90, u91, u92, u93, u94, u95, u96, u97, u98, u99, u100, u101, u102, u103, u104, u105, u106, u107, u108, u109, u110, u111, u112, u113, u114, u115, u116, u117, u118, u119, u120, u121, u122, u123, u124, u125, u126, u127, u128, u129, u130, u131, u132, u133, u134, u135, u136, u137, u138, u139], []⟩ W') :
    Code.wp Tryz.prog (part Tryz.f7 [1, 1, 1, 0, 1, 2, 2, 1, 1, 0, 2, 1, 1, 1, 0, 2, 1, 4]) Q ⟨#[u0, u1, u2, v, .slice (some ⟨gk, 0, none⟩) 8 8, u5, .pointer (some ⟨gc, 0, none⟩), .pointer (some ⟨gr, 0, none⟩), .int .i64 tn, u9, u10, u11, u12, u13, u14, u15, u16, u17, u18, u19, u20, u21, u22, u23, u24, u25, u26, u27, u28, u29, u30, u31, u32, u33, u34, u35, u36, u37, u38, u39, u40, u41, u42, u43, u44, u45, u46, u47, u48, u49, u50, u51, u52, u53, u54, u55, u56, u57, u58, u59, u60, u61, u62, u63, u64, u65, u66, u67, u68, u69, u70, u71, u72, u73, u74, u75, u76, u77, u78, u79, u80, u81, u82, u83, u84, u85, u86, u87, u88, u89, u90, u91, u92, u93, u94, u95, u96, u97, u98, u99, u100, u101, u102, u103, u104, u105, u106, u107, u108, u109, u110, u111, u112, u113, u114, u115, u116, u117, u118, u119, u120, u121, u122, u123, u124, u125, u126, u127, u128, u129, u130, u131, u132, u133, u134, u135, u136, u137, u138, u139], []⟩ wx := by
  conv => arg 2; whnf
  have HQ := Lib.hid hQ
  clear hQ
  refine wp_seq_k fun K0 hK0 => ?_
  have HK0 := Lib.hid hK0
  clear hK0
  refine m8 _ _ hM hr hc htn (fun _ _ r0 wx0 hM hr => ?_)
  refine HK0.out _ _ ?_
  clear HK0
  refine wp_seq_k fun K1 hK1 => ?_
  have HK1 := Lib.hid hK1
  clear hK1
  refine m9 _ _ hM hr hc htn (fun _ _ _ _ _ _ _ _ _ _ _ _ _ r1 wx1 hM hr => ?_)
  refine HK1.out _ _ ?_
  clear HK1
  refine m11 _ _ hM hr hc htn (fun _ _ _ _ _ _ _ r2 wx2 hM hr => ?_)
  exact HQ.out _ _ _ _ _ _ _ _ _ _ _ _ _ _ _ _ _ _ _ _ _ _ _ _ hM hr

set_option maxHeartbeats 3200000 in
set_option maxRecDepth 100000 in
theorem mS {gk gc gr n : Nat} {v : Value} {xs : List Value} {c : Cod} {r : Req} {tn : Int} {u0 u1 u2 u5 u9 u10 u11 u12 u13 u14 u15 u16 u17 u18 u19 u20 u21 u22 u23 u24 u25 u26 u27 u28 u29 u30 u31 u32 u33 u34 u35 u36 u37 u38 u39 u40 u41 u42 u43 u44 u45 u46 u47 u48 u49 u50 u51 u52 u53 u54 u55 u56 u57 u58 u59 u60 u61 u62 u63 u64 u65 u66 u67 u68 u69 u70 u71 u72 u73 u74 u75 u76 u77 u78 u79 u80 u81 u82 u83 u84 u85 u86 u87 u88 u89 u90 u91 u92 u93 u94 u95 u96 u97 u98 u99 u100 u101 u102 u103 u104 u105 u106 u107 u108 u109 u110 u111 u112 u113 u114 u115 u116 u117 u118 u119 u120 u121 u122 u123 u124 u125 u126 u127 u128 u129 u130 u131 u132 u133 u134 u135 u136 u137 u138 u139 : Value} (w wx : World) {Q : Exit → Act → World → Prop} (hM : MIn w gk gc gr v n xs c r wx) (hr : SmallR r) (hc : c.ok) (htn : 1 ≤ tn ∧ tn ≤ 2)
    (hQ : ∀ (s39 s40 s41 s42 s43 s44 s45 s46 s47 s48 s49 s50 s51 s52 s53 s54 s55 s56 s57 s58 s59 s60 s61 s62 s63 s64 s65 s66 s67 s68 s69 s70 s71 s72 s73 s74 s75 s76 s77 s78 s79 s80 s81 s82 s83 s84 s85 s86 s87 s88 s89 s90 s91 s92 s93 s94 s95 s96 s97 s98 s99 s100 s101 s102 s103 s104 s105 s106 s107 s108 s109 s110 s111 s112 s113 s114 s115 s116 s117 s118 s119 s120 s121 s122 s123 s124 s125 s126 s127 s128 : Value) (r' : Req) (W' : World), MIn w gk gc gr v n xs c r' W' → SmallR r' → Q .normal ⟨#[u0, u1, u2, v, .slice (some ⟨gk, 0, none⟩) 8 8, u5, .pointer (some ⟨gc, 0, none⟩), .pointer (some ⟨gr, 0, none⟩), .int .i64 tn, u9, u10, u11, u12, u13, u14, u15, u16, u17, u18, u19, u20, u21, u22, u23, u24, u25, u26, u27, u28, u29, u30, u31, u32, u33, u34, u35, u36, u37, u38, s39, s40, s41, s42, s43, s44, s45, s46, s47, s48, s49, s50, s51, s52, s53, s54, s55, s56, s57, s58, s59, s60, s61, s62, s63, s64, s65, s66, s67, s68, s69, s70, s71, s72, s73, s74, s75, s76, s77, s78, s79, s80, s81, s82, s83, s84, s85, s86, s87, s88, s89, s90, s91, s92, s93, s94, s95, s96, s97, s98, s99, s100, s101, s102, s103, s104, s105, s106, s107, s108, s109, s110, s111, s112, s113, s114, s115, s116, s117, s118, s119, s120, s121, s122, s123, s124, s125, s126, s127, s128, u129, u130, u131, u132, u133, u134, u135, u136, u137, u138, u139], []⟩ W') :
    Code.wp Tryz.prog (part Tryz.f7 [1, 1, 1, 0, 1, 2, 2, 1, 1, 0, 2, 1, 1, 1, 0]) Q ⟨#[u0, u1, u2, v, .slice (some ⟨gk, 0, none⟩) 8 8, u5, .pointer (some ⟨gc, 0, none⟩), .pointer (some ⟨gr, 0, none⟩), .int .i64 tn, u9, u10, u11, u12, u13, u14, u15, u16, u17, u18, u19, u20, u21, u22, u23, u24, u25, u26, u27, u28, u29, u30, u31, u32, u33, u34, u35, u36, u37, u38, u39, u40, u41, u42, u43, u44, u45, u46, u47, u48, u49, u50, u51, u52, u53, u54, u55, u56, u57, u58, u59, u60, u61, u62, u63, u64, u65, u66, u67, u68, u69, u70, u71, u72, u73, u74, u75, u76, u77, u78, u79, u80, u81, u82, u83, u84, u85, u86, u87, u88, u89, u90, u91, u92, u93, u94, u95, u96, u97, u98, u99, u100, u101, u102, u103, u104, u105, u106, u107, u108, u109, u110, u111, u112, u113, u114, u115, u116, u117, u118, u119, u120, u121, u122, u123, u124, u125, u126, u127, u128, u129, u130, u131, u132, u133, u134, u135, u136, u137, u138, u139], []⟩ wx := by
  conv => arg 2; whnf
  have HQ := Lib.hid hQ
  clear hQ
  obtain ⟨⟨hk1, hk2, hk3, hk4⟩, hk5, hk6⟩ := hM
  obtain ⟨q0, q1, q2, q3, q4, q5, q6, q7, q8, q9, q10, q11⟩ := req_cells hk5
  obtain ⟨c0, c1, c2, c3, c4, c5⟩ := cod_cells hk2
  have HM := Lib.hid (show MIn w gk gc gr v n xs c r wx from ⟨⟨hk1, hk2, hk3, hk4⟩, hk5, hk6⟩)
  have HR := Lib.hid hr
  have HC := Lib.hid hc
  clear hr hc
  clear hk1 hk2 hk3 hk4 hk5 hk6
  refine wp_block ?_
  refine wp_seq_k fun K0 hK => ?_
  have HK0 := Lib.hid hK
  clear hK
  go_wp2_with fail
  refine HK0.out _ _ ?_
  clear HK0 q0 q1 q2 q3 q4 q5 q6 q7 q8 q9 q10 q11 c0 c1 c2 c3 c4 c5
  refine wp_cond (t := decide (r.deed ≤ 6)) rfl ?_
  cases decide (r.deed ≤ 6)
  · rw [if_neg (by decide)]
    refine mB _ _ HM.out HR.out HC.out htn (fun _ _ _ _ _ _ _ _ _ _ _ _ _ _ _ _ _ _ _ _ _ _  r1 W1 hM1 hr1 => ?_)
    exact HQ.out _ _ _ _ _ _ _ _ _ _ _ _ _ _ _ _ _ _ _ _ _ _ _ _ _ _ _ _ _ _ _ _ _ _ _ _ _ _ _ _ _ _ _ _ _ _ _ _ _ _ _ _ _ _ _ _ _ _ _ _ _ _ _ _ _ _ _ _ _ _ _ _ _ _ _ _ _ _ _ _ _ _ _ _ _ _ _ _ _ _  _ _ hM1 hr1
  · rw [if_pos rfl]
    refine mA _ _ HM.out HR.out HC.out htn (fun _ _ _ _ _ _ _ _ _ _ _ _ _ _ _ _ _ _ _ _ _ _ _ _ _ _ _ _ _ _ _ _ _ _ _ _ _ _ _ _ _ _ _ _ _ _ _ _ _ _ _ _ _ _ _ _ _ _ _ _ _ _ _ _  r1 W1 hM1 hr1 => ?_)
    exact HQ.out _ _ _ _ _ _ _ _ _ _ _ _ _ _ _ _ _ _ _ _ _ _ _ _ _ _ _ _ _ _ _ _ _ _ _ _ _ _ _ _ _ _ _ _ _ _ _ _ _ _ _ _ _ _ _ _ _ _ _ _ _ _ _ _ _ _ _ _ _ _ _ _ _ _ _ _ _ _ _ _ _ _ _ _ _ _ _ _ _ _  _ _ hM1 hr1

end Go.Proofs.YtkgflepgkhnclaaGreatDoor
namespace Go.Proofs.YtkgflepgkhnclaaGreatDoor
open Go.RowKit
set_option linter.unusedVariables false
set_option linter.unusedSimpArgs false

set_option maxHeartbeats 3200000 in
set_option maxRecDepth 100000 in
theorem m6 {gk gc n : Nat} {v : Value} {xs : List Value} {c : Cod} {u0 u1 u2 u5 u7 u8 u9 u10 u11 u12 u13 u14 u15 u16 u17 u18 u19 u20 u21 u22 u23 u24 u25 u26 u27 u28 u29 u30 u31 u32 u33 u34 u35 u36 u37 u38 u39 u40 u41 u42 u43 u44 u45 u46 u47 u48 u49 u50 u51 u52 u53 u54 u55 u56 u57 u58 u59 u60 u61 u62 u63 u64 u65 u66 u67 u68 u69 u70 u71 u72 u73 u74 u75 u76 u77 u78 u79 u80 u81 u82 u83 u84 u85 u86 u87 u88 u89 u90 u91 u92 u93 u94 u95 u96 u97 u98 u99 u100 u101 u102 u103 u104 u105 u106 u107 u108 u109 u110 u111 u112 u113 u114 u115 u116 u117 u118 u119 u120 u121 u122 u123 u124 u125 u126 u127 u128 u129 u130 u131 u132 u133 u134 u135 u136 u137 u138 u139 : Value} (w wx : World) {Q : Exit → Act → World → Prop} (hM : M0 w gk gc v n xs c wx) (hc : c.ok)
    (hQ : ∀ (s27 s28 s29 s30 s31 s32 s33 : Value) (gr : Nat) (d : Int) (W' : World), 1 ≤ d ∧ d ≤ 10 → M0 w gk gc v n xs c W' → Blk W' gr 39 #[.int .i64 d, .int .i64 0, .int .u32 0, .int .u8 0, .string ⟨#[]⟩, .string ⟨#[]⟩, .string ⟨#[]⟩, .int .i64 0, .int .i64 0, .int .u64 0, .int .u64 0, .int .u8 0] → w.heap.size ≤ gr → Q .normal ⟨#[u0, u1, u2, v, .slice (some ⟨gk, 0, none⟩) 8 8, u5, .pointer (some ⟨gc, 0, none⟩), .pointer (some ⟨gr, 0, none⟩), u8, u9, u10, u11, u12, u13, u14, u15, u16, u17, u18, u19, u20, u21, u22, u23, u24, u25, u26, s27, s28, s29, s30, s31, s32, s33, u34, u35, u36, u37, u38, u39, u40, u41, u42, u43, u44, u45, u46, u47, u48, u49, u50, u51, u52, u53, u54, u55, u56, u57, u58, u59, u60, u61, u62, u63, u64, u65, u66, u67, u68, u69, u70, u71, u72, u73, u74, u75, u76, u77, u78, u79, u80, u81, u82, u83, u84, u85, u86, u87, u88, u89, u90, u91, u92, u93, u94, u95, u96, u97, u98, u99, u100, u101, u102, u103, u104, u105, u106, u107, u108, u109, u110, u111, u112, u113, u114, u115, u116, u117, u118, u119, u120, u121, u122, u123, u124, u125, u126, u127, u128, u129, u130, u131, u132, u133, u134, u135, u136, u137, u138, u139], []⟩ W') :
    Code.wp Tryz.prog (part Tryz.f7 [1, 1, 1, 0, 1, 2, 2, 1, 1, 0, 2, 1, 0]) Q ⟨#[u0, u1, u2, v, .slice (some ⟨gk, 0, none⟩) 8 8, u5, .pointer (some ⟨gc, 0, none⟩), u7, u8, u9, u10, u11, u12, u13, u14, u15, u16, u17, u18, u19, u20, u21, u22, u23, u24, u25, u26, u27, u28, u29, u30, u31, u32, u33, u34, u35, u36, u37, u38, u39, u40, u41, u42, u43, u44, u45, u46, u47, u48, u49, u50, u51, u52, u53, u54, u55, u56, u57, u58, u59, u60, u61, u62, u63, u64, u65, u66, u67, u68, u69, u70, u71, u72, u73, u74, u75, u76, u77, u78, u79, u80, u81, u82, u83, u84, u85, u86, u87, u88, u89, u90, u91, u92, u93, u94, u95, u96, u97, u98, u99, u100, u101, u102, u103, u104, u105, u106, u107, u108, u109, u110, u111, u112, u113, u114, u115, u116, u117, u118, u119, u120, u121, u122, u123, u124, u125, u126, u127, u128, u129, u130, u131, u132, u133, u134, u135, u136, u137, u138, u139], []⟩ wx := by
  conv => arg 2; whnf
  have HQ := Lib.hid hQ
  clear hQ
  obtain ⟨hk1, hk2, hk3, hk4⟩ := hM
  obtain ⟨c0, c1, c2, c3, c4, c5⟩ := cod_cells hk2
  have lc := hk2.lt
  have HM := Lib.hid (show M0 w gk gc v n xs c wx from ⟨hk1, hk2, hk3, hk4⟩)
  have hsz := hk4.size
  have HC := Lib.hid hc
  clear hc
  obtain ⟨b, hb, hb0, hb1⟩ := tmod_in (x := c.d) 16 (by have := HC.out; obtain ⟨⟨_, _⟩, ⟨_, _⟩, ⟨_, _⟩, ⟨_, _⟩, ⟨_, _⟩, ⟨_, _⟩⟩ := this; omega) (by decide)
  clear hk1 hk2 hk3 hk4
  have hbc : b = 0 ∨ b = 1 ∨ b = 2 ∨ b = 3 ∨ b = 4 ∨ b = 5 ∨ b = 6 ∨ b = 7 ∨ b = 8 ∨ b = 9 ∨ b = 10 ∨ b = 11 ∨ b = 12 ∨ b = 13 ∨ b = 14 ∨ b = 15 := by omega
  clear hb0 hb1
  rcases hbc with rfl | rfl | rfl | rfl | rfl | rfl | rfl | rfl | rfl | rfl | rfl | rfl | rfl | rfl | rfl | rfl
  all_goals
    go_wp2
    exact HQ.out _ _ _ _ _ _ _ _ _ _ ⟨by decide, by decide⟩ ((HM.out.alloc _).alloc _) (blk_newAt (by simp)) (by omega)

end Go.Proofs.YtkgflepgkhnclaaGreatDoor
namespace Go.Proofs.YtkgflepgkhnclaaGreatDoor
open Go.RowKit
set_option linter.unusedVariables false
set_option linter.unusedSimpArgs false

/-- Entries as Made makes them. -/
def MadeOk (es : List Ent) : Prop := ∀ x ∈ es, (0 ≤ x.ses ∧ x.ses ≤ 3) ∧ SmallR x.r
/-- What Made comes to. -/
def MadeEnd (n : Nat) (w : World) (e : Ending) (w' : World) : Prop :=
  ∃ (es : List Ent) (v : Value), e = .returned v ∧ w'.ownsRow w.heap.size 41 13 v es.length (es.flatMap Ent.row) ∧ Below w.heap.size w w' ∧ MadeOk es ∧ es.length = 2 + min n 20

def made2 : List Ent := [⟨0, ⟨7, 0, 0, 0, ⟨#[]⟩, ⟨#[]⟩, ⟨#[]⟩, 0, 1, 4, 24, 0⟩⟩, ⟨0, ⟨7, 0, 0, 0, ⟨#[]⟩, ⟨#[]⟩, ⟨#[]⟩, 0, 2, 9, 90, 0⟩⟩]
theorem made2_ok : MadeOk made2 := by
  intro x hx
  simp only [made2, List.mem_cons, List.not_mem_nil, or_false] at hx
  rcases hx with rfl | rfl <;> exact ⟨by decide, by constructor <;> decide⟩

theorem infoEntriesM : (Tryz.prog.info? 41).map (fun i => (i.zero, i.size, i.bytes)) = some (some (.agg #[.int .i64 0, .int .i64 0, .int .i64 0, .int .u32 0, .int .u8 0, .string ⟨#[]⟩, .string ⟨#[]⟩, .string ⟨#[]⟩, .int .i64 0, .int .i64 0, .int .u64 0, .int .u64 0, .int .u8 0]), 13, 120) := by kernel_rfl
set_option maxHeartbeats 6400000 in
set_option maxRecDepth 100000 in
theorem made_loop (cs : List Cod) (A : Option Addr) (cap m gk : Nat) (v : Value) (es0 : List Ent) {u0 u1 u2 u5 u6 u7 u8 u9 u10 u11 u12 u13 u14 u15 u16 u17 u18 u19 u20 u24 u25 u26 u27 u28 u29 u30 u31 u32 u33 u34 u35 u36 u37 u38 u39 u40 u41 u42 u43 u44 u45 u46 u47 u48 u49 u50 u51 u52 u53 u54 u55 u56 u57 u58 u59 u60 u61 u62 u63 u64 u65 u66 u67 u68 u69 u70 u71 u72 u73 u74 u75 u76 u77 u78 u79 u80 u81 u82 u83 u84 u85 u86 u87 u88 u89 u90 u91 u92 u93 u94 u95 u96 u97 u98 u99 u100 u101 u102 u103 u104 u105 u106 u107 u108 u109 u110 u111 u112 u113 u114 u115 u116 u117 u118 u119 u120 u121 u122 u123 u124 u125 u126 u127 u128 u129 u130 u131 u132 u133 u134 u135 u136 u137 u138 u139 : Value} (w wx : World) {Q : Exit → Act → World → Prop} (hA : Reads w w.heap.size 6 A cs.length (cs.flatMap Cod.row)) (hok : ∀ c ∈ cs, c.ok) (hm : m ≤ cs.length) (hm2 : m ≤ 20) (he0 : es0.length ≤ 2) (he : MadeOk es0)
    (hown : wx.ownsRow w.heap.size 41 13 v es0.length (es0.flatMap Ent.row)) (hkw : Blk wx gk 9 kws) (hbel : Below w.heap.size w wx)
    (hQ : ∀ (s6 s7 s8 s24 s25 s26 s27 s28 s29 s30 s31 s32 s33 s34 s35 s36 s37 s38 s39 s40 s41 s42 s43 s44 s45 s46 s47 s48 s49 s50 s51 s52 s53 s54 s55 s56 s57 s58 s59 s60 s61 s62 s63 s64 s65 s66 s67 s68 s69 s70 s71 s72 s73 s74 s75 s76 s77 s78 s79 s80 s81 s82 s83 s84 s85 s86 s87 s88 s89 s90 s91 s92 s93 s94 s95 s96 s97 s98 s99 s100 s101 s102 s103 s104 s105 s106 s107 s108 s109 s110 s111 s112 s113 s114 s115 s116 s117 s118 s119 s120 s121 s122 s123 s124 s125 s126 s127 s128 s129 s130 s131 s132 s133 s134 s135 s136 s137 s138 : Value) (es : List Ent) (v' : Value) (W' : World), es.length = es0.length + m → MadeOk es → W'.ownsRow w.heap.size 41 13 v' es.length (es.flatMap Ent.row) → Below w.heap.size w W' → Q .normal ⟨#[u0, u1, u2, v', .slice (some ⟨gk, 0, none⟩) 8 8, u5, s6, s7, s8, u9, u10, u11, u12, u13, u14, u15, u16, u17, u18, u19, u20, .slice A m cap, .int .i64 m, .int .i64 m, s24, s25, s26, s27, s28, s29, s30, s31, s32, s33, s34, s35, s36, s37, s38, s39, s40, s41, s42, s43, s44, s45, s46, s47, s48, s49, s50, s51, s52, s53, s54, s55, s56, s57, s58, s59, s60, s61, s62, s63, s64, s65, s66, s67, s68, s69, s70, s71, s72, s73, s74, s75, s76, s77, s78, s79, s80, s81, s82, s83, s84, s85, s86, s87, s88, s89, s90, s91, s92, s93, s94, s95, s96, s97, s98, s99, s100, s101, s102, s103, s104, s105, s106, s107, s108, s109, s110, s111, s112, s113, s114, s115, s116, s117, s118, s119, s120, s121, s122, s123, s124, s125, s126, s127, s128, s129, s130, s131, s132, s133, s134, s135, s136, s137, s138, u139], []⟩ W') :
    Code.wp Tryz.prog (part Tryz.f7 [1, 1, 1, 0, 1]) Q ⟨#[u0, u1, u2, v, .slice (some ⟨gk, 0, none⟩) 8 8, u5, u6, u7, u8, u9, u10, u11, u12, u13, u14, u15, u16, u17, u18, u19, u20, .slice A m cap, .int .i64 m, .int .i64 0, u24, u25, u26, u27, u28, u29, u30, u31, u32, u33, u34, u35, u36, u37, u38, u39, u40, u41, u42, u43, u44, u45, u46, u47, u48, u49, u50, u51, u52, u53, u54, u55, u56, u57, u58, u59, u60, u61, u62, u63, u64, u65, u66, u67, u68, u69, u70, u71, u72, u73, u74, u75, u76, u77, u78, u79, u80, u81, u82, u83, u84, u85, u86, u87, u88, u89, u90, u91, u92, u93, u94, u95, u96, u97, u98, u99, u100, u101, u102, u103, u104, u105, u106, u107, u108, u109, u110, u111, u112, u113, u114, u115, u116, u117, u118, u119, u120, u121, u122, u123, u124, u125, u126, u127, u128, u129, u130, u131, u132, u133, u134, u135, u136, u137, u138, u139], []⟩ wx := by
  conv => arg 2; whnf
  have HQ := Lib.hid hQ
  have HA := Lib.hid hA
  have HOK := Lib.hid hok
  have HE := Lib.hid (And.intro he (And.intro hown (And.intro hkw hbel)))
  obtain ⟨i0, hi0, iz0, iz1, iz2⟩ := info_parts infoEntriesM
  clear hQ hA hok he hown hkw hbel
  go_wp2_with fail
  go_loopw [3, 23] (fun v i wr => ∃ (k : Nat) (es : List Ent), k ≤ m ∧ i = .int .i64 k ∧ es.length = es0.length + k ∧ Hid (MadeOk es ∧ wr.ownsRow w.heap.size 41 13 v es.length (es.flatMap Ent.row) ∧ Blk wr gk 9 kws ∧ Below w.heap.size w wr)) (fun _ i _ => m - (intOf i).toNat)
  case atStart => exact ⟨0, es0, Nat.zero_le _, rfl, rfl, HE⟩
  case round =>
    obtain ⟨k, es, hk, rfl, hel, HW⟩ := hrel
    have hel := Lib.hid hel
    rename_i hel0
    clear hel0
    by_cases hlt : k < m
    · have hltc : k < cs.length := by omega
      obtain ⟨ad, rfl, hab, hc⟩ := row_cells Cod.row_len HA.out rfl hltc
      have hcc : ∀ j u, (Cod.row cs[k])[j]? = some u → wr.cell? ((ad.add (k * 6)).add j) = some u := fun j u hu => (HW.out.2.2.2.cell (by rw [block_of_add, block_of_add]; exact hab)).trans (hc j u hu)
      have hcok := HOK.out _ (List.getElem_mem hltc)
      generalize cs[k] = c at hcc hcok
      have HC := Lib.hid hcok
      have p0 : wr.cell? (ad.add (k * 6)) = some (.int .u8 c.s) := by have := hcc 0 _ rfl; rwa [add_of_add] at this
      have p1 : wr.cell? ⟨(ad.add (k * 6)).block, (ad.add (k * 6)).off + 1, none⟩ = some (.int .u8 c.d) := by have := hcc 1 _ rfl; exact this
      have p2 : wr.cell? ⟨(ad.add (k * 6)).block, (ad.add (k * 6)).off + 2, none⟩ = some (.int .u8 c.k) := by have := hcc 2 _ rfl; exact this
      have p3 : wr.cell? ⟨(ad.add (k * 6)).block, (ad.add (k * 6)).off + 3, none⟩ = some (.int .u8 c.v) := by have := hcc 3 _ rfl; exact this
      have p4 : wr.cell? ⟨(ad.add (k * 6)).block, (ad.add (k * 6)).off + 4, none⟩ = some (.int .u8 c.h) := by have := hcc 4 _ rfl; exact this
      have p5 : wr.cell? ⟨(ad.add (k * 6)).block, (ad.add (k * 6)).off + 5, none⟩ = some (.int .u8 c.x) := by have := hcc 5 _ rfl; exact this
      have i1 : (0 : Int) ≤ (k : Int) := by omega
      have i2 : (k : Int) < (m : Int) := by omega
      have hM0 : M0 w gk wr.heap.size u3 es.length (es.flatMap Ent.row) c (wr.alloc (.cells #[.int .u8 c.s, .int .u8 c.d, .int .u8 c.k, .int .u8 c.v, .int .u8 c.h, .int .u8 c.x] 95)) := ⟨HW.out.2.2.1.alloc _, Blk.new _ _ _, HW.out.2.1.alloc _, below_alloc HW.out.2.2.2 _⟩
      have HM0 := Lib.hid hM0
      clear hc hcc hcok hM0
      go_upto_region 6 with fail
      rename_i K0 hK
      have HK0 := Lib.hid hK
      clear hK p0 p1 p2 p3 p4 p5 i1 i2
      generalize wr.alloc (.cells #[.int .u8 c.s, .int .u8 c.d, .int .u8 c.k, .int .u8 c.v, .int .u8 c.h, .int .u8 c.x] 95) = W0 at HM0 ⊢
      refine m6 _ _ HM0.out HC.out (fun _ _ _ _ _ _ _  gr d W1 hd hM1 hb1 hg1 => ?_)
      refine HK0.out _ _ ?_
      clear HK0 K0
      have hr : SmallR ⟨d, 0, 0, 0, ⟨#[]⟩, ⟨#[]⟩, ⟨#[]⟩, 0, 0, 0, 0, 0⟩ := ⟨hd, by dsimp only; decide, by dsimp only; decide, by dsimp only; decide, by dsimp only; decide, by dsimp only; decide, by dsimp only; decide, by dsimp only; decide, by dsimp only; decide, by dsimp only; decide, by dsimp only; decide, by dsimp only; decide⟩
      have hM : MIn w gk wr.heap.size gr u3 es.length (es.flatMap Ent.row) c ⟨d, 0, 0, 0, ⟨#[]⟩, ⟨#[]⟩, ⟨#[]⟩, 0, 0, 0, 0, 0⟩ W1 := ⟨hM1, hb1, hg1⟩
      generalize (⟨d, 0, 0, 0, ⟨#[]⟩, ⟨#[]⟩, ⟨#[]⟩, 0, 0, 0, 0, 0⟩ : Req) = r at hr hM
      clear hM1 hb1 hg1 hd
      refine wp_seq_k fun K0 hK => ?_
      have HK0 := Lib.hid hK
      clear hK
      refine m7 _ _ hM hr HC.out (fun _ _ _ _ _  tn W2 hM2 ht1 ht2 => ?_)
      refine HK0.out _ _ ?_
      clear HK0 K0 hM
      refine wp_seq_k fun K0 hK => ?_
      have HK0 := Lib.hid hK
      clear hK
      refine mS _ _ hM2 hr HC.out ⟨ht1, ht2⟩ (fun _ _ _ _ _ _ _ _ _ _ _ _ _ _ _ _ _ _ _ _ _ _ _ _ _ _ _ _ _ _ _ _ _ _ _ _ _ _ _ _ _ _ _ _ _ _ _ _ _ _ _ _ _ _ _ _ _ _ _ _ _ _ _ _ _ _ _ _ _ _ _ _ _ _ _ _ _ _ _ _ _ _ _ _ _ _ _ _ _ _  r2 W3 hM3 hr2 => ?_)
      refine HK0.out _ _ ?_
      clear HK0 K0 hM2 hr
      obtain ⟨⟨hk1, hk2, hk3, hk4⟩, hk5, hk6⟩ := hM3
      obtain ⟨q0, q1, q2, q3, q4, q5, q6, q7, q8, q9, q10, q11⟩ := req_cells hk5
      obtain ⟨c0, c1, c2, c3, c4, c5⟩ := cod_cells hk2
      obtain ⟨b, hb, hb0, hb1⟩ := tmod_in (x := c.s) 4 (by have := HC.out.s; omega) (by decide)
      have hoX := Lib.hid (And.intro hk3 (And.intro hk1 hk4))
      clear hk1 hk2 hk3 hk4 hk5 hk6
      go_wp2_with
        (at_builtin
         refine wpList_append_any _ rfl (.tmp 129) (.tmp 136) _ rfl w.heap.size 41 i0 _ 13 120 Tryz.underlying31 hi0 iz0 iz1 iz2 rfl (by omega) u3 es.length (es.flatMap Ent.row) rfl
             (hoX.out.1.alloc _) _ (some ⟨W3.heap.size, 0, none⟩) 1 1 (Ent.row ⟨b, r2⟩) rfl (reads_of_blk (blk_newAt (by simp)) rfl rfl) (ent_one _) (by have := hel.out; unfold maxLen; omega) (by have := hel.out; omega) (by have := hoX.out.2.2.size; simp; omega) ?_
         intro v2 w2 hown2 hg2 hat2
         have hbel2 : Below w.heap.size w w2 := below_app (below_alloc hoX.out.2.2 _) (hoX.out.1.alloc _) hg2 (Nat.le_refl _) (by have := hoX.out.2.2.size; simp; omega)
         have hkw2 : Blk w2 gk 9 kws := (hoX.out.2.1.alloc _).grown hg2 (Ne.symm (own_blk_ne hoX.out.1 hoX.out.2.1 (by decide))))
      clear hg2 hat2
      go_roundw
      case rel =>
        refine ⟨k + 1, es ++ [⟨b, r2⟩], by omega, by go_num, by rw [List.length_append, hel.out]; rfl, Lib.hid ⟨?_, ?_, hkw2, hbel2⟩⟩
        · intro x hx
          rcases List.mem_append.1 hx with hx | hx
          · exact HW.out.1 x hx
          · obtain rfl := List.mem_singleton.1 hx
            exact ⟨⟨hb0, by dsimp only; omega⟩, hr2⟩
        · rw [List.length_append, List.flatMap_append, List.flatMap_singleton]
          exact hown2
      case measure => simp [intOf]; omega
    · obtain rfl : k = m := by omega
      go_wp2
      exact HQ.out _ _ _ _ _ _ _ _ _ _ _ _ _ _ _ _ _ _ _ _ _ _ _ _ _ _ _ _ _ _ _ _ _ _ _ _ _ _ _ _ _ _ _ _ _ _ _ _ _ _ _ _ _ _ _ _ _ _ _ _ _ _ _ _ _ _ _ _ _ _ _ _ _ _ _ _ _ _ _ _ _ _ _ _ _ _ _ _ _ _ _ _ _ _ _ _ _ _ _ _ _ _ _ _ _ _ _ _ _ _ _ _ _ _ _ _ _ _ _ _ _ hel.out HW.out.1 HW.out.2.1 HW.out.2.2.2

set_option maxHeartbeats 3200000 in
set_option maxRecDepth 100000 in
theorem made_any (cs : List Cod) (A : Option Addr) (cap : Nat) (w : World) (hA : Reads w w.heap.size 6 A cs.length (cs.flatMap Cod.row)) (hok : ∀ c ∈ cs, c.ok) (hl : cs.length ≤ cap) (hc : cap ≤ 9223372036854775807) :
    Calls Tryz.prog 7 #[.slice A cs.length cap] w (MadeEnd cs.length w) := by
  have HA := Lib.hid hA
  have HOK := Lib.hid hok
  have HD := Lib.hid made2_ok
  have H2 := Lib.hid (show Blk ((w.alloc (.cells (made2.flatMap Ent.row).toArray 41)).alloc (.cells kws 9)) w.heap.size 41 (made2.flatMap Ent.row).toArray from (Blk.new _ _ _).alloc _)
  have H3 := Lib.hid (show Blk ((w.alloc (.cells (made2.flatMap Ent.row).toArray 41)).alloc (.cells kws 9)) (w.heap.size + 1) 9 kws from blk_newAt (by simp))
  have H4 := Lib.hid (show Below w.heap.size w ((w.alloc (.cells (made2.flatMap Ent.row).toArray 41)).alloc (.cells kws 9)) from below_alloc (below_box w _) _)
  clear hA hok
  by_cases h20 : cs.length ≤ 20
  all_goals
    go_enter Tryz.func7, Tryz.ntmps7
    refine wp_seq_k fun K0 hK0 => ?_
    have HK0 := Lib.hid hK0
    clear hK0
    go_wp2_with fail
    refine HK0.out _ _ ?_
    clear HK0 K0
    refine wp_seq_k fun K0 hK0 => ?_
    have HK0 := Lib.hid hK0
    clear hK0
    go_wp2_with fail
    refine HK0.out _ _ ?_
    clear HK0 K0
    refine wp_seq_k fun K0 hK0 => ?_
    have HK0 := Lib.hid hK0
    clear hK0
    go_wp2_with fail
    refine HK0.out _ _ ?_
    clear HK0 K0
    refine wp_seq_k fun K1 hK1 => ?_
    have HK1 := Lib.hid hK1
    clear hK1
    refine wp_seq_k fun K0 hK0 => ?_
    have HK0 := Lib.hid hK0
    clear hK0
    go_wp2_with fail
    refine HK0.out _ _ ?_
    clear HK0 K0
  · rw [show min (cs.length : Int) 20 = (cs.length : Int) by omega, show max (cs.length : Int) 0 = (cs.length : Int) by omega, Int.toNat_natCast]
    refine made_loop cs A cap cs.length (w.heap.size + 1) _ made2 w _ HA.out HOK.out (Nat.le_refl _) h20 (by decide) HD.out (H2.out.own (Nat.le_refl _) (n := 2) (c := 2) (by decide) (by decide) rfl rfl) H3.out H4.out (fun _ _ _ _ _ _ _ _ _ _ _ _ _ _ _ _ _ _ _ _ _ _ _ _ _ _ _ _ _ _ _ _ _ _ _ _ _ _ _ _ _ _ _ _ _ _ _ _ _ _ _ _ _ _ _ _ _ _ _ _ _ _ _ _ _ _ _ _ _ _ _ _ _ _ _ _ _ _ _ _ _ _ _ _ _ _ _ _ _ _ _ _ _ _ _ _ _ _ _ _ _ _ _ _ _ _ _ _ _ _ _ _ _ _ _ _ _ _  es v' W' h1 h2 h3 h4 => ?_)
    have HF := Lib.hid (show MadeEnd cs.length w (.returned v') W' from ⟨es, v', rfl, h3, h4, h2, by rw [h1, Nat.min_eq_left h20]; rfl⟩)
    clear h1 h2 h3 h4
    refine HK1.out _ _ ?_
    clear HK1 K1
    go_wp2
    go_ret
    exact HF.out
  · rw [show min (cs.length : Int) 20 = 20 by omega, show max (20 : Int) 0 = 20 from rfl, show (20 : Int).toNat = 20 from rfl]
    refine made_loop cs A cap 20 (w.heap.size + 1) _ made2 w _ HA.out HOK.out (by omega) (by decide) (by decide) HD.out (H2.out.own (Nat.le_refl _) (n := 2) (c := 2) (by decide) (by decide) rfl rfl) H3.out H4.out (fun _ _ _ _ _ _ _ _ _ _ _ _ _ _ _ _ _ _ _ _ _ _ _ _ _ _ _ _ _ _ _ _ _ _ _ _ _ _ _ _ _ _ _ _ _ _ _ _ _ _ _ _ _ _ _ _ _ _ _ _ _ _ _ _ _ _ _ _ _ _ _ _ _ _ _ _ _ _ _ _ _ _ _ _ _ _ _ _ _ _ _ _ _ _ _ _ _ _ _ _ _ _ _ _ _ _ _ _ _ _ _ _ _ _ _ _ _ _  es v' W' h1 h2 h3 h4 => ?_)
    have HF := Lib.hid (show MadeEnd cs.length w (.returned v') W' from ⟨es, v', rfl, h3, h4, h2, by rw [h1, Nat.min_eq_right (by omega)]; rfl⟩)
    clear h1 h2 h3 h4
    refine HK1.out _ _ ?_
    clear HK1 K1
    go_wp2
    go_ret
    exact HF.out
end Go.Proofs.YtkgflepgkhnclaaGreatDoor
namespace Go.Proofs.YtkgflepgkhnclaaGreatDoor
open Go.RowKit
set_option linter.unusedVariables false
set_option linter.unusedSimpArgs false

theorem putB_fx (B : Bk) (k v : ByteArray) : (putB B k v).2.qk = B.qk ∧ (putB B k v).2.qb = B.qb ∧ ((putB B k v).1 ≠ 0 → (putB B k v).2 = B) := by
  unfold putB
  split
  · exact ⟨rfl, rfl, fun _ => rfl⟩
  · split
    · exact ⟨rfl, rfl, fun _ => rfl⟩
    · exact ⟨rfl, rfl, fun h => absurd rfl h⟩
theorem delB_fx (B : Bk) (k : ByteArray) : (delB B k).2.qk = B.qk ∧ (delB B k).2.qb = B.qb ∧ ((delB B k).1 ≠ 0 → (delB B k).2 = B) := by
  unfold delB
  split
  · exact ⟨rfl, rfl, fun h => absurd rfl h⟩
  · exact ⟨rfl, rfl, fun _ => rfl⟩
theorem swapB_fx (B : Bk) (k o v : ByteArray) : (swapB B k o v).2.qk = B.qk ∧ (swapB B k o v).2.qb = B.qb ∧ ((swapB B k o v).1 ≠ 0 → (swapB B k o v).2 = B) := by
  unfold swapB
  split
  · split
    · exact putB_fx B k v
    · exact ⟨rfl, rfl, fun _ => rfl⟩
  · exact ⟨rfl, rfl, fun _ => rfl⟩
/-- What a request does to the tenants. -/
def DoFx (M : Mdl) (r : Req) (R : Mdl × Ans) : Prop :=
  (R.1 = M ∧ (R.2.err = 0 → r.deed ≠ 7 ∧ r.deed ≠ 8 ∧ r.deed ≠ 10)) ∨
  (∃ n : Nat, 1 ≤ n ∧ n ≤ 16 ∧ r.tenant = n ∧ r.deed = 7 ∧ R.2.err = 0 ∧ (M n).bk = none ∧ R.1 = updM M n (newT (M n).gen r)) ∨
  (∃ n : Nat, 1 ≤ n ∧ n ≤ 16 ∧ r.tenant = n ∧ r.deed = 8 ∧ R.2.err = 0 ∧ R.1 = updM M n { ten0 with gen := (M n).gen }) ∨
  (∃ n : Nat, 1 ≤ n ∧ n ≤ 16 ∧ r.tenant = n ∧ r.deed = 10 ∧ R.2.err = 0 ∧ R.1 = updM M n { M n with gen := IntKind.u32.wrap ((M n).gen + 1) }) ∨
  (∃ (n : Nat) (B B' : Bk), 2 ≤ r.deed ∧ r.deed ≤ 4 ∧ 1 ≤ n ∧ n ≤ 16 ∧ (M n).bk = some B ∧ B'.qk = B.qk ∧ B'.qb = B.qb ∧ (R.2.err ≠ 0 → B' = B) ∧ R.1 = updM M n { M n with bk := some B' })
theorem operateN_fx (M : Mdl) (r : Req) (h1 : 1 ≤ r.deed) (h5 : r.deed ≤ 5) : DoFx M r (operateN M r) := by
  have hA : ∀ a, DoFx M r (M, a) := fun a => .inl ⟨rfl, fun _ => ⟨by omega, by omega, by omega⟩⟩
  unfold operateN
  split
  · exact hA _
  · split
    · rename_i h0
      obtain ⟨n, B, hn, hn1, hn2, hbk⟩ := may_good h0
      have hn' : r.ten.toNat = n := by omega
      rw [hn', hbk]
      dsimp only
      split
      · exact hA _
      · split
        · obtain ⟨a, b, c⟩ := putB_fx B r.key r.val
          exact .inr (.inr (.inr (.inr ⟨n, B, _, by omega, by omega, hn1, hn2, hbk, a, b, c, rfl⟩)))
        · split
          · obtain ⟨a, b, c⟩ := delB_fx B r.key
            exact .inr (.inr (.inr (.inr ⟨n, B, _, by omega, by omega, hn1, hn2, hbk, a, b, c, rfl⟩)))
          · split
            · obtain ⟨a, b, c⟩ := swapB_fx B r.key r.old r.val
              exact .inr (.inr (.inr (.inr ⟨n, B, _, by omega, by omega, hn1, hn2, hbk, a, b, c, rfl⟩)))
            · exact hA _
    · exact hA _
theorem thereM_ok {M : Mdl} {r : Req} (h : (thereM 0 M r).2 = 0) : ∃ n : Nat, 1 ≤ n ∧ n ≤ 16 ∧ r.tenant = n := by
  unfold thereM at h
  split at h
  · cases h
  · rename_i h1
    rw [not_or, Decidable.not_not] at h1
    exact ⟨r.tenant.toNat, by omega, by omega, by omega⟩
theorem doN_fx (M : Mdl) (r : Req) : DoFx M r (doN M r) := by
  unfold doN
  split
  · rename_i h
    exact operateN_fx M r h.1 h.2
  split
  · rename_i h
    refine .inl ⟨?_, fun _ => ⟨by omega, by omega, by omega⟩⟩
    unfold tellN
    split
    · split <;> rfl
    · rfl
  split
  · rename_i h
    unfold createN
    split
    · exact .inl ⟨rfl, fun h => by cases h⟩
    · rename_i h1
      rw [Decidable.not_not] at h1
      split
      · exact .inl ⟨rfl, fun h => by cases h⟩
      · rename_i h2
        refine .inr (.inl ⟨r.tenant.toNat, by omega, by omega, by omega, h, rfl, ?_, rfl⟩)
        cases hb : (M r.tenant.toNat).bk with
        | none => rfl
        | some B => rw [hb] at h2; exact absurd rfl h2
  split
  · rename_i h
    unfold removeN
    split
    · rename_i h1
      obtain ⟨n, a, b, c⟩ := thereM_ok h1
      have hn' : r.tenant.toNat = n := by omega
      rw [hn']
      exact .inr (.inr (.inl ⟨n, a, b, c, h, rfl, rfl⟩))
    · rename_i h1
      exact .inl ⟨rfl, fun e => absurd e h1⟩
  split
  · rename_i h
    unfold issueN
    split
    · exact .inl ⟨rfl, fun _ => ⟨by omega, by omega, by omega⟩⟩
    · exact .inl ⟨rfl, fun _ => ⟨by omega, by omega, by omega⟩⟩
  split
  · rename_i h
    unfold revokeN
    split
    · rename_i h1
      obtain ⟨n, a, b, c⟩ := thereM_ok h1
      have hn' : r.tenant.toNat = n := by omega
      rw [hn']
      exact .inr (.inr (.inr (.inl ⟨n, a, b, c, h, rfl, rfl⟩)))
    · rename_i h1
      exact .inl ⟨rfl, fun e => absurd e h1⟩
  · rename_i h1 h6 h7 h8 h9 h10
    exact .inl ⟨rfl, fun _ => ⟨h7, h8, h10⟩⟩

/-- The state of OrderTenants. -/
structure Tn where
  M : Mdl
  o : Nat → List Hd
  d : List Hd
  lk : Nat → Int
  lb : Nat → Int
/-- The generation at which the search for a good handle stops. -/
def findG (M : Mdl) (t : Int) : Nat → Int → Int
  | 0, g => g
  | k + 1, g => if goodN M ⟨t, g, 1⟩ then g else findG M t k (g + 1)
def tenH (S : Tn) : Nat := 1 + (pairsN S.M 1).length % 2
def hOf (S : Tn) : Hd := ⟨(tenH S : Int), findG S.M (tenH S : Int) 29 1, 1⟩
def updF {α : Type} (f : Nat → α) (n : Nat) (x : α) : Nat → α := fun i => if i = n then x else f i
theorem updF_self {α : Type} (f : Nat → α) (n : Nat) (x : α) : updF f n x n = x := by simp [updF]
theorem updF_ne {α : Type} {f : Nat → α} {n i : Nat} {x : α} (h : i ≠ n) : updF f n x i = f i := by simp [updF, h]
/-- The handles seen. -/
def oldN (S : Tn) : Nat → List Hd :=
  if goodN S.M (hOf S) && !((S.o (tenH S)).any (fun x => decide (hOf S = x))) then updF S.o (tenH S) (S.o (tenH S) ++ [hOf S]) else S.o
def lkN (S : Tn) (r : Req) : Nat → Int := if (doN S.M r).2.err = 0 ∧ r.deed = 7 then updF S.lk r.tenant.toNat r.qk else S.lk
def lbN (S : Tn) (r : Req) : Nat → Int := if (doN S.M r).2.err = 0 ∧ r.deed = 7 then updF S.lb r.tenant.toNat r.qb else S.lb
def deadN (S : Tn) (r : Req) : List Hd := if (doN S.M r).2.err = 0 ∧ (r.deed = 10 ∨ r.deed = 8) then S.d ++ oldN S r.tenant.toNat else S.d
def tnStep (S : Tn) (r : Req) : Tn := ⟨(doN S.M r).1, oldN S, deadN S r, lkN S r, lbN S r⟩
/-- What holds behind j requests. -/
structure TnInv (j : Nat) (S : Tn) : Prop where
  gen : ∀ t, 0 ≤ (S.M t).gen ∧ (S.M t).gen ≤ j
  quota : ∀ t B, (S.M t).bk = some B → B.qk ≤ 9
  lim : ∀ t B, t < 3 → (S.M t).bk = some B → B.qk = S.lk t ∧ B.qb = S.lb t
  lim0 : ∀ t, 0 ≤ S.lk t ∧ S.lk t ≤ 90 ∧ 0 ≤ S.lb t ∧ S.lb t ≤ 90
  old : ∀ t h, h ∈ S.o t → h.t = t ∧ t < 17 ∧ 0 ≤ h.g ∧ h.g ≤ (S.M t).gen ∧ 0 ≤ h.r ∧ h.r ≤ 7
  oldLen : ∀ t, (S.o t).length ≤ j
  dead : ∀ h ∈ S.d, ∃ t : Nat, h.t = t ∧ (h.g < (S.M t).gen ∨ (S.M t).bk = none ∧ h.g ≤ (S.M t).gen)
  deadLen : S.d.length ≤ j * j
  far : ∀ t, 17 ≤ t → (S.M t).bk = none
theorem hOf_ten (S : Tn) : 1 ≤ tenH S ∧ tenH S ≤ 2 := by unfold tenH; omega
theorem good_gen {M : Mdl} {h : Hd} (hg : goodN M h = true) : ∃ t : Nat, h.t = t ∧ 1 ≤ t ∧ t ≤ 16 ∧ (M t).bk.isSome = true ∧ (M t).gen = h.g ∧ 1 ≤ h.g := by
  unfold goodN Hd.right Hd.tN Hd.gN at hg
  simp only [Bool.and_eq_true] at hg
  obtain ⟨⟨⟨⟨h2, h3⟩, h6⟩, -⟩, h4, h5⟩ := hg
  have h2 := of_decide_eq_true h2
  have h3 := of_decide_eq_true h3
  have h5 := of_decide_eq_true h5
  have h6 := of_decide_eq_true h6
  exact ⟨h.t.toNat, by omega, by omega, by omega, h4, h5, h6⟩
theorem oldN_mem {S : Tn} {t : Nat} {h : Hd} (hm : h ∈ oldN S t) : h ∈ S.o t ∨ (t = tenH S ∧ h = hOf S ∧ goodN S.M h = true) := by
  unfold oldN at hm
  split at hm
  · rename_i hc
    rw [Bool.and_eq_true] at hc
    by_cases e : t = tenH S
    · subst e
      rw [updF_self] at hm
      rcases List.mem_append.1 hm with hm | hm
      · exact .inl hm
      · exact .inr ⟨rfl, List.mem_singleton.1 hm, by rw [List.mem_singleton.1 hm]; exact hc.1⟩
    · rw [updF_ne e] at hm
      exact .inl hm
  · exact .inl hm
theorem oldN_len (S : Tn) (t : Nat) : (oldN S t).length ≤ (S.o t).length + 1 := by
  unfold oldN
  split
  · by_cases e : t = tenH S
    · subst e; rw [updF_self]; simp
    · rw [updF_ne e]; omega
  · omega
theorem u32_next {g : Int} {j : Nat} (h0 : 0 ≤ g) (h1 : g ≤ j) (hj : j ≤ 22) : IntKind.u32.wrap (g + 1) = g + 1 := by
  refine IntWalk.u32_in _ ⟨by omega, by omega⟩
end Go.Proofs.YtkgflepgkhnclaaGreatDoor
namespace Go.Proofs.YtkgflepgkhnclaaGreatDoor
open Go.RowKit
set_option linter.unusedVariables false
set_option linter.unusedSimpArgs false

/-- What changes of the tenants' generations and books. -/
theorem tn_rest {j : Nat} {S : Tn} {r : Req} (h : TnInv j S) (hj : j ≤ 21) (M' : Mdl) (lk lb : Nat → Int) (d : List Hd)
    (hg : ∀ t, (S.M t).gen ≤ (M' t).gen ∧ (M' t).gen ≤ (S.M t).gen + 1)
    (hq : ∀ t B, (M' t).bk = some B → B.qk ≤ 9) (hl : ∀ t B, t < 3 → (M' t).bk = some B → B.qk = lk t ∧ B.qb = lb t)
    (hl0 : ∀ t, 0 ≤ lk t ∧ lk t ≤ 90 ∧ 0 ≤ lb t ∧ lb t ≤ 90)
    (hnb : ∀ t, (S.M t).bk = none → (M' t).bk = none ∨ (M' t).gen = (S.M t).gen + 1)
    (hd : ∀ x ∈ d, x ∈ S.d ∨ ∃ t : Nat, x.t = t ∧ (x.g < (M' t).gen ∨ (M' t).bk = none ∧ x.g ≤ (M' t).gen)) (hdl : d.length ≤ S.d.length + (j + 1)) (hfar : ∀ t, 17 ≤ t → (M' t).bk = none) :
    TnInv (j + 1) ⟨M', oldN S, d, lk, lb⟩ := by
  refine ⟨fun t => ?_, hq, hl, hl0, fun t x hx => ?_, fun t => ?_, fun x hx => ?_, ?_, hfar⟩
  · have h1 := h.gen t
    have h2 := hg t
    constructor <;> simp only <;> omega
  · have h2 := hg t
    rcases oldN_mem hx with hx | ⟨rfl, rfl, hgood⟩
    · obtain ⟨a1, a2, a3, a4, a5, a6⟩ := h.old t x hx
      exact ⟨a1, a2, a3, by simp only; omega, a5, a6⟩
    · obtain ⟨t', b1, b2, b3, b4, b5, b6⟩ := good_gen hgood
      have e : t' = tenH S := by
        have : ((tenH S : Nat) : Int) = (t' : Int) := b1
        omega
      subst e
      exact ⟨rfl, by omega, by omega, by simp only; omega, (by show (0 : Int) ≤ 1; decide), (by show (1 : Int) ≤ 7; decide)⟩
  · have h1 := oldN_len S t
    have h2 := h.oldLen t
    simp only
    omega
  · rcases hd x hx with hx | hx
    · obtain ⟨t, a1, a2⟩ := h.dead x hx
      have h2 := hg t
      refine ⟨t, a1, ?_⟩
      rcases a2 with a2 | ⟨a2, a3⟩
      · exact .inl (by simp only; omega)
      · rcases hnb t a2 with h3 | h3
        · exact .inr ⟨h3, by simp only; omega⟩
        · exact .inl (by simp only; omega)
    · exact hx
  · have h1 := h.deadLen
    have : (j + 1) * (j + 1) = j * j + (j + (j + 1)) := by rw [Nat.add_mul, Nat.mul_add]; omega
    simp only
    omega
theorem old_at {S : Tn} {j : Nat} (h : TnInv j S) {t : Nat} {x : Hd} (hx : x ∈ oldN S t) : x.t = t ∧ x.g ≤ (S.M t).gen := by
  rcases oldN_mem hx with hx | ⟨rfl, rfl, hgood⟩
  · obtain ⟨a1, a2, a3, a4, a5, a6⟩ := h.old t x hx
    exact ⟨a1, a4⟩
  · obtain ⟨t', b1, b2, b3, b4, b5, b6⟩ := good_gen hgood
    have e : t' = tenH S := by
      have : ((tenH S : Nat) : Int) = (t' : Int) := b1
      omega
    subst e
    exact ⟨rfl, by omega⟩
theorem tn_step {j : Nat} {S : Tn} {r : Req} (h : TnInv j S) (hr : SmallR r) (hj : j ≤ 21) : TnInv (j + 1) (tnStep S r) := by
  have ht := hr.tenant
  have hqk := hr.qk
  have hqb := hr.qb
  have hlen : ∀ t, (oldN S t).length ≤ j + 1 := fun t => by have h1 := oldN_len S t; have h2 := h.oldLen t; omega
  have fx := doN_fx S.M r
  unfold tnStep deadN lkN lbN
  generalize doN S.M r = R at fx
  obtain ⟨M', a⟩ := R
  unfold DoFx at fx
  dsimp only at fx ⊢
  rcases fx with ⟨rfl, hne⟩ | ⟨n, n1, n2, n3, hd, he, hb, rfl⟩ | ⟨n, n1, n2, n3, hd, he, rfl⟩ | ⟨n, n1, n2, n3, hd, he, rfl⟩ | ⟨n, B, B', d1, d2, n1, n2, hB, q1, q2, q3, rfl⟩
  · rw [if_neg (fun e : a.err = 0 ∧ (r.deed = 10 ∨ r.deed = 8) => e.2.elim (fun e2 => (hne e.1).2.2 e2) (fun e2 => (hne e.1).2.1 e2)), if_neg (fun e : a.err = 0 ∧ r.deed = 7 => (hne e.1).1 e.2), if_neg (fun e : a.err = 0 ∧ r.deed = 7 => (hne e.1).1 e.2)]
    exact tn_rest (r := r) h hj _ _ _ _ (fun t => ⟨Int.le_refl _, by omega⟩) h.quota h.lim h.lim0 (fun t hb => .inl hb) (fun x hx => .inl hx) (by omega) h.far
  · have hn : r.tenant.toNat = n := by omega
    have hw := u32_next (h.gen n).1 (h.gen n).2 (by omega)
    rw [if_neg (fun e : a.err = 0 ∧ (r.deed = 10 ∨ r.deed = 8) => by have := e.2; omega), if_pos ⟨he, hd⟩, if_pos ⟨he, hd⟩, hn]
    refine tn_rest (r := r) h hj _ _ _ _ (fun t => ?_) (fun t B hB => ?_) (fun t B h3 hB => ?_) (fun t => ?_) (fun t hb => ?_) (fun x hx => .inl hx) (by omega) (fun t h17 => by rw [updM_ne (by omega)]; exact h.far t h17)
    · by_cases e : t = n
      · subst e; rw [updM_self]; unfold newT; simp only; rw [hw]; omega
      · rw [updM_ne e]; omega
    · by_cases e : t = n
      · subst e; rw [updM_self] at hB; unfold newT at hB; injection hB with hB; subst hB; exact hqk.2
      · rw [updM_ne e] at hB; exact h.quota t B hB
    · by_cases e : t = n
      · subst e; rw [updM_self] at hB; unfold newT at hB; injection hB with hB; subst hB; exact ⟨by rw [updF_self], by rw [updF_self]⟩
      · rw [updM_ne e] at hB; rw [updF_ne e, updF_ne e]; exact h.lim t B h3 hB
    · by_cases e : t = n
      · subst e; rw [updF_self, updF_self]; exact ⟨by omega, by omega, by omega, by omega⟩
      · rw [updF_ne e, updF_ne e]; exact h.lim0 t
    · by_cases e : t = n
      · subst e; rw [updM_self]; unfold newT; exact .inr hw
      · rw [updM_ne e]; exact .inl hb
  · have hn : r.tenant.toNat = n := by omega
    rw [if_pos ⟨he, .inr hd⟩, if_neg (fun e : a.err = 0 ∧ r.deed = 7 => by have := e.2; omega), if_neg (fun e : a.err = 0 ∧ r.deed = 7 => by have := e.2; omega), hn]
    refine tn_rest (r := r) h hj _ _ _ _ (fun t => ?_) (fun t B hB => ?_) (fun t B h3 hB => ?_) h.lim0 (fun t hb => ?_) (fun x hx => ?_) (by rw [List.length_append]; have := hlen n; omega) (fun t h17 => by rw [updM_ne (by omega)]; exact h.far t h17)
    · by_cases e : t = n
      · subst e; rw [updM_self]; simp only; omega
      · rw [updM_ne e]; omega
    · by_cases e : t = n
      · subst e; rw [updM_self] at hB; cases hB
      · rw [updM_ne e] at hB; exact h.quota t B hB
    · by_cases e : t = n
      · subst e; rw [updM_self] at hB; cases hB
      · rw [updM_ne e] at hB; exact h.lim t B h3 hB
    · by_cases e : t = n
      · subst e; rw [updM_self]; exact .inl rfl
      · rw [updM_ne e]; exact .inl hb
    · rcases List.mem_append.1 hx with hx | hx
      · exact .inl hx
      · obtain ⟨a1, a2⟩ := old_at h hx
        refine .inr ⟨n, a1, .inr ?_⟩
        rw [updM_self]
        exact ⟨rfl, a2⟩
  · have hn : r.tenant.toNat = n := by omega
    have hw := u32_next (h.gen n).1 (h.gen n).2 (by omega)
    rw [if_pos ⟨he, .inl hd⟩, if_neg (fun e : a.err = 0 ∧ r.deed = 7 => by have := e.2; omega), if_neg (fun e : a.err = 0 ∧ r.deed = 7 => by have := e.2; omega), hn]
    refine tn_rest (r := r) h hj _ _ _ _ (fun t => ?_) (fun t B hB => ?_) (fun t B h3 hB => ?_) h.lim0 (fun t hb => ?_) (fun x hx => ?_) (by rw [List.length_append]; have := hlen n; omega) (fun t h17 => by rw [updM_ne (by omega)]; exact h.far t h17)
    · by_cases e : t = n
      · subst e; rw [updM_self]; simp only; rw [hw]; omega
      · rw [updM_ne e]; omega
    · by_cases e : t = n
      · subst e; rw [updM_self] at hB; exact h.quota t B hB
      · rw [updM_ne e] at hB; exact h.quota t B hB
    · by_cases e : t = n
      · subst e; rw [updM_self] at hB; exact h.lim t B h3 hB
      · rw [updM_ne e] at hB; exact h.lim t B h3 hB
    · by_cases e : t = n
      · subst e; rw [updM_self]; exact .inl hb
      · rw [updM_ne e]; exact .inl hb
    · rcases List.mem_append.1 hx with hx | hx
      · exact .inl hx
      · obtain ⟨a1, a2⟩ := old_at h hx
        refine .inr ⟨n, a1, .inl ?_⟩
        rw [updM_self]
        simp only
        rw [hw]
        omega
  · rw [if_neg (fun e : a.err = 0 ∧ (r.deed = 10 ∨ r.deed = 8) => by have := e.2; omega), if_neg (fun e : a.err = 0 ∧ r.deed = 7 => by have := e.2; omega), if_neg (fun e : a.err = 0 ∧ r.deed = 7 => by have := e.2; omega)]
    refine tn_rest (r := r) h hj _ _ _ _ (fun t => ?_) (fun t B2 hB2 => ?_) (fun t B2 h3 hB2 => ?_) h.lim0 (fun t hb => ?_) (fun x hx => .inl hx) (by omega) (fun t h17 => by rw [updM_ne (by omega)]; exact h.far t h17)
    · by_cases e : t = n
      · subst e; rw [updM_self]; simp only; omega
      · rw [updM_ne e]; omega
    · by_cases e : t = n
      · subst e; rw [updM_self] at hB2; injection hB2 with hB2; subst hB2; rw [q1]; exact h.quota t B hB
      · rw [updM_ne e] at hB2; exact h.quota t B2 hB2
    · by_cases e : t = n
      · subst e; rw [updM_self] at hB2; injection hB2 with hB2; subst hB2; rw [q1, q2]; exact h.lim t B h3 hB
      · rw [updM_ne e] at hB2; exact h.lim t B2 h3 hB2
    · by_cases e : t = n
      · subst e; rw [hB] at hb; cases hb
      · rw [updM_ne e]; exact .inl hb
/-- No dead handle is good. -/
theorem tn_dead {j : Nat} {S : Tn} (h : TnInv j S) : S.d.any (goodN S.M) = false := by
  rw [List.any_eq_false]
  intro x hx hg
  obtain ⟨t, a1, a2⟩ := h.dead x hx
  obtain ⟨t', b1, b2, b3, b4, b5, b6⟩ := good_gen hg
  have e : t' = t := by omega
  subst e
  rcases a2 with a2 | ⟨a2, -⟩
  · omega
  · rw [a2] at b4
    cases b4
/-- A request with an error, or one that only reads, leaves the books as they were. -/
theorem do_same (M : Mdl) (r : Req) (h : (doN M r).2.err ≠ 0 ∨ r.deed = 1 ∨ r.deed = 5 ∨ r.deed = 6) (t : Int) : pairsN (doN M r).1 t = pairsN M t := by
  rcases doN_fx M r with ⟨e, -⟩ | ⟨n, n1, n2, n3, hd, he, hb, e⟩ | ⟨n, n1, n2, n3, hd, he, e⟩ | ⟨n, n1, n2, n3, hd, he, e⟩ | ⟨n, B, B', d1, d2, n1, n2, hB, q1, q2, q3, e⟩
  · rw [e]
  · omega
  · omega
  · omega
  · have hE : (doN M r).2.err ≠ 0 := h.elim id (fun h => by omega)
    have hBB := q3 hE
    subst hBB
    rw [e]
    have : updM M n { M n with bk := some B' } = M := by
      funext i
      by_cases ei : i = n
      · subst ei
        rw [updM_self, ← hB]
      · rw [updM_ne ei]
    rw [this]
/-- Books stay within their limits. -/
theorem tn_lim {j : Nat} {S : Tn} (h : TnInv j S) (hw : ∀ t B, t < 17 → (S.M t).bk = some B → B.wf) (t : Nat) (ht : 1 ≤ t ∧ t ≤ 2) :
    ((pairsN S.M (t : Int)).length : Int) ≤ S.lk t ∧ (sizeL (pairsN S.M (t : Int)) : Int) ≤ S.lb t ∧ (pairsN S.M (t : Int)).length ≤ 9 ∧ sizeL (pairsN S.M (t : Int)) ≤ 90 := by
  have h0 := h.lim0 t
  unfold pairsN
  rw [if_pos (by omega), Int.toNat_natCast]
  cases hB : (S.M t).bk with
  | none => exact ⟨by simpa using h0.1, by simpa [sizeL] using h0.2.2.1, by simp, by simp [sizeL]⟩
  | some B =>
    have w := hw t B (by omega) hB
    obtain ⟨e1, e2⟩ := h.lim t B (by omega) hB
    have h3 := w.nk
    have h4 := w.nb
    have h5 := h.quota t B hB
    dsimp only
    exact ⟨by omega, by omega, by omega, by omega⟩
theorem tn_small {j : Nat} {S : Tn} (h : TnInv j S) (hw : ∀ t B, t < 17 → (S.M t).bk = some B → B.wf) : Small S.M := fun t B hB => by
  have h17 : t < 17 := by
    rcases Nat.lt_or_ge t 17 with h1 | h1
    · exact h1
    · rw [h.far t h1] at hB; cases hB
  have h3 := (hw t B h17 hB).nk
  have h5 := h.quota t B hB
  omega
def tn0 : Tn := ⟨mdl0, fun _ => [], [], fun _ => 0, fun _ => 0⟩
theorem tn0_inv : TnInv 0 tn0 := by
  refine ⟨fun t => (show (0 : Int) ≤ 0 ∧ (0 : Int) ≤ 0 by decide), ?_, ?_, ?_, ?_, ?_, ?_, by decide, fun t _ => rfl⟩
  · intro t B h; cases h
  · intro t B _ h; cases h
  · intro t; exact (show (0 : Int) ≤ 0 ∧ (0 : Int) ≤ 90 ∧ (0 : Int) ≤ 0 ∧ (0 : Int) ≤ 90 by decide)
  · intro t x h; cases h
  · intro t; exact Nat.le_refl _
  · intro x h; cases h
end Go.Proofs.YtkgflepgkhnclaaGreatDoor
namespace Go.Proofs.YtkgflepgkhnclaaGreatDoor
open Go.RowKit Go.Shelf
set_option linter.unusedVariables false
set_option linter.unusedSimpArgs false

theorem own_same {W W' : World} {base size n : Nat} {e : TypeId} {v : Value} {xs : List Value} (h : W.ownsRow base e size v n xs) (hb : ∀ g, v.ownBlock = some g → W'.heap[g]? = W.heap[g]?) : W'.ownsRow base e size v n xs := by
  refine ⟨h.1, ?_⟩
  rcases h.2 with h0 | ⟨g', cap, cur, hv, hb', hh, rest⟩
  · exact Or.inl h0
  · exact Or.inr ⟨g', cap, cur, hv, hb', (hb g' (by rw [hv]; rfl)).trans hh, rest⟩
theorem own_at {W : World} {base size n g : Nat} {e : TypeId} {v : Value} {xs : List Value} (h : W.ownsRow base e size v n xs) (hg : v.ownBlock = some g) : base ≤ g ∧ g < W.heap.size ∧ ∃ cs, Blk W g e cs := by
  rcases h.2 with ⟨rfl, _⟩ | ⟨g', cap, cur, rfl, hb, hh, _⟩
  · cases hg
  · simp only [Value.ownBlock, Option.some.injEq] at hg
    subst hg
    exact ⟨hb, (Array.getElem?_eq_some_iff.1 hh).1, cur, hh⟩
def RowsApart (a b : Value) : Prop := ∀ g, a.ownBlock = some g → b.ownBlock ≠ some g
/-- The types of blocks that a request leaves as they lie. -/
def TnT (t : TypeId) : Prop := t = 26 ∨ t = 30 ∨ t = 37 ∨ t = 41 ∨ t = 39 ∨ t = 44 ∨ t = 57 ∨ t = 52
/-- Blocks of these types are as they were. -/
structure KeepsN (W W' : World) : Prop where
  size : W.heap.size ≤ W'.heap.size
  same : ∀ i t cs, Blk W i t cs → TnT t → W'.heap[i]? = W.heap[i]?
theorem KeepsN.of_below {W W' : World} (h : Below W.heap.size W W') : KeepsN W W' := ⟨h.size, fun i t cs hb _ => h.block i hb.lt⟩
theorem KeepsN.of_keepC {C : Nat → Prop} {W W' : World} (h : KeepC C W W') (hC : ∀ i t cs, Blk W i t cs → TnT t → ¬ C i) : KeepsN W W' := ⟨h.size, fun i t cs hb ht => h.block i hb.lt (.inl (hC i t cs hb ht))⟩
theorem KeepsN.blk {W W' : World} {i : Nat} {t : TypeId} {cs : Array Value} (k : KeepsN W W') (h : Blk W i t cs) (ht : TnT t) : Blk W' i t cs := (k.same i t cs h ht).trans h
theorem KeepsN.own {W W' : World} {base size n : Nat} {e : TypeId} {v : Value} {xs : List Value} (k : KeepsN W W') (h : W.ownsRow base e size v n xs) (ht : TnT e) : W'.ownsRow base e size v n xs :=
  own_same h fun g hg => by
    obtain ⟨_, _, cs, hb⟩ := own_at h hg
    exact k.same g e cs hb ht
theorem ModelAt.far {W : World} {p : Nat} {M : Mdl} {T : Ows} (h : ModelAt W p M T) {i : Nat} {t : TypeId} {cs : Array Value} (hb : Blk W i t cs) (ht : TnT t) : ¬ mown p M T i := fun hi => by
  rcases ht with rfl | rfl | rfl | rfl | rfl | rfl | rfl | rfl
  all_goals exact h.other hi hb (by decide) (by decide) (by decide)
structure TnAt (w0 W : World) (p b4 b6 : Nat) (S : Tn) (T : Ows) (v : Nat → Value) (vd ve : Value) (es : List Ent) : Prop where
  mdl : ModelAt W p S.M T
  own : ∀ i, mown p S.M T i → w0.heap.size ≤ i
  old : Blk W b4 26 #[v 0, v 1, v 2]
  lim : Blk W b6 30 #[.int .u64 (S.lk 0), .int .u64 (S.lb 0), .int .u64 (S.lk 1), .int .u64 (S.lb 1), .int .u64 (S.lk 2), .int .u64 (S.lb 2)]
  ge : w0.heap.size ≤ b4 ∧ w0.heap.size ≤ b6
  rows : ∀ i, i < 3 → W.ownsRow w0.heap.size 37 3 (v i) (S.o i).length ((S.o i).flatMap hdR)
  row_d : W.ownsRow w0.heap.size 37 3 vd S.d.length (S.d.flatMap hdR)
  ent : W.ownsRow w0.heap.size 41 13 ve es.length (es.flatMap Ent.row)
  apart : ∀ i j, i < 3 → j < 3 → i ≠ j → RowsApart (v i) (v j)
  apart_d : ∀ i, i < 3 → RowsApart (v i) vd
  bel : Below w0.heap.size w0 W
section
variable {w0 W W' : World} {p b4 b6 : Nat} {S : Tn} {T T' : Ows} {v : Nat → Value} {vd ve : Value} {es : List Ent}
theorem TnAt.same (h : TnAt w0 W p b4 b6 S T v vd ve es) {M' : Mdl} (hm : ModelAt W' p M' T') (ho : ∀ i, mown p M' T' i → w0.heap.size ≤ i) (hb : Below w0.heap.size w0 W') (k : KeepsN W W') : TnAt w0 W' p b4 b6 { S with M := M' } T' v vd ve es :=
  ⟨hm, ho, k.blk h.old (by simp [TnT]), k.blk h.lim (by simp [TnT]), h.ge, fun i hi => k.own (h.rows i hi) (by simp [TnT]), k.own h.row_d (by simp [TnT]), k.own h.ent (by simp [TnT]), h.apart, h.apart_d, hb⟩
theorem TnAt.below (h : TnAt w0 W p b4 b6 S T v vd ve es) (hb : Below W.heap.size W W') : TnAt w0 W' p b4 b6 S T v vd ve es :=
  h.same (h.mdl.below hb) h.own (below_trans h.bel hb) (.of_below hb)
theorem TnAt.alloc (h : TnAt w0 W p b4 b6 S T v vd ve es) (o : Obj) : TnAt w0 (W.alloc o) p b4 b6 S T v vd ve es := h.below ((Below.refl _ _).alloc (Nat.le_refl _) o)
theorem TnAt.do_ (h : TnAt w0 W p b4 b6 S T v vd ve es) {R : Mdl × Ans} {e : Ending} (hd : DoEnd p S.M T R W e W') : ∃ A c T', e = .returned (R.2.v A c) ∧ TnAt w0 W' p b4 b6 { S with M := R.1 } T' v vd ve es ∧ KeepsN W W' := by
  obtain ⟨A, c, T', rfl, hm, -, ho, hk⟩ := hd
  have k : KeepsN W W' := .of_keepC hk (fun i t cs hb ht => h.mdl.far hb ht)
  have hb : Below w0.heap.size w0 W' := ⟨hk.os.trans h.bel.os, hk.tape.trans h.bel.tape, hk.output.trans h.bel.output, Nat.le_trans h.bel.size hk.size, fun i hi => by
    rw [hk.block i (Nat.lt_of_lt_of_le hi h.bel.size) (.inl (fun hc => by have := h.own i hc; omega)), h.bel.block i hi]⟩
  exact ⟨A, c, T', rfl, h.same hm (fun i hi => (ho i hi).elim (h.own i) (fun h2 => Nat.le_trans h.bel.size h2)) hb k, k⟩
/-- A store into a box of its own. -/
theorem TnAt.box (h : TnAt w0 W p b4 b6 S T v vd ve es) {g : Nat} {t : TypeId} {cs : Array Value} (hb : Blk W g t cs) (ht : t = 37 ∨ t = 39 ∨ t = 52 ∨ t = 44 ∨ t = 57) (hg : w0.heap.size ≤ g)
    (hv : ∀ i, i < 3 → (v i).ownBlock ≠ some g) (hd : vd.ownBlock ≠ some g) (j : Nat) (u : Value) : TnAt w0 (W.setCell ⟨g, j, none⟩ u) p b4 b6 S T v vd ve es := by
  have hT : TnT t := by rcases ht with rfl | rfl | rfl | rfl | rfl <;> simp [TnT]
  have hE : t ≠ 41 := by rcases ht with rfl | rfl | rfl | rfl | rfl <;> decide
  have h4 : t ≠ 26 := by rcases ht with rfl | rfl | rfl | rfl | rfl <;> decide
  have h6 : t ≠ 30 := by rcases ht with rfl | rfl | rfl | rfl | rfl <;> decide
  have hs : ∀ i, i ≠ g → (W.setCell ⟨g, j, none⟩ u).heap[i]? = W.heap[i]? := fun i hi => Below.heap_setCell W _ u i hi
  have n4 : b4 ≠ g := fun e => by subst e; have h1 := h.old; unfold Blk at h1 hb; rw [hb] at h1; injection h1 with h1; injection h1 with _ h1 _; exact h4 h1
  have n6 : b6 ≠ g := fun e => by subst e; have h1 := h.lim; unfold Blk at h1 hb; rw [hb] at h1; injection h1 with h1; injection h1 with _ h1 _; exact h6 h1
  refine ⟨h.mdl.keep (C := fun i => i = g) ((KeepC.refl (fun i => i = g) W).setCell hb (by rintro rfl; rcases ht with e | e | e | e | e <;> exact absurd e (by decide)) (fun _ => rfl) j u) (fun i hi e => by subst e; exact h.mdl.far hb hT hi), h.own, (hs b4 n4).trans h.old, (hs b6 n6).trans h.lim, h.ge, fun i hi => own_same (h.rows i hi) (fun g' e => hs g' (fun e2 => hv i hi (e2 ▸ e))), own_same h.row_d (fun g' e => hs g' (fun e2 => hd (e2 ▸ e))),
    own_same h.ent (fun g' e => hs g' (fun e2 => own_blk_ne h.ent hb (Ne.symm hE) (e2 ▸ e))), h.apart, h.apart_d, h.bel.setCell (p := ⟨g, j, none⟩) hg u⟩
theorem TnAt.new_box (h : TnAt w0 W p b4 b6 S T v vd ve es) {g : Nat} (hg : W.heap.size ≤ g) : (∀ i, i < 3 → (v i).ownBlock ≠ some g) ∧ vd.ownBlock ≠ some g :=
  ⟨fun i hi e => by have := (own_at (h.rows i hi) e).2.1; omega, fun e => by have := (own_at h.row_d e).2.1; omega⟩
theorem three_upd {n : Nat} (hn : n < 3) (v : Nat → Value) (u : Value) : (#[v 0, v 1, v 2] : Array Value).setIfInBounds n u = #[updF v n u 0, updF v n u 1, updF v n u 2] := by
  match n, hn with
  | 0, _ => simp [updF]
  | 1, _ => simp [updF]
  | 2, _ => simp [updF]
theorem three_at {n : Nat} (hn : n < 3) (v : Nat → Value) : (#[v 0, v 1, v 2] : Array Value)[n]? = some (v n) := by
  match n, hn with
  | 0, _ => rfl
  | 1, _ => rfl
  | 2, _ => rfl
/-- A handle is appended to a row, and the row stored. -/
theorem TnAt.app (h : TnAt w0 W p b4 b6 S T v vd ve es) {n : Nat} (hn : n < 3) {tmp : Obj} {w1 : World} {u : Value} {x : Hd} (hown : w1.ownsRow w0.heap.size 37 3 u ((S.o n).length + 1) ((S.o n ++ [x]).flatMap hdR)) (hg : (W.alloc tmp).grownBy w1 (v n).ownBlock)
    (hu : u.ownBlock = (v n).ownBlock ∨ u.ownBlock = some (W.alloc tmp).heap.size) : TnAt w0 (w1.setCell ⟨b4, n, none⟩ u) p b4 b6 { S with o := updF S.o n (S.o n ++ [x]) } T (updF v n u) vd ve es ∧ Blk w1 b4 26 #[v 0, v 1, v 2] := by
  have ha := h.alloc tmp
  have hown0 := fun g hg => own_at (ha.rows n hn) (g := g) hg
  have q4 : Blk w1 b4 26 #[v 0, v 1, v 2] := ha.old.grown hg (fun e => own_blk_ne (ha.rows n hn) ha.old (by decide) e.symm)
  have hsz := hg.size
  have hs1 : ∀ i, i < (W.alloc tmp).heap.size → (v n).ownBlock ≠ some i → w1.heap[i]? = (W.alloc tmp).heap[i]? := fun i hi hne => hg.block i hi (fun e => hne e.symm)
  have hs2 : ∀ i, i ≠ b4 → (w1.setCell ⟨b4, n, none⟩ u).heap[i]? = w1.heap[i]? := fun i hi => Below.heap_setCell w1 _ u i hi
  have hne4 : ∀ {size m : Nat} {e : TypeId} {y : Value} {xs : List Value}, (W.alloc tmp).ownsRow w0.heap.size e size y m xs → e ≠ 26 → y.ownBlock ≠ some b4 := fun ho hne => own_blk_ne ho ha.old hne
  have kk : KeepC (fun i => (v n).ownBlock = some i ∨ i = b4) (W.alloc tmp) (w1.setCell ⟨b4, n, none⟩ u) := by
    refine ((KeepC.refl (fun i => (v n).ownBlock = some i ∨ i = b4) _).grown hg (fun b e => ⟨fun _ => .inl e, ?_⟩)).setCell q4 (by decide) (fun _ => .inr rfl) n u
    obtain ⟨-, -, cs, hb⟩ := hown0 b e
    exact not_U8 hb (by decide)
  have hub : u.ownBlock ≠ some b4 := by
    rcases hu with e | e
    · rw [e]; exact hne4 (ha.rows n hn) (by decide)
    · rw [e]; intro e2; injection e2 with e2; have := ha.old.lt; omega
  have other : ∀ {size m : Nat} {e : TypeId} {y : Value} {xs : List Value}, (W.alloc tmp).ownsRow w0.heap.size e size y m xs → e ≠ 26 → (∀ g, y.ownBlock = some g → (v n).ownBlock ≠ some g) → (w1.setCell ⟨b4, n, none⟩ u).ownsRow w0.heap.size e size y m xs := fun ho hne hap =>
    own_same ho (fun g e => by rw [hs2 g (fun e2 => hne4 ho hne (e2 ▸ e)), hs1 g (own_at ho e).2.1 (hap g e)])
  refine ⟨⟨ha.mdl.keep kk (fun i hi hc => ?_), h.own, ?_, ?_, h.ge, fun i hi => ?_, ?_, ?_, fun i j hi hj hij => ?_, fun i hi => ?_, ?_⟩, q4⟩
  · rcases hc with e | rfl
    · obtain ⟨-, -, cs, hb⟩ := hown0 i e
      exact ha.mdl.far hb (by simp [TnT]) hi
    · exact ha.mdl.far ha.old (by simp [TnT]) hi
  · have := q4.set_ n u
    rw [three_upd hn] at this
    exact this
  · have h6 : b6 ≠ b4 := fun e => by subst e; have h1 := ha.old; have h2 := ha.lim; unfold Blk at h1 h2; rw [h1] at h2; injection h2 with h2; injection h2 with _ h2 _; exact absurd h2 (by decide)
    exact (hs2 b6 h6).trans ((hs1 b6 ha.lim.lt (own_blk_ne (ha.rows n hn) ha.lim (by decide))).trans ha.lim)
  · by_cases e : i = n
    · subst e
      simp only [updF_self]
      rw [List.length_append]
      exact own_same hown (fun g e => hs2 g (fun e2 => hub (e2 ▸ e)))
    · simp only [updF_ne e]
      exact other (ha.rows i hi) (by decide) (fun g e2 => h.apart i n hi hn e g e2)
  · exact other ha.row_d (by decide) (fun g e2 e3 => h.apart_d n hn g e3 e2)
  · exact other ha.ent (by decide) (fun g e2 e3 => by
      obtain ⟨-, -, cs, hb⟩ := hown0 g e3
      exact own_blk_ne ha.ent hb (by decide) e2)
  · have hnew : ∀ {y : Value} {m : Nat} {xs : List Value}, (W.alloc tmp).ownsRow w0.heap.size 37 3 y m xs → RowsApart (v n) y → RowsApart u y := fun ho hap g e e2 => by
      rcases hu with e3 | e3
      · exact hap g (e3 ▸ e) e2
      · rw [e3] at e; injection e with e; have := (own_at ho e2).2.1; omega
    by_cases ei : i = n
    · subst ei
      simp only [updF_self, updF_ne (Ne.symm hij)]
      exact hnew (ha.rows j hj) (h.apart i j hi hj hij)
    · by_cases ej : j = n
      · subst ej
        simp only [updF_self, updF_ne ei]
        exact fun g e e2 => hnew (ha.rows i hi) (h.apart j i hj hi (Ne.symm hij)) g e2 e
      · simp only [updF_ne ei, updF_ne ej]
        exact h.apart i j hi hj hij
  · by_cases ei : i = n
    · subst ei
      simp only [updF_self]
      intro g e e2
      rcases hu with e3 | e3
      · exact h.apart_d i hi g (e3 ▸ e) e2
      · rw [e3] at e; injection e with e; have := (own_at ha.row_d e2).2.1; omega
    · simp only [updF_ne ei]
      exact h.apart_d i hi
  · exact (ha.bel.grown hg (Nat.le_trans h.bel.size (by simp)) (fun k hk => (hown0 k hk).1)).setCell (p := ⟨b4, n, none⟩) h.ge.1 u
/-- A row is appended to the dead ones. -/
theorem TnAt.app_d (h : TnAt w0 W p b4 b6 S T v vd ve es) {w1 : World} {u : Value} {l : List Hd} (hown : w1.ownsRow w0.heap.size 37 3 u (S.d.length + l.length) ((S.d ++ l).flatMap hdR)) (hg : W.grownBy w1 vd.ownBlock)
    (hu : u.ownBlock = vd.ownBlock ∨ u.ownBlock = some W.heap.size) : TnAt w0 w1 p b4 b6 { S with d := S.d ++ l } T v u ve es := by
  have hs1 : ∀ i, i < W.heap.size → vd.ownBlock ≠ some i → w1.heap[i]? = W.heap[i]? := fun i hi hne => hg.block i hi (fun e => hne e.symm)
  have kk : KeepC (fun i => vd.ownBlock = some i) W w1 := (KeepC.refl (fun i => vd.ownBlock = some i) _).grown hg (fun b e => ⟨fun _ => e, by
    obtain ⟨-, -, cs, hb⟩ := own_at h.row_d e
    exact not_U8 hb (by decide)⟩)
  refine ⟨h.mdl.keep kk (fun i hi hc => ?_), h.own, ?_, ?_, h.ge, fun i hi => ?_, ?_, ?_, h.apart, fun i hi g e e2 => ?_, ?_⟩
  · obtain ⟨-, -, cs, hb⟩ := own_at h.row_d hc
    exact h.mdl.far hb (by simp [TnT]) hi
  · exact (hs1 b4 h.old.lt (own_blk_ne h.row_d h.old (by decide))).trans h.old
  · exact (hs1 b6 h.lim.lt (own_blk_ne h.row_d h.lim (by decide))).trans h.lim
  · exact own_same (h.rows i hi) (fun g e => hs1 g (own_at (h.rows i hi) e).2.1 (fun e2 => h.apart_d i hi g e e2))
  · rw [List.length_append]; exact hown
  · exact own_same h.ent (fun g e => hs1 g (own_at h.ent e).2.1 (fun e2 => by
      obtain ⟨-, -, cs, hb⟩ := own_at h.row_d e2
      exact own_blk_ne h.ent hb (by decide) e))
  · rcases hu with e3 | e3
    · exact h.apart_d i hi g e (e3 ▸ e2)
    · rw [e3] at e2; injection e2 with e2; have := (own_at (h.rows i hi) e).2.1; omega
  · exact h.bel.grown hg h.bel.size (fun k hk => (own_at h.row_d hk).1)
theorem six_upd {n : Nat} (hn : n < 3) (a b : Nat → Int) (x y : Int) : ((#[.int .u64 (a 0), .int .u64 (b 0), .int .u64 (a 1), .int .u64 (b 1), .int .u64 (a 2), .int .u64 (b 2)] : Array Value).setIfInBounds (n * 2) (.int .u64 x)).setIfInBounds (n * 2 + 1) (.int .u64 y) =
    #[.int .u64 (updF a n x 0), .int .u64 (updF b n y 0), .int .u64 (updF a n x 1), .int .u64 (updF b n y 1), .int .u64 (updF a n x 2), .int .u64 (updF b n y 2)] := by
  match n, hn with
  | 0, _ => simp [updF]
  | 1, _ => simp [updF]
  | 2, _ => simp [updF]
theorem six_at {n : Nat} (hn : n < 3) (a b : Nat → Int) : (#[.int .u64 (a 0), .int .u64 (b 0), .int .u64 (a 1), .int .u64 (b 1), .int .u64 (a 2), .int .u64 (b 2)] : Array Value)[n * 2]? = some (.int .u64 (a n)) ∧
    (#[.int .u64 (a 0), .int .u64 (b 0), .int .u64 (a 1), .int .u64 (b 1), .int .u64 (a 2), .int .u64 (b 2)] : Array Value)[n * 2 + 1]? = some (.int .u64 (b n)) := by
  match n, hn with
  | 0, _ => exact ⟨rfl, rfl⟩
  | 1, _ => exact ⟨rfl, rfl⟩
  | 2, _ => exact ⟨rfl, rfl⟩
/-- Limits are stored. -/
theorem TnAt.limits (h : TnAt w0 W p b4 b6 S T v vd ve es) {n : Nat} (hn : n < 3) (x y : Int) : TnAt w0 ((W.setCell ⟨b6, n * 2, none⟩ (.int .u64 x)).setCell ⟨b6, n * 2 + 1, none⟩ (.int .u64 y)) p b4 b6 { S with lk := updF S.lk n x, lb := updF S.lb n y } T v vd ve es := by
  have q := (h.lim.set_ (n * 2) (.int .u64 x)).set_ (n * 2 + 1) (.int .u64 y)
  rw [six_upd hn] at q
  have hs : ∀ i, i ≠ b6 → ((W.setCell ⟨b6, n * 2, none⟩ (.int .u64 x)).setCell ⟨b6, n * 2 + 1, none⟩ (.int .u64 y)).heap[i]? = W.heap[i]? := fun i hi => (Below.heap_setCell _ _ _ i hi).trans (Below.heap_setCell _ _ _ i hi)
  have kk : KeepC (fun i => i = b6) W ((W.setCell ⟨b6, n * 2, none⟩ (.int .u64 x)).setCell ⟨b6, n * 2 + 1, none⟩ (.int .u64 y)) :=
    ((KeepC.refl (fun i => i = b6) W).setCell h.lim (by decide) (fun _ => rfl) _ _).setCell (h.lim.set_ (n * 2) (.int .u64 x)) (by decide) (fun _ => rfl) _ _
  have h6 : b4 ≠ b6 := fun e => by subst e; have h1 := h.old; have h2 := h.lim; unfold Blk at h1 h2; rw [h1] at h2; injection h2 with h2; injection h2 with _ h2 _; exact absurd h2 (by decide)
  exact ⟨h.mdl.keep kk (fun i hi e => by subst e; exact h.mdl.far h.lim (by simp [TnT]) hi), h.own, (hs b4 h6).trans h.old, q, h.ge, fun i hi => own_same (h.rows i hi) (fun g e => hs g (fun e2 => own_blk_ne (h.rows i hi) h.lim (by decide) (e2 ▸ e))), own_same h.row_d (fun g e => hs g (fun e2 => own_blk_ne h.row_d h.lim (by decide) (e2 ▸ e))),
    own_same h.ent (fun g e => hs g (fun e2 => own_blk_ne h.ent h.lim (by decide) (e2 ▸ e))), h.apart, h.apart_d, (h.bel.setCell (p := ⟨b6, n * 2, none⟩) h.ge.2 _).setCell (p := ⟨b6, n * 2 + 1, none⟩) h.ge.2 _⟩
end
end Go.Proofs.YtkgflepgkhnclaaGreatDoor
namespace Go.Proofs.YtkgflepgkhnclaaGreatDoor
open Go.RowKit Go.Shelf
set_option linter.unusedVariables false
set_option linter.unusedSimpArgs false

abbrev hdA (t g : Int) : Array Value := #[.int .i64 t, .int .u32 g, .int .u8 1]
def leftG (b : Nat) (w : World) : Nat := match w.cell? ⟨b, 1, none⟩ with | some (.int _ g) => (30 - g).toNat | _ => 0
set_option maxHeartbeats 6400000 in
set_option maxRecDepth 100000 in
theorem tn_find (p b11 : Nat) (M : Mdl) (T : Ows) (t : Int) (J : World → Prop) {wx : World} {u0 u1 u2 u4 u5 u6 u7 u8 u9 u10 u12 u13 u14 u15 u16 u17 u18 u19 u20 u21 u22 u23 u24 u25 u26 u27 u28 u29 u30 u31 u32 u33 u34 u35 u36 u37 u38 u39 u40 u41 u42 u43 u44 u45 u46 u47 u48 u49 u50 u51 u52 u53 u54 u55 u56 u57 u58 u59 u60 u61 u62 u63 u64 u65 u66 u67 u68 u69 u70 u71 u72 u73 u74 u75 u76 u77 u78 u79 u80 u81 u82 u83 u84 u85 u86 u87 u88 u89 u90 u91 u92 u93 u94 u95 u96 u97 u98 u99 u100 u101 u102 u103 u104 u105 u106 u107 u108 u109 u110 u111 u112 u113 u114 u115 u116 u117 u118 u119 u120 u121 u122 u123 u124 u125 u126 u127 u128 u129 u130 u131 u132 u133 u134 u135 u136 u137 u138 u139 u140 u141 u142 u143 u144 u145 u146 u147 u148 u149 u150 u151 u152 u153 u154 u155 u156 u157 u158 u159 u160 u161 u162 u163 u164 u165 u166 u167 u168 u169 u170 u171 u172 u173 u174 u175 u176 u177 u178 u179 u180 u181 : Value} {Q : Exit → Act → World → Prop} (hJ : J wx) (hx : Blk wx b11 37 (hdA t 1)) (hJb : ∀ W W', J W → Below W.heap.size W W' → J W') (hJs : ∀ W u, J W → J (W.setCell ⟨b11, 1, none⟩ u)) (hJm : ∀ W, J W → ModelAt W p M T)
    (hQ : ∀ (s40 s41 s42 s43 s44 s45 s46 s47 s48 s49 s50 s51 s52 : Value) (W' : World), J W' → Blk W' b11 37 (hdA t (findG M t 29 1)) → Q .normal ⟨#[u0, u1, u2, .pointer (some ⟨p, 0, none⟩), u4, u5, u6, u7, u8, u9, u10, .pointer (some ⟨b11, 0, none⟩), u12, u13, u14, u15, u16, u17, u18, u19, u20, u21, u22, u23, u24, u25, u26, u27, u28, u29, u30, u31, u32, u33, u34, u35, u36, u37, u38, u39, s40, s41, s42, s43, s44, s45, s46, s47, s48, s49, s50, s51, s52, u53, u54, u55, u56, u57, u58, u59, u60, u61, u62, u63, u64, u65, u66, u67, u68, u69, u70, u71, u72, u73, u74, u75, u76, u77, u78, u79, u80, u81, u82, u83, u84, u85, u86, u87, u88, u89, u90, u91, u92, u93, u94, u95, u96, u97, u98, u99, u100, u101, u102, u103, u104, u105, u106, u107, u108, u109, u110, u111, u112, u113, u114, u115, u116, u117, u118, u119, u120, u121, u122, u123, u124, u125, u126, u127, u128, u129, u130, u131, u132, u133, u134, u135, u136, u137, u138, u139, u140, u141, u142, u143, u144, u145, u146, u147, u148, u149, u150, u151, u152, u153, u154, u155, u156, u157, u158, u159, u160, u161, u162, u163, u164, u165, u166, u167, u168, u169, u170, u171, u172, u173, u174, u175, u176, u177, u178, u179, u180, u181], []⟩ W') :
    Code.wp Tryz.prog (part Tryz.f3 [1, 1, 1, 1, 1, 0, 1, 2, 2, 1, 1, 0, 2, 1, 1, 1, 1, 0]) Q ⟨#[u0, u1, u2, .pointer (some ⟨p, 0, none⟩), u4, u5, u6, u7, u8, u9, u10, .pointer (some ⟨b11, 0, none⟩), u12, u13, u14, u15, u16, u17, u18, u19, u20, u21, u22, u23, u24, u25, u26, u27, u28, u29, u30, u31, u32, u33, u34, u35, u36, u37, u38, u39, u40, u41, u42, u43, u44, u45, u46, u47, u48, u49, u50, u51, u52, u53, u54, u55, u56, u57, u58, u59, u60, u61, u62, u63, u64, u65, u66, u67, u68, u69, u70, u71, u72, u73, u74, u75, u76, u77, u78, u79, u80, u81, u82, u83, u84, u85, u86, u87, u88, u89, u90, u91, u92, u93, u94, u95, u96, u97, u98, u99, u100, u101, u102, u103, u104, u105, u106, u107, u108, u109, u110, u111, u112, u113, u114, u115, u116, u117, u118, u119, u120, u121, u122, u123, u124, u125, u126, u127, u128, u129, u130, u131, u132, u133, u134, u135, u136, u137, u138, u139, u140, u141, u142, u143, u144, u145, u146, u147, u148, u149, u150, u151, u152, u153, u154, u155, u156, u157, u158, u159, u160, u161, u162, u163, u164, u165, u166, u167, u168, u169, u170, u171, u172, u173, u174, u175, u176, u177, u178, u179, u180, u181], []⟩ wx := by
  conv => arg 2; whnf
  have HQ := Lib.hid hQ
  clear hQ
  have HJ := Lib.hid hJ
  have HX := Lib.hid hx
  have HC := Lib.hid (And.intro hJb (And.intro hJs hJm))
  clear hJ hx hJb hJs hJm
  go_wp2_with fail
  go_loopw [40] (fun _ wr => ∃ k : Nat, k ≤ 29 ∧ Hid (J wr ∧ Blk wr b11 37 (hdA t (30 - (k : Int))) ∧ findG M t k (30 - (k : Int)) = findG M t 29 1)) (fun _ wr => leftG b11 wr)
  case atStart => exact ⟨29, Nat.le_refl _, Lib.hid ⟨HJ.out, HX.out, rfl⟩⟩
  case round =>
    obtain ⟨k, hk, HW⟩ := hrel
    have d0 := HW.out.2.1.cell 0
    have d1 := HW.out.2.1.cell 1
    have d2 := HW.out.2.1.cell 2
    have df := HW.out.2.1.frozen 1
    have dl := HW.out.2.1.lt
    simp at d0 d1 d2
    match k, hk with
    | 0, _ =>
      have hgk : ((30 : Int) - ((0 : Nat) : Int)) = 30 := by omega
      rw [hgk] at d1
      have HE := Lib.hid HW.out
      go_wp2
      have h1 := HE.out.1
      have h2 := HE.out.2.1
      have h3 := HE.out.2.2
      refine HQ.out _ _ _ _ _ _ _ _ _ _ _ _ _ _ h1 ?_
      rw [← h3]
      exact h2
    | k + 1, hk =>
      have hlt : (30 : Int) - ((k + 1 : Nat) : Int) < 30 := by omega
      have hg0 : (0 : Int) ≤ 30 - ((k + 1 : Nat) : Int) := by omega
      have hG := good_m (HC.out.2.2 _ HW.out.1) ⟨t, 30 - ((k + 1 : Nat) : Int), 1⟩
      unfold Hd.v at hG
      have HG := Lib.hid hG
      have HF := Lib.hid (show findG M t (k + 1) (30 - ((k + 1 : Nat) : Int)) = _ from rfl)
      have hgk : (30 : Int) - ((k + 1 : Nat) : Int) + 1 = 30 - (k : Int) := by omega
      clear hG
      cases hg : goodN M ⟨t, 30 - ((k + 1 : Nat) : Int), 1⟩ with
      | true =>
        have HE : Hid (findG M t 29 1 = 30 - ((k + 1 : Nat) : Int)) := Lib.hid (by rw [← HW.out.2.2, findG, if_pos hg])
        rw [hg] at HG
        clear hg
        go_wp2_with (go_at_call 9; refine HG.out.mono ?_; rintro e w2 ⟨rfl, hb2⟩; have HB2 := Lib.hid hb2; clear hb2)
        refine HQ.out _ _ _ _ _ _ _ _ _ _ _ _ _ _ (HC.out.1 _ _ HW.out.1 HB2.out) ?_
        rw [HE.out]
        exact HW.out.2.1.below HB2.out HW.out.2.1.lt
      | false =>
        have HE : Hid (findG M t k (30 - (k : Int)) = findG M t 29 1) := Lib.hid (by rw [← HW.out.2.2, findG, if_neg (by rw [hg]; decide), hgk])
        rw [hg] at HG
        clear hg
        have hwr : IntKind.u32.wrap (30 - ((k + 1 : Nat) : Int) + 1) = 30 - (k : Int) := by rw [hgk]; exact IntWalk.u32_in _ ⟨by omega, by omega⟩
        go_wp2_with (go_at_call 9; refine HG.out.mono ?_; rintro e w2 ⟨rfl, hb2⟩; have HB2 := Lib.hid hb2; clear hb2; have q2 := HW.out.2.1.below HB2.out HW.out.2.1.lt; have e0 := q2.cell 0; have e1 := q2.cell 1; have e2 := q2.cell 2; have ef := q2.frozen 1; have el := q2.lt; simp at e0 e1 e2; clear q2)
        go_roundw
        case rel =>
          refine ⟨k, by omega, Lib.hid ⟨HC.out.2.1 _ _ (HC.out.1 _ _ HW.out.1 HB2.out), ?_, HE.out⟩⟩
          have q3 := (HW.out.2.1.below HB2.out HW.out.2.1.lt).set_ 1 (.int .u32 (30 - (k : Int)))
          rw [show (30 : Int) - ((k : Int) + 1) + 1 = 30 - (k : Int) by omega]
          simpa using q3
        case measure =>
          have q3 := ((HW.out.2.1.below HB2.out HW.out.2.1.lt).set_ 1 (.int .u32 (30 - (k : Int)))).cell 1
          rw [show (30 : Int) - ((k : Int) + 1) + 1 = 30 - (k : Int) by omega]
          have q4 := HW.out.2.1.cell 1
          simp at q3 q4
          unfold leftG
          rw [q3, q4]
          simp only
          omega
end Go.Proofs.YtkgflepgkhnclaaGreatDoor
