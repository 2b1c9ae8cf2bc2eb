/-
  Walks: burgagelaw27.Made, the switch.
-/
import Derived.Test.YtlmehmmdbdembaaMadeW2
import Derived.Test.YtlmehmmdbdembaaMadeW3
namespace Go.Proofs.Ytlmehmmdbdembaa
open Go.RowKit
set_option linter.unusedVariables false
set_option linter.unusedSimpArgs false

set_option maxHeartbeats 3200000 in
set_option maxRecDepth 100000 in
theorem mA {gk gc gr n : Nat} {v : Value} {xs : List Value} {c : Cod} {r : Req} {tn : Int} {u0 u1 u2 u5 u9 u10 u11 u12 u13 u14 u15 u16 u17 u18 u19 u20 u21 u22 u23 u24 u25 u26 u27 u28 u29 u30 u31 u32 u33 u34 u35 u36 u37 u38 u39 u40 u41 u42 u43 u44 u45 u46 u47 u48 u49 u50 u51 u52 u53 u54 u55 u56 u57 u58 u59 u60 u61 u62 u63 u64 u65 u66 u67 u68 u69 u70 u71 u72 u73 u74 u75 u76 u77 u78 u79 u80 u81 u82 u83 u84 u85 u86 u87 u88 u89 u90 u91 u92 u93 u94 u95 u96 u97 u98 u99 u100 u101 u102 u103 u104 u105 u106 u107 u108 u109 u110 u111 u112 u113 u114 u115 u116 u117 u118 u119 u120 u121 u122 u123 u124 u125 u126 u127 u128 u129 u130 u131 u132 u133 u134 u135 u136 u137 u138 u139 : Value} (w wx : World) {Q : Exit → Act → World → Prop} (hM : MIn w gk gc gr v n xs c r wx) (hr : Small r) (hc : c.ok) (htn : 1 ≤ tn ∧ tn ≤ 2)
    (hQ : ∀ (s65 s66 s67 s68 s69 s70 s71 s72 s73 s74 s75 s76 s77 s78 s79 s80 s81 s82 s83 s84 s85 s86 s87 s88 s89 s90 s91 s92 s93 s94 s95 s96 s97 s98 s99 s100 s101 s102 s103 s104 s105 s106 s107 s108 s109 s110 s111 s112 s113 s114 s115 s116 s117 s118 s119 s120 s121 s122 s123 s124 s125 s126 s127 s128 : Value) (r' : Req) (W' : World), MIn w gk gc gr v n xs c r' W' → Small r' → Q .normal ⟨#[u0, u1, u2, v, .slice (some ⟨gk, 0, none⟩) 8 8, u5, .pointer (some ⟨gc, 0, none⟩), .pointer (some ⟨gr, 0, none⟩), .int .i64 tn, u9, u10, u11, u12, u13, u14, u15, u16, u17, u18, u19, u20, u21, u22, u23, u24, u25, u26, u27, u28, u29, u30, u31, u32, u33, u34, u35, u36, u37, u38, u39, u40, u41, u42, u43, u44, u45, u46, u47, u48, u49, u50, u51, u52, u53, u54, u55, u56, u57, u58, u59, u60, u61, u62, u63, u64, s65, s66, s67, s68, s69, s70, s71, s72, s73, s74, s75, s76, s77, s78, s79, s80, s81, s82, s83, s84, s85, s86, s87, s88, s89, s90, s91, s92, s93, s94, s95, s96, s97, s98, s99, s100, s101, s102, s103, s104, s105, s106, s107, s108, s109, s110, s111, s112, s113, s114, s115, s116, s117, s118, s119, s120, s121, s122, s123, s124, s125, s126, s127, s128, u129, u130, u131, u132, u133, u134, u135, u136, u137, u138, u139], []⟩ W') :
    Code.wp Try.prog (part Try.f28 [1, 1, 1, 0, 1, 2, 2, 1, 1, 0, 2, 1, 1, 1, 0, 2, 1, 3]) Q ⟨#[u0, u1, u2, v, .slice (some ⟨gk, 0, none⟩) 8 8, u5, .pointer (some ⟨gc, 0, none⟩), .pointer (some ⟨gr, 0, none⟩), .int .i64 tn, u9, u10, u11, u12, u13, u14, u15, u16, u17, u18, u19, u20, u21, u22, u23, u24, u25, u26, u27, u28, u29, u30, u31, u32, u33, u34, u35, u36, u37, u38, u39, u40, u41, u42, u43, u44, u45, u46, u47, u48, u49, u50, u51, u52, u53, u54, u55, u56, u57, u58, u59, u60, u61, u62, u63, u64, u65, u66, u67, u68, u69, u70, u71, u72, u73, u74, u75, u76, u77, u78, u79, u80, u81, u82, u83, u84, u85, u86, u87, u88, u89, u90, u91, u92, u93, u94, u95, u96, u97, u98, u99, u100, u101, u102, u103, u104, u105, u106, u107, u108, u109, u110, u111, u112, u113, u114, u115, u116, u117, u118, u119, u120, u121, u122, u123, u124, u125, u126, u127, u128, u129, u130, u131, u132, u133, u134, u135, u136, u137, u138, u139], []⟩ wx := by
  conv => arg 2; whnf
  have HQ := Lib.hid hQ
  clear hQ
  refine wp_seq_k fun K0 hK0 => ?_
  have HK0 := Lib.hid hK0
  clear hK0
  refine m14 _ _ hM hr hc htn (fun _ _ _ _ _ _ _ _ _ r0 wx0 hM hr => ?_)
  refine HK0.out _ _ ?_
  clear HK0
  refine wp_seq_k fun K1 hK1 => ?_
  have HK1 := Lib.hid hK1
  clear hK1
  refine m15 _ _ hM hr hc htn (fun _ _ _ _ _ _ _ r1 wx1 hM hr => ?_)
  refine HK1.out _ _ ?_
  clear HK1
  refine wp_seq_k fun K2 hK2 => ?_
  have HK2 := Lib.hid hK2
  clear hK2
  refine m17 _ _ hM hr hc htn (fun _ _ _ _ _ _ _ _ _ _ r2 wx2 hM hr => ?_)
  refine HK2.out _ _ ?_
  clear HK2
  refine wp_seq_k fun K3 hK3 => ?_
  have HK3 := Lib.hid hK3
  clear hK3
  refine m19 _ _ hM hr hc htn (fun _ _ _ _ r3 wx3 hM hr => ?_)
  refine HK3.out _ _ ?_
  clear HK3
  refine wp_seq_k fun K4 hK4 => ?_
  have HK4 := Lib.hid hK4
  clear hK4
  refine m21 _ _ hM hr hc htn (fun _ _ _ _ _ _ _ _ _ _ _ _ _ _ _ r4 wx4 hM hr => ?_)
  refine HK4.out _ _ ?_
  clear HK4
  refine wp_seq_k fun K5 hK5 => ?_
  have HK5 := Lib.hid hK5
  clear hK5
  refine m23 _ _ hM hr hc htn (fun _ _ _ _ _ _ _ _ _ _ _ r5 wx5 hM hr => ?_)
  refine HK5.out _ _ ?_
  clear HK5
  refine m25 _ _ hM hr hc htn (fun _ _ _ _ _ _ _ _ r6 wx6 hM hr => ?_)
  exact HQ.out _ _ _ _ _ _ _ _ _ _ _ _ _ _ _ _ _ _ _ _ _ _ _ _ _ _ _ _ _ _ _ _ _ _ _ _ _ _ _ _ _ _ _ _ _ _ _ _ _ _ _ _ _ _ _ _ _ _ _ _ _ _ _ _ _ _ hM hr

set_option maxHeartbeats 3200000 in
set_option maxRecDepth 100000 in
theorem mB {gk gc gr n : Nat} {v : Value} {xs : List Value} {c : Cod} {r : Req} {tn : Int} {u0 u1 u2 u5 u9 u10 u11 u12 u13 u14 u15 u16 u17 u18 u19 u20 u21 u22 u23 u24 u25 u26 u27 u28 u29 u30 u31 u32 u33 u34 u35 u36 u37 u38 u39 u40 u41 u42 u43 u44 u45 u46 u47 u48 u49 u50 u51 u52 u53 u54 u55 u56 u57 u58 u59 u60 u61 u62 u63 u64 u65 u66 u67 u68 u69 u70 u71 u72 u73 u74 u75 u76 u77 u78 u79 u80 u81 u82 u83 u84 u85 u86 u87 u88 u89 u90 u91 u92 u93 u94 u95 u96 u97 u98 u99 u100 u101 u102 u103 u104 u105 u106 u107 u108 u109 u110 u111 u112 u113 u114 u115 u116 u117 u118 u119 u120 u121 u122 u123 u124 u125 u126 u127 u128 u129 u130 u131 u132 u133 u134 u135 u136 u137 u138 u139 : Value} (w wx : World) {Q : Exit → Act → World → Prop} (hM : MIn w gk gc gr v n xs c r wx) (hr : Small r) (hc : c.ok) (htn : 1 ≤ tn ∧ tn ≤ 2)
    (hQ : ∀ (s39 s40 s41 s42 s43 s44 s45 s46 s47 s48 s49 s50 s51 s52 s53 s54 s55 s56 s57 s58 s59 s60 : Value) (r' : Req) (W' : World), MIn w gk gc gr v n xs c r' W' → Small r' → Q .normal ⟨#[u0, u1, u2, v, .slice (some ⟨gk, 0, none⟩) 8 8, u5, .pointer (some ⟨gc, 0, none⟩), .pointer (some ⟨gr, 0, none⟩), .int .i64 tn, u9, u10, u11, u12, u13, u14, u15, u16, u17, u18, u19, u20, u21, u22, u23, u24, u25, u26, u27, u28, u29, u30, u31, u32, u33, u34, u35, u36, u37, u38, s39, s40, s41, s42, s43, s44, s45, s46, s47, s48, s49, s50, s51, s52, s53, s54, s55, s56, s57, s58, s59, s60, u61, u62, u63, u64, u65, u66, u67, u68, u69, u70, u71, u72, u73, u74, u75, u76, u77, u78, u79, u80, u81, u82, u83, u84, u85, u86, u87, u88, u89, u90, u91, u92, u93, u94, u95, u96, u97, u98, u99, u100, u101, u102, u103, u104, u105, u106, u107, u108, u109, u110, u111, u112, u113, u114, u115, u116, u117, u118, u119, u120, u121, u122, u123, u124, u125, u126, u127, u128, u129, u130, u131, u132, u133, u134, u135, u136, u137, u138, u139], []⟩ W') :
    Code.wp Try.prog (part Try.f28 [1, 1, 1, 0, 1, 2, 2, 1, 1, 0, 2, 1, 1, 1, 0, 2, 1, 4]) Q ⟨#[u0, u1, u2, v, .slice (some ⟨gk, 0, none⟩) 8 8, u5, .pointer (some ⟨gc, 0, none⟩), .pointer (some ⟨gr, 0, none⟩), .int .i64 tn, u9, u10, u11, u12, u13, u14, u15, u16, u17, u18, u19, u20, u21, u22, u23, u24, u25, u26, u27, u28, u29, u30, u31, u32, u33, u34, u35, u36, u37, u38, u39, u40, u41, u42, u43, u44, u45, u46, u47, u48, u49, u50, u51, u52, u53, u54, u55, u56, u57, u58, u59, u60, u61, u62, u63, u64, u65, u66, u67, u68, u69, u70, u71, u72, u73, u74, u75, u76, u77, u78, u79, u80, u81, u82, u83, u84, u85, u86, u87, u88, u89, u90, u91, u92, u93, u94, u95, u96, u97, u98, u99, u100, u101, u102, u103, u104, u105, u106, u107, u108, u109, u110, u111, u112, u113, u114, u115, u116, u117, u118, u119, u120, u121, u122, u123, u124, u125, u126, u127, u128, u129, u130, u131, u132, u133, u134, u135, u136, u137, u138, u139], []⟩ wx := by
  conv => arg 2; whnf
  have HQ := Lib.hid hQ
  clear hQ
  refine wp_seq_k fun K0 hK0 => ?_
  have HK0 := Lib.hid hK0
  clear hK0
  refine m8 _ _ hM hr hc htn (fun _ _ r0 wx0 hM hr => ?_)
  refine HK0.out _ _ ?_
  clear HK0
  refine wp_seq_k fun K1 hK1 => ?_
  have HK1 := Lib.hid hK1
  clear hK1
  refine m9 _ _ hM hr hc htn (fun _ _ _ _ _ _ _ _ _ _ _ _ _ r1 wx1 hM hr => ?_)
  refine HK1.out _ _ ?_
  clear HK1
  refine m11 _ _ hM hr hc htn (fun _ _ _ _ _ _ _ r2 wx2 hM hr => ?_)
  exact HQ.out _ _ _ _ _ _ _ _ _ _ _ _ _ _ _ _ _ _ _ _ _ _ _ _ hM hr

set_option maxHeartbeats 3200000 in
set_option maxRecDepth 100000 in
theorem mS {gk gc gr n : Nat} {v : Value} {xs : List Value} {c : Cod} {r : Req} {tn : Int} {u0 u1 u2 u5 u9 u10 u11 u12 u13 u14 u15 u16 u17 u18 u19 u20 u21 u22 u23 u24 u25 u26 u27 u28 u29 u30 u31 u32 u33 u34 u35 u36 u37 u38 u39 u40 u41 u42 u43 u44 u45 u46 u47 u48 u49 u50 u51 u52 u53 u54 u55 u56 u57 u58 u59 u60 u61 u62 u63 u64 u65 u66 u67 u68 u69 u70 u71 u72 u73 u74 u75 u76 u77 u78 u79 u80 u81 u82 u83 u84 u85 u86 u87 u88 u89 u90 u91 u92 u93 u94 u95 u96 u97 u98 u99 u100 u101 u102 u103 u104 u105 u106 u107 u108 u109 u110 u111 u112 u113 u114 u115 u116 u117 u118 u119 u120 u121 u122 u123 u124 u125 u126 u127 u128 u129 u130 u131 u132 u133 u134 u135 u136 u137 u138 u139 : Value} (w wx : World) {Q : Exit → Act → World → Prop} (hM : MIn w gk gc gr v n xs c r wx) (hr : Small r) (hc : c.ok) (htn : 1 ≤ tn ∧ tn ≤ 2)
    (hQ : ∀ (s39 s40 s41 s42 s43 s44 s45 s46 s47 s48 s49 s50 s51 s52 s53 s54 s55 s56 s57 s58 s59 s60 s61 s62 s63 s64 s65 s66 s67 s68 s69 s70 s71 s72 s73 s74 s75 s76 s77 s78 s79 s80 s81 s82 s83 s84 s85 s86 s87 s88 s89 s90 s91 s92 s93 s94 s95 s96 s97 s98 s99 s100 s101 s102 s103 s104 s105 s106 s107 s108 s109 s110 s111 s112 s113 s114 s115 s116 s117 s118 s119 s120 s121 s122 s123 s124 s125 s126 s127 s128 : Value) (r' : Req) (W' : World), MIn w gk gc gr v n xs c r' W' → Small r' → Q .normal ⟨#[u0, u1, u2, v, .slice (some ⟨gk, 0, none⟩) 8 8, u5, .pointer (some ⟨gc, 0, none⟩), .pointer (some ⟨gr, 0, none⟩), .int .i64 tn, u9, u10, u11, u12, u13, u14, u15, u16, u17, u18, u19, u20, u21, u22, u23, u24, u25, u26, u27, u28, u29, u30, u31, u32, u33, u34, u35, u36, u37, u38, s39, s40, s41, s42, s43, s44, s45, s46, s47, s48, s49, s50, s51, s52, s53, s54, s55, s56, s57, s58, s59, s60, s61, s62, s63, s64, s65, s66, s67, s68, s69, s70, s71, s72, s73, s74, s75, s76, s77, s78, s79, s80, s81, s82, s83, s84, s85, s86, s87, s88, s89, s90, s91, s92, s93, s94, s95, s96, s97, s98, s99, s100, s101, s102, s103, s104, s105, s106, s107, s108, s109, s110, s111, s112, s113, s114, s115, s116, s117, s118, s119, s120, s121, s122, s123, s124, s125, s126, s127, s128, u129, u130, u131, u132, u133, u134, u135, u136, u137, u138, u139], []⟩ W') :
    Code.wp Try.prog (part Try.f28 [1, 1, 1, 0, 1, 2, 2, 1, 1, 0, 2, 1, 1, 1, 0]) Q ⟨#[u0, u1, u2, v, .slice (some ⟨gk, 0, none⟩) 8 8, u5, .pointer (some ⟨gc, 0, none⟩), .pointer (some ⟨gr, 0, none⟩), .int .i64 tn, u9, u10, u11, u12, u13, u14, u15, u16, u17, u18, u19, u20, u21, u22, u23, u24, u25, u26, u27, u28, u29, u30, u31, u32, u33, u34, u35, u36, u37, u38, u39, u40, u41, u42, u43, u44, u45, u46, u47, u48, u49, u50, u51, u52, u53, u54, u55, u56, u57, u58, u59, u60, u61, u62, u63, u64, u65, u66, u67, u68, u69, u70, u71, u72, u73, u74, u75, u76, u77, u78, u79, u80, u81, u82, u83, u84, u85, u86, u87, u88, u89, u90, u91, u92, u93, u94, u95, u96, u97, u98, u99, u100, u101, u102, u103, u104, u105, u106, u107, u108, u109, u110, u111, u112, u113, u114, u115, u116, u117, u118, u119, u120, u121, u122, u123, u124, u125, u126, u127, u128, u129, u130, u131, u132, u133, u134, u135, u136, u137, u138, u139], []⟩ wx := by
  conv => arg 2; whnf
  have HQ := Lib.hid hQ
  clear hQ
  obtain ⟨⟨hk1, hk2, hk3, hk4⟩, hk5, hk6⟩ := hM
  obtain ⟨q0, q1, q2, q3, q4, q5, q6, q7, q8, q9, q10, q11⟩ := req_cells hk5
  obtain ⟨c0, c1, c2, c3, c4, c5⟩ := cod_cells hk2
  have HM := Lib.hid (show MIn w gk gc gr v n xs c r wx from ⟨⟨hk1, hk2, hk3, hk4⟩, hk5, hk6⟩)
  have HR := Lib.hid hr
  have HC := Lib.hid hc
  clear hr hc
  clear hk1 hk2 hk3 hk4 hk5 hk6
  refine wp_block ?_
  refine wp_seq_k fun K0 hK => ?_
  have HK0 := Lib.hid hK
  clear hK
  go_wp2_with fail
  refine HK0.out _ _ ?_
  clear HK0 q0 q1 q2 q3 q4 q5 q6 q7 q8 q9 q10 q11 c0 c1 c2 c3 c4 c5
  refine wp_cond (t := decide (r.deed ≤ 6)) rfl ?_
  cases decide (r.deed ≤ 6)
  · rw [if_neg (by decide)]
    refine mB _ _ HM.out HR.out HC.out htn (fun _ _ _ _ _ _ _ _ _ _ _ _ _ _ _ _ _ _ _ _ _ _  r1 W1 hM1 hr1 => ?_)
    exact HQ.out _ _ _ _ _ _ _ _ _ _ _ _ _ _ _ _ _ _ _ _ _ _ _ _ _ _ _ _ _ _ _ _ _ _ _ _ _ _ _ _ _ _ _ _ _ _ _ _ _ _ _ _ _ _ _ _ _ _ _ _ _ _ _ _ _ _ _ _ _ _ _ _ _ _ _ _ _ _ _ _ _ _ _ _ _ _ _ _ _ _  _ _ hM1 hr1
  · rw [if_pos rfl]
    refine mA _ _ HM.out HR.out HC.out htn (fun _ _ _ _ _ _ _ _ _ _ _ _ _ _ _ _ _ _ _ _ _ _ _ _ _ _ _ _ _ _ _ _ _ _ _ _ _ _ _ _ _ _ _ _ _ _ _ _ _ _ _ _ _ _ _ _ _ _ _ _ _ _ _ _  r1 W1 hM1 hr1 => ?_)
    exact HQ.out _ _ _ _ _ _ _ _ _ _ _ _ _ _ _ _ _ _ _ _ _ _ _ _ _ _ _ _ _ _ _ _ _ _ _ _ _ _ _ _ _ _ _ _ _ _ _ _ _ _ _ _ _ _ _ _ _ _ _ _ _ _ _ _ _ _ _ _ _ _ _ _ _ _ _ _ _ _ _ _ _ _ _ _ _ _ _ _ _ _  _ _ hM1 hr1

end Go.Proofs.Ytlmehmmdbdembaa
