/-
  Layer 27: OrderTenants: a tenant is checked, both are.
  Layer 27: OrderTenants: a round.
  Layer 27: OrderTenants: the loop.
  Layer 27: OrderTenants, out of awake.
  Layer 27: maps by numbers and by strings whose entries are stored by 'm[k] = v'. Over any program.
  Layer 27: order: Dones; before.
  Layer 27: maps by numbers as functions; Check's plain law.
  Layer 27: order: Check, a Done's numbers are noted.
  Layer 27: order: Copy.
  Layer 27: order: Check, its first loop.
  Layer 27: order: Check, the end of a round.
-/
import Derived.Test.YtkgflepgkhnclaaGreatDoorOtg
import Derived.Test.YtkgflepgkhnclaaGreatDoorOta
import Derived.Test.YtkgflepgkhnclaaGreatDoorOte
namespace Go.Proofs.YtkgflepgkhnclaaGreatDoor
open Go.RowKit Go.Shelf
set_option linter.unusedVariables false
set_option linter.unusedSimpArgs false

set_option maxHeartbeats 6400000 in
set_option maxRecDepth 100000 in
theorem tn_chk {w0 wx : World} (p b4 b6 b9 b10 b12 c1' c2' t ct : Nat) (A1 A2 At : Option Addr) (S : Tn) (T : Ows) (v : Nat → Value) (vd ve : Value) (es : List Ent) (r : Req) (l1 l2 lt : List Kv) (er : Int) (acs : Array Value) {u0 u1 u2 u7 u8 u11 u14 u15 u16 u17 u18 u19 u20 u21 u22 u23 u24 u25 u26 u27 u28 u29 u30 u31 u32 u33 u34 u35 u36 u37 u38 u39 u40 u41 u42 u43 u44 u45 u46 u47 u48 u49 u50 u51 u52 u53 u54 u55 u56 u57 u58 u59 u60 u61 u62 u63 u64 u65 u66 u67 u68 u69 u70 u71 u72 u73 u74 u75 u76 u77 u78 u79 u80 u81 u82 u83 u84 u85 u86 u87 u88 u89 u90 u91 u92 u93 u94 u95 u96 u97 u98 u99 u100 u101 u102 u103 u104 u105 u106 u107 u108 u109 u110 u111 u112 u113 u114 u115 u116 u117 u118 u119 u120 u121 u122 u123 u124 u125 u126 u127 u128 u129 u130 u131 u132 u133 u134 u135 u136 u137 u138 u139 u140 u141 u142 u143 u144 u145 u146 u147 u148 u149 u150 u151 u152 u153 u154 u155 u156 u157 u158 u159 u160 u161 u162 u163 u164 u165 u166 u167 u168 u169 u170 u171 u172 u173 u174 u175 u176 u177 u178 u179 u180 u181 : Value} {Q : Exit → Act → World → Prop} (hI : TnIn w0 wx p b4 b6 b9 b10 S T v vd ve es r l1 l2 A1 A2 c1' c2') (hb : Blk wx b12 52 acs) (ha : acs[0]? = some (.int .i64 er)) (ht : t < 3) (hp : wx.cell? ⟨b10, t, none⟩ = some (.slice At lt.length ct)) (hrt : Reads wx wx.heap.size 2 At lt.length (lt.flatMap pairR)) (hlt : lt.length ≤ 9) (hsm : Small S.M) (hlm : ((pairsN S.M (t : Int)).length : Int) ≤ S.lk t ∧ (sizeL (pairsN S.M (t : Int)) : Int) ≤ S.lb t ∧ (pairsN S.M (t : Int)).length ≤ 9 ∧ sizeL (pairsN S.M (t : Int)) ≤ 90) (hs : er ≠ 0 ∨ r.deed = 1 ∨ r.deed = 5 ∨ r.deed = 6 → lt = pairsN S.M (t : Int))
    (hQ : ∀ (s14 s15 s17 s118 s119 s120 s121 s122 s123 s124 s125 s126 s127 s128 s129 s130 s131 s132 s133 s134 s135 s136 s137 s138 s139 s140 s141 s142 s143 s144 s145 s146 s147 s148 s149 s150 s151 s152 s153 s154 s155 s156 s157 s158 s159 s160 s161 s162 s163 s164 s165 s166 s167 s168 s169 s170 s171 s172 s173 s174 s175 s176 s177 s178 s179 : Value) (W' : World), Below wx.heap.size wx W' → Q .normal ⟨#[u0, u1, u2, .pointer (some ⟨p, 0, none⟩), .pointer (some ⟨b4, 0, none⟩), vd, .pointer (some ⟨b6, 0, none⟩), u7, u8, .pointer (some ⟨b9, 0, none⟩), .pointer (some ⟨b10, 0, none⟩), u11, .pointer (some ⟨b12, 0, none⟩), .int .i64 (t : Nat), s14, s15, u16, s17, u18, u19, u20, u21, u22, u23, u24, u25, u26, u27, u28, u29, u30, u31, u32, u33, u34, u35, u36, u37, u38, u39, u40, u41, u42, u43, u44, u45, u46, u47, u48, u49, u50, u51, u52, u53, u54, u55, u56, u57, u58, u59, u60, u61, u62, u63, u64, u65, u66, u67, u68, u69, u70, u71, u72, u73, u74, u75, u76, u77, u78, u79, u80, u81, u82, u83, u84, u85, u86, u87, u88, u89, u90, u91, u92, u93, u94, u95, u96, u97, u98, u99, u100, u101, u102, u103, u104, u105, u106, u107, u108, u109, u110, u111, u112, u113, u114, u115, u116, u117, s118, s119, s120, s121, s122, s123, s124, s125, s126, s127, s128, s129, s130, s131, s132, s133, s134, s135, s136, s137, s138, s139, s140, s141, s142, s143, s144, s145, s146, s147, s148, s149, s150, s151, s152, s153, s154, s155, s156, s157, s158, s159, s160, s161, s162, s163, s164, s165, s166, s167, s168, s169, s170, s171, s172, s173, s174, s175, s176, s177, s178, s179, u180, u181], []⟩ W') :
    Code.wp Tryz.prog (part Tryz.f3 [1, 1, 1, 1, 1, 0, 1, 2, 2, 1, 1, 0, 2, 1, 1, 1, 1, 1, 1, 1, 1, 1, 1, 1, 2, 2, 1, 0, 2]) Q ⟨#[u0, u1, u2, .pointer (some ⟨p, 0, none⟩), .pointer (some ⟨b4, 0, none⟩), vd, .pointer (some ⟨b6, 0, none⟩), u7, u8, .pointer (some ⟨b9, 0, none⟩), .pointer (some ⟨b10, 0, none⟩), u11, .pointer (some ⟨b12, 0, none⟩), .int .i64 (t : Nat), u14, u15, u16, u17, u18, u19, u20, u21, u22, u23, u24, u25, u26, u27, u28, u29, u30, u31, u32, u33, u34, u35, u36, u37, u38, u39, u40, u41, u42, u43, u44, u45, u46, u47, u48, u49, u50, u51, u52, u53, u54, u55, u56, u57, u58, u59, u60, u61, u62, u63, u64, u65, u66, u67, u68, u69, u70, u71, u72, u73, u74, u75, u76, u77, u78, u79, u80, u81, u82, u83, u84, u85, u86, u87, u88, u89, u90, u91, u92, u93, u94, u95, u96, u97, u98, u99, u100, u101, u102, u103, u104, u105, u106, u107, u108, u109, u110, u111, u112, u113, u114, u115, u116, u117, u118, u119, u120, u121, u122, u123, u124, u125, u126, u127, u128, u129, u130, u131, u132, u133, u134, u135, u136, u137, u138, u139, u140, u141, u142, u143, u144, u145, u146, u147, u148, u149, u150, u151, u152, u153, u154, u155, u156, u157, u158, u159, u160, u161, u162, u163, u164, u165, u166, u167, u168, u169, u170, u171, u172, u173, u174, u175, u176, u177, u178, u179, u180, u181], []⟩ wx := by
  conv => arg 2; whnf
  have HQ := Lib.hid hQ
  clear hQ
  have HI := Lib.hid (And.intro hI hb)
  have HA := Lib.hid (And.intro ha (And.intro ht (And.intro hp hrt)))
  have HL := Lib.hid (And.intro hlt (And.intro hlm hs))
  have HP := Lib.hid (Pairs_m hI.at_.mdl (t : Int) hsm)
  clear hI hb ha hp hrt hlt hlm hs hsm
  refine wp_seq_k fun K0 hK => ?_
  have HK0 := Lib.hid hK
  clear hK
  go_wp2_with fail
  refine HP.out.mono ?_
  rintro e W1 ⟨A, c, rfl, hr1, hb1⟩
  have HB := Lib.hid (And.intro hr1 hb1)
  clear hr1 hb1 HP
  go_wp2_with fail
  refine HK0.out _ _ ?_
  clear HK0
  have hI1 := HI.out.1.below HB.out.2
  have hB1 := HI.out.2.below HB.out.2 HI.out.2.lt
  have hp1 : W1.cell? ⟨b10, t, none⟩ = some (.slice At lt.length ct) := (HB.out.2.cell (HI.out.1.prs.lt)).trans HA.out.2.2.1
  have hrd : Reads W1 W1.heap.size 2 A (pairsN S.M (t : Int)).length ((pairsN S.M (t : Int)).flatMap pairR) := Reads.of_own (own_base HB.out.1 (Nat.zero_le _))
  have hrt1 : Reads W1 W1.heap.size 2 At lt.length (lt.flatMap pairR) := (HA.out.2.2.2.below HB.out.2).more HB.out.2.size
  refine tn_cmp b9 b10 b12 t c ct A At r (pairsN S.M (t : Int)) lt er acs hI1.req hB1 HA.out.1 HA.out.2.1 hp1 hrt1 hrd (by have := HL.out.1; omega) (by have := HL.out.2.1; omega) HL.out.2.2 ?_
  intro _ _ _ _ _ _ _ _ _ _ _ _ _ _ _ _ _ _ _ _ _ _ _ _ _ _ _ _ _ _ _ _ _ _ _ _ _ _ _ _ _ _ _ _ _ _ _ _ _ _ _ _ _ _ _ _ _ _ _ _ _ _ _ _ W2 nn hw2
  subst hw2
  refine tn_sum b6 t c A (pairsN S.M (t : Int)) S.lk S.lb HA.out.2.1 (hrd.drewN nn) (hI1.at_.lim.drewN nn) ⟨HL.out.2.1.1, HL.out.2.1.2.2.1⟩ ⟨HL.out.2.1.2.1, HL.out.2.1.2.2.2⟩ ?_
  intro _ _ _ _ _ _ _ _ _ _ _ _ _ _ _ _ _ _ _ _ _ _ _ _ _ _ _ _ _ _ _ _ _ _ _ _ _ _ _ _ _ _ _ _ _ _ _ _ _ _ _ _ _ _ _ _ _ _ _ _ _ _ _ _ W3 hw3
  refine HQ.out _ _ _ _ _ _ _ _ _ _ _ _ _ _ _ _ _ _ _ _ _ _ _ _ _ _ _ _ _ _ _ _ _ _ _ _ _ _ _ _ _ _ _ _ _ _ _ _ _ _ _ _ _ _ _ _ _ _ _ _ _ _ _ _ _ _ (below_trans (below_trans HB.out.2 (drewB (Below.refl _ _) nn)) hw3)
set_option maxHeartbeats 6400000 in
set_option maxRecDepth 100000 in
theorem tn_each {w0 wx : World} (p b4 b6 b9 b10 b12 c1' c2' : Nat) (A1 A2 : Option Addr) (S : Tn) (T : Ows) (v : Nat → Value) (vd ve : Value) (es : List Ent) (r : Req) (l1 l2 : List Kv) (er : Int) (acs : Array Value) {u0 u1 u2 u7 u8 u11 u13 u14 u15 u16 u17 u18 u19 u20 u21 u22 u23 u24 u25 u26 u27 u28 u29 u30 u31 u32 u33 u34 u35 u36 u37 u38 u39 u40 u41 u42 u43 u44 u45 u46 u47 u48 u49 u50 u51 u52 u53 u54 u55 u56 u57 u58 u59 u60 u61 u62 u63 u64 u65 u66 u67 u68 u69 u70 u71 u72 u73 u74 u75 u76 u77 u78 u79 u80 u81 u82 u83 u84 u85 u86 u87 u88 u89 u90 u91 u92 u93 u94 u95 u96 u97 u98 u99 u100 u101 u102 u103 u104 u105 u106 u107 u108 u109 u110 u111 u112 u113 u114 u115 u116 u117 u118 u119 u120 u121 u122 u123 u124 u125 u126 u127 u128 u129 u130 u131 u132 u133 u134 u135 u136 u137 u138 u139 u140 u141 u142 u143 u144 u145 u146 u147 u148 u149 u150 u151 u152 u153 u154 u155 u156 u157 u158 u159 u160 u161 u162 u163 u164 u165 u166 u167 u168 u169 u170 u171 u172 u173 u174 u175 u176 u177 u178 u179 u180 u181 : Value} {Q : Exit → Act → World → Prop} (hI : TnIn w0 wx p b4 b6 b9 b10 S T v vd ve es r l1 l2 A1 A2 c1' c2') (hb : Blk wx b12 52 acs) (ha : acs[0]? = some (.int .i64 er)) (hll : l1.length ≤ 9 ∧ l2.length ≤ 9) (hsm : Small S.M) (hlm : ∀ t : Nat, 1 ≤ t ∧ t ≤ 2 → ((pairsN S.M (t : Int)).length : Int) ≤ S.lk t ∧ (sizeL (pairsN S.M (t : Int)) : Int) ≤ S.lb t ∧ (pairsN S.M (t : Int)).length ≤ 9 ∧ sizeL (pairsN S.M (t : Int)) ≤ 90) (hs : er ≠ 0 ∨ r.deed = 1 ∨ r.deed = 5 ∨ r.deed = 6 → l1 = pairsN S.M 1 ∧ l2 = pairsN S.M 2)
    (hQ : ∀ (s2 s13 s14 s15 s17 s114 s115 s116 s117 s118 s119 s120 s121 s122 s123 s124 s125 s126 s127 s128 s129 s130 s131 s132 s133 s134 s135 s136 s137 s138 s139 s140 s141 s142 s143 s144 s145 s146 s147 s148 s149 s150 s151 s152 s153 s154 s155 s156 s157 s158 s159 s160 s161 s162 s163 s164 s165 s166 s167 s168 s169 s170 s171 s172 s173 s174 s175 s176 s177 s178 s179 : Value) (W' : World), TnIn w0 W' p b4 b6 b9 b10 S T v vd ve es r l1 l2 A1 A2 c1' c2' → Q .normal ⟨#[u0, u1, s2, .pointer (some ⟨p, 0, none⟩), .pointer (some ⟨b4, 0, none⟩), vd, .pointer (some ⟨b6, 0, none⟩), u7, u8, .pointer (some ⟨b9, 0, none⟩), .pointer (some ⟨b10, 0, none⟩), u11, .pointer (some ⟨b12, 0, none⟩), s13, s14, s15, u16, s17, u18, u19, u20, u21, u22, u23, u24, u25, u26, u27, u28, u29, u30, u31, u32, u33, u34, u35, u36, u37, u38, u39, u40, u41, u42, u43, u44, u45, u46, u47, u48, u49, u50, u51, u52, u53, u54, u55, u56, u57, u58, u59, u60, u61, u62, u63, u64, u65, u66, u67, u68, u69, u70, u71, u72, u73, u74, u75, u76, u77, u78, u79, u80, u81, u82, u83, u84, u85, u86, u87, u88, u89, u90, u91, u92, u93, u94, u95, u96, u97, u98, u99, u100, u101, u102, u103, u104, u105, u106, u107, u108, u109, u110, u111, u112, u113, s114, s115, s116, s117, s118, s119, s120, s121, s122, s123, s124, s125, s126, s127, s128, s129, s130, s131, s132, s133, s134, s135, s136, s137, s138, s139, s140, s141, s142, s143, s144, s145, s146, s147, s148, s149, s150, s151, s152, s153, s154, s155, s156, s157, s158, s159, s160, s161, s162, s163, s164, s165, s166, s167, s168, s169, s170, s171, s172, s173, s174, s175, s176, s177, s178, s179, u180, u181], []⟩ W') :
    Code.wp Tryz.prog (part Tryz.f3 [1, 1, 1, 1, 1, 0, 1, 2, 2, 1, 1, 0, 2, 1, 1, 1, 1, 1, 1, 1, 1, 1, 1]) Q ⟨#[u0, u1, u2, .pointer (some ⟨p, 0, none⟩), .pointer (some ⟨b4, 0, none⟩), vd, .pointer (some ⟨b6, 0, none⟩), u7, u8, .pointer (some ⟨b9, 0, none⟩), .pointer (some ⟨b10, 0, none⟩), u11, .pointer (some ⟨b12, 0, none⟩), u13, u14, u15, u16, u17, u18, u19, u20, u21, u22, u23, u24, u25, u26, u27, u28, u29, u30, u31, u32, u33, u34, u35, u36, u37, u38, u39, u40, u41, u42, u43, u44, u45, u46, u47, u48, u49, u50, u51, u52, u53, u54, u55, u56, u57, u58, u59, u60, u61, u62, u63, u64, u65, u66, u67, u68, u69, u70, u71, u72, u73, u74, u75, u76, u77, u78, u79, u80, u81, u82, u83, u84, u85, u86, u87, u88, u89, u90, u91, u92, u93, u94, u95, u96, u97, u98, u99, u100, u101, u102, u103, u104, u105, u106, u107, u108, u109, u110, u111, u112, u113, u114, u115, u116, u117, u118, u119, u120, u121, u122, u123, u124, u125, u126, u127, u128, u129, u130, u131, u132, u133, u134, u135, u136, u137, u138, u139, u140, u141, u142, u143, u144, u145, u146, u147, u148, u149, u150, u151, u152, u153, u154, u155, u156, u157, u158, u159, u160, u161, u162, u163, u164, u165, u166, u167, u168, u169, u170, u171, u172, u173, u174, u175, u176, u177, u178, u179, u180, u181], []⟩ wx := by
  conv => arg 2; whnf
  have HQ := Lib.hid hQ
  clear hQ
  have HI := Lib.hid (And.intro hI hb)
  have HA := Lib.hid ha
  have HL := Lib.hid (And.intro hll (And.intro hsm (And.intro hlm hs)))
  clear hI hb ha hll hsm hlm hs
  go_wp2_with fail
  go_loopw [13] (fun i wr => ∃ t : Nat, 1 ≤ t ∧ t ≤ 3 ∧ i = .int .i64 (t : Nat) ∧ Hid (Below wx.heap.size wx wr)) (fun i _ => 3 - (intOf i).toNat)
  case atStart => exact ⟨1, by omega, by omega, rfl, Lib.hid (Below.refl _ _)⟩
  case round =>
    obtain ⟨t, h1, h3, rfl, hw⟩ := hrel
    by_cases hlt : t ≤ 2
    · have i1 : (t : Int) ≤ 2 := by omega
      refine wp_seq_k fun K0 hK => ?_
      have HK0 := Lib.hid hK
      clear hK
      go_wp2_with fail
      refine HK0.out _ _ ?_
      clear HK0
      refine wp_seq_k fun K0 hK => ?_
      have HK0 := Lib.hid hK
      clear hK
      refine wp_block ?_
      have hIr := HI.out.1.below hw.out
      have hBr := HI.out.2.below hw.out HI.out.2.lt
      have hpt : ∃ (At : Option Addr) (ct : Nat) (lt : List Kv), wr.cell? ⟨b10, t, none⟩ = some (.slice At lt.length ct) ∧ Reads wr wr.heap.size 2 At lt.length (lt.flatMap pairR) ∧ lt.length ≤ 9 ∧ (er ≠ 0 ∨ r.deed = 1 ∨ r.deed = 5 ∨ r.deed = 6 → lt = pairsN S.M (t : Int)) := by
        have ht2 : t = 1 ∨ t = 2 := by omega
        rcases ht2 with rfl | rfl
        · exact ⟨A1, c1', l1, hIr.prs.cell 1, Reads.of_own hIr.pr1, HL.out.1.1, fun h => (HL.out.2.2.2 h).1⟩
        · exact ⟨A2, c2', l2, hIr.prs.cell 2, Reads.of_own hIr.pr2, HL.out.1.2, fun h => (HL.out.2.2.2 h).2⟩
      obtain ⟨At, ct, lt, p1, p2, p3, p4⟩ := hpt
      refine tn_chk p b4 b6 b9 b10 b12 c1' c2' t ct A1 A2 At S T v vd ve es r l1 l2 lt er acs hIr hBr HA.out (by omega) p1 p2 p3 HL.out.2.1 (HL.out.2.2.1 t ⟨h1, hlt⟩) p4 ?_
      intro _ _ _ _ _ _ _ _ _ _ _ _ _ _ _ _ _ _ _ _ _ _ _ _ _ _ _ _ _ _ _ _ _ _ _ _ _ _ _ _ _ _ _ _ _ _ _ _ _ _ _ _ _ _ _ _ _ _ _ _ _ _ _ _ _ W2 hw2
      have HB2 := Lib.hid (below_trans hw.out hw2)
      clear hw2 p1 p2 p3 p4 hIr hBr
      refine HK0.out _ _ ?_
      go_wp2_with fail
      go_roundw
      case rel => exact ⟨t + 1, by omega, by omega, by go_num, HB2⟩
      case measure => simp [intOf]; omega
    · obtain rfl : t = 3 := by omega
      go_wp2_with fail
      exact HQ.out _ _ _ _ _ _ _ _ _ _ _ _ _ _ _ _ _ _ _ _ _ _ _ _ _ _ _ _ _ _ _ _ _ _ _ _ _ _ _ _ _ _ _ _ _ _ _ _ _ _ _ _ _ _ _ _ _ _ _ _ _ _ _ _ _ _ _ _ _ _ _ _ (HI.out.1.below hw.out)
end Go.Proofs.YtkgflepgkhnclaaGreatDoor
namespace Go.Proofs.YtkgflepgkhnclaaGreatDoor
open Go.RowKit Go.Shelf
set_option linter.unusedVariables false
set_option linter.unusedSimpArgs false

set_option maxHeartbeats 6400000 in
set_option maxRecDepth 100000 in
theorem tn_round {w0 wx : World} (p b4 b6 j k c : Nat) (A : Option Addr) (S : Tn) (T : Ows) (v : Nat → Value) (vd : Value) (es : List Ent) {u0 u1 u2 u7 u8 u9 u10 u11 u12 u13 u14 u15 u16 u17 u18 u19 u20 u24 u25 u26 u27 u28 u29 u30 u31 u32 u33 u34 u35 u36 u37 u38 u39 u40 u41 u42 u43 u44 u45 u46 u47 u48 u49 u50 u51 u52 u53 u54 u55 u56 u57 u58 u59 u60 u61 u62 u63 u64 u65 u66 u67 u68 u69 u70 u71 u72 u73 u74 u75 u76 u77 u78 u79 u80 u81 u82 u83 u84 u85 u86 u87 u88 u89 u90 u91 u92 u93 u94 u95 u96 u97 u98 u99 u100 u101 u102 u103 u104 u105 u106 u107 u108 u109 u110 u111 u112 u113 u114 u115 u116 u117 u118 u119 u120 u121 u122 u123 u124 u125 u126 u127 u128 u129 u130 u131 u132 u133 u134 u135 u136 u137 u138 u139 u140 u141 u142 u143 u144 u145 u146 u147 u148 u149 u150 u151 u152 u153 u154 u155 u156 u157 u158 u159 u160 u161 u162 u163 u164 u165 u166 u167 u168 u169 u170 u171 u172 u173 u174 u175 u176 u177 u178 u179 u180 u181 : Value} {Q : Exit → Act → World → Prop} (hI : TnAt w0 wx p b4 b6 S T v vd (.slice A es.length c) es) (hk : k < es.length) (hinv : TnInv j S) (hj : j ≤ 21) (hr : SmallR es[k].r)
    (hQ : ∀ (s2 s8 s9 s10 s11 s12 s13 s14 s15 s17 s25 s26 s27 s28 s29 s30 s31 s32 s33 s34 s35 s36 s37 s38 s39 s40 s41 s42 s43 s44 s45 s46 s47 s48 s49 s50 s51 s52 s53 s54 s55 s56 s57 s58 s59 s60 s61 s62 s63 s64 s65 s66 s67 s68 s69 s70 s71 s72 s73 s74 s75 s76 s77 s78 s79 s80 s81 s82 s83 s84 s85 s86 s87 s88 s89 s90 s91 s92 s93 s94 s95 s96 s97 s98 s99 s100 s101 s102 s103 s104 s105 s106 s107 s108 s109 s110 s111 s112 s113 s114 s115 s116 s117 s118 s119 s120 s121 s122 s123 s124 s125 s126 s127 s128 s129 s130 s131 s132 s133 s134 s135 s136 s137 s138 s139 s140 s141 s142 s143 s144 s145 s146 s147 s148 s149 s150 s151 s152 s153 s154 s155 s156 s157 s158 s159 s160 s161 s162 s163 s164 s165 s166 s167 s168 s169 s170 s171 s172 s173 s174 s175 s176 s177 s178 s179 : Value) (vd' : Value) (v' : Nat → Value) (T' : Ows) (W' : World), TnAt w0 W' p b4 b6 (tnStep S es[k].r) T' v' vd' (.slice A es.length c) es → Q .normal ⟨#[u0, u1, s2, .pointer (some ⟨p, 0, none⟩), .pointer (some ⟨b4, 0, none⟩), vd', .pointer (some ⟨b6, 0, none⟩), u7, s8, s9, s10, s11, s12, s13, s14, s15, u16, s17, u18, u19, u20, .slice A es.length c, .int .i64 (es.length : Nat), .int .i64 (k : Nat), u24, s25, s26, s27, s28, s29, s30, s31, s32, s33, s34, s35, s36, s37, s38, s39, s40, s41, s42, s43, s44, s45, s46, s47, s48, s49, s50, s51, s52, s53, s54, s55, s56, s57, s58, s59, s60, s61, s62, s63, s64, s65, s66, s67, s68, s69, s70, s71, s72, s73, s74, s75, s76, s77, s78, s79, s80, s81, s82, s83, s84, s85, s86, s87, s88, s89, s90, s91, s92, s93, s94, s95, s96, s97, s98, s99, s100, s101, s102, s103, s104, s105, s106, s107, s108, s109, s110, s111, s112, s113, s114, s115, s116, s117, s118, s119, s120, s121, s122, s123, s124, s125, s126, s127, s128, s129, s130, s131, s132, s133, s134, s135, s136, s137, s138, s139, s140, s141, s142, s143, s144, s145, s146, s147, s148, s149, s150, s151, s152, s153, s154, s155, s156, s157, s158, s159, s160, s161, s162, s163, s164, s165, s166, s167, s168, s169, s170, s171, s172, s173, s174, s175, s176, s177, s178, s179, u180, u181], []⟩ W') :
    Code.wp Tryz.prog (part Tryz.f3 [1, 1, 1, 1, 1, 0, 1, 2, 2, 1, 1, 0, 2]) Q ⟨#[u0, u1, u2, .pointer (some ⟨p, 0, none⟩), .pointer (some ⟨b4, 0, none⟩), vd, .pointer (some ⟨b6, 0, none⟩), u7, u8, u9, u10, u11, u12, u13, u14, u15, u16, u17, u18, u19, u20, .slice A es.length c, .int .i64 (es.length : Nat), .int .i64 (k : Nat), u24, u25, u26, u27, u28, u29, u30, u31, u32, u33, u34, u35, u36, u37, u38, u39, u40, u41, u42, u43, u44, u45, u46, u47, u48, u49, u50, u51, u52, u53, u54, u55, u56, u57, u58, u59, u60, u61, u62, u63, u64, u65, u66, u67, u68, u69, u70, u71, u72, u73, u74, u75, u76, u77, u78, u79, u80, u81, u82, u83, u84, u85, u86, u87, u88, u89, u90, u91, u92, u93, u94, u95, u96, u97, u98, u99, u100, u101, u102, u103, u104, u105, u106, u107, u108, u109, u110, u111, u112, u113, u114, u115, u116, u117, u118, u119, u120, u121, u122, u123, u124, u125, u126, u127, u128, u129, u130, u131, u132, u133, u134, u135, u136, u137, u138, u139, u140, u141, u142, u143, u144, u145, u146, u147, u148, u149, u150, u151, u152, u153, u154, u155, u156, u157, u158, u159, u160, u161, u162, u163, u164, u165, u166, u167, u168, u169, u170, u171, u172, u173, u174, u175, u176, u177, u178, u179, u180, u181], []⟩ wx := by
  conv => arg 2; whnf
  have HQ := Lib.hid hQ
  clear hQ
  have hw0 : ∀ t B, t < 17 → (S.M t).bk = some B → B.wf := fun t B h17 hB => (hI.mdl.bk t B h17 hB).wf
  have hsm := tn_small hinv hw0
  have hst := tn_step hinv hr hj
  have HV := Lib.hid (And.intro hinv (And.intro hr (And.intro hsm (And.intro hst hw0))))
  have hrt := hr.tenant
  have hJ := Lib.hid hj
  clear hinv hr hsm hst hw0
  refine tn_head p b4 b6 k c A S T v vd es hI hk HV.out.2.2.1 ?_
  intro _ _ _ _ _ _ _ _ _ _ _ _ _ _ _ _ b9 b10 b11 c1 c2 A1 A2 W1 hI1 hB11 h11
  clear hI
  refine wp_seq_k fun K0 hK => ?_
  have HK0 := Lib.hid hK
  clear hK
  refine tn_find p b11 S.M T (tenH S : Int) (fun W => TnIn w0 W p b4 b6 b9 b10 S T v vd (.slice A es.length c) es es[k].r (pairsN S.M 1) (pairsN S.M 2) A1 A2 c1 c2 ∧ ∃ cs, Blk W b11 37 cs) ⟨hI1, _, hB11⟩ hB11 (fun W W' h hb => ⟨h.1.below hb, h.2.imp (fun cs hc => hc.below hb hc.lt)⟩) (fun W u h => ⟨by obtain ⟨cs, hc⟩ := h.2; exact h.1.handle hc h11.1 h11.2.1 h11.2.2 1 u, by obtain ⟨cs, hc⟩ := h.2; exact ⟨_, hc.set_ 1 u⟩⟩) (fun W h => h.1.at_.mdl) ?_
  intro _ _ _ _ _ _ _ _ _ _ _ _ _ W2 hJ2 hB2
  refine HK0.out _ _ ?_
  clear HK0 hI1 hB11
  refine tn_old p b4 b6 b9 b10 b11 c1 c2 A1 A2 S T v vd (.slice A es.length c) es es[k].r (pairsN S.M 1) (pairsN S.M 2) ⟨hJ2.1, hB2⟩ h11 (fun t => by have := HV.out.1.oldLen t; have := hJ.out; omega) ?_
  intro _ _ _ _ _ _ _ _ _ _ _ _ _ _ _ _ _ _ _ _ _ _ v' W3 hI3
  clear hJ2 hB2
  refine tn_do p b4 b6 b9 b10 c1 c2 A1 A2 { S with o := oldN S } T v' vd (.slice A es.length c) es es[k].r (pairsN S.M 1) (pairsN S.M 2) hI3 HV.out.2.1.ok HV.out.2.2.1 ?_
  intro _ _ _ b12 T' Aa ca W4 hI4 hB4
  clear hI3
  have ha : ((doN S.M es[k].r).2.cells Aa ca).toArray[0]? = some (.int .i64 (doN S.M es[k].r).2.err) := by simp [Ans.cells]
  refine tn_lims p b4 b6 b9 b10 b12 c1 c2 A1 A2 _ T' v' vd (.slice A es.length c) es es[k].r (pairsN S.M 1) (pairsN S.M 2) (doN S.M es[k].r).2.err _ hI4 hB4 ha (fun _ _ => ⟨es[k].r.tenant.toNat, by omega, by omega⟩) ?_
  intro _ _ _ _ _ _ _ _ _ _ _ _ _ W5 hI5 hB5
  clear hI4 hB4
  refine tn_dead_ p b4 b6 b9 b10 b12 c1 c2 A1 A2 _ T' v' vd (.slice A es.length c) es es[k].r (pairsN S.M 1) (pairsN S.M 2) (doN S.M es[k].r).2.err _ hI5 hB5 ha (fun _ _ => ⟨es[k].r.tenant.toNat, by omega, by omega⟩) (fun t => by have h1 := oldN_len S t; have h2 := HV.out.1.oldLen t; have h3 := hJ.out; show (oldN S t).length ≤ 30; omega) (by have h1 := HV.out.1.deadLen; have h3 := hJ.out; have : j * j ≤ 21 * 21 := Nat.mul_le_mul h3 h3; show S.d.length ≤ 1000; omega) ?_
  intro _ _ _ _ _ _ _ _ _ _ _ _ _ _ _ _ _ _ _ vd' W6 hI6 hB6
  clear hI5 hB5
  have hI7 : TnIn w0 W6 p b4 b6 b9 b10 (tnStep S es[k].r) T' v' vd' (.slice A es.length c) es es[k].r (pairsN S.M 1) (pairsN S.M 2) A1 A2 c1 c2 := hI6
  clear hI6
  have hdl7 : (tnStep S es[k].r).d.length ≤ 1000000 := by have h1 := HV.out.2.2.2.1.deadLen; have h3 := hJ.out; have : (j + 1) * (j + 1) ≤ 22 * 22 := Nat.mul_le_mul (by omega) (by omega); omega
  refine tn_good p b4 b6 b9 b10 b12 c1 c2 A1 A2 (tnStep S es[k].r) T' v' vd' (.slice A es.length c) es es[k].r (pairsN S.M 1) (pairsN S.M 2) _ hI7 hB6 hdl7 (tn_dead HV.out.2.2.2.1) ?_
  intro _ _ _ _ W7 hI8 hB8
  clear hI7 hB6
  have hw8 : ∀ t B, t < 17 → ((tnStep S es[k].r).M t).bk = some B → B.wf := fun t B h17 hB => (hI8.at_.mdl.bk t B h17 hB).wf
  have hl0 := tn_lim HV.out.1 HV.out.2.2.2.2
  refine tn_each p b4 b6 b9 b10 b12 c1 c2 A1 A2 (tnStep S es[k].r) T' v' vd' (.slice A es.length c) es es[k].r (pairsN S.M 1) (pairsN S.M 2) (doN S.M es[k].r).2.err _ hI8 hB8 ha ⟨(hl0 1 (by omega)).2.2.1, (hl0 2 (by omega)).2.2.1⟩ (tn_small HV.out.2.2.2.1 hw8) (fun t ht => tn_lim HV.out.2.2.2.1 hw8 t ht) (fun h => ⟨(do_same S.M es[k].r h 1).symm, (do_same S.M es[k].r h 2).symm⟩) ?_
  intro _ _ _ _ _ _ _ _ _ _ _ _ _ _ _ _ _ _ _ _ _ _ _ _ _ _ _ _ _ _ _ _ _ _ _ _ _ _ _ _ _ _ _ _ _ _ _ _ _ _ _ _ _ _ _ _ _ _ _ _ _ _ _ _ _ _ _ _ _ _ _ W8 hI9
  exact HQ.out _ _ _ _ _ _ _ _ _ _ _ _ _ _ _ _ _ _ _ _ _ _ _ _ _ _ _ _ _ _ _ _ _ _ _ _ _ _ _ _ _ _ _ _ _ _ _ _ _ _ _ _ _ _ _ _ _ _ _ _ _ _ _ _ _ _ _ _ _ _ _ _ _ _ _ _ _ _ _ _ _ _ _ _ _ _ _ _ _ _ _ _ _ _ _ _ _ _ _ _ _ _ _ _ _ _ _ _ _ _ _ _ _ _ _ _ _ _ _ _ _ _ _ _ _ _ _ _ _ _ _ _ _ _ _ _ _ _ _ _ _ _ _ _ _ _ _ _ _ _ _ _ _ _ _ _ _ _ _ _ _ _ _ _ _ vd' v' T' W8 hI9.at_
end Go.Proofs.YtkgflepgkhnclaaGreatDoor
namespace Go.Proofs.YtkgflepgkhnclaaGreatDoor
open Go.RowKit Go.Shelf
set_option linter.unusedVariables false
set_option linter.unusedSimpArgs false

/-- The state behind the first k requests. -/
def tnRun (es : List Ent) (k : Nat) : Tn := (es.take k).foldl (fun S e => tnStep S e.r) tn0
theorem tnRun_succ {es : List Ent} {k : Nat} (hk : k < es.length) : tnRun es (k + 1) = tnStep (tnRun es k) es[k].r := by
  unfold tnRun
  rw [List.take_succ_eq_append_getElem hk, List.foldl_append]
  rfl
theorem tnRun_inv {es : List Ent} (hes : ∀ x ∈ es, SmallR x.r) (hl : es.length ≤ 22) : ∀ k, k ≤ es.length → TnInv k (tnRun es k)
  | 0, _ => tn0_inv
  | k + 1, hk => by
    have h := tnRun_inv hes hl k (by omega)
    rw [tnRun_succ (by omega)]
    exact tn_step h (hes _ (List.getElem_mem _)) (by omega)
set_option maxHeartbeats 6400000 in
set_option maxRecDepth 100000 in
theorem tn_loop {w0 wx : World} (p b4 b6 c : Nat) (A : Option Addr) (T : Ows) (v : Nat → Value) (vd : Value) (es : List Ent) {u0 u1 u2 u7 u8 u9 u10 u11 u12 u13 u14 u15 u16 u17 u18 u19 u20 u24 u25 u26 u27 u28 u29 u30 u31 u32 u33 u34 u35 u36 u37 u38 u39 u40 u41 u42 u43 u44 u45 u46 u47 u48 u49 u50 u51 u52 u53 u54 u55 u56 u57 u58 u59 u60 u61 u62 u63 u64 u65 u66 u67 u68 u69 u70 u71 u72 u73 u74 u75 u76 u77 u78 u79 u80 u81 u82 u83 u84 u85 u86 u87 u88 u89 u90 u91 u92 u93 u94 u95 u96 u97 u98 u99 u100 u101 u102 u103 u104 u105 u106 u107 u108 u109 u110 u111 u112 u113 u114 u115 u116 u117 u118 u119 u120 u121 u122 u123 u124 u125 u126 u127 u128 u129 u130 u131 u132 u133 u134 u135 u136 u137 u138 u139 u140 u141 u142 u143 u144 u145 u146 u147 u148 u149 u150 u151 u152 u153 u154 u155 u156 u157 u158 u159 u160 u161 u162 u163 u164 u165 u166 u167 u168 u169 u170 u171 u172 u173 u174 u175 u176 u177 u178 u179 u180 u181 : Value} {Q : Exit → Act → World → Prop} (hI : TnAt w0 wx p b4 b6 tn0 T v vd (.slice A es.length c) es) (hes : ∀ x ∈ es, SmallR x.r) (hl : es.length ≤ 22)
    (hQ : ∀ (s2 s8 s9 s10 s11 s12 s13 s14 s15 s17 s23 s24 s25 s26 s27 s28 s29 s30 s31 s32 s33 s34 s35 s36 s37 s38 s39 s40 s41 s42 s43 s44 s45 s46 s47 s48 s49 s50 s51 s52 s53 s54 s55 s56 s57 s58 s59 s60 s61 s62 s63 s64 s65 s66 s67 s68 s69 s70 s71 s72 s73 s74 s75 s76 s77 s78 s79 s80 s81 s82 s83 s84 s85 s86 s87 s88 s89 s90 s91 s92 s93 s94 s95 s96 s97 s98 s99 s100 s101 s102 s103 s104 s105 s106 s107 s108 s109 s110 s111 s112 s113 s114 s115 s116 s117 s118 s119 s120 s121 s122 s123 s124 s125 s126 s127 s128 s129 s130 s131 s132 s133 s134 s135 s136 s137 s138 s139 s140 s141 s142 s143 s144 s145 s146 s147 s148 s149 s150 s151 s152 s153 s154 s155 s156 s157 s158 s159 s160 s161 s162 s163 s164 s165 s166 s167 s168 s169 s170 s171 s172 s173 s174 s175 s176 s177 s178 s179 s180 : Value) (vd' : Value) (T' : Ows) (v' : Nat → Value) (W' : World), TnAt w0 W' p b4 b6 (tnRun es es.length) T' v' vd' (.slice A es.length c) es → Q .normal ⟨#[u0, u1, s2, .pointer (some ⟨p, 0, none⟩), .pointer (some ⟨b4, 0, none⟩), vd', .pointer (some ⟨b6, 0, none⟩), u7, s8, s9, s10, s11, s12, s13, s14, s15, u16, s17, u18, u19, u20, .slice A es.length c, .int .i64 (es.length : Nat), s23, s24, s25, s26, s27, s28, s29, s30, s31, s32, s33, s34, s35, s36, s37, s38, s39, s40, s41, s42, s43, s44, s45, s46, s47, s48, s49, s50, s51, s52, s53, s54, s55, s56, s57, s58, s59, s60, s61, s62, s63, s64, s65, s66, s67, s68, s69, s70, s71, s72, s73, s74, s75, s76, s77, s78, s79, s80, s81, s82, s83, s84, s85, s86, s87, s88, s89, s90, s91, s92, s93, s94, s95, s96, s97, s98, s99, s100, s101, s102, s103, s104, s105, s106, s107, s108, s109, s110, s111, s112, s113, s114, s115, s116, s117, s118, s119, s120, s121, s122, s123, s124, s125, s126, s127, s128, s129, s130, s131, s132, s133, s134, s135, s136, s137, s138, s139, s140, s141, s142, s143, s144, s145, s146, s147, s148, s149, s150, s151, s152, s153, s154, s155, s156, s157, s158, s159, s160, s161, s162, s163, s164, s165, s166, s167, s168, s169, s170, s171, s172, s173, s174, s175, s176, s177, s178, s179, s180, u181], []⟩ W') :
    Code.wp Tryz.prog (part Tryz.f3 [1, 1, 1, 1, 1, 0, 1]) Q ⟨#[u0, u1, u2, .pointer (some ⟨p, 0, none⟩), .pointer (some ⟨b4, 0, none⟩), vd, .pointer (some ⟨b6, 0, none⟩), u7, u8, u9, u10, u11, u12, u13, u14, u15, u16, u17, u18, u19, u20, .slice A es.length c, .int .i64 (es.length : Nat), .int .i64 0, u24, u25, u26, u27, u28, u29, u30, u31, u32, u33, u34, u35, u36, u37, u38, u39, u40, u41, u42, u43, u44, u45, u46, u47, u48, u49, u50, u51, u52, u53, u54, u55, u56, u57, u58, u59, u60, u61, u62, u63, u64, u65, u66, u67, u68, u69, u70, u71, u72, u73, u74, u75, u76, u77, u78, u79, u80, u81, u82, u83, u84, u85, u86, u87, u88, u89, u90, u91, u92, u93, u94, u95, u96, u97, u98, u99, u100, u101, u102, u103, u104, u105, u106, u107, u108, u109, u110, u111, u112, u113, u114, u115, u116, u117, u118, u119, u120, u121, u122, u123, u124, u125, u126, u127, u128, u129, u130, u131, u132, u133, u134, u135, u136, u137, u138, u139, u140, u141, u142, u143, u144, u145, u146, u147, u148, u149, u150, u151, u152, u153, u154, u155, u156, u157, u158, u159, u160, u161, u162, u163, u164, u165, u166, u167, u168, u169, u170, u171, u172, u173, u174, u175, u176, u177, u178, u179, u180, u181], []⟩ wx := by
  conv => arg 2; whnf
  have HQ := Lib.hid hQ
  clear hQ
  have HI := Lib.hid (And.intro hI (And.intro hes hl))
  have hl22 := hl
  clear hI hes hl
  go_wp2_with fail
  go_loopw [5, 23] (fun d i wr => ∃ (k : Nat) (T' : Ows) (v' : Nat → Value), k ≤ es.length ∧ i = .int .i64 (k : Nat) ∧ Hid (TnAt w0 wr p b4 b6 (tnRun es k) T' v' d (.slice A es.length c) es)) (fun _ i _ => es.length - (intOf i).toNat)
  case atStart => exact ⟨0, T, v, by omega, rfl, Lib.hid HI.out.1⟩
  case round =>
    rename_i d0 i0
    obtain ⟨k, T', v', hk, rfl, hw⟩ := hrel
    by_cases hlt : k < es.length
    · have i1 : (0 : Int) ≤ (k : Int) := by omega
      have i2 : (k : Int) < (es.length : Int) := by omega
      refine wp_seq_k fun K0 hK => ?_
      have HK0 := Lib.hid hK
      clear hK
      go_wp2_with fail
      refine HK0.out _ _ ?_
      clear HK0
      refine wp_seq_k fun K0 hK => ?_
      have HK0 := Lib.hid hK
      clear hK
      go_wp2_with fail
      refine HK0.out _ _ ?_
      clear HK0
      refine wp_seq_k fun K0 hK => ?_
      have HK0 := Lib.hid hK
      clear hK
      refine wp_block ?_
      refine tn_round p b4 b6 k k c A (tnRun es k) T' v' _ es hw.out hlt (tnRun_inv HI.out.2.1 HI.out.2.2 k hk) (by omega) (HI.out.2.1 _ (List.getElem_mem _)) ?_
      intro _ _ _ _ _ _ _ _ _ _ _ _ _ _ _ _ _ _ _ _ _ _ _ _ _ _ _ _ _ _ _ _ _ _ _ _ _ _ _ _ _ _ _ _ _ _ _ _ _ _ _ _ _ _ _ _ _ _ _ _ _ _ _ _ _ _ _ _ _ _ _ _ _ _ _ _ _ _ _ _ _ _ _ _ _ _ _ _ _ _ _ _ _ _ _ _ _ _ _ _ _ _ _ _ _ _ _ _ _ _ _ _ _ _ _ _ _ _ _ _ _ _ _ _ _ _ _ _ _ _ _ _ _ _ _ _ _ _ _ _ _ _ _ _ _ _ _ _ _ _ _ _ _ _ _ _ _ _ _ _ _ _ _ _ _ vd' v2 T2 W2 h2
      rw [← tnRun_succ hlt] at h2
      have H2 := Lib.hid h2
      clear h2
      refine HK0.out _ _ ?_
      go_wp2_with fail
      go_roundw
      case rel => exact ⟨k + 1, T2, v2, by omega, by go_num, H2⟩
      case measure => simp [intOf]; omega
    · obtain rfl : k = es.length := by omega
      go_wp2_with fail
      exact HQ.out _ _ _ _ _ _ _ _ _ _ _ _ _ _ _ _ _ _ _ _ _ _ _ _ _ _ _ _ _ _ _ _ _ _ _ _ _ _ _ _ _ _ _ _ _ _ _ _ _ _ _ _ _ _ _ _ _ _ _ _ _ _ _ _ _ _ _ _ _ _ _ _ _ _ _ _ _ _ _ _ _ _ _ _ _ _ _ _ _ _ _ _ _ _ _ _ _ _ _ _ _ _ _ _ _ _ _ _ _ _ _ _ _ _ _ _ _ _ _ _ _ _ _ _ _ _ _ _ _ _ _ _ _ _ _ _ _ _ _ _ _ _ _ _ _ _ _ _ _ _ _ _ _ _ _ _ _ _ _ _ _ _ _ _ _ _ _ _ _ T' v' _ hw.out
end Go.Proofs.YtkgflepgkhnclaaGreatDoor
namespace Go.Proofs.YtkgflepgkhnclaaGreatDoor
open Go.RowKit Go.Shelf
set_option linter.unusedVariables false
set_option linter.unusedSimpArgs false

theorem own_nil3 (w : World) (b : Nat) : w.ownsRow b 37 3 (.slice none 0 0) 0 [] := ⟨by simp, .inl ⟨rfl, rfl⟩⟩
set_option maxHeartbeats 6400000 in
set_option maxRecDepth 100000 in
theorem tenants_of (cs : List Cod) (A : Option Addr) (cap : Nat) (w : World) (haw : ∀ W, Below w.heap.size w W → Calls Tryz.prog 14 #[] W (BoolB true W)) (hA : Reads w w.heap.size 6 A cs.length (cs.flatMap Cod.row)) (hok : ∀ c ∈ cs, c.ok) (hl : cs.length ≤ cap) (hc : cap ≤ 9223372036854775807) :
    Calls Tryz.prog 3 #[.slice A cs.length cap] w (BoolB true w) := by
  have HM := Lib.hid (fun (W : World) (hb : Below w.heap.size w W) => made_any cs A cap W ((hA.below hb).more hb.size) hok hl hc)
  have HW := Lib.hid haw
  clear hA hok hl hc haw
  go_enter Tryz.func3, Tryz.ntmps3
  refine wp_seq_k fun K0 hK => ?_
  have HK0 := Lib.hid hK
  clear hK
  go_wp2_with fail
  refine HK0.out _ _ ?_
  clear HK0
  refine wp_seq_k fun K0 hK => ?_
  have HK0 := Lib.hid hK
  clear hK
  go_wp2_with fail
  refine (new_m _).mono ?_
  rintro e W1 ⟨rfl, hm1, hb1⟩
  go_wp2_with fail
  refine HK0.out _ _ ?_
  clear HK0
  have H1 := Lib.hid (And.intro hm1 hb1)
  clear hm1 hb1
  refine wp_seq_k fun K0 hK => ?_
  have HK0 := Lib.hid hK
  clear hK
  go_wp2_with fail
  refine HK0.out _ _ ?_
  clear HK0
  refine wp_seq_k fun K0 hK => ?_
  have HK0 := Lib.hid hK
  clear hK
  go_wp2_with fail
  refine HK0.out _ _ ?_
  clear HK0
  refine wp_seq_k fun K0 hK => ?_
  have HK0 := Lib.hid hK
  clear hK
  go_wp2_with fail
  refine HK0.out _ _ ?_
  clear HK0
  have b4 := Blk.new W1 26 #[.slice none 0 0, .slice none 0 0, .slice none 0 0]
  have h4 : Below W1.heap.size W1 (W1.alloc (.cells #[.slice none 0 0, .slice none 0 0, .slice none 0 0] 26)) := below_box _ _
  have b6 := Blk.new (W1.alloc (.cells #[.slice none 0 0, .slice none 0 0, .slice none 0 0] 26)) 30 #[.int .u64 0, .int .u64 0, .int .u64 0, .int .u64 0, .int .u64 0, .int .u64 0]
  have h6 : Below W1.heap.size W1 ((W1.alloc (.cells #[.slice none 0 0, .slice none 0 0, .slice none 0 0] 26)).alloc (.cells #[.int .u64 0, .int .u64 0, .int .u64 0, .int .u64 0, .int .u64 0, .int .u64 0] 30)) := below_alloc h4 _
  have b4' := b4.alloc (.cells #[.int .u64 0, .int .u64 0, .int .u64 0, .int .u64 0, .int .u64 0, .int .u64 0] 30)
  rw [World.size_alloc] at b6
  have HB := Lib.hid (And.intro h6 (And.intro b4' b6))
  clear b4 b6 h4 h6 b4'
  generalize (W1.alloc (.cells #[.slice none 0 0, .slice none 0 0, .slice none 0 0] 26)).alloc (.cells #[.int .u64 0, .int .u64 0, .int .u64 0, .int .u64 0, .int .u64 0, .int .u64 0] 30) = W2 at HB ⊢
  have hw2 : Below w.heap.size w W2 := below_trans H1.out.2 HB.out.1
  have HMD := Lib.hid (HM.out W2 hw2)
  refine wp_seq_k fun KR hK => ?_
  have HKR := Lib.hid hK
  clear hK
  refine wp_seq_k fun K0 hK => ?_
  have HK0 := Lib.hid hK
  clear hK
  go_wp2_with fail
  refine HMD.out.mono ?_
  rintro e W3 ⟨es, ve, rfl, hown, hb3, hes, hlen⟩
  obtain ⟨Ae, ce, rfl, -, -, -⟩ := own_form hown
  have hs2 := hw2.size
  have H3 := Lib.hid (And.intro hown (And.intro hb3 (And.intro hes hlen)))
  clear hown hb3 hes hlen HMD
  go_wp2_with fail
  refine HK0.out _ _ ?_
  clear HK0
  have hb3 := H3.out.2.1
  have hlt1 := H1.out.2.size
  have hsz1 : W1.heap.size ≤ W2.heap.size := HB.out.1.size
  have hI : TnAt w W3 w.heap.size W1.heap.size (W1.heap.size + 1) tn0 ows0 (fun _ => .slice none 0 0) (.slice none 0 0) (.slice Ae es.length ce) es := by
    refine ⟨(H1.out.1.below HB.out.1).below hb3, fun i hi => ?_, HB.out.2.1.below hb3 HB.out.2.1.lt, HB.out.2.2.below hb3 HB.out.2.2.lt, ⟨by omega, by omega⟩, fun i hi => own_nil3 _ _, own_nil3 _ _, own_base H3.out.1 hs2, ?_, ?_, below_trans hw2 hb3⟩
    · rcases hi with rfl | ⟨t, ht, hs, hi⟩
      · exact Nat.le_refl _
      · cases hs
    · intro i j _ _ _ g hg; cases hg
    · intro i _ g hg; cases hg
  refine tn_loop w.heap.size W1.heap.size (W1.heap.size + 1) ce Ae ows0 (fun _ => .slice none 0 0) (.slice none 0 0) es hI (fun x hx => (H3.out.2.2.1 x hx).2) (by have := H3.out.2.2.2; omega) ?_
  intro _ _ _ _ _ _ _ _ _ _ _ _ _ _ _ _ _ _ _ _ _ _ _ _ _ _ _ _ _ _ _ _ _ _ _ _ _ _ _ _ _ _ _ _ _ _ _ _ _ _ _ _ _ _ _ _ _ _ _ _ _ _ _ _ _ _ _ _ _ _ _ _ _ _ _ _ _ _ _ _ _ _ _ _ _ _ _ _ _ _ _ _ _ _ _ _ _ _ _ _ _ _ _ _ _ _ _ _ _ _ _ _ _ _ _ _ _ _ _ _ _ _ _ _ _ _ _ _ _ _ _ _ _ _ _ _ _ _ _ _ _ _ _ _ _ _ _ _ _ _ _ _ _ _ _ _ _ _ _ _ _ _ _ _ _ _ _ _ vd' T' v' W4 h4
  have H4 := Lib.hid h4.bel
  clear h4 hI
  refine HKR.out _ _ ?_
  go_wp2_with fail
  refine (HW.out _ H4.out).mono ?_
  rintro e W5 ⟨rfl, hb5⟩
  have H5 := Lib.hid (below_trans H4.out hb5)
  clear hb5
  go_wp2_with fail
  go_ret
  exact ⟨rfl, H5.out⟩
end Go.Proofs.YtkgflepgkhnclaaGreatDoor
namespace Go.Proofs.YtkgflepgkhnclaaGreatDoor
open Go.RowKit Go.MapKept Go.ChangeMaps
set_option linter.unusedVariables false
set_option linter.unusedSimpArgs false

def putI (n : Int) (v : Value) : List (Int × Value) → List (Int × Value)
  | [] => [(n, v)]
  | p :: r => if p.1 = n then (p.1, v) :: r else p :: putI n v r
theorem look_putI {z : Value} {n m : Int} {v : Value} : ∀ {kvs : List (Int × Value)}, look z m (putI n v kvs) = if m = n then v else look z m kvs
  | [] => by
    by_cases h : m = n
    · subst h; simp [putI, look]
    · simp [putI, look, h]; intro e; exact absurd e.symm h
  | p :: r => by
    have ih := look_putI (z := z) (n := n) (m := m) (v := v) (kvs := r)
    by_cases hp : p.1 = n
    · rw [putI, if_pos hp]
      by_cases h : m = n
      · rw [if_pos h, look, if_pos (by rw [h]; exact hp)]
      · rw [if_neg h, look, look, if_neg (fun e => h (by rw [← e]; exact hp)), if_neg (fun e => h (by rw [← e]; exact hp))]
    · rw [putI, if_neg hp, look]
      by_cases hm : p.1 = m
      · rw [if_pos hm, look, if_pos hm, if_neg (fun e => hp (by rw [hm, e]))]
      · rw [if_neg hm, ih, look, if_neg hm]
theorem hasKey_putI {n m : Int} {v : Value} : ∀ {kvs : List (Int × Value)}, hasKey m (putI n v kvs) = (decide (m = n) || hasKey m kvs)
  | [] => by
    by_cases h : m = n
    · subst h; simp [putI, hasKey]
    · have h2 : ¬ n = m := fun e => h e.symm
      simp [putI, hasKey, h, h2]
  | p :: r => by
    have ih := hasKey_putI (n := n) (m := m) (v := v) (kvs := r)
    by_cases hp : p.1 = n
    · rw [putI, if_pos hp]
      by_cases h : m = n
      · simp [hasKey, h, hp]
      · simp [hasKey, h]
    · rw [putI, if_neg hp]
      simp only [hasKey, List.any_cons] at ih ⊢
      rw [ih]
      cases (p.1 == m) <;> cases decide (m = n) <;> rfl
theorem putI_new {n : Int} {v : Value} : ∀ {kvs : List (Int × Value)}, hasKey n kvs = false → putI n v kvs = kvs ++ [(n, v)]
  | [], _ => rfl
  | p :: r, h => by
    simp only [hasKey, List.any_cons, Bool.or_eq_false_iff, beq_eq_false_iff_ne] at h
    rw [putI, if_neg h.1, putI_new (by exact h.2)]
    rfl
/-- Where an entry is found. -/
theorem findAt_int {kd q : IntKind} {n : Int} : ∀ (l : List MapEntry) (kvs : List (Int × Value)) (i : Nat), l.map (fun e => (e.key, e.val)) = kvs.map (fun p => (Value.int kd p.1, p.2)) → hasKey n kvs = true →
    ∃ j e0, Instr.findNow (.int q) (.int kd n) l i = some (some (i + j, e0.val)) ∧ l[j]? = some e0 ∧ e0.key = .int kd n ∧
      ∀ (v : Value) (f : MapEntry → MapEntry), (∀ e, (f e).key = .int kd n ∧ (f e).val = v) → (l.modify j f).map (fun e => (e.key, e.val)) = (putI n v kvs).map (fun p => (Value.int kd p.1, p.2))
  | [], [], i, _, h => by cases h
  | [], _ :: _, _, h, _ => by simp at h
  | _ :: _, [], _, h, _ => by simp at h
  | e :: l, p :: kvs, i, h, hk => by
    simp only [List.map_cons, List.cons.injEq, Prod.mk.injEq] at h
    obtain ⟨⟨hkk, hv⟩, hr⟩ := h
    by_cases hp : p.1 = n
    · refine ⟨0, e, by simp [Instr.findNow, hkk, Instr.sameNow, hp], rfl, by rw [hkk, hp], fun v f hf => ?_⟩
      simp [putI, hp, hf e, hr]
    · have hk' : hasKey n kvs = true := by simpa [hasKey, hp] using hk
      obtain ⟨j, e0, h1, h2, h3, h4⟩ := findAt_int (q := q) l kvs (i + 1) hr hk'
      have hne : (n == p.1) = false := by simp; exact fun h => hp h.symm
      refine ⟨j + 1, e0, by rw [show i + (j + 1) = i + 1 + j by omega]; simpa [Instr.findNow, hkk, Instr.sameNow, hne] using h1, by simpa using h2, h3, fun v f hf => ?_⟩
      simp [putI, hp, hkk, hv, h4 v f hf]

section
variable {P : Program} {w : World}
/-- 'm[n] = v'. -/
theorem update_intmap {kd q : IntKind} {b : Nat} {kvs : List (Int × Value)} {t k e : TypeId} {n : Int} {v : Value} (h : IntMap kd w b kvs) (ht : P.underlying t = some (.map k e)) (hk : P.underlying k = some (.int q)) (hq : q = kd) :
    ∃ w', (Instr.mapUpdate t (.map (some b)) (.int kd n) v).run P w = .ok () w' ∧ IntMap kd w' b (putI n v kvs) ∧ w.grownBy w' (some b) := by
  cases hn : hasKey n kvs with
  | false => rw [putI_new hn]; exact insert_intmap h ht hk hq hn
  | true =>
    obtain ⟨es, ck, hb, he⟩ := h
    subst hq
    obtain ⟨j, e0, h1, h2, h3, h4⟩ := findAt_int (q := q) es.toList kvs 0 he hn
    simp only [Nat.zero_add] at h1
    have hkey : IsKey (.int q) (.int q n) := by simp [IsKey]
    have hfk := run_findKey (P := P) (w := w) hk h1
    have hck := run_checkKey (P := P) (w := w) hk hkey false 9999
    have h5' : es[j]? = some e0 := by rw [← Array.getElem?_toList]; exact h2
    have hsb : Instr.sameBits 10000 (.int q n) (.int q n) = true := by simp [Instr.sameBits]
    refine ⟨setBlock w b (.map (es.modify j fun e => { e with key := .int q n, val := v }) ck), ?_, ⟨_, _, heap_setBlock_same hb _, ?_⟩,
      ⟨rfl, rfl, rfl, by simp [setBlock], fun i _ hi => heap_setBlock_other hb _ (fun e => hi (by rw [e]))⟩⟩
    · unfold Instr.mapUpdate
      simp only [Sem.run_bind, run_underlying ht, Result.andThen, Go.MapKept.run_getObj_map hb, hck, hfk, h5', Option.map_some, Option.getD_some, h3, Instr.keyThatStays, hsb, if_true, Sem.run_pure, Go.MapKept.run_setObj_map _ hb]
      rfl
    · rw [Array.toList_modify]
      exact h4 v (fun e => { e with key := .int q n, val := v }) (fun e => ⟨rfl, rfl⟩)
theorem wpList_update_intmap {ops : Array Oper} {rest : List Oper} {o : Oper} {a : Act} {Q : Exit → Act → World → Prop} (hg : o.guard = none) (m x v : Operand) (t : TypeId) (hop : o.op = Op.mapUpdate t m x v)
    (k e : TypeId) (kd q : IntKind) (ht : P.underlying t = some (.map k e)) (hk : P.underlying k = some (.int q)) (hq : q = kd) (b : Nat) (kvs : List (Int × Value)) (hm : a.eval m = .map (some b)) (h : IntMap kd w b kvs)
    (n : Int) (hx : a.eval x = .int kd n) (val : Value) (hv : a.eval v = val)
    (hK : ∀ w', IntMap kd w' b (putI n val kvs) → w.grownBy w' (some b) → wpList P ops Q rest (a.put o.dst undef) w') : wpList P ops Q (o :: rest) a w := by
  refine wpList_plain hg fun K' hK' => ?_
  obtain ⟨w', hrun, r1, r2⟩ := update_intmap (P := P) (v := val) h ht hk hq
  unfold Oper.wp
  simp [execOp, hop, hm, hx, hv, Result.andThen]
  rw [hrun]
  exact hK' _ _ (hK w' r1 r2)
/-- 'm[s] = v'. -/
theorem update_strmap {b : Nat} {kvs : Kvs} {t k e : TypeId} {x : ByteArray} {v : Value} (h : StrMap w b kvs) (ht : P.underlying t = some (.map k e)) (hk : P.underlying k = some .string) :
    ∃ w', (Instr.mapUpdate t (.map (some b)) (.string x) v).run P w = .ok () w' ∧ StrMap w' b (putS x v kvs) ∧ w.grownBy w' (some b) := by
  obtain ⟨es, ck, hb, he, hn, hlt, hnk⟩ := h
  obtain ⟨r, h1, h2, h3⟩ := findNow_str (k := x) es.toList kvs 0 he
  have hkey : IsKey .string (.string x) := by simp [IsKey]
  have hfk := run_findKey (P := P) (w := w) hk h1
  have hck := run_checkKey (P := P) (w := w) hk hkey false 9999
  cases hg : getS x kvs with
  | none =>
    obtain rfl := h2 hg
    refine ⟨setBlock w b (.map (es.push { key := .string x, val := v, born := ck }) (ck + 1)), ?_, ⟨_, _, heap_setBlock_same hb _, ?_, ?_, ?_, nodup_putS hnk⟩,
      ⟨rfl, rfl, rfl, by simp [setBlock], fun i _ hi => heap_setBlock_other hb _ (fun e => hi (by rw [e]))⟩⟩
    · unfold Instr.mapUpdate
      simp only [Sem.run_bind, run_underlying ht, Result.andThen, Go.MapKept.run_getObj_map hb, hck, hfk, Go.MapKept.run_setObj_map _ hb, Sem.run_pure]
      rfl
    · rw [Array.toList_push, List.map_append, putS_new hg, List.map_append, he]
      rfl
    · rw [Array.toList_push, List.map_append, List.nodup_append]
      refine ⟨hn, by simp, fun a ha c hc => ?_⟩
      simp only [List.map_cons, List.map_nil, List.mem_singleton] at hc
      simp only [List.mem_map] at ha
      obtain ⟨e', he', rfl⟩ := ha
      have := hlt e' he'
      omega
    · intro e' he'
      rw [Array.toList_push, List.mem_append, List.mem_singleton] at he'
      rcases he' with he' | rfl
      · have := hlt e' he'; omega
      · exact Nat.lt_succ_self _
  | some v0 =>
    obtain ⟨j, e0, rfl, h5, h6, h7, h8⟩ := h3 v0 hg
    simp only [Nat.zero_add] at hfk h1
    have h5' : es[j]? = some e0 := by rw [← Array.getElem?_toList]; exact h5
    have hsb : Instr.sameBits 10000 (.string x) (.string x) = true := by simp [Instr.sameBits, bytes_beq]
    have hm2 : es.modify j (fun e => { e with key := Value.string x, val := v }) = es.modify j (fun e => { e with val := v }) := by
      apply Array.toList_inj.1
      rw [Array.toList_modify, Array.toList_modify]
      refine List.ext_getElem? fun i => ?_
      rw [List.getElem?_modify, List.getElem?_modify]
      by_cases hi : j = i
      · subst hi
        rw [h5]
        simp [← h6]
      · simp [hi]
    refine ⟨setBlock w b (.map (es.modify j fun e => { e with val := v }) ck), ?_, ⟨_, _, heap_setBlock_same hb _, ?_, ?_, ?_, nodup_putS hnk⟩, ⟨rfl, rfl, rfl, by simp [setBlock], fun i _ hi => heap_setBlock_other hb _ (fun e => hi (by rw [e]))⟩⟩
    · unfold Instr.mapUpdate
      simp only [Sem.run_bind, run_underlying ht, Result.andThen, Go.MapKept.run_getObj_map hb, hck, hfk, h5', Option.map_some, Option.getD_some, h6, Instr.keyThatStays, hsb, if_true, Sem.run_pure, hm2, Go.MapKept.run_setObj_map _ hb]
      rfl
    · rw [Array.toList_modify]; exact putS_old he hg h8 ⟨e0, h5, h6⟩
    · rw [Array.toList_modify, map_born_modify (f := fun e => { e with val := v }) (fun _ => rfl)]; exact hn
    · intro e he
      have : e.born ∈ es.toList.map (·.born) := by
        rw [← map_born_modify (f := fun e => { e with val := v }) (fun _ => rfl) es.toList j, ← Array.toList_modify]
        exact List.mem_map_of_mem he
      obtain ⟨e', h1, h2⟩ := List.mem_map.1 this
      have := hlt e' h1
      omega
theorem wpList_update_strmap {ops : Array Oper} {rest : List Oper} {o : Oper} {a : Act} {Q : Exit → Act → World → Prop} (hg : o.guard = none) (m x v : Operand) (t : TypeId) (hop : o.op = Op.mapUpdate t m x v)
    (k e : TypeId) (ht : P.underlying t = some (.map k e)) (hk : P.underlying k = some .string) (b : Nat) (kvs : Kvs) (hm : a.eval m = .map (some b)) (h : StrMap w b kvs)
    (n : ByteArray) (hx : a.eval x = .string n) (val : Value) (hv : a.eval v = val)
    (hK : ∀ w', StrMap w' b (putS n val kvs) → w.grownBy w' (some b) → wpList P ops Q rest (a.put o.dst undef) w') : wpList P ops Q (o :: rest) a w := by
  refine wpList_plain hg fun K' hK' => ?_
  obtain ⟨w', hrun, r1, r2⟩ := update_strmap (P := P) (v := val) h ht hk
  unfold Oper.wp
  simp [execOp, hop, hm, hx, hv, Result.andThen]
  rw [hrun]
  exact hK' _ _ (hK w' r1 r2)
end
end Go.Proofs.YtkgflepgkhnclaaGreatDoor
namespace Go.Proofs.YtkgflepgkhnclaaGreatDoor
open Go.RowKit Go.Shelf
set_option linter.unusedVariables false
set_option linter.unusedSimpArgs false

/-- A Done. -/
structure Dn where
  e : Int
  f : Int
  a : Int
  t : Int
  err : Int
  val : ByteArray
  pA : Option Addr
  pn : Nat
  pc : Nat
  h : Hd
  s0 : Int
  s1 : Int
  s2 : Int
  s3 : Int
  s4 : Int
  s5 : Int
  s6 : Int
  s7 : Int
  s8 : Int
  s9 : Int
  la : Nat
  lb : Nat
def Dn.ans (d : Dn) : List Value := [.int .i64 d.err, .string d.val, .slice d.pA d.pn d.pc, .int .i64 d.h.t, .int .u32 d.h.g, .int .u8 d.h.r, .int .u64 d.s0, .int .u64 d.s1, .int .u64 d.s2, .int .u64 d.s3, .int .u64 d.s4, .int .u64 d.s5, .int .u64 d.s6, .int .u64 d.s7, .int .u64 d.s8, .int .u64 d.s9, .complex .f64 d.la d.lb]
def Dn.row (d : Dn) : List Value := [.int .i64 d.e, .int .i64 d.f, .int .i64 d.a, .int .i64 d.t, .int .i64 d.err, .string d.val, .slice d.pA d.pn d.pc, .int .i64 d.h.t, .int .u32 d.h.g, .int .u8 d.h.r, .int .u64 d.s0, .int .u64 d.s1, .int .u64 d.s2, .int .u64 d.s3, .int .u64 d.s4, .int .u64 d.s5, .int .u64 d.s6, .int .u64 d.s7, .int .u64 d.s8, .int .u64 d.s9, .complex .f64 d.la d.lb]
theorem Dn.row_len (d : Dn) : d.row.length = 21 := rfl
theorem dn_one (d : Dn) : ∀ u ∈ d.row, u.oneCell' = true := by simp [Dn.row, Value.oneCell']

/-- The last entry of a session ahead of the k-th. -/
def befN (es : List Ent) (s : Int) : Nat → Int
  | 0 => -1
  | k + 1 => if (es[k]?).map (·.ses) = some s then k else befN es s k

theorem ent_ses {w : World} {B k : Nat} {A : Option Addr} {es : List Ent} (h : Reads w B 13 A es.length (es.flatMap Ent.row)) (hk : k < es.length) : ∃ ad, A = some ad ∧ ad.block < B ∧ w.cell? (ad.add (k * 13)) = some (.int .i64 es[k].ses) := by
  obtain ⟨ad, rfl, hab, hc⟩ := row_cells Ent.row_len h rfl hk
  exact ⟨ad, rfl, hab, by have := hc 0 _ rfl; rwa [add_of_add] at this⟩
set_option maxHeartbeats 3200000 in
theorem before_any (es : List Ent) (A : Option Addr) (c n : Nat) (w : World) (hA : Reads w w.heap.size 13 A es.length (es.flatMap Ent.row)) (hn : n < es.length) (hl : es.length ≤ 9223372036854775807) :
    Calls Tryz.prog 101 #[.slice A es.length c, .int .i64 n] w (fun e w' => e = .returned (.int .i64 (befN es es[n].ses n)) ∧ Below w.heap.size w w') := by
  have hw1 : IntKind.i64.wrap ((n : Int) - 1) = (n : Int) - 1 := IntWalk.i64_in _ (by omega)
  obtain ⟨ad, rfl, hab, hcn⟩ := ent_ses hA hn
  have HA := Lib.hid hA
  have hn0 : (0 : Int) ≤ (n : Int) := by omega
  have hni : (n : Int) < (es.length : Int) := by omega
  generalize hs : es[n].ses = s at hcn ⊢
  clear hs hA
  go_enter Tryz.func101, Tryz.ntmps101
  go_wp2
  go_loopw [5] (fun i wr => ∃ k : Nat, k ≤ n ∧ i = .int .i64 ((k : Int) - 1) ∧ befN es s n = befN es s k ∧ Below w.heap.size w wr) (fun i _ => ((intOf i) + 1).toNat)
  case atStart => exact ⟨n, Nat.le_refl _, rfl, rfl, Below.refl _ _⟩
  case round =>
    obtain ⟨k, hk, rfl, hbef, hbel⟩ := hrel
    have HB := Lib.hid hbel
    have HF := Lib.hid hbef
    have cn := (hbel.cell (p := ad.add (n * 13)) (by rw [block_of_add]; exact hab)).trans hcn
    clear hbel hbef
    cases k with
    | zero =>
      go_wp2
      go_ret
      refine ⟨by rw [HF.out]; rfl, HB.out⟩
    | succ k =>
      have hkl : k < es.length := by omega
      obtain ⟨ad2, h2, hab2, hck⟩ := ent_ses HA.out hkl
      injection h2 with h2
      subst h2
      have ck := (HB.out.cell (p := ad.add (k * 13)) (by rw [block_of_add]; exact hab)).trans hck
      have hw2 : IntKind.i64.wrap ((k : Int) - 1) = (k : Int) - 1 := IntWalk.i64_in _ (by omega)
      have e1 : ((k + 1 : Nat) : Int) - 1 = (k : Int) := by omega
      rw [e1]
      have i1 : (0 : Int) ≤ (k : Int) := by omega
      have i2 : (k : Int) < (es.length : Int) := by omega
      have hf : befN es s (k + 1) = if es[k].ses = s then (k : Int) else befN es s k := by
        rw [befN, List.getElem?_eq_getElem hkl, Option.map_some]
        simp only [Option.some.injEq]
      have HF2 := Lib.hid hf
      generalize es[k].ses = s2 at *
      clear hck hab2 hf
      go_wp2
      go_region
      by_cases hq : s2 = s
      · have hqb : (s2 == s) = true := by simp [hq]
        go_wp2
        go_ret
        refine ⟨?_, HB.out.drew⟩
        rw [HF.out, HF2.out, if_pos hq]
        rfl
      · have hqb : (s2 == s) = false := by simp [hq]
        go_wp2
        go_roundw
        case rel => exact ⟨k, by omega, rfl, by rw [HF.out, HF2.out, if_neg hq], HB.out.drew⟩
        case measure => simp [intOf]
end Go.Proofs.YtkgflepgkhnclaaGreatDoor
namespace Go.Proofs.YtkgflepgkhnclaaGreatDoor
open Go.RowKit Go.Shelf
set_option linter.unusedVariables false
set_option linter.unusedSimpArgs false

def MapI (w : World) (b : Nat) (f : Int → Option Int) : Prop := ∃ kvs, IntMap .i64 w b kvs ∧ ∀ n, hasKey n kvs = (f n).isSome ∧ look (.int .i64 0) n kvs = .int .i64 ((f n).getD 0)
def MapB (w : World) (b : Nat) (f : Int → Bool) : Prop := ∃ kvs, IntMap .i64 w b kvs ∧ ∀ n, look (.bool false) n kvs = .bool (f n)
def updI (f : Int → Option Int) (n v : Int) : Int → Option Int := fun m => if m = n then some v else f m
def updB (f : Int → Bool) (n : Int) : Int → Bool := fun m => decide (m = n) || f m
section
variable {w w' : World} {b : Nat}
theorem MapI.lt {f : Int → Option Int} (h : MapI w b f) : b < w.heap.size := h.choose_spec.1.lt
theorem MapB.lt {f : Int → Bool} (h : MapB w b f) : b < w.heap.size := h.choose_spec.1.lt
theorem MapI.on {f : Int → Option Int} (h : MapI w b f) (hb : w'.heap[b]? = w.heap[b]?) : MapI w' b f := by
  obtain ⟨kvs, ⟨es, ck, h1, h2⟩, h3⟩ := h
  exact ⟨kvs, ⟨es, ck, hb.trans h1, h2⟩, h3⟩
theorem MapB.on {f : Int → Bool} (h : MapB w b f) (hb : w'.heap[b]? = w.heap[b]?) : MapB w' b f := by
  obtain ⟨kvs, ⟨es, ck, h1, h2⟩, h3⟩ := h
  exact ⟨kvs, ⟨es, ck, hb.trans h1, h2⟩, h3⟩
theorem MapI.below {f : Int → Option Int} (h : MapI w b f) (hb : Below w.heap.size w w') : MapI w' b f := h.on (hb.block b h.lt)
theorem MapB.below {f : Int → Bool} (h : MapB w b f) (hb : Below w.heap.size w w') : MapB w' b f := h.on (hb.block b h.lt)
theorem MapI.made (w : World) : MapI (w.alloc (.map #[] 0)) w.heap.size (fun _ => none) := ⟨[], IntMap.made .i64 w, fun n => ⟨rfl, rfl⟩⟩
theorem MapB.made (w : World) : MapB (w.alloc (.map #[] 0)) w.heap.size (fun _ => false) := ⟨[], IntMap.made .i64 w, fun n => rfl⟩
theorem MapI.get {f : Int → Option Int} (h : MapI w b f) (n : Int) : (Instr.lookup 166 (.map (some b)) (.int .i64 n) true).run Tryz.prog w = .ok (.tuple #[.int .i64 ((f n).getD 0), .bool (f n).isSome]) w := by
  obtain ⟨kvs, h1, h2⟩ := h
  have := run_lookup_intmap (P := Tryz.prog) (n := n) h1 Tryz.underlying166 Tryz.underlying3 rfl (Tryz.zeroValue3 w) true
  rw [(h2 n).1, (h2 n).2] at this
  simpa using this
theorem MapB.get {f : Int → Bool} (h : MapB w b f) (n : Int) : (Instr.lookup 168 (.map (some b)) (.int .i64 n) false).run Tryz.prog w = .ok (.bool (f n)) w := by
  obtain ⟨kvs, h1, h2⟩ := h
  have := run_lookup_intmap (P := Tryz.prog) (n := n) h1 Tryz.underlying168 Tryz.underlying3 rfl (Tryz.zeroValue4 w) false
  rw [h2 n] at this
  simpa using this
theorem wpList_updI {ops : Array Oper} {rest : List Oper} {o : Oper} {a : Act} {Q : Exit → Act → World → Prop} {f : Int → Option Int} (hg : o.guard = none) (m x v : Operand) (hop : o.op = Op.mapUpdate 166 m x v)
    (h : MapI w b f) (hm : a.eval m = .map (some b)) (n y : Int) (hx : a.eval x = .int .i64 n) (hv : a.eval v = .int .i64 y)
    (hK : ∀ w', MapI w' b (updI f n y) → w.grownBy w' (some b) → wpList Tryz.prog ops Q rest (a.put o.dst undef) w') : wpList Tryz.prog ops Q (o :: rest) a w := by
  obtain ⟨kvs, h1, h2⟩ := h
  refine wpList_update_intmap hg m x v _ hop _ _ .i64 .i64 Tryz.underlying166 Tryz.underlying3 rfl b kvs hm h1 n hx _ hv fun w' h3 h4 => hK w' ⟨_, h3, fun k => ?_⟩ h4
  rw [hasKey_putI, look_putI]
  unfold updI
  by_cases e : k = n
  · simp [e]
  · simp only [e, if_false, decide_false, Bool.false_or]
    exact h2 k
theorem wp_updB {op : Oper} {a : Act} {K : Act → World → Prop} {Q : Exit → Act → World → Prop} {f : Int → Bool} (m x v : Operand) (hop : op.op = Op.mapUpdate 168 m x v)
    (h : MapB w b f) (hm : a.eval m = .map (some b)) (n : Int) (hx : a.eval x = .int .i64 n) (hv : a.eval v = .bool true)
    (hK : ∀ w', MapB w' b (updB f n) → w.grownBy w' (some b) → K (a.put op.dst undef) w') : op.wp Tryz.prog a w K Q := by
  obtain ⟨kvs, h1, h2⟩ := h
  obtain ⟨w', hrun, r1, r2⟩ := update_intmap (P := Tryz.prog) (n := n) (v := .bool true) h1 Tryz.underlying168 Tryz.underlying3 rfl
  unfold Oper.wp
  simp [execOp, hop, hm, hx, hv, Result.andThen]
  rw [hrun]
  refine hK w' ⟨_, r1, fun k => ?_⟩ r2
  rw [look_putI]
  unfold updB
  by_cases e : k = n
  · simp [e]
  · simp only [e, if_false, decide_false, Bool.false_or]
    exact h2 k
end
/-! ### Check's plain law -/
/-- To of the first Done of an entry. -/
def toF : List Dn → Int → Option Int
  | [], _ => none
  | d :: r, n => if d.e = n then some d.t else toF r n
theorem toF_snoc (l : List Dn) (d : Dn) : toF (l ++ [d]) = if (toF l d.e).isSome then toF l else updI (toF l) d.e d.t := by
  funext n
  induction l with
  | nil => simp [toF, updI, eq_comm]
  | cons x r ih =>
    rw [List.cons_append, toF, ih]
    by_cases h1 : x.e = n
    · rw [if_pos h1]
      by_cases h2 : (toF (x :: r) d.e).isSome = true
      · rw [if_pos h2, toF, if_pos h1]
      · rw [if_neg h2]
        have h3 : ¬ x.e = d.e := fun e => h2 (by rw [toF, if_pos e]; rfl)
        unfold updI
        rw [if_neg (fun e => h3 (h1.trans e)), toF, if_pos h1]
    · rw [if_neg h1]
      by_cases h3 : x.e = d.e
      · rw [if_pos (show (toF (x :: r) d.e).isSome = true by rw [toF, if_pos h3]; rfl), toF, if_neg h1]
        split
        · rfl
        · unfold updI
          rw [if_neg (fun e => h1 (h3.trans e.symm))]
      · have h4 : toF (x :: r) d.e = toF r d.e := by rw [toF, if_neg h3]
        rw [h4]
        split
        · rw [toF, if_neg h1]
        · unfold updI
          rw [toF, if_neg h1]
/-- A Done's shape is wrong. -/
def badD (pk : Int → Bool) (x : Dn) : Bool := decide (x.f < 0) || (decide (x.f > x.a) || (decide (x.a > x.t) || (pk x.f || (pk x.a || pk x.t))))
/-- The Done before it has not ended. -/
def lateD (tf : Int → Option Int) (k f : Int) : Bool := decide (0 ≤ k) && (!(tf k).isSome || decide ((tf k).getD 0 ≥ f))
def chkN (es : List Ent) (tf : Int → Option Int) : List Dn → Nat → (Int → Bool) → (Int → Bool) → Nat × Int
  | [], i, _, _ => (i, 0)
  | x :: r, i, sn, pk =>
    if x.e < 0 ∨ x.e ≥ es.length then (i, 6)
    else if sn x.e then (i, 8)
    else if badD pk x then (i, 4)
    else if lateD tf (match es[x.e.toNat]? with | some y => befN es y.ses x.e.toNat | none => -1) x.f then (i, 15)
    else chkN es tf r (i + 1) (updB sn x.e) (updB (updB (updB pk x.f) x.a) x.t)
def checkN (es : List Ent) (ds : List Dn) : Nat × Int := chkN es (toF ds) ds 0 (fun _ => false) (fun _ => false)
end Go.Proofs.YtkgflepgkhnclaaGreatDoor
namespace Go.Proofs.YtkgflepgkhnclaaGreatDoor
open Go.RowKit Go.Shelf
set_option linter.unusedVariables false
set_option linter.unusedSimpArgs false

theorem dn_cells {W : World} {g : Nat} {t : TypeId} {x : Dn} (h : Blk W g t x.row.toArray) : W.cell? ⟨g, 0, none⟩ = some (.int .i64 x.e) ∧ W.cell? ⟨g, 1, none⟩ = some (.int .i64 x.f) ∧ W.cell? ⟨g, 2, none⟩ = some (.int .i64 x.a) ∧ W.cell? ⟨g, 3, none⟩ = some (.int .i64 x.t) := ⟨h.cell 0, h.cell 1, h.cell 2, h.cell 3⟩
theorem mapB_ne {W : World} {b g : Nat} {f : Int → Bool} {t : TypeId} {cs : Array Value} (h : MapB W b f) (hb : Blk W g t cs) : g ≠ b := by
  rintro rfl
  obtain ⟨_, ⟨es, ck, h1, _⟩, _⟩ := h
  unfold Blk at hb
  rw [hb] at h1
  injection h1 with h1
  cases h1
theorem mapB_notU8 {W : World} {b : Nat} {f : Int → Bool} (h : MapB W b f) : ¬ U8 W b := by
  obtain ⟨_, ⟨es, ck, h1, _⟩, _⟩ := h
  exact not_U8_map h1
set_option maxHeartbeats 3200000 in
set_option maxRecDepth 100000 in
theorem chk_maps {W : World} {gs gp gx : Nat} {sn pk : Int → Bool} {x : Dn} {u0 u1 u2 u3 u4 u5 u6 u7 u8 u9 u10 u13 u15 u16 u17 u18 u19 u20 u21 u22 u23 u24 u25 u26 u27 u28 u29 u30 u31 u32 u33 u34 u35 u36 u37 u38 u39 u40 u41 u42 u43 u44 u45 u46 u47 u48 u49 u50 u51 u52 u53 u54 u55 u56 u57 u58 u59 u60 u61 u62 u63 u64 u65 u66 u67 u68 u69 u70 u71 u72 u73 u74 u75 u76 u77 u78 u79 u80 u81 u82 u83 u84 u85 u86 u87 u88 u89 u90 u91 u92 u93 u94 u95 u96 u97 u98 u99 u100 u101 u102 u103 u104 u105 u106 u107 u108 u109 u110 u111 u112 u113 u114 u115 u116 u117 u118 u119 u120 u121 u122 u123 u124 u125 u126 u127 u128 u129 u130 u131 u132 u133 u134 u135 u136 u137 u138 u139 : Value} {Q : Exit → Act → World → Prop} (hms : MapB W gs sn) (hmp : MapB W gp pk) (hsp : gs ≠ gp) (hb : Blk W gx 90 x.row.toArray)
    (hQ : ∀ (s104 s105 s106 s107 s108 s109 s110 s111 s112 s113 s114 s115 : Value) (W' : World), MapB W' gs (updB sn x.e) → MapB W' gp (updB (updB (updB pk x.f) x.a) x.t) → KeepC (fun i => i = gs ∨ i = gp) W W' → Q .normal ⟨#[u0, u1, u2, u3, u4, u5, u6, u7, u8, u9, u10, .map (some gs), .map (some gp), u13, .pointer (some ⟨gx, 0, none⟩), u15, u16, u17, u18, u19, u20, u21, u22, u23, u24, u25, u26, u27, u28, u29, u30, u31, u32, u33, u34, u35, u36, u37, u38, u39, u40, u41, u42, u43, u44, u45, u46, u47, u48, u49, u50, u51, u52, u53, u54, u55, u56, u57, u58, u59, u60, u61, u62, u63, u64, u65, u66, u67, u68, u69, u70, u71, u72, u73, u74, u75, u76, u77, u78, u79, u80, u81, u82, u83, u84, u85, u86, u87, u88, u89, u90, u91, u92, u93, u94, u95, u96, u97, u98, u99, u100, u101, u102, u103, s104, s105, s106, s107, s108, s109, s110, s111, s112, s113, s114, s115, u116, u117, u118, u119, u120, u121, u122, u123, u124, u125, u126, u127, u128, u129, u130, u131, u132, u133, u134, u135, u136, u137, u138, u139], []⟩ W') :
    Code.wp Tryz.prog (part Tryz.f52 [1, 1, 1, 1, 0, 1, 2, 2, 1, 1, 0, 2, 1, 1, 0]) Q ⟨#[u0, u1, u2, u3, u4, u5, u6, u7, u8, u9, u10, .map (some gs), .map (some gp), u13, .pointer (some ⟨gx, 0, none⟩), u15, u16, u17, u18, u19, u20, u21, u22, u23, u24, u25, u26, u27, u28, u29, u30, u31, u32, u33, u34, u35, u36, u37, u38, u39, u40, u41, u42, u43, u44, u45, u46, u47, u48, u49, u50, u51, u52, u53, u54, u55, u56, u57, u58, u59, u60, u61, u62, u63, u64, u65, u66, u67, u68, u69, u70, u71, u72, u73, u74, u75, u76, u77, u78, u79, u80, u81, u82, u83, u84, u85, u86, u87, u88, u89, u90, u91, u92, u93, u94, u95, u96, u97, u98, u99, u100, u101, u102, u103, u104, u105, u106, u107, u108, u109, u110, u111, u112, u113, u114, u115, u116, u117, u118, u119, u120, u121, u122, u123, u124, u125, u126, u127, u128, u129, u130, u131, u132, u133, u134, u135, u136, u137, u138, u139], []⟩ W := by
  conv => arg 2; whnf
  have HQ := Lib.hid hQ
  have hxs := mapB_ne hms hb
  have hxp := mapB_ne hmp hb
  have hnp : ∀ (c : List Halt), True := fun _ => trivial
  have hS : W.drew.cell? ⟨gx, 0, none⟩ = some (.int .i64 x.e) ∧ W.drew.cell? ⟨gx, 1, none⟩ = some (.int .i64 x.f) ∧ W.drew.cell? ⟨gx, 2, none⟩ = some (.int .i64 x.a) ∧ W.drew.cell? ⟨gx, 3, none⟩ = some (.int .i64 x.t) := dn_cells hb
  have hB0 : Blk W.drew gx 90 x.row.toArray := hb
  have hk0 := (KeepC.refl (fun i => i = gs ∨ i = gp) W).drew
  replace hms : MapB W.drew gs sn := hms
  replace hmp : MapB W.drew gp pk := hmp
  clear hQ hb
  refine wp_region_noPanic ?_
  refine wp_region_held_drew (S := (fun V : World => V.cell? ⟨gx, 0, none⟩ = some (.int .i64 x.e) ∧ V.cell? ⟨gx, 1, none⟩ = some (.int .i64 x.f) ∧ V.cell? ⟨gx, 2, none⟩ = some (.int .i64 x.a) ∧ V.cell? ⟨gx, 3, none⟩ = some (.int .i64 x.t))) (by kernel_rfl) ?_ (fun hHeld0 => ?_)
  · exact hS
  refine wpAnyH_take (i := 0) (v := ?_) rfl (by kernel_rfl) (by kernel_rfl) (by kernel_rfl) (fun _ _ _ h => h) (Or.inl ⟨by rfl, ?_⟩) hHeld0 ?_
  rotate_left
  · (intro w hSw; (try dsimp only at hSw); go_simp <;> with_reducible rfl)
  try simp only [Act.put, List.setIfInBounds_toArray, List.set_cons_zero, List.set_cons_succ]
  refine wpAnyH_take (i := 1) (v := ?_) rfl (by kernel_rfl) (by kernel_rfl) (by kernel_rfl) (fun _ _ _ h => h) (Or.inl ⟨by rfl, ?_⟩) hHeld0 ?_
  rotate_left
  · (intro w hSw; (try dsimp only at hSw); go_simp <;> with_reducible rfl)
  try simp only [Act.put, List.setIfInBounds_toArray, List.set_cons_zero, List.set_cons_succ]
  refine wpAnyH_take (i := 2) (v := ?_) rfl (by kernel_rfl) (by kernel_rfl) (by kernel_rfl) (fun _ _ _ h => h) (Or.inl ⟨by rfl, ?_⟩) hHeld0 ?_
  rotate_left
  · (intro w hSw; (try dsimp only at hSw); go_simp <;> with_reducible rfl)
  try simp only [Act.put, List.setIfInBounds_toArray, List.set_cons_zero, List.set_cons_succ]
  refine wpAnyH_take (i := 3) (v := ?_) rfl (by kernel_rfl) (by kernel_rfl) (by kernel_rfl) (fun _ _ _ h => h) (Or.inl ⟨by rfl, ?_⟩) hHeld0 ?_
  rotate_left
  · (intro w hSw; (try dsimp only at hSw); go_simp <;> with_reducible rfl)
  try simp only [Act.put, List.setIfInBounds_toArray, List.set_cons_zero, List.set_cons_succ]
  refine wpAnyH_take (i := 4) (v := ?_) rfl (by kernel_rfl) (by kernel_rfl) (by kernel_rfl) (fun _ _ _ h => h) (Or.inl ⟨by rfl, ?_⟩) hHeld0 ?_
  rotate_left
  · (intro w hSw; (try dsimp only at hSw); go_simp <;> with_reducible rfl)
  try simp only [Act.put, List.setIfInBounds_toArray, List.set_cons_zero, List.set_cons_succ]
  refine wpAnyH_take (i := 5) (v := ?_) rfl (by kernel_rfl) (by kernel_rfl) (by kernel_rfl) (fun _ _ _ h => h) (Or.inl ⟨by rfl, ?_⟩) hHeld0 ?_
  rotate_left
  · (intro w hSw; (try dsimp only at hSw); go_simp <;> with_reducible rfl)
  try simp only [Act.put, List.setIfInBounds_toArray, List.set_cons_zero, List.set_cons_succ]
  refine wpAnyH_take (i := 6) (v := ?_) rfl (by kernel_rfl) (by kernel_rfl) (by kernel_rfl) (fun _ _ _ h => h) (Or.inl ⟨by rfl, ?_⟩) hHeld0 ?_
  rotate_left
  · (intro w hSw; (try dsimp only at hSw); go_simp <;> with_reducible rfl)
  try simp only [Act.put, List.setIfInBounds_toArray, List.set_cons_zero, List.set_cons_succ]
  refine wpAnyH_take (i := 7) (v := ?_) rfl (by kernel_rfl) (by kernel_rfl) (by kernel_rfl) (fun _ _ _ h => h) (Or.inl ⟨by rfl, ?_⟩) hHeld0 ?_
  rotate_left
  · (intro w hSw; (try dsimp only at hSw); go_simp <;> with_reducible rfl)
  try simp only [Act.put, List.setIfInBounds_toArray, List.set_cons_zero, List.set_cons_succ]
  refine wpAnyH_take (i := 8) (v := ?_) rfl (by kernel_rfl) (by kernel_rfl) (by kernel_rfl) (fun _ _ _ h => h) (Or.inl ⟨by rfl, ?_⟩) hHeld0 ?_
  rotate_left
  · (intro w hSw; (try dsimp only at hSw); go_simp <;> with_reducible rfl)
  try simp only [Act.put, List.setIfInBounds_toArray, List.set_cons_zero, List.set_cons_succ]
  refine wpAnyH_take (i := 9) (v := ?_) rfl (by kernel_rfl) (by kernel_rfl) (by kernel_rfl) (fun _ _ _ h => h) (Or.inl ⟨by rfl, ?_⟩) hHeld0 ?_
  rotate_left
  · (intro w hSw; (try dsimp only at hSw); go_simp <;> with_reducible rfl)
  try simp only [Act.put, List.setIfInBounds_toArray, List.set_cons_zero, List.set_cons_succ]
  refine wpAnyH_take (i := 10) (v := ?_) rfl (by kernel_rfl) (by kernel_rfl) (by kernel_rfl) (fun _ _ _ h => h) (Or.inl ⟨by rfl, ?_⟩) hHeld0 ?_
  rotate_left
  · (intro w hSw; (try dsimp only at hSw); go_simp <;> with_reducible rfl)
  try simp only [Act.put, List.setIfInBounds_toArray, List.set_cons_zero, List.set_cons_succ]
  refine wpAnyH_take (i := 11) (v := ?_) rfl (by kernel_rfl) (by kernel_rfl) (by kernel_rfl) (fun _ _ _ h => h) (Or.inl ⟨by rfl, ?_⟩) hHeld0 ?_
  rotate_left
  · (intro w hSw; (try dsimp only at hSw); go_simp <;> with_reducible rfl)
  try simp only [Act.put, List.setIfInBounds_toArray, List.set_cons_zero, List.set_cons_succ]
  try simp only [Act.put, List.getElem_toArray, List.getElem_cons_succ, List.getElem_cons_zero, List.setIfInBounds_toArray, List.set_cons_zero, List.set_cons_succ]
  refine wpAnyH_ready (rs := [12]) (by kernel_rfl) (by simp) ?_
  refine AllReadyH.cons rfl (fun K hK => ?_) AllReadyH.nil
  refine wp_updB (.tmp 104) (.tmp 106) (.const (.bool true)) rfl hms rfl _ rfl rfl ?_
  intro V1 hm1 hg1
  have hB1 : Blk V1 gx 90 x.row.toArray := hB0.grown hg1 (by intro e; injection e with e; exact hxs e)
  refine hK.out _ _ ?_ (fun hHeld1 => ?_)
  · exact dn_cells hB1
  clear hK K hHeld0
  try simp only [Act.put, List.setIfInBounds_toArray, List.set_cons_zero, List.set_cons_succ]
  have hp1 := hmp.on (hg1.block gp hmp.lt (fun e => hsp (Option.some.inj e).symm))
  try simp only [Act.put, List.getElem_toArray, List.getElem_cons_succ, List.getElem_cons_zero, List.setIfInBounds_toArray, List.set_cons_zero, List.set_cons_succ]
  refine wpAnyH_ready (rs := [13]) (by kernel_rfl) (by simp) ?_
  refine AllReadyH.cons rfl (fun K hK => ?_) AllReadyH.nil
  refine wp_updB (.tmp 107) (.tmp 109) (.const (.bool true)) rfl hp1 rfl _ rfl rfl ?_
  intro V2 hm2 hg2
  have hB2 : Blk V2 gx 90 x.row.toArray := hB1.grown hg2 (by intro e; injection e with e; exact hxp e)
  refine hK.out _ _ ?_ (fun hHeld2 => ?_)
  · exact dn_cells hB2
  clear hK K hHeld1
  try simp only [Act.put, List.setIfInBounds_toArray, List.set_cons_zero, List.set_cons_succ]
  try simp only [Act.put, List.getElem_toArray, List.getElem_cons_succ, List.getElem_cons_zero, List.setIfInBounds_toArray, List.set_cons_zero, List.set_cons_succ]
  refine wpAnyH_ready (rs := [14]) (by kernel_rfl) (by simp) ?_
  refine AllReadyH.cons rfl (fun K hK => ?_) AllReadyH.nil
  refine wp_updB (.tmp 110) (.tmp 112) (.const (.bool true)) rfl hm2 rfl _ rfl rfl ?_
  intro V3 hm3 hg3
  have hB3 : Blk V3 gx 90 x.row.toArray := hB2.grown hg3 (by intro e; injection e with e; exact hxp e)
  refine hK.out _ _ ?_ (fun hHeld3 => ?_)
  · exact dn_cells hB3
  clear hK K hHeld2
  try simp only [Act.put, List.setIfInBounds_toArray, List.set_cons_zero, List.set_cons_succ]
  try simp only [Act.put, List.getElem_toArray, List.getElem_cons_succ, List.getElem_cons_zero, List.setIfInBounds_toArray, List.set_cons_zero, List.set_cons_succ]
  refine wpAnyH_ready (rs := [15]) (by kernel_rfl) (by simp) ?_
  refine AllReadyH.cons rfl (fun K hK => ?_) AllReadyH.nil
  refine wp_updB (.tmp 113) (.tmp 115) (.const (.bool true)) rfl hm3 rfl _ rfl rfl ?_
  intro V4 hm4 hg4
  have hB4 : Blk V4 gx 90 x.row.toArray := hB3.grown hg4 (by intro e; injection e with e; exact hxp e)
  refine hK.out _ _ ?_ (fun hHeld4 => ?_)
  · exact dn_cells hB4
  clear hK K hHeld3
  try simp only [Act.put, List.setIfInBounds_toArray, List.set_cons_zero, List.set_cons_succ]
  try simp only [Act.put, List.getElem_toArray, List.getElem_cons_succ, List.getElem_cons_zero, List.setIfInBounds_toArray, List.set_cons_zero, List.set_cons_succ]
  refine wpAnyH_done (by kernel_rfl) ?_ _
  have k1 := hk0.grown hg1 (fun b e => by injection e with e; subst e; exact ⟨fun _ => .inl rfl, mapB_notU8 hms⟩)
  have k2 := k1.grown hg2 (fun b e => by injection e with e; subst e; exact ⟨fun _ => .inr rfl, mapB_notU8 hp1⟩)
  have k3 := k2.grown hg3 (fun b e => by injection e with e; subst e; exact ⟨fun _ => .inr rfl, mapB_notU8 hm2⟩)
  have k4 := k3.grown hg4 (fun b e => by injection e with e; subst e; exact ⟨fun _ => .inr rfl, mapB_notU8 hm3⟩)
  have hs2 := hm1.on (hg2.block gs hm1.lt (fun e => hsp (Option.some.inj e)))
  have hs3 := hs2.on (hg3.block gs hs2.lt (fun e => hsp (Option.some.inj e)))
  have hs4 := hs3.on (hg4.block gs hs3.lt (fun e => hsp (Option.some.inj e)))
  exact NoPanic.normal (HQ.out _ _ _ _ _ _ _ _ _ _ _ _ _ hs4 hm4 k4)
end Go.Proofs.YtkgflepgkhnclaaGreatDoor
namespace Go.Proofs.YtkgflepgkhnclaaGreatDoor
open Go.RowKit Go.Shelf
set_option linter.unusedVariables false
set_option linter.unusedSimpArgs false
attribute [local go_sem] run_store_complex

section
variable {P : Program}
theorem run_index_agg (w : World) (t e : TypeId) (n : Nat) (cs : Array Value) (k : IntKind) (i size : Nat) (h : P.underlying t = some (.array n e)) (hi : i < n) (ha : ∀ w, (isAgg e).run P w = .ok true w) (hs : ∀ w, (sizeOf e).run P w = .ok size w) :
    (Instr.index t (.agg cs) (.int k (i : Int))).run P w = .ok (.agg (cs.extract (i * size) (i * size + size))) w := by
  have h1 : (0 : Int) ≤ (i : Int) ∧ (i : Int) < (n : Int) := by omega
  unfold Instr.index
  simp [run_underlying h, hs, Go.part, asIntOf, ha, hi]
theorem wpList_index_agg {ops : Array Oper} {rest : List Oper} {op : Oper} {a : Act} {w : World} {Q : Exit → Act → World → Prop} (hgd : op.guard = none) (t : TypeId) (x y : Operand) (ho : op.op = .index t x y) (e : TypeId) (n : Nat) (cs : Array Value) (i size : Nat)
    (hx : a.eval x = .agg cs) (hy : a.eval y = .int .i64 (i : Int)) (h : P.underlying t = some (.array n e)) (hi : i < n) (ha : ∀ w, (isAgg e).run P w = .ok true w) (hs : ∀ w, (sizeOf e).run P w = .ok size w)
    (hK : wpList P ops Q rest (a.put op.dst (.agg (cs.extract (i * size) (i * size + size)))) w) : wpList P ops Q (op :: rest) a w := by
  refine wpList_plain hgd fun K' hK' => ?_
  unfold Oper.wp
  simp [execOp, ho, hx, hy, run_index_agg w t e n cs .i64 i size h hi ha hs, Result.andThen]
  exact hK' _ _ hK
end
def zeroM : Array Value := (Value.bool false :: (List.range 17).flatMap (fun _ => ten0.cells ⟨0, 0, none⟩)).toArray
theorem infoMdl : (Tryz.prog.info? 78).map (·.size) = some 256 := by kernel_rfl
theorem infoAll : (Tryz.prog.info? 76).map (·.size) = some 255 := by kernel_rfl
theorem mcells_one {M : Mdl} {T : Ows} (h : ∀ t, (M t).ok) : (mcells M T).toArray.all (·.oneCell') = true := by
  rw [List.all_toArray, List.all_eq_true]
  intro v hv
  unfold mcells at hv
  rcases List.mem_cons.1 hv with rfl | hv
  · rfl
  · obtain ⟨t, _, ht⟩ := List.mem_flatMap.1 hv
    exact Ten.cells_one (h t) v ht
def mrow (M : Mdl) (T : Ows) : List Value := (List.range 17).flatMap (fun t => (M t).cells (T t))
theorem mrow_len {M : Mdl} {T : Ows} (h : ∀ t, (M t).ok) : (mrow M T).length = 255 := by
  have := mcells_len (T := T) h
  unfold mcells at this
  rw [List.length_cons] at this
  unfold mrow
  omega
theorem mrow_at {M : Mdl} {T : Ows} (h : ∀ t, (M t).ok) {k : Nat} (hk : k < 17) : (mrow M T).toArray.extract (k * 15) (k * 15 + 15) = ((M k).cells (T k)).toArray := by
  have h1 := flat_drop (f := fun t => (M t).cells (T t)) (m := 15) (fun x => Ten.cells_len (h x)) (List.range 17) k (by simpa using hk)
  have ex : ∀ (l : List Value) (a b : Nat), l.extract a b = (l.drop a).take (b - a) := fun _ _ _ => rfl
  rw [List.extract_toArray, ex]
  unfold mrow
  rw [h1, List.getElem_range]
  rw [show k * 15 + 15 - k * 15 = ((M k).cells (T k)).length by rw [Ten.cells_len (h k)]; omega, List.take_left']
  rfl
theorem stored_new {w : World} {t : TypeId} {lit cells : Array Value} (hs : lit.size = cells.size) : Blk ((w.alloc (.cells lit t)).setCells w.heap.size 0 cells.toList) w.heap.size t cells ∧ Below w.heap.size w ((w.alloc (.cells lit t)).setCells w.heap.size 0 cells.toList) := by
  refine ⟨blk_setAll (Blk.new w t lit) hs, ?_⟩
  obtain ⟨h1, h2, h3, h4, h5⟩ := sets_same w.heap.size cells.toList 0 (w.alloc (.cells lit t))
  have hb := below_box w (.cells lit t)
  exact ⟨h1.trans hb.os, h2.trans hb.tape, h3.trans hb.output, by have := hb.size; omega, fun i hi => (h5 i (by omega)).trans (hb.block i hi)⟩
theorem fm_congr {α β : Type} {f g : α → List β} : ∀ l : List α, (∀ x ∈ l, f x = g x) → l.flatMap f = l.flatMap g
  | [], _ => rfl
  | x :: l, h => by rw [List.flatMap_cons, List.flatMap_cons, h x (by simp), fm_congr l (fun y hy => h y (by simp [hy]))]
def mixO (k : Nat) (O T : Ows) : Ows := fun t => if t < k then O t else T t
/-- What holds between two rounds. -/
structure CpI (w wr : World) (g k : Nat) (M : Mdl) (T O : Ows) : Prop where
  blk : Blk wr g 78 (mcells M (mixO k O T)).toArray
  bk : ∀ t B, t < k → (M t).bk = some B → BkAt wr (O t) B ∧ ∀ i, (O t).has i → g < i ∧ i < wr.heap.size
  apart : ∀ t s i, t < k → s < k → t ≠ s → (M t).bk.isSome → (M s).bk.isSome → (O t).has i → ¬ (O s).has i
  bel : Below w.heap.size w wr
  ge : w.heap.size ≤ g
theorem cells_none {t : Ten} (h : t.bk = none) (o o' : Ow) : t.cells o = t.cells o' := by
  unfold Ten.cells Ten.ptr
  rw [h]
  rfl
theorem CpI.below {w wr w' : World} {g k : Nat} {M : Mdl} {T O : Ows} (h : CpI w wr g k M T O) (hb : Below wr.heap.size wr w') : CpI w w' g k M T O :=
  ⟨h.blk.below hb h.blk.lt, fun t B ht hB => ⟨(h.bk t B ht hB).1.below hb, fun i hi => ⟨((h.bk t B ht hB).2 i hi).1, Nat.lt_of_lt_of_le ((h.bk t B ht hB).2 i hi).2 hb.size⟩⟩, h.apart, below_trans h.bel hb, h.ge⟩
theorem CpI.skip {w wr : World} {g k : Nat} {M : Mdl} {T O : Ows} (h : CpI w wr g k M T O) (hb : (M k).bk = none) : CpI w wr g (k + 1) M T O := by
  have e : mcells M (mixO (k + 1) O T) = mcells M (mixO k O T) := by
    unfold mcells
    congr 1
    refine fm_congr _ (fun t ht => ?_)
    by_cases e : t = k
    · subst e; exact cells_none hb _ _
    · unfold mixO
      by_cases h1 : t < k
      · rw [if_pos h1, if_pos (by omega)]
      · rw [if_neg h1, if_neg (by omega)]
  have ne : ∀ {t : Nat}, (M t).bk.isSome → t < k + 1 → t < k := fun {t} hs ht => by
    rcases Nat.lt_or_ge t k with h1 | h1
    · exact h1
    · obtain rfl : t = k := by omega
      rw [hb] at hs; cases hs
  exact ⟨by rw [e]; exact h.blk, fun t B ht hB => h.bk t B (ne (by rw [hB]; rfl) ht) hB, fun t s i ht hs hne h1 h2 => h.apart t s i (ne h1 ht) (ne h2 hs) hne h1 h2, h.bel, h.ge⟩
theorem CpI.take {w wr w1 : World} {g k : Nat} {M : Mdl} {T O : Ows} {B : Bk} {o : Ow} (h : CpI w wr g k M T O) (hk : k < 17) (hok : ∀ t, (M t).ok) (hB : (M k).bk = some B) (hb : Below wr.heap.size wr w1) (hbk : BkAt w1 o B) (ho : ∀ i, o.has i → wr.heap.size ≤ i) :
    CpI w (w1.setCell ⟨g, 1 + k * 15 + 3, none⟩ (.pointer (some ⟨o.b, 0, none⟩))) g (k + 1) M T (updO O k o) := by
  have h1 := h.below hb
  have hgl := h.blk.lt
  have hs : ∀ i, i ≠ g → (w1.setCell ⟨g, 1 + k * 15 + 3, none⟩ (.pointer (some ⟨o.b, 0, none⟩))).heap[i]? = w1.heap[i]? := fun i hi => Below.heap_setCell w1 _ _ i hi
  have kk : KeepC (fun i => i = g) w1 (w1.setCell ⟨g, 1 + k * 15 + 3, none⟩ (.pointer (some ⟨o.b, 0, none⟩))) := (KeepC.refl (fun i => i = g) w1).setCell h1.blk (by decide) (fun _ => rfl) _ _
  have hq := h1.blk.set_ (1 + k * 15 + 3) (.pointer (some ⟨o.b, 0, none⟩))
  refine ⟨mcells_of hq (by simp [mcells_len hok]) hok ?_ ?_, fun t B' ht hB' => ?_, fun t s i ht hs' hne ht1 hs1 hti => ?_, h1.bel.setCell (p := ⟨g, 1 + k * 15 + 3, none⟩) h.ge _, h.ge⟩
  · rw [hq.cell, Array.getElem?_setIfInBounds_ne (by omega)]
    rfl
  · intro t j v ht hv
    have hj : j < 15 := by
      have := (List.getElem?_eq_some_iff.1 hv).1
      rwa [Ten.cells_len (hok t)] at this
    by_cases e : t = k ∧ j = 3
    · obtain ⟨rfl, rfl⟩ := e
      have e2 : mixO (t + 1) (updO O t o) T t = o := by unfold mixO; rw [if_pos (by omega), updO_self]
      rw [e2] at hv
      unfold Ten.cells Ten.ptr at hv
      rw [hB] at hv
      simp at hv
      rw [hq.cell, Array.getElem?_setIfInBounds_self_of_lt (by simp [mcells_len hok]; omega), ← hv]
    · rw [hq.cell, Array.getElem?_setIfInBounds_ne (by
        intro e2
        have : t = k := by omega
        subst this
        exact e ⟨rfl, by omega⟩)]
      rw [List.getElem?_toArray, mcell hok ht hj, ← hv]
      by_cases e3 : t = k
      · subst e3
        have hj3 : j ≠ 3 := fun e4 => e ⟨rfl, e4⟩
        unfold Ten.cells
        match j, hj3 with
        | 0, _ => rfl
        | 1, _ => rfl
        | 2, _ => rfl
        | j + 4, _ => rfl
      · unfold mixO
        by_cases h2 : t < k
        · rw [if_pos h2, if_pos (by omega), updO_ne e3]
        · rw [if_neg h2, if_neg (by omega)]
  · by_cases e : t = k
    · subst e
      rw [updO_self]
      rw [hB] at hB'
      injection hB' with hB'
      subst hB'
      refine ⟨hbk.keep kk (fun i hi e2 => by have := ho i hi; omega), fun i hi => ⟨by have := ho i hi; omega, ?_⟩⟩
      have := hbk.lt hi
      simpa using this
    · rw [updO_ne e]
      obtain ⟨a1, a2⟩ := h1.bk t B' (by omega) hB'
      exact ⟨a1.keep kk (fun i hi e2 => by have := (a2 i hi).1; omega), fun i hi => ⟨(a2 i hi).1, by simpa using (a2 i hi).2⟩⟩
  · have old : ∀ {t : Nat}, t < k + 1 → t ≠ k → (M t).bk.isSome → ∀ i, (updO O k o t).has i → i < wr.heap.size := fun {t} ht e hs2 i hi => by
      rw [updO_ne e] at hi
      obtain ⟨B2, hB2⟩ := Option.isSome_iff_exists.1 hs2
      exact ((h.bk t B2 (by omega) hB2).2 i hi).2
    by_cases e1 : t = k
    · subst e1
      intro hsi
      have h3 := old hs' (Ne.symm hne) hs1 i hsi
      rw [updO_self] at hti
      have := ho i hti
      omega
    · by_cases e2 : s = k
      · subst e2
        intro hsi
        have h3 := old ht e1 ht1 i hti
        rw [updO_self] at hsi
        have := ho i hsi
        omega
      · rw [updO_ne e1] at hti
        rw [updO_ne e2]
        exact h.apart t s i (by omega) (by omega) hne ht1 hs1 hti
def CopyM (M : Mdl) (w : World) (e : Ending) (w' : World) : Prop :=
  ∃ g O, e = .returned (.pointer (some ⟨g, 0, none⟩)) ∧ ModelAt w' g M O ∧ (∀ i, mown g M O i → w.heap.size ≤ i) ∧ Below w.heap.size w w'
theorem CpI.done {w wr : World} {g : Nat} {M : Mdl} {T O : Ows} (h : CpI w wr g 17 M T O) (hok : ∀ t, (M t).ok) : CopyM M w (.returned (.pointer (some ⟨g, 0, none⟩))) wr := by
  have e : mcells M (mixO 17 O T) = mcells M O := by
    unfold mcells
    congr 1
  refine ⟨g, O, rfl, ⟨by rw [← e]; exact h.blk, hok, fun t B ht hB => (h.bk t B ht hB).1, h.apart⟩, fun i hi => ?_, h.bel⟩
  rcases hi with rfl | ⟨t, ht, hs, hi⟩
  · exact h.ge
  · obtain ⟨B, hB⟩ := Option.isSome_iff_exists.1 hs
    have h1 := ((h.bk t B ht hB).2 i hi).1
    have h2 := h.ge
    omega
set_option maxHeartbeats 6400000 in
set_option maxRecDepth 100000 in
theorem Copy_m {w : World} {p : Nat} {M : Mdl} {T : Ows} (hm : ModelAt w p M T) (hsm : Small M) : Calls Tryz.prog 15 #[.pointer (some ⟨p, 0, none⟩)] w (CopyM M w) := by
  have HN := Lib.hid (none_m hm)
  have HM := Lib.hid hm
  have HS := Lib.hid hsm
  have hok := hm.ok
  have HOK := Lib.hid hok
  have hrng : w.rangeAt p 0 (mcells M T) := range_blk hm.blk
  have HR := Lib.hid hrng
  clear hm hsm hok hrng
  go_enter Tryz.func15, Tryz.ntmps15
  refine wp_seq_k fun K0 hK => ?_
  have HK0 := Lib.hid hK
  clear hK
  go_wp2_with fail
  refine HK0.out _ _ ?_
  clear HK0
  refine wp_seq_k fun K0 hK => ?_
  have HK0 := Lib.hid hK
  clear hK
  go_wp2_with fail
  refine HN.out.mono ?_
  rintro e w1 ⟨rfl, rfl⟩
  go_wp2_with fail
  refine HK0.out _ _ ?_
  clear HK0
  refine wp_seq_k fun K0 hK => ?_
  have HK0 := Lib.hid hK
  clear hK
  go_wp2_with (first
    | (refine wpList_load_mid rfl 78 (.tmp 9) rfl p 0 rfl _ _ HR.out Tryz.underlying78 rfl (by rw [mcells_len HOK.out]; exact infoMdl) ?_)
    | (refine wpList_store_mid rfl 78 (.tmp 3) (.tmp 10) rfl w1.heap.size 0 (mcells M T).toArray rfl rfl (there_blk (Blk.new w1 78 _) (by rw [List.size_toArray, mcells_len HOK.out]; exact Nat.le_refl 256)) (by rw [List.size_toArray, mcells_len HOK.out]; exact infoMdl) (mcells_one HOK.out) ?_))
  refine HK0.out _ _ ?_
  clear HK0
  have hst := stored_new (w := w1) (t := 78) (lit := Tryz.zeroCells78) (cells := (mcells M T).toArray) (by rw [show (mcells M T).toArray.size = 256 by simp [mcells_len HOK.out]]; kernel_rfl)
  have HST := Lib.hid hst
  clear hst
  try simp only [Act.put]
  dsimp only at HST ⊢
  generalize (w1.alloc (.cells Tryz.zeroCells78 78)).setCells w1.heap.size 0 (mcells M T) = W2 at HST ⊢
  have hrow : W2.rangeAt w1.heap.size 1 (mrow M T) := fun j v hj => by
    rw [HST.out.1.cell, List.getElem?_toArray, show 1 + j = j + 1 by omega]
    unfold mcells
    rw [List.getElem?_cons_succ]
    exact hj
  have h0 : CpI w1 W2 w1.heap.size 0 M T T := by
    refine ⟨?_, fun t B ht => by omega, fun t s i ht => by omega, HST.out.2, Nat.le_refl _⟩
    have e : mixO 0 T T = T := by funext t; unfold mixO; split <;> rfl
    rw [e]
    exact HST.out.1
  have HRW := Lib.hid hrow
  have H0 := Lib.hid h0
  clear hrow h0
  refine wp_seq_k fun K0 hK => ?_
  have HK0 := Lib.hid hK
  clear hK
  refine wp_seq_k fun K1 hK => ?_
  have HK1 := Lib.hid hK
  clear hK
  go_wp2_with (refine wpList_load_mid rfl 76 (.tmp 11) rfl w1.heap.size 1 rfl _ _ HRW.out Tryz.underlying76 rfl (by rw [mrow_len HOK.out]; exact infoAll) ?_)
  refine HK1.out _ _ ?_
  clear HK1
  go_wp2_with fail
  have hokk := HOK.out
  have HG := Lib.hid H0.out.blk.lt
  generalize w1.heap.size = g at *
  go_loopw [13] (fun i wr => ∃ (k : Nat) (O : Ows), k ≤ 17 ∧ i = .int .i64 (k : Nat) ∧ Hid (CpI w1 wr g k M T O)) (fun i _ => 17 - (intOf i).toNat)
  case atStart => exact ⟨0, T, by omega, rfl, H0⟩
  case round =>
    obtain ⟨k, O, hk, rfl, hw⟩ := hrel
    by_cases hlt : k < 17
    · have i1 : (0 : Int) ≤ (k : Int) := by omega
      have i2 : (k : Int) < 17 := by omega
      refine wp_seq_k fun K2 hK => ?_
      have HK2 := Lib.hid hK
      clear hK
      go_wp2_with fail
      refine HK2.out _ _ ?_
      clear HK2
      refine wp_seq_k fun K2 hK => ?_
      have HK2 := Lib.hid hK
      clear hK
      go_wp2_with fail
      refine HK2.out _ _ ?_
      clear HK2
      refine wp_seq_k fun K2 hK => ?_
      have HK2 := Lib.hid hK
      clear hK
      refine wp_block ?_
      refine wp_seq_k fun K3 hK => ?_
      have HK3 := Lib.hid hK
      clear hK
      go_wp2_with (first
        | (refine wpList_index_agg rfl 76 (.tmp 12) (.tmp 13) rfl 75 17 (mrow M T).toArray k 15 rfl rfl Tryz.underlying76 hlt Tryz.isAgg75 Tryz.sizeOf75 ?_; rw [mrow_at hokk hlt])
        | (refine wpList_store_mid rfl 75 (.tmp 5) (.tmp 16) rfl wr.heap.size 0 ((M k).cells (T k)).toArray rfl rfl (there_blk (Blk.new wr 75 _) (by rw [List.size_toArray, Ten.cells_len (hokk k)]; exact Nat.le_refl 15)) (by rw [List.size_toArray, Ten.cells_len (hokk k)]; exact infoTen) (by rw [List.all_toArray, List.all_eq_true]; exact Ten.cells_one (hokk k)) ?_))
      have hst := stored_new (w := wr) (t := 75) (lit := #[.int .u32 0, .int .u64 0, .int .u64 0, .pointer none, .int .u64 0, .int .u64 0, .int .u64 0, .int .u64 0, .int .u64 0, .int .u64 0, .int .u64 0, .int .u64 0, .int .u64 0, .int .u64 0, .complex .f64 0 0]) (cells := ((M k).cells (T k)).toArray) (by rw [show ((M k).cells (T k)).toArray.size = 15 by simp [Ten.cells_len (hokk k)]]; rfl)
      have c5 := hst.1.cell 3
      rw [List.getElem?_toArray, show ((M k).cells (T k))[3]? = some ((M k).ptr (T k)) from rfl] at c5
      have hw2 := hw.out.below hst.2
      have hbe := hst.1
      have HBW := Lib.hid hst.2
      clear hst
      dsimp only at hbe hw2 c5 HBW ⊢
      refine HK3.out _ _ ?_
      clear HK3
      try simp only [Act.put]
      generalize (wr.alloc (.cells #[.int .u32 0, .int .u64 0, .int .u64 0, .pointer none, .int .u64 0, .int .u64 0, .int .u64 0, .int .u64 0, .int .u64 0, .int .u64 0, .int .u64 0, .int .u64 0, .int .u64 0, .int .u64 0, .complex .f64 0 0] 75)).setCells wr.heap.size 0 ((M k).cells (T k)) = W2 at hw2 hbe c5 HBW ⊢
      have HW2 := Lib.hid hw2
      unfold Ten.ptr at c5
      have hgl := hw2.blk.lt
      have hq3 : (mcells M (mixO k O T)).toArray[1 + k * 15 + 3]? = some ((M k).ptr (mixO k O T k)) := by rw [List.getElem?_toArray, mcell hokk hlt (by omega)]; rfl
      have cg := hw2.blk.cell (1 + k * 15 + 3)
      rw [hq3] at cg
      have cf := hw2.blk.frozen (1 + k * 15 + 3)
      unfold Ten.ptr at cg
      clear hw2 hbe hq3
      cases hB : (M k).bk with
      | none =>
        rw [hB] at c5
        simp only [Option.map_none] at c5
        clear cg cf
        go_wp2_with fail
        refine HK2.out _ _ ?_
        clear HK2
        go_wp2_with fail
        go_roundw
        case rel => exact ⟨k + 1, O, by omega, by go_num, Lib.hid (HW2.out.skip hB)⟩
        case measure => simp [intOf]; omega
      | some B =>
        rw [hB] at c5 cg
        simp only [Option.map_some] at c5 cg
        have hHB := Lib.hid hB
        have HC := Lib.hid (copy_b ((HM.out.bk k B hlt hB).below HW2.out.bel) (HS.out k B hB))
        clear hB
        go_wp2_with fail
        refine HC.out.mono ?_
        rintro e w5 ⟨o, rfl, hbk5, ho5, hb5⟩
        have cg5 := (hb5.cell (p := ⟨g, 1 + k * 15 + 3, none⟩) hgl).trans cg
        have cf5 : w5.frozen? ⟨g, 1 + k * 15 + 3, none⟩ = false := (HW2.out.below hb5).blk.frozen _
        have HT := Lib.hid (HW2.out.take hlt HOK.out hHB.out hb5 hbk5 ho5)
        have hgl5 := Nat.lt_of_lt_of_le hgl hb5.size
        clear hbk5 ho5 hb5 cg cf c5
        go_wp2_with fail
        refine HK2.out _ _ ?_
        clear HK2
        go_wp2_with fail
        go_roundw
        case rel => exact ⟨k + 1, _, by omega, by go_num, HT⟩
        case measure => simp [intOf]; omega
    · obtain rfl : k = 17 := by omega
      go_wp2_with fail
      refine HK0.out _ _ ?_
      go_wp2_with fail
      go_ret
      exact hw.out.done HOK.out
end Go.Proofs.YtkgflepgkhnclaaGreatDoor
namespace Go.Proofs.YtkgflepgkhnclaaGreatDoor
open Go.RowKit Go.Shelf
set_option linter.unusedVariables false
set_option linter.unusedSimpArgs false
attribute [local go_sem] run_store_complex

theorem infoDn : (Tryz.prog.info? 90).map (·.size) = some 21 := by kernel_rfl
/-- A slice of Dones that lies in memory. -/
def DsAt (w : World) (D : Option Addr) (ds : List Dn) : Prop := 0 < ds.length → ∃ g o, D = some ⟨g, o, none⟩ ∧ g < w.heap.size ∧ w.rangeAt g o (ds.flatMap Dn.row)
theorem DsAt.at_ {w : World} {D : Option Addr} {ds : List Dn} (h : DsAt w D ds) {k : Nat} (hk : k < ds.length) : ∃ g o, D = some ⟨g, o, none⟩ ∧ g < w.heap.size ∧ w.rangeAt g (o + k * 21) ds[k].row := by
  obtain ⟨g, o, h1, h2, h3⟩ := h (by omega)
  refine ⟨g, o, h1, h2, fun j v hv => ?_⟩
  have hj : j < 21 := by
    have := (List.getElem?_eq_some_iff.1 hv).1
    rwa [Dn.row_len] at this
  rw [show o + k * 21 + j = o + (k * 21 + j) by omega]
  exact h3 _ _ (by rw [flat_at Dn.row_len ds k j hk hj]; exact hv)
theorem DsAt.below {w w' : World} {D : Option Addr} {ds : List Dn} (h : DsAt w D ds) (hb : Below w.heap.size w w') : DsAt w' D ds := fun h0 => by
  obtain ⟨g, o, h1, h2, h3⟩ := h h0
  exact ⟨g, o, h1, Nat.lt_of_lt_of_le h2 hb.size, fun j v hv => (hb.cell (p := ⟨g, o + j, none⟩) h2).trans (h3 j v hv)⟩
/-- What holds in Check's first loop. -/
def C1 (w : World) (gm : Nat) (f : Int → Option Int) (W : World) : Prop := MapI W gm f ∧ w.heap.size ≤ gm ∧ Below w.heap.size w W
set_option maxHeartbeats 3200000 in
set_option maxRecDepth 100000 in
theorem chk_first {w W : World} {D : Option Addr} {ds : List Dn} {c2 gm : Nat} {u0 u2 u3 u4 u5 u7 u8 u9 u10 u11 u12 u13 u14 u15 u16 u17 u18 u19 u20 u21 u22 u23 u24 u25 u26 u27 u28 u29 u30 u31 u32 u33 u34 u35 u36 u37 u38 u39 u40 u41 u42 u43 u44 u45 u46 u47 u48 u49 u50 u51 u52 u53 u54 u55 u56 u57 u58 u59 u60 u61 u62 u63 u64 u65 u66 u67 u68 u69 u70 u71 u72 u73 u74 u75 u76 u77 u78 u79 u80 u81 u82 u83 u84 u85 u86 u87 u88 u89 u90 u91 u92 u93 u94 u95 u96 u97 u98 u99 u100 u101 u102 u103 u104 u105 u106 u107 u108 u109 u110 u111 u112 u113 u114 u115 u116 u117 u118 u119 u120 u121 u122 u123 u124 u125 u126 u127 u128 u129 u130 u131 u132 u133 u134 u135 u136 u137 u138 u139 : Value} {Q : Exit → Act → World → Prop} (hD : DsAt w D ds) (hl : ds.length ≤ 9223372036854775806) (h1 : C1 w gm (fun _ => none) W)
    (hQ : ∀ (s8 s9 s10 s19 s20 s21 s22 s23 s24 s25 s26 s27 s28 s29 s30 s31 s32 s33 s34 s35 s36 s37 s38 s39 : Value) (W' : World), C1 w gm (toF ds) W' → Q .normal ⟨#[u0, .slice D ds.length c2, u2, u3, u4, u5, .map (some gm), u7, s8, s9, s10, u11, u12, u13, u14, u15, u16, u17, u18, s19, s20, s21, s22, s23, s24, s25, s26, s27, s28, s29, s30, s31, s32, s33, s34, s35, s36, s37, s38, s39, u40, u41, u42, u43, u44, u45, u46, u47, u48, u49, u50, u51, u52, u53, u54, u55, u56, u57, u58, u59, u60, u61, u62, u63, u64, u65, u66, u67, u68, u69, u70, u71, u72, u73, u74, u75, u76, u77, u78, u79, u80, u81, u82, u83, u84, u85, u86, u87, u88, u89, u90, u91, u92, u93, u94, u95, u96, u97, u98, u99, u100, u101, u102, u103, u104, u105, u106, u107, u108, u109, u110, u111, u112, u113, u114, u115, u116, u117, u118, u119, u120, u121, u122, u123, u124, u125, u126, u127, u128, u129, u130, u131, u132, u133, u134, u135, u136, u137, u138, u139], []⟩ W') :
    Code.wp Tryz.prog (part Tryz.f52 [1, 1, 0]) Q ⟨#[u0, .slice D ds.length c2, u2, u3, u4, u5, .map (some gm), u7, u8, u9, u10, u11, u12, u13, u14, u15, u16, u17, u18, u19, u20, u21, u22, u23, u24, u25, u26, u27, u28, u29, u30, u31, u32, u33, u34, u35, u36, u37, u38, u39, u40, u41, u42, u43, u44, u45, u46, u47, u48, u49, u50, u51, u52, u53, u54, u55, u56, u57, u58, u59, u60, u61, u62, u63, u64, u65, u66, u67, u68, u69, u70, u71, u72, u73, u74, u75, u76, u77, u78, u79, u80, u81, u82, u83, u84, u85, u86, u87, u88, u89, u90, u91, u92, u93, u94, u95, u96, u97, u98, u99, u100, u101, u102, u103, u104, u105, u106, u107, u108, u109, u110, u111, u112, u113, u114, u115, u116, u117, u118, u119, u120, u121, u122, u123, u124, u125, u126, u127, u128, u129, u130, u131, u132, u133, u134, u135, u136, u137, u138, u139], []⟩ W := by
  conv => arg 2; whnf
  have HQ := Lib.hid hQ
  have HD := Lib.hid hD
  have H1 := Lib.hid h1
  have hli : (ds.length : Int) ≤ 9223372036854775806 := by omega
  clear hQ hD h1
  go_wp2
  go_loopw [21] (fun i wr => ∃ k : Nat, k ≤ ds.length ∧ i = .int .i64 k ∧ Hid (C1 w gm (toF (ds.take k)) wr)) (fun i _ => ds.length - (intOf i).toNat)
  case atStart => exact ⟨0, Nat.zero_le _, rfl, H1⟩
  case round =>
    obtain ⟨k, hk, rfl, HW⟩ := hrel
    by_cases hlt : k < ds.length
    · obtain ⟨g, o, rfl, hgl, hrng⟩ := (HD.out.below HW.out.2.2).at_ hlt
      have htk : toF (ds.take (k + 1)) = _ := (congrArg toF (List.take_succ_eq_append_getElem hlt)).trans (toF_snoc (ds.take k) ds[k])
      generalize ds[k] = x at hrng htk
      have hrow1 : x.row.toArray.all (·.oneCell') = true := all_oneCell_toArray (dn_one x)
      have hst := stored_new (w := wr) (t := 90) (lit := #[.int .i64 0, .int .i64 0, .int .i64 0, .int .i64 0, .int .i64 0, .string ⟨#[]⟩, .slice none 0 0, .int .i64 0, .int .u32 0, .int .u8 0, .int .u64 0, .int .u64 0, .int .u64 0, .int .u64 0, .int .u64 0, .int .u64 0, .int .u64 0, .int .u64 0, .int .u64 0, .int .u64 0, .complex .f64 0 0]) (cells := x.row.toArray) rfl
      obtain ⟨l, hlr⟩ : ∃ l, x.row = l := ⟨_, rfl⟩
      have hll : l.length = 21 := by rw [← hlr]; rfl
      have hsz : l.toArray.size = 21 := by rw [List.size_toArray]; exact hll
      rw [hlr] at hrng hrow1 hst
      have HL := Lib.hid hlr
      have HT := Lib.hid htk
      have i1 : (0 : Int) ≤ (k : Int) := by omega
      have i2 : (k : Int) < (ds.length : Int) := by omega
      have hX0 := And.intro hst.1 (show C1 w gm (toF (ds.take k)) _ from ⟨HW.out.1.below hst.2, HW.out.2.1, below_trans HW.out.2.2 hst.2⟩)
      rw [show l.toArray.toList = l from rfl] at hX0
      have HX1 := Lib.hid hX0
      clear htk hgl hst hlr hX0
      go_upto_region 5 with (first
        | (refine wpList_load_mid rfl 90 (.tmp 23) rfl g (o + k * 21) rfl _ _ hrng Tryz.underlying90 rfl (by rw [hll]; exact infoDn) ?_)
        | (refine wpList_store_mid rfl 90 (.tmp 8) (.tmp 24) rfl wr.heap.size 0 l.toArray rfl rfl (by rw [hsz]; exact there_blk (Blk.new wr 90 #[.int .i64 0, .int .i64 0, .int .i64 0, .int .i64 0, .int .i64 0, .string ⟨#[]⟩, .slice none 0 0, .int .i64 0, .int .u32 0, .int .u8 0, .int .u64 0, .int .u64 0, .int .u64 0, .int .u64 0, .int .u64 0, .int .u64 0, .int .u64 0, .int .u64 0, .int .u64 0, .int .u64 0, .complex .f64 0 0]) (Nat.le_refl 21)) (by rw [hsz]; exact infoDn) hrow1 ?_))
      clear hrng
      generalize (wr.alloc (.cells #[.int .i64 0, .int .i64 0, .int .i64 0, .int .i64 0, .int .i64 0, .string ⟨#[]⟩, .slice none 0 0, .int .i64 0, .int .u32 0, .int .u8 0, .int .u64 0, .int .u64 0, .int .u64 0, .int .u64 0, .int .u64 0, .int .u64 0, .int .u64 0, .int .u64 0, .int .u64 0, .int .u64 0, .complex .f64 0 0] 90)).setCells wr.heap.size 0 l = W0 at HX1 ⊢
      have HX : Hid (Blk W0 wr.heap.size 90 x.row.toArray ∧ C1 w gm (toF (ds.take k)) W0) := Lib.hid (by rw [HL.out]; exact HX1.out)
      clear HX1
      obtain ⟨c0, c1, c2', c3⟩ := dn_cells HX.out.1
      have hlk := HX.out.2.1.get x.e
      have hgl := HX.out.2.1.lt
      obtain ⟨f, hf⟩ : ∃ f, toF (ds.take k) = f := ⟨_, rfl⟩
      rw [hf] at hlk
      have HF := Lib.hid hf
      clear hf
      cases hq : f x.e with
      | some v =>
        rw [hq] at hlk
        simp only [Option.isSome_some] at hlk
        have HQ2 := Lib.hid hq
        clear hq
        go_wp2_with (refine wpList_lookup_run rfl _ _ 166 true rfl _ _ _ rfl rfl hlk ?_)
        go_roundw
        case rel =>
          refine ⟨k + 1, by omega, by go_num, Lib.hid ?_⟩
          rw [HT.out, HF.out, HQ2.out]
          have := HX.out.2
          rw [HF.out] at this
          exact this
        case measure => simp [intOf]; omega
      | none =>
        rw [hq] at hlk
        simp only [Option.isSome_none] at hlk
        have HQ2 := Lib.hid hq
        clear hq
        go_wp2_with (first
          | (refine wpList_lookup_run rfl _ _ 166 true rfl _ _ _ rfl rfl hlk ?_)
          | (refine wpList_updI rfl _ _ _ rfl HX.out.2.1 rfl _ _ rfl rfl ?_; intro W1 hm1 hg1))
        have hb1 : Below w.heap.size w W1 := ⟨hg1.os.trans HX.out.2.2.2.os, hg1.tape.trans HX.out.2.2.2.tape, hg1.output.trans HX.out.2.2.2.output, Nat.le_trans HX.out.2.2.2.size hg1.size, fun i hi => by
          rw [hg1.block i (Nat.lt_of_lt_of_le hi HX.out.2.2.2.size) (fun e => by have := HX.out.2.2.1; have := Option.some.inj e; omega), HX.out.2.2.2.block i hi]⟩
        go_roundw
        case rel =>
          refine ⟨k + 1, by omega, by go_num, Lib.hid ⟨?_, HX.out.2.2.1, hb1⟩⟩
          rw [HT.out, HF.out, HQ2.out]
          rw [HF.out] at hm1
          exact hm1
        case measure => simp [intOf]; omega
    · obtain rfl : k = ds.length := by omega
      rw [List.take_length] at HW
      go_wp2
      exact HQ.out _ _ _ _ _ _ _ _ _ _ _ _ _ _ _ _ _ _ _ _ _ _ _ _ _ HW.out
end Go.Proofs.YtkgflepgkhnclaaGreatDoor
namespace Go.Proofs.YtkgflepgkhnclaaGreatDoor
open Go.RowKit Go.Shelf
set_option linter.unusedVariables false
set_option linter.unusedSimpArgs false
attribute [local go_sem] run_store_complex

/-- What holds in Check's second loop. -/
structure C2 (w : World) (gm gs gp : Nat) (tf : Int → Option Int) (sn pk : Int → Bool) (W : World) : Prop where
  mi : MapI W gm tf
  ms : MapB W gs sn
  mp : MapB W gp pk
  sp : gs ≠ gp
  ne : gm ≠ gs ∧ gm ≠ gp
  ge : w.heap.size ≤ gs ∧ w.heap.size ≤ gp
  bel : Below w.heap.size w W
section
variable {w W W' : World} {gm gs gp : Nat} {tf : Int → Option Int} {sn pk sn' pk' : Int → Bool}
theorem C2.below (h : C2 w gm gs gp tf sn pk W) (hb : Below W.heap.size W W') : C2 w gm gs gp tf sn pk W' := ⟨h.mi.below hb, h.ms.below hb, h.mp.below hb, h.sp, h.ne, h.ge, below_trans h.bel hb⟩
theorem C2.keep (h : C2 w gm gs gp tf sn pk W) (hs : MapB W' gs sn') (hp : MapB W' gp pk') (hk : KeepC (fun i => i = gs ∨ i = gp) W W') : C2 w gm gs gp tf sn' pk' W' :=
  ⟨h.mi.on (hk.block gm h.mi.lt (.inl (fun e => e.elim h.ne.1 h.ne.2))), hs, hp, h.sp, h.ne, h.ge, ⟨hk.os.trans h.bel.os, hk.tape.trans h.bel.tape, hk.output.trans h.bel.output, Nat.le_trans h.bel.size hk.size, fun i hi => by
    rw [hk.block i (Nat.lt_of_lt_of_le hi h.bel.size) (.inl (fun e => by have := h.ge; rcases e with e | e <;> omega)), h.bel.block i hi]⟩⟩
end
set_option maxHeartbeats 6400000 in
set_option maxRecDepth 100000 in
theorem chk_tail {w W : World} {A : Option Addr} {es : List Ent} {c gm gs gp gx k j : Nat} {tf : Int → Option Int} {sn pk : Int → Bool} {x : Dn} {u1 u2 u3 u4 u5 u7 u8 u9 u10 u15 u16 u17 u18 u19 u20 u21 u22 u23 u24 u25 u26 u27 u28 u29 u30 u31 u32 u33 u34 u35 u36 u37 u38 u39 u40 u41 u42 u43 u44 u45 u46 u47 u48 u49 u50 u51 u52 u53 u54 u55 u56 u57 u58 u59 u60 u61 u62 u63 u64 u65 u66 u67 u68 u69 u70 u71 u72 u73 u74 u75 u76 u77 u78 u79 u80 u81 u82 u83 u84 u85 u86 u87 u88 u89 u90 u91 u92 u93 u94 u95 u96 u97 u98 u99 u100 u101 u102 u103 u104 u105 u106 u107 u108 u109 u110 u111 u112 u113 u114 u115 u116 u117 u118 u119 u120 u121 u122 u123 u124 u125 u126 u127 u128 u129 u130 u131 u132 u133 u134 u135 u136 u137 u138 u139 : Value} {Q : Exit → Act → World → Prop} (hC : C2 w gm gs gp tf sn pk W) (hb : Blk W gx 90 x.row.toArray)
    (hA : Reads w w.heap.size 13 A es.length (es.flatMap Ent.row)) (hj : x.e = j) (hjl : j < es.length) (hl : es.length ≤ 9223372036854775807)
    (hR : lateD tf (befN es es[j].ses j) x.f = true → ∀ (s15 s16 s17 s104 s105 s106 s107 s108 s109 s110 s111 s112 s113 s114 s115 s116 s117 s118 s119 s120 s121 s122 s123 s124 s125 s126 s127 s128 s129 s130 s131 s132 s133 s134 s135 s136 : Value) (W' : World), Below w.heap.size w W' → Q .ret ⟨#[.slice A es.length c, u1, u2, u3, .int .i64 (k : Nat), .int .i64 15, .map (some gm), u7, u8, u9, u10, .map (some gs), .map (some gp), .int .i64 (k : Nat), .pointer (some ⟨gx, 0, none⟩), s15, s16, s17, u18, u19, u20, u21, u22, u23, u24, u25, u26, u27, u28, u29, u30, u31, u32, u33, u34, u35, u36, u37, u38, u39, u40, u41, u42, u43, u44, u45, u46, u47, u48, u49, u50, u51, u52, u53, u54, u55, u56, u57, u58, u59, u60, u61, u62, u63, u64, u65, u66, u67, u68, u69, u70, u71, u72, u73, u74, u75, u76, u77, u78, u79, u80, u81, u82, u83, u84, u85, u86, u87, u88, u89, u90, u91, u92, u93, u94, u95, u96, u97, u98, u99, u100, u101, u102, u103, s104, s105, s106, s107, s108, s109, s110, s111, s112, s113, s114, s115, s116, s117, s118, s119, s120, s121, s122, s123, s124, s125, s126, s127, s128, s129, s130, s131, s132, s133, s134, s135, s136, u137, u138, u139], []⟩ W')
    (hN : lateD tf (befN es es[j].ses j) x.f = false → ∀ (s15 s16 s17 s104 s105 s106 s107 s108 s109 s110 s111 s112 s113 s114 s115 s116 s117 s118 s119 s120 s121 s122 s123 s124 s125 s126 s127 s128 s129 s130 s131 s132 s133 s134 s135 : Value) (W' : World), C2 w gm gs gp tf (updB sn x.e) (updB (updB (updB pk x.f) x.a) x.t) W' → Q .normal ⟨#[.slice A es.length c, u1, u2, u3, u4, u5, .map (some gm), u7, u8, u9, u10, .map (some gs), .map (some gp), .int .i64 (k : Nat), .pointer (some ⟨gx, 0, none⟩), s15, s16, s17, u18, u19, u20, u21, u22, u23, u24, u25, u26, u27, u28, u29, u30, u31, u32, u33, u34, u35, u36, u37, u38, u39, u40, u41, u42, u43, u44, u45, u46, u47, u48, u49, u50, u51, u52, u53, u54, u55, u56, u57, u58, u59, u60, u61, u62, u63, u64, u65, u66, u67, u68, u69, u70, u71, u72, u73, u74, u75, u76, u77, u78, u79, u80, u81, u82, u83, u84, u85, u86, u87, u88, u89, u90, u91, u92, u93, u94, u95, u96, u97, u98, u99, u100, u101, u102, u103, s104, s105, s106, s107, s108, s109, s110, s111, s112, s113, s114, s115, s116, s117, s118, s119, s120, s121, s122, s123, s124, s125, s126, s127, s128, s129, s130, s131, s132, s133, s134, s135, u136, u137, u138, u139], []⟩ W') :
    Code.wp Tryz.prog (part Tryz.f52 [1, 1, 1, 1, 0, 1, 2, 2, 1, 1, 0, 2, 1, 1]) Q ⟨#[.slice A es.length c, u1, u2, u3, u4, u5, .map (some gm), u7, u8, u9, u10, .map (some gs), .map (some gp), .int .i64 (k : Nat), .pointer (some ⟨gx, 0, none⟩), u15, u16, u17, u18, u19, u20, u21, u22, u23, u24, u25, u26, u27, u28, u29, u30, u31, u32, u33, u34, u35, u36, u37, u38, u39, u40, u41, u42, u43, u44, u45, u46, u47, u48, u49, u50, u51, u52, u53, u54, u55, u56, u57, u58, u59, u60, u61, u62, u63, u64, u65, u66, u67, u68, u69, u70, u71, u72, u73, u74, u75, u76, u77, u78, u79, u80, u81, u82, u83, u84, u85, u86, u87, u88, u89, u90, u91, u92, u93, u94, u95, u96, u97, u98, u99, u100, u101, u102, u103, u104, u105, u106, u107, u108, u109, u110, u111, u112, u113, u114, u115, u116, u117, u118, u119, u120, u121, u122, u123, u124, u125, u126, u127, u128, u129, u130, u131, u132, u133, u134, u135, u136, u137, u138, u139], []⟩ W := by
  conv => arg 2; whnf
  have HR := Lib.hid hR
  have HN := Lib.hid hN
  have HA := Lib.hid hA
  have HC := Lib.hid hC
  have HB := Lib.hid hb
  clear hR hN hA hC hb
  refine wp_seq_k fun K0 hK => ?_
  have HK0 := Lib.hid hK
  clear hK
  refine chk_maps HC.out.ms HC.out.mp HC.out.sp HB.out (fun t104 t105 t106 t107 t108 t109 t110 t111 t112 t113 t114 t115 W1 h1 h2 hk => ?_)
  refine HK0.out _ _ ?_
  clear HK0 K0
  have hx1 : Blk W1 gx 90 x.row.toArray := KeepC.blk HB.out hk (fun e => e.elim (mapB_ne HC.out.ms HB.out) (mapB_ne HC.out.mp HB.out))
  have HC1 := Lib.hid (HC.out.keep h1 h2 hk)
  obtain ⟨c0, c1, c2, c3⟩ := dn_cells hx1
  have HX1 := Lib.hid hx1
  have hbf := before_any es A c j W1 ((HA.out.below HC1.out.bel).more HC1.out.bel.size) hjl hl
  rw [hj] at c0
  have HJ := Lib.hid hj
  clear h1 h2 hk hx1 hj
  generalize befN es es[j].ses j = kk at hbf HR HN
  have HBF := Lib.hid hbf
  clear hbf
  dsimp only
  go_wp2_with fail
  refine HBF.out.mono ?_
  rintro e W2 ⟨rfl, hb2⟩
  have HC2 := Lib.hid (HC1.out.below hb2)
  obtain ⟨d0, d1, d2, d3⟩ := dn_cells (HX1.out.below hb2 HX1.out.lt)
  have hlk := HC2.out.mi.get kk
  clear hb2 HBF c0 c1 c2 c3 HX1
  by_cases hk0 : 0 ≤ kk
  · have hk0' : kk ≥ 0 := hk0
    cases hq : tf kk with
    | none =>
      have HL : Hid (lateD tf kk x.f = true) := Lib.hid (by simp [lateD, hk0, hq])
      rw [hq] at hlk
      simp only [Option.isSome_none] at hlk
      clear hq
      go_wp2_with (refine wpList_lookup_run rfl _ _ 166 true rfl _ _ _ rfl rfl hlk ?_)
      exact HR.out HL.out _ _ _ _ _ _ _ _ _ _ _ _ _ _ _ _ _ _ _ _ _ _ _ _ _ _ _ _ _ _ _ _ _ _ _ _ _ HC2.out.bel
    | some v =>
      rw [hq] at hlk
      simp only [Option.isSome_some, Option.getD_some] at hlk
      by_cases hv : v ≥ x.f
      · have HL : Hid (lateD tf kk x.f = true) := Lib.hid (by simp [lateD, hk0, hq, hv])
        clear hq
        go_wp2_with (refine wpList_lookup_run rfl _ _ 166 true rfl _ _ _ rfl rfl hlk ?_)
        exact HR.out HL.out _ _ _ _ _ _ _ _ _ _ _ _ _ _ _ _ _ _ _ _ _ _ _ _ _ _ _ _ _ _ _ _ _ _ _ _ _ HC2.out.bel
      · have HL : Hid (lateD tf kk x.f = false) := Lib.hid (by simp [lateD, hk0, hq]; omega)
        clear hq
        go_wp2_with (refine wpList_lookup_run rfl _ _ 166 true rfl _ _ _ rfl rfl hlk ?_)
        exact HN.out HL.out _ _ _ _ _ _ _ _ _ _ _ _ _ _ _ _ _ _ _ _ _ _ _ _ _ _ _ _ _ _ _ _ _ _ _ _ HC2.out
  · have hk0' : ¬ (kk ≥ 0) := hk0
    have HL : Hid (lateD tf kk x.f = false) := Lib.hid (by simp [lateD, hk0])
    go_wp2_with fail
    exact HN.out HL.out _ _ _ _ _ _ _ _ _ _ _ _ _ _ _ _ _ _ _ _ _ _ _ _ _ _ _ _ _ _ _ _ _ _ _ _ HC2.out
end Go.Proofs.YtkgflepgkhnclaaGreatDoor
