/-
  Layer 23: WeaveTurns: the second loop, what is asked of a turn.
-/
import Derived.Test.YtagcbihjejjmnaaWvT2
namespace Go.Proofs.Ytagcbihjejjmnaa
open Go.RowKit
set_option linter.unusedVariables false
set_option linter.unusedSimpArgs false

set_option maxHeartbeats 6400000 in
set_option maxRecDepth 100000 in
theorem wt_c01 {W : World} {u1 u2 u3 u4 u5 u6 u7 u8 u9 u10 u13 u14 u16 u19 u20 u21 u22 u23 u24 u25 u26 u27 u28 u29 u30 u31 u32 u33 u34 u35 u36 u37 u38 u39 u40 u41 u42 u43 u44 u45 u46 u47 u48 u49 u50 u51 u52 u53 u54 u55 u56 u57 u58 u59 u60 u61 u62 u63 u64 u65 u66 u67 u68 u69 u70 u71 u72 u73 u74 u75 u76 u77 u78 u79 u80 u81 u82 u83 u84 u85 u86 u87 u88 u89 u90 u91 u92 u93 u94 u95 u96 u97 u98 u99 u100 u101 u102 u103 u104 u105 u106 u107 u108 u109 u110 u111 u112 u113 u114 u115 u116 u117 u118 u119 u120 u121 u122 u123 u124 u125 u126 u127 u128 u129 u130 u131 u132 u133 u134 u135 u136 u137 u138 u139 u140 u141 u142 u143 u144 u145 u146 u147 u148 u149 u150 u151 u152 u153 u154 u155 u156 u157 u158 u159 u160 u161 u162 u163 u164 u165 u166 u167 u168 u169 u170 u171 u172 u173 u174 u175 u176 u177 u178 u179 u180 u181 u182 u183 u184 u185 u186 u187 : Value} {Q : Exit → Act → World → Prop} {g11 g12 g15 gj m s h t c1 : Nat} {A1 : Option Addr} {xs : List Int} {la : Int} (hd : Blk W g15 37 #[.int .i64 (m : Nat), .int .i64 (s : Nat), .bool true, .bool true]) (e12 : W.cell? ⟨g12, s, none⟩ = some (.bool false)) (e11 : W.cell? ⟨g11, s, none⟩ = some (.int .i64 la)) (ec : Blk W gj 33 #[.int .i64 (t : Nat), .int .i64 ((h : Int) + 1)]) (hm : m < xs.length) (hx : Reads W W.heap.size 1 A1 xs.length (xs.map intZ)) (hs : s < 5) (hxs : (xs.getD m 0 % 5).toNat = s) (hb : h = 0 ∧ la < m) (he : h + 1 = t) (hh : h < 9223372036854775807) (hl : xs.length ≤ 400)
    (hQ : ∀ (s6 s94 s95 s96 s97 s98 s99 s100 s101 s102 s103 s104 s105 s106 s107 s108 s109 s110 s111 s112 s113 s114 s115 s116 s117 s118 s119 s120 s121 s122 s123 s124 s125 s126 s127 s128 s129 s130 s131 s132 s133 s134 s135 s136 s137 s138 s139 s140 s141 s142 s143 s144 s145 s146 s147 s148 s149 s150 s151 s152 s153 s154 s155 s156 s157 s158 s159 s160 s161 s162 s163 s164 s165 s166 s167 s168 s169 : Value) (n : Nat), Q (.normal) ⟨#[.slice A1 xs.length c1, u1, u2, u3, u4, u5, s6, u7, u8, u9, u10, .slice (some ⟨g11, 0, none⟩) 5 5, .slice (some ⟨g12, 0, none⟩) 5 5, u13, u14, .pointer (some ⟨g15, 0, none⟩), u16, .pointer (some ⟨gj, 0, none⟩), .bool true, u19, u20, u21, u22, u23, u24, u25, u26, u27, u28, u29, u30, u31, u32, u33, u34, u35, u36, u37, u38, u39, u40, u41, u42, u43, u44, u45, u46, u47, u48, u49, u50, u51, u52, u53, u54, u55, u56, u57, u58, u59, u60, u61, u62, u63, u64, u65, u66, u67, u68, u69, u70, u71, u72, u73, u74, u75, u76, u77, u78, u79, u80, u81, u82, u83, u84, u85, u86, u87, u88, u89, u90, u91, u92, u93, s94, s95, s96, s97, s98, s99, s100, s101, s102, s103, s104, s105, s106, s107, s108, s109, s110, s111, s112, s113, s114, s115, s116, s117, s118, s119, s120, s121, s122, s123, s124, s125, s126, s127, s128, s129, s130, s131, s132, s133, s134, s135, s136, s137, s138, s139, s140, s141, s142, s143, s144, s145, s146, s147, s148, s149, s150, s151, s152, s153, s154, s155, s156, s157, s158, s159, s160, s161, s162, s163, s164, s165, s166, s167, s168, s169, u170, u171, u172, u173, u174, u175, u176, u177, u178, u179, u180, u181, u182, u183, u184, u185, u186, u187], []⟩ (W.drewN n)) :
    Code.wp Try.prog (part Try.f3 [1, 1, 1, 1, 1, 1, 1, 1, 0, 1, 2, 2, 1, 0, 2, 1, 1, 1, 1, 1, 0]) Q ⟨#[.slice A1 xs.length c1, u1, u2, u3, u4, u5, u6, u7, u8, u9, u10, .slice (some ⟨g11, 0, none⟩) 5 5, .slice (some ⟨g12, 0, none⟩) 5 5, u13, u14, .pointer (some ⟨g15, 0, none⟩), u16, .pointer (some ⟨gj, 0, none⟩), .bool true, u19, u20, u21, u22, u23, u24, u25, u26, u27, u28, u29, u30, u31, u32, u33, u34, u35, u36, u37, u38, u39, u40, u41, u42, u43, u44, u45, u46, u47, u48, u49, u50, u51, u52, u53, u54, u55, u56, u57, u58, u59, u60, u61, u62, u63, u64, u65, u66, u67, u68, u69, u70, u71, u72, u73, u74, u75, u76, u77, u78, u79, u80, u81, u82, u83, u84, u85, u86, u87, u88, u89, u90, u91, u92, u93, u94, u95, u96, u97, u98, u99, u100, u101, u102, u103, u104, u105, u106, u107, u108, u109, u110, u111, u112, u113, u114, u115, u116, u117, u118, u119, u120, u121, u122, u123, u124, u125, u126, u127, u128, u129, u130, u131, u132, u133, u134, u135, u136, u137, u138, u139, u140, u141, u142, u143, u144, u145, u146, u147, u148, u149, u150, u151, u152, u153, u154, u155, u156, u157, u158, u159, u160, u161, u162, u163, u164, u165, u166, u167, u168, u169, u170, u171, u172, u173, u174, u175, u176, u177, u178, u179, u180, u181, u182, u183, u184, u185, u186, u187], []⟩ W := by
  conv => arg 2; whnf
  have HQ := Lib.hid hQ
  clear hQ
  obtain ⟨ad, rfl, hab, hc⟩ := int_at hx rfl hm
  have d0 : W.cell? ⟨g15, 0, none⟩ = some (.int .i64 (m : Nat)) := hd.cell 0
  have d1 : W.cell? ⟨g15, 1, none⟩ = some (.int .i64 (s : Nat)) := hd.cell 1
  have d2 : W.cell? ⟨g15, 2, none⟩ = some (.bool true) := hd.cell 2
  have d3 : W.cell? ⟨g15, 3, none⟩ = some (.bool true) := hd.cell 3
  have k0 : W.cell? ⟨gj, 0, none⟩ = some (.int .i64 (t : Nat)) := ec.cell 0
  have k1 : W.cell? ⟨gj, 1, none⟩ = some (.int .i64 ((h : Int) + 1)) := ec.cell 1
  have i1 : (0 : Int) ≤ (m : Int) := by omega
  have i2 : (m : Int) < (xs.length : Int) := by omega
  have i3 : (0 : Int) ≤ (s : Int) := by omega
  have i4 : (s : Int) < 5 := by omega
  have hp : ∀ w : World, Calls Try.prog 8 #[.int .i64 (xs.getD m 0), .int .i64 5] w (fun e w' => e = .returned (.int .i64 (s : Nat)) ∧ w' = w) := fun w => (kit_five _ w).mono fun e w' h => ⟨by rw [← hxs]; exact h.1, h.2.symm⟩
  have HP := Lib.hid hp
  have n1 : ((s : Int) != (s : Int)) = false := by simp
  obtain ⟨rfl, b2⟩ := hb
  have n2 : ¬ (m : Int) ≤ la := by omega
  have n2b : decide ((m : Int) ≤ la) = false := decide_eq_false n2
  rw [show (((0 : Nat) : Int) + 1) = 1 from rfl] at k1
  have n4 : ((1 : Int) == (t : Int)) = true := by rw [beq_iff_eq]; omega
  generalize xs.getD m 0 = xm at hc HP
  clear hd ec hx hp hxs he
  refine wp_seq_k fun K0 hK => ?_
  have HK0 := Lib.hid hK
  clear hK
  simp only [List.append]
  go_quiet ((go_at_call 8; exact Calls.quiet_of_same (HP.out _)))
  refine HK0.out _ _ ?_
  clear HK0
  go_wp2_with fail
  exact HQ.out _ _ _ _ _ _ _ _ _ _ _ _ _ _ _ _ _ _ _ _ _ _ _ _ _ _ _ _ _ _ _ _ _ _ _ _ _ _ _ _ _ _ _ _ _ _ _ _ _ _ _ _ _ _ _ _ _ _ _ _ _ _ _ _ _ _ _ _ _ _ _ _ _ _ _ _ _ _
end Go.Proofs.Ytagcbihjejjmnaa
