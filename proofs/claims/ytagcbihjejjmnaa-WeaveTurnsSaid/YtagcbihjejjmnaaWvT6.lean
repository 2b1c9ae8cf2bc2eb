/-
  Layer 23: WeaveTurns: the walk.
-/
import Derived.Test.YtagcbihjejjmnaaWvT5
namespace Go.Proofs.Ytagcbihjejjmnaa
open Go.RowKit
set_option linter.unusedVariables false
set_option linter.unusedSimpArgs false

set_option maxHeartbeats 6400000 in
set_option maxRecDepth 100000 in
theorem wt_round {W : World} {u1 u3 u4 u5 u6 u8 u9 u10 u14 u15 u16 u17 u18 u19 u20 u21 u22 u23 u24 u25 u26 u27 u28 u29 u30 u31 u32 u33 u34 u35 u36 u37 u38 u39 u40 u41 u42 u43 u44 u45 u46 u47 u48 u49 u50 u51 u52 u53 u54 u55 u56 u57 u58 u59 u60 u61 u62 u63 u64 u65 u66 u67 u68 u69 u70 u71 u72 u73 u74 u75 u76 u77 u78 u79 u80 u81 u82 u83 u84 u85 u86 u87 u88 u89 u90 u91 u92 u93 u94 u95 u96 u97 u98 u99 u100 u101 u102 u103 u104 u105 u106 u107 u108 u109 u110 u111 u112 u113 u114 u115 u116 u117 u118 u119 u120 u121 u122 u123 u124 u125 u126 u127 u128 u129 u130 u131 u132 u133 u134 u135 u136 u137 u138 u139 u140 u141 u142 u143 u144 u145 u146 u147 u148 u149 u150 u151 u152 u153 u154 u155 u156 u157 u158 u159 u160 u161 u162 u163 u164 u165 u166 u167 u168 u169 u170 u171 u172 u173 u174 u175 u176 u177 u178 u179 u180 u181 u182 u183 u184 u185 u186 u187 : Value} {Q : Exit → Act → World → Prop} {W0 : World} {p gl g11 g12 i c1 c3 : Nat} {A1 A3 : Option Addr} {xs ps : List Int} {vj : Value} {b : Nat → Nat} (hW : WtI W0 p gl g11 g12 xs vj b i W) (hx : Reads W0 W0.heap.size 1 A1 xs.length (xs.map intZ)) (hps : Reads W0 W0.heap.size 1 A3 ps.length (ps.map intZ)) (hi : i < ps.length) (hpl : ps.length ≤ 400) (hxl : xs.length ≤ 400)
    (hN : ∀ (s6 s14 s15 s16 s17 s18 s69 s70 s71 s72 s73 s74 s75 s76 s77 s78 s79 s80 s81 s82 s83 s84 s85 s86 s87 s88 s89 s90 s91 s92 s93 s94 s95 s96 s97 s98 s99 s100 s101 s102 s103 s104 s105 s106 s107 s108 s109 s110 s111 s112 s113 s114 s115 s116 s117 s118 s119 s120 s121 s122 s123 s124 s125 s126 s127 s128 s129 s130 s131 s132 s133 s134 s135 s136 s137 s138 s139 s140 s141 s142 s143 s144 s145 s146 s147 s148 s149 s150 s151 s152 s153 s154 s155 s156 s157 s158 s159 s160 s161 s162 s163 s164 s165 s166 s167 s168 s169 s170 s171 s172 s173 s174 s175 s176 s177 s178 s179 s180 s181 s182 : Value) (W' : World), WtI W0 p gl g11 g12 xs vj b (i + 1) W' → Q (.normal) ⟨#[.slice A1 xs.length c1, u1, .slice A3 ps.length c3, u3, u4, u5, s6, .pointer (some ⟨p, 0, none⟩), u8, u9, u10, .slice (some ⟨g11, 0, none⟩) 5 5, .slice (some ⟨g12, 0, none⟩) 5 5, .int .i64 (i : Nat), s14, s15, s16, s17, s18, u19, u20, u21, u22, u23, u24, u25, u26, u27, u28, u29, u30, u31, u32, u33, u34, u35, u36, u37, u38, u39, u40, u41, u42, u43, u44, u45, u46, u47, u48, u49, u50, u51, u52, u53, u54, u55, u56, u57, u58, u59, u60, u61, u62, u63, u64, u65, u66, u67, u68, s69, s70, s71, s72, s73, s74, s75, s76, s77, s78, s79, s80, s81, s82, s83, s84, s85, s86, s87, s88, s89, s90, s91, s92, s93, s94, s95, s96, s97, s98, s99, s100, s101, s102, s103, s104, s105, s106, s107, s108, s109, s110, s111, s112, s113, s114, s115, s116, s117, s118, s119, s120, s121, s122, s123, s124, s125, s126, s127, s128, s129, s130, s131, s132, s133, s134, s135, s136, s137, s138, s139, s140, s141, s142, s143, s144, s145, s146, s147, s148, s149, s150, s151, s152, s153, s154, s155, s156, s157, s158, s159, s160, s161, s162, s163, s164, s165, s166, s167, s168, s169, s170, s171, s172, s173, s174, s175, s176, s177, s178, s179, s180, s181, s182, u183, u184, u185, u186, u187], []⟩ W')
    (hX : ∀ (s6 s14 s15 s16 s17 s18 s69 s70 s71 s72 s73 s74 s75 s76 s77 s78 s79 s80 s81 s82 s83 s84 s85 s86 s87 s88 s89 s90 s91 s92 s93 s94 s95 s96 s97 s98 s99 s100 s101 s102 s103 s104 s105 s106 s107 s108 s109 s110 s111 s112 s113 s114 s115 s116 s117 s118 s119 s120 s121 s122 s123 s124 s125 s126 s127 s128 s129 s130 s131 s132 s133 s134 s135 s136 s137 s138 s139 s140 s141 s142 s143 s144 s145 s146 s147 s148 s149 s150 s151 s152 s153 s154 s155 s156 s157 s158 s159 s160 s161 s162 s163 s164 s165 s166 s167 s168 s169 s170 s171 s172 s173 s174 s175 s176 s177 s178 s179 s180 s181 s182 : Value) (W' : World), WtI W0 p gl g11 g12 xs vj b (i + 1) W' → Q (.exit 3) ⟨#[.slice A1 xs.length c1, u1, .slice A3 ps.length c3, u3, u4, u5, s6, .pointer (some ⟨p, 0, none⟩), u8, u9, u10, .slice (some ⟨g11, 0, none⟩) 5 5, .slice (some ⟨g12, 0, none⟩) 5 5, .int .i64 (i : Nat), s14, s15, s16, s17, s18, u19, u20, u21, u22, u23, u24, u25, u26, u27, u28, u29, u30, u31, u32, u33, u34, u35, u36, u37, u38, u39, u40, u41, u42, u43, u44, u45, u46, u47, u48, u49, u50, u51, u52, u53, u54, u55, u56, u57, u58, u59, u60, u61, u62, u63, u64, u65, u66, u67, u68, s69, s70, s71, s72, s73, s74, s75, s76, s77, s78, s79, s80, s81, s82, s83, s84, s85, s86, s87, s88, s89, s90, s91, s92, s93, s94, s95, s96, s97, s98, s99, s100, s101, s102, s103, s104, s105, s106, s107, s108, s109, s110, s111, s112, s113, s114, s115, s116, s117, s118, s119, s120, s121, s122, s123, s124, s125, s126, s127, s128, s129, s130, s131, s132, s133, s134, s135, s136, s137, s138, s139, s140, s141, s142, s143, s144, s145, s146, s147, s148, s149, s150, s151, s152, s153, s154, s155, s156, s157, s158, s159, s160, s161, s162, s163, s164, s165, s166, s167, s168, s169, s170, s171, s172, s173, s174, s175, s176, s177, s178, s179, s180, s181, s182, u183, u184, u185, u186, u187], []⟩ W') :
    Code.wp Try.prog (part Try.f3 [1, 1, 1, 1, 1, 1, 1, 1, 0, 1, 2, 2, 1, 0, 2]) Q ⟨#[.slice A1 xs.length c1, u1, .slice A3 ps.length c3, u3, u4, u5, u6, .pointer (some ⟨p, 0, none⟩), u8, u9, u10, .slice (some ⟨g11, 0, none⟩) 5 5, .slice (some ⟨g12, 0, none⟩) 5 5, .int .i64 (i : Nat), u14, u15, u16, u17, u18, u19, u20, u21, u22, u23, u24, u25, u26, u27, u28, u29, u30, u31, u32, u33, u34, u35, u36, u37, u38, u39, u40, u41, u42, u43, u44, u45, u46, u47, u48, u49, u50, u51, u52, u53, u54, u55, u56, u57, u58, u59, u60, u61, u62, u63, u64, u65, u66, u67, u68, u69, u70, u71, u72, u73, u74, u75, u76, u77, u78, u79, u80, u81, u82, u83, u84, u85, u86, u87, u88, u89, u90, u91, u92, u93, u94, u95, u96, u97, u98, u99, u100, u101, u102, u103, u104, u105, u106, u107, u108, u109, u110, u111, u112, u113, u114, u115, u116, u117, u118, u119, u120, u121, u122, u123, u124, u125, u126, u127, u128, u129, u130, u131, u132, u133, u134, u135, u136, u137, u138, u139, u140, u141, u142, u143, u144, u145, u146, u147, u148, u149, u150, u151, u152, u153, u154, u155, u156, u157, u158, u159, u160, u161, u162, u163, u164, u165, u166, u167, u168, u169, u170, u171, u172, u173, u174, u175, u176, u177, u178, u179, u180, u181, u182, u183, u184, u185, u186, u187], []⟩ W := by
  obtain ⟨J, la, op, r, hw, hT, hln, hra, hgx, hgy⟩ := hW.ex
  by_cases hno : canJ 5 J = []
  · exact wt_rno hw hT hln hra hgx hgy hW.bel hW.ge hx hps hi hpl hxl hno hX
  · have hlen : 0 < (canJ 5 J).length := List.length_pos_iff.2 hno
    obtain ⟨q, _, _, _, _, hq⟩ := pick_idx (ps.getD i 0) (canJ 5 J).length hlen
    obtain ⟨s, hs⟩ : ∃ s, (canJ 5 J)[(ps.getD i 0 % ((canJ 5 J).length : Int)).toNat]? = some s := ⟨_, List.getElem?_eq_getElem hq⟩
    have hpn := (can_mem.1 (List.mem_of_getElem? hs)).2
    obtain ⟨m, l, hp⟩ : ∃ m l, pendJ J s = m :: l := by
      cases hpp : pendJ J s with
      | nil => exact absurd hpp hpn
      | cons m l => exact ⟨m, l, rfl⟩
    obtain ⟨j, hj⟩ : ∃ j, J[m]? = some j := ⟨_, List.getElem?_eq_getElem (pend_lt (show m ∈ pendJ J s by rw [hp]; simp))⟩
    cases hb : begJ J s with
    | true =>
      cases he : decide (j.t ≤ j.h + 1) with
      | true => exact wt_ry11 hw hT hln hra hgx hgy hW.bel hW.ge hx hps hi hpl hxl hs hp hj hb he hN
      | false => exact wt_ry10 hw hT hln hra hgx hgy hW.bel hW.ge hx hps hi hpl hxl hs hp hj hb he hN
    | false =>
      cases he : decide (j.t ≤ j.h + 1) with
      | true => exact wt_ry01 hw hT hln hra hgx hgy hW.bel hW.ge hx hps hi hpl hxl hs hp hj hb he hN
      | false => exact wt_ry00 hw hT hln hra hgx hgy hW.bel hW.ge hx hps hi hpl hxl hs hp hj hb he hN
set_option maxHeartbeats 6400000 in
set_option maxRecDepth 100000 in
theorem wt_loop2 {W : World} {u1 u3 u4 u5 u6 u8 u9 u10 u13 u14 u15 u16 u17 u18 u19 u20 u21 u22 u23 u24 u25 u26 u27 u28 u29 u30 u31 u32 u33 u34 u35 u36 u37 u38 u39 u40 u41 u42 u43 u44 u45 u46 u47 u48 u49 u50 u51 u52 u53 u54 u55 u56 u57 u58 u59 u60 u61 u62 u63 u64 u65 u66 u67 u68 u69 u70 u71 u72 u73 u74 u75 u76 u77 u78 u79 u80 u81 u82 u83 u84 u85 u86 u87 u88 u89 u90 u91 u92 u93 u94 u95 u96 u97 u98 u99 u100 u101 u102 u103 u104 u105 u106 u107 u108 u109 u110 u111 u112 u113 u114 u115 u116 u117 u118 u119 u120 u121 u122 u123 u124 u125 u126 u127 u128 u129 u130 u131 u132 u133 u134 u135 u136 u137 u138 u139 u140 u141 u142 u143 u144 u145 u146 u147 u148 u149 u150 u151 u152 u153 u154 u155 u156 u157 u158 u159 u160 u161 u162 u163 u164 u165 u166 u167 u168 u169 u170 u171 u172 u173 u174 u175 u176 u177 u178 u179 u180 u181 u182 u183 u184 u185 u186 u187 : Value} {Q : Exit → Act → World → Prop} {W0 : World} {p gl g11 g12 c1 c3 : Nat} {A1 A3 : Option Addr} {xs ps : List Int} {vj : Value} {b : Nat → Nat} (hW : WtI W0 p gl g11 g12 xs vj b 0 W) (hx : Reads W0 W0.heap.size 1 A1 xs.length (xs.map intZ)) (hps : Reads W0 W0.heap.size 1 A3 ps.length (ps.map intZ)) (hpl : ps.length ≤ 400) (hxl : xs.length ≤ 400)
    (hQ : ∀ (s6 s13 s14 s15 s16 s17 s18 s63 s64 s65 s66 s67 s68 s69 s70 s71 s72 s73 s74 s75 s76 s77 s78 s79 s80 s81 s82 s83 s84 s85 s86 s87 s88 s89 s90 s91 s92 s93 s94 s95 s96 s97 s98 s99 s100 s101 s102 s103 s104 s105 s106 s107 s108 s109 s110 s111 s112 s113 s114 s115 s116 s117 s118 s119 s120 s121 s122 s123 s124 s125 s126 s127 s128 s129 s130 s131 s132 s133 s134 s135 s136 s137 s138 s139 s140 s141 s142 s143 s144 s145 s146 s147 s148 s149 s150 s151 s152 s153 s154 s155 s156 s157 s158 s159 s160 s161 s162 s163 s164 s165 s166 s167 s168 s169 s170 s171 s172 s173 s174 s175 s176 s177 s178 s179 s180 s181 s182 : Value) (W' : World), WtI W0 p gl g11 g12 xs vj b ps.length W' → Q (.normal) ⟨#[.slice A1 xs.length c1, u1, .slice A3 ps.length c3, u3, u4, u5, s6, .pointer (some ⟨p, 0, none⟩), u8, u9, u10, .slice (some ⟨g11, 0, none⟩) 5 5, .slice (some ⟨g12, 0, none⟩) 5 5, s13, s14, s15, s16, s17, s18, u19, u20, u21, u22, u23, u24, u25, u26, u27, u28, u29, u30, u31, u32, u33, u34, u35, u36, u37, u38, u39, u40, u41, u42, u43, u44, u45, u46, u47, u48, u49, u50, u51, u52, u53, u54, u55, u56, u57, u58, u59, u60, u61, u62, s63, s64, s65, s66, s67, s68, s69, s70, s71, s72, s73, s74, s75, s76, s77, s78, s79, s80, s81, s82, s83, s84, s85, s86, s87, s88, s89, s90, s91, s92, s93, s94, s95, s96, s97, s98, s99, s100, s101, s102, s103, s104, s105, s106, s107, s108, s109, s110, s111, s112, s113, s114, s115, s116, s117, s118, s119, s120, s121, s122, s123, s124, s125, s126, s127, s128, s129, s130, s131, s132, s133, s134, s135, s136, s137, s138, s139, s140, s141, s142, s143, s144, s145, s146, s147, s148, s149, s150, s151, s152, s153, s154, s155, s156, s157, s158, s159, s160, s161, s162, s163, s164, s165, s166, s167, s168, s169, s170, s171, s172, s173, s174, s175, s176, s177, s178, s179, s180, s181, s182, u183, u184, u185, u186, u187], []⟩ W') :
    Code.wp Try.prog (part Try.f3 [1, 1, 1, 1, 1, 1, 1, 1, 0]) Q ⟨#[.slice A1 xs.length c1, u1, .slice A3 ps.length c3, u3, u4, u5, u6, .pointer (some ⟨p, 0, none⟩), u8, u9, u10, .slice (some ⟨g11, 0, none⟩) 5 5, .slice (some ⟨g12, 0, none⟩) 5 5, u13, u14, u15, u16, u17, u18, u19, u20, u21, u22, u23, u24, u25, u26, u27, u28, u29, u30, u31, u32, u33, u34, u35, u36, u37, u38, u39, u40, u41, u42, u43, u44, u45, u46, u47, u48, u49, u50, u51, u52, u53, u54, u55, u56, u57, u58, u59, u60, u61, u62, u63, u64, u65, u66, u67, u68, u69, u70, u71, u72, u73, u74, u75, u76, u77, u78, u79, u80, u81, u82, u83, u84, u85, u86, u87, u88, u89, u90, u91, u92, u93, u94, u95, u96, u97, u98, u99, u100, u101, u102, u103, u104, u105, u106, u107, u108, u109, u110, u111, u112, u113, u114, u115, u116, u117, u118, u119, u120, u121, u122, u123, u124, u125, u126, u127, u128, u129, u130, u131, u132, u133, u134, u135, u136, u137, u138, u139, u140, u141, u142, u143, u144, u145, u146, u147, u148, u149, u150, u151, u152, u153, u154, u155, u156, u157, u158, u159, u160, u161, u162, u163, u164, u165, u166, u167, u168, u169, u170, u171, u172, u173, u174, u175, u176, u177, u178, u179, u180, u181, u182, u183, u184, u185, u186, u187], []⟩ W := by
  conv => arg 2; whnf
  have HQ := Lib.hid hQ
  clear hQ
  have HX := Lib.hid (And.intro hx hps)
  have HW := Lib.hid hW
  clear hx hps hW
  go_wp2_with fail
  go_loopw [13] (fun v wr => ∃ k : Nat, k ≤ ps.length ∧ v = .int .i64 (k : Nat) ∧ Hid (WtI W0 p gl g11 g12 xs vj b k wr)) (fun v _ => ps.length - (intOf v).toNat)
  case atStart => exact ⟨0, Nat.zero_le _, rfl, HW⟩
  case round =>
    obtain ⟨k, hk, rfl, HJ⟩ := hrel
    have i1 : (0 : Int) ≤ (k : Int) := by omega
    by_cases hlk : k < ps.length
    · have i2 : (k : Int) < (ps.length : Int) := by omega
      refine wp_seq_k fun K0 hK => ?_
      have HK0 := Lib.hid hK
      clear hK
      go_wp2_with fail
      refine HK0.out _ _ ?_
      clear HK0
      refine wp_seq_k fun K0 hK => ?_
      have HK0 := Lib.hid hK
      clear hK
      refine wp_block ?_
      refine wt_round HJ.out HX.out.1 HX.out.2 hlk hpl hxl ?_ ?_
      · skip
        intro _ _ _ _ _ _ _ _ _ _ _ _ _ _ _ _ _ _ _ _ _ _ _ _ _ _ _ _ _ _ _ _ _ _ _ _ _ _ _ _ _ _ _ _ _ _ _ _ _ _ _ _ _ _ _ _ _ _ _ _ _ _ _ _ _ _ _ _ _ _ _ _ _ _ _ _ _ _ _ _ _ _ _ _ _ _ _ _ _ _ _ _ _ _ _ _ _ _ _ _ _ _ _ _ _ _ _ _ _ _ _ _ _ _ _ _ _ _ _ _ W3 hw3
        have H3 := Lib.hid hw3
        clear hw3
        refine HK0.out _ _ ?_
        clear HK0
        go_wp2_with fail
        go_roundw
        case rel => exact ⟨k + 1, by omega, by go_num, H3⟩
        case measure => simp [intOf]; omega
      · skip
        intro _ _ _ _ _ _ _ _ _ _ _ _ _ _ _ _ _ _ _ _ _ _ _ _ _ _ _ _ _ _ _ _ _ _ _ _ _ _ _ _ _ _ _ _ _ _ _ _ _ _ _ _ _ _ _ _ _ _ _ _ _ _ _ _ _ _ _ _ _ _ _ _ _ _ _ _ _ _ _ _ _ _ _ _ _ _ _ _ _ _ _ _ _ _ _ _ _ _ _ _ _ _ _ _ _ _ _ _ _ _ _ _ _ _ _ _ _ _ _ _ W3 hw3
        have H3 := Lib.hid hw3
        clear hw3
        refine HK0.out _ _ ?_
        clear HK0
        go_wp2_with fail
        go_roundw
        case rel => exact ⟨k + 1, by omega, by go_num, H3⟩
        case measure => simp [intOf]; omega
    · obtain rfl : k = ps.length := by omega
      go_wp2_with fail
      exact HQ.out _ _ _ _ _ _ _ _ _ _ _ _ _ _ _ _ _ _ _ _ _ _ _ _ _ _ _ _ _ _ _ _ _ _ _ _ _ _ _ _ _ _ _ _ _ _ _ _ _ _ _ _ _ _ _ _ _ _ _ _ _ _ _ _ _ _ _ _ _ _ _ _ _ _ _ _ _ _ _ _ _ _ _ _ _ _ _ _ _ _ _ _ _ _ _ _ _ _ _ _ _ _ _ _ _ _ _ _ _ _ _ _ _ _ _ _ _ _ _ _ _ _ _ _ _ _ _ _ HJ.out
/-- The base of a weave may lie lower. -/
theorem wv_base {W : World} {B B' p gl S : Nat} {J : List Jb} {k : Int} {vj : Value} {b : Nat → Nat} {r : Nat → Value} (h : WvAt W B p gl S J k vj b r) (hB : B' ≤ B) : WvAt W B' p gl S J k vj b r :=
  ⟨h.pb, h.l, own_base2 h.j hB, h.c, fun s hs => by
    rcases h.q s hs with h0 | ⟨g, o, cap, cur, q1, q2, q3⟩
    · exact .inl h0
    · exact .inr ⟨g, o, cap, cur, q1, Nat.le_trans hB q2, q3⟩, h.ra, h.ba, ⟨Nat.le_trans hB h.ge.1, Nat.le_trans hB h.ge.2.1, fun i hi => Nat.le_trans hB (h.ge.2.2 i hi)⟩, h.ok, h.S1, h.Jl, h.tl, h.sl⟩
theorem wt_start {W0 W : World} {p gl : Nat} {xs ts : List Int} {vj : Value} {b : Nat → Nat} {r : Nat → Value} (hw : WvAt W W0.heap.size p gl 5 (jobW xs ts xs.length) 0 vj b r) (hb : Below W0.heap.size W0 W) :
    WtI W0 p gl W.heap.size (W.heap.size + 1) xs vj b 0 ((W.alloc (.cells #[.int .i64 (-1), .int .i64 (-1), .int .i64 (-1), .int .i64 (-1), .int .i64 (-1)] 3)).alloc (.cells #[.bool false, .bool false, .bool false, .bool false, .bool false] 4)) := by
  have hb2 := below_alloc (below_box W (.cells #[.int .i64 (-1), .int .i64 (-1), .int .i64 (-1), .int .i64 (-1), .int .i64 (-1)] 3)) (.cells #[.bool false, .bool false, .bool false, .bool false, .bool false] 4)
  have q1 := (Blk.new W 3 #[.int .i64 (-1), .int .i64 (-1), .int .i64 (-1), .int .i64 (-1), .int .i64 (-1)]).alloc (.cells #[.bool false, .bool false, .bool false, .bool false, .bool false] 4)
  have q2 := Blk.new (W.alloc (.cells #[.int .i64 (-1), .int .i64 (-1), .int .i64 (-1), .int .i64 (-1), .int .i64 (-1)] 3)) 4 #[.bool false, .bool false, .bool false, .bool false, .bool false]
  rw [show (W.alloc (.cells #[.int .i64 (-1), .int .i64 (-1), .int .i64 (-1), .int .i64 (-1), .int .i64 (-1)] 3)).heap.size = W.heap.size + 1 by simp] at q2
  refine ⟨⟨_, _, _, r, hw.below hb2, tuI_start xs ts xs.length hw.ok, jobW_len _ _ _, fun s g hs hg => ?_, q1, q2⟩, below_trans hb hb2, hb.size, Nat.le_succ_of_le hb.size⟩
  have := ((hw.q s hs).lt hg).2.1
  omega
set_option maxHeartbeats 6400000 in
set_option maxRecDepth 100000 in
theorem turns_of (W : World) (A1 A2 A3 : Option Addr) (c1 c2 c3 : Nat) (xs ts ps : List Int) (hx : Reads W W.heap.size 1 A1 xs.length (xs.map intZ)) (ht : Reads W W.heap.size 1 A2 ts.length (ts.map intZ)) (hps : Reads W W.heap.size 1 A3 ps.length (ps.map intZ)) (hlt : ts.length ≤ 9223372036854775807) :
    Calls Try.prog 3 #[.slice A1 xs.length c1, .slice A2 ts.length c2, .slice A3 ps.length c3] W (AwakeEnd W) := by
  have HX := Lib.hid (And.intro hx (And.intro ht hps))
  clear hx ht hps
  have hmk : ∀ w, (Instr.makeSlice 34 (.int .i64 5) (.int .i64 5)).run Try.prog w = .ok (.slice (some ⟨w.heap.size, 0, none⟩) 5 5) (w.alloc (.cells #[.bool false, .bool false, .bool false, .bool false, .bool false] 4)) := fun _ => by kernel_rfl
  go_enter Try.func3, Try.ntmps3
  refine wp_seq_k fun K0 hK => ?_
  have HK0 := Lib.hid hK
  clear hK
  go_wp2_with fail
  refine HK0.out _ _ ?_
  clear HK0
  refine wp_seq_k fun K0 hK => ?_
  have HK0 := Lib.hid hK
  clear hK
  go_wp2_with fail
  refine (awake_any W).mono ?_
  rintro e w1 ⟨rfl, hb1⟩
  have H1 := Lib.hid hb1
  clear hb1
  go_wp2_with fail
  refine HK0.out _ _ ?_
  clear HK0
  by_cases hx4 : xs.length ≤ 400
  · by_cases hp4 : ps.length ≤ 400
    · have i1 : ¬ (xs.length : Int) > 400 := by omega
      have i2 : ¬ (ps.length : Int) > 400 := by omega
      refine wp_seq_k fun K0 hK => ?_
      have HK0 := Lib.hid hK
      clear hK
      go_wp2_with fail
      refine HK0.out _ _ ?_
      clear HK0
      clear i1 i2
      refine wp_seq_k fun K0 hK => ?_
      have HK0 := Lib.hid hK
      clear hK
      go_wp2_with fail
      refine (New_yes w1 5 (by decide) (by decide)).mono ?_
      rintro e w2 ⟨p, gl, b0, r0, rfl, hw2, hb2⟩
      have H2 := Lib.hid (And.intro hw2 (below_trans H1.out hb2))
      clear hw2 hb2
      go_wp2_with fail
      refine HK0.out _ _ ?_
      clear HK0
      refine wp_seq_k fun K0 hK => ?_
      have HK0 := Lib.hid hK
      clear hK
      go_wp2_with fail
      refine HK0.out _ _ ?_
      clear HK0
      refine wp_seq_k fun K0 hK => ?_
      have HK0 := Lib.hid hK
      clear hK
      have HB := Lib.hid (wv_base H2.out.1 H1.out.size)
      refine wt_loop1 HB.out ((HX.out.1.below H2.out.2)) ((HX.out.2.1.below H2.out.2)) hx4 hlt ?_
      intro _ _ _ _ _ _ _ _ _ _ _ _ _ _ _ _ _ _ _ _ _ _ _ _ _ _ _ _ vj b r W3 hw3 hk3
      have H3 := Lib.hid (And.intro hw3 (H2.out.2.trans hk3.below))
      clear hw3 hk3
      refine HK0.out _ _ ?_
      clear HK0
      have H4 := Lib.hid (wt_start H3.out.1 H3.out.2)
      refine wp_seq_k fun K0 hK => ?_
      have HK0 := Lib.hid hK
      clear hK
      go_wp2_with fail
      refine HK0.out _ _ ?_
      clear HK0
      refine wp_seq_k fun K0 hK => ?_
      have HK0 := Lib.hid hK
      clear hK
      go_wp2_with fail
      refine HK0.out _ _ ?_
      clear HK0
      clear hmk
      generalize ((W3.alloc (.cells #[.int .i64 (-1), .int .i64 (-1), .int .i64 (-1), .int .i64 (-1), .int .i64 (-1)] 3)).alloc (.cells #[.bool false, .bool false, .bool false, .bool false, .bool false] 4)) = W4 at H4 ⊢
      refine wp_seq_k fun K0 hK => ?_
      have HK0 := Lib.hid hK
      clear hK
      refine wt_loop2 H4.out HX.out.1 HX.out.2.2 hp4 hx4 ?_
      intro _ _ _ _ _ _ _ _ _ _ _ _ _ _ _ _ _ _ _ _ _ _ _ _ _ _ _ _ _ _ _ _ _ _ _ _ _ _ _ _ _ _ _ _ _ _ _ _ _ _ _ _ _ _ _ _ _ _ _ _ _ _ _ _ _ _ _ _ _ _ _ _ _ _ _ _ _ _ _ _ _ _ _ _ _ _ _ _ _ _ _ _ _ _ _ _ _ _ _ _ _ _ _ _ _ _ _ _ _ _ _ _ _ _ _ _ _ _ _ _ _ _ _ _ _ _ _ W5 hw5
      refine HK0.out _ _ ?_
      clear HK0
      obtain ⟨J, la, op, r5, hw6, _⟩ := hw5.ex
      have H5 := Lib.hid (And.intro hw6 hw5.bel)
      clear hw6 hw5
      go_wp2_with fail
      refine (Picks_w H5.out.1).mono ?_
      rintro e w6 ⟨rfl, rfl⟩
      go_wp2_with fail
      go_ret
      exact ⟨rfl, H5.out.2⟩
    · have i1 : ¬ (xs.length : Int) > 400 := by omega
      have i2 : (ps.length : Int) > 400 := by omega
      go_wp2_with fail
      go_ret
      exact ⟨rfl, H1.out⟩
  · have i1 : (xs.length : Int) > 400 := by omega
    go_wp2_with fail
    go_ret
    exact ⟨rfl, H1.out⟩
end Go.Proofs.Ytagcbihjejjmnaa
