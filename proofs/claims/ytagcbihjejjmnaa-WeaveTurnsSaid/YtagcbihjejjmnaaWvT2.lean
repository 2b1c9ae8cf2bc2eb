/-
  Layer 23: WeaveTurns: the first loop.
-/
import Derived.Test.YtagcbihjejjmnaaWvA2
import Derived.Test.YtagcbihjejjmnaaWvT1
namespace Go.Proofs.Ytagcbihjejjmnaa
open Go.RowKit
set_option linter.unusedVariables false
set_option linter.unusedSimpArgs false

theorem getD_at {l : List Int} {k : Nat} (hk : k < l.length) : l.getD k 0 = l[k] := by
  rw [List.getD_eq_getElem?_getD, List.getElem?_eq_getElem hk]
  rfl
def intZ (n : Int) : Value := .int .i64 n
theorem kit_five (x : Int) (W : World) : Calls Try.prog 8 #[.int .i64 x, .int .i64 5] W (StayW (.int .i64 ((x % 5).toNat : Nat)) W) := by
  have h := kit_pick x 5 W (by decide) (by decide)
  have e : ((x % 5).toNat : Int) = x % ((5 : Nat) : Int) := Int.toNat_of_nonneg (Int.emod_nonneg x (by decide))
  rw [e]
  exact h
theorem kit_nine (x : Int) (W : World) : Calls Try.prog 8 #[.int .i64 x, .int .i64 9] W (StayW (.int .i64 ((x % 9).toNat : Nat)) W) := by
  have h := kit_pick x 9 W (by decide) (by decide)
  have e : ((x % 9).toNat : Int) = x % ((9 : Nat) : Int) := Int.toNat_of_nonneg (Int.emod_nonneg x (by decide))
  rw [e]
  exact h
/-- A number of a list that came in. -/
theorem int_at {W : World} {B n k : Nat} {A : Option Addr} {l : List Int} (h : Reads W B 1 A n (l.map intZ)) (hn : n = l.length) (hk : k < l.length) : ∃ ad, A = some ad ∧ ad.block < B ∧ W.cell? (ad.add k) = some (.int .i64 (l.getD k 0)) := by
  subst hn
  obtain ⟨ad, u, h1, h2, h3, h4⟩ := h.at_ hk
  refine ⟨ad, h1, h2, ?_⟩
  rw [List.getElem?_map, List.getElem?_eq_getElem hk] at h3
  obtain rfl := Option.some.inj h3
  rw [h4, getD_at hk]
  rfl
set_option maxHeartbeats 6400000 in
set_option maxRecDepth 100000 in
theorem wt_one1 {W : World} {u2 u3 u4 u5 u6 u8 u10 u11 u12 u13 u14 u15 u16 u17 u18 u19 u20 u21 u22 u23 u24 u25 u26 u27 u28 u29 u30 u31 u32 u33 u34 u35 u36 u37 u38 u39 u40 u41 u42 u43 u44 u45 u46 u47 u48 u49 u50 u51 u52 u53 u54 u55 u56 u57 u58 u59 u60 u61 u62 u63 u64 u65 u66 u67 u68 u69 u70 u71 u72 u73 u74 u75 u76 u77 u78 u79 u80 u81 u82 u83 u84 u85 u86 u87 u88 u89 u90 u91 u92 u93 u94 u95 u96 u97 u98 u99 u100 u101 u102 u103 u104 u105 u106 u107 u108 u109 u110 u111 u112 u113 u114 u115 u116 u117 u118 u119 u120 u121 u122 u123 u124 u125 u126 u127 u128 u129 u130 u131 u132 u133 u134 u135 u136 u137 u138 u139 u140 u141 u142 u143 u144 u145 u146 u147 u148 u149 u150 u151 u152 u153 u154 u155 u156 u157 u158 u159 u160 u161 u162 u163 u164 u165 u166 u167 u168 u169 u170 u171 u172 u173 u174 u175 u176 u177 u178 u179 u180 u181 u182 u183 u184 u185 u186 u187 : Value} {Q : Exit → Act → World → Prop} {B p gl i : Nat} {A1 A2 : Option Addr} {c1 c2 : Nat} {xs ts : List Int} {vj : Value} {b : Nat → Nat} {r : Nat → Value} (hW : WvAt W B p gl 5 (jobW xs ts i) 0 vj b r) (hx : Reads W B 1 A1 xs.length (xs.map intZ)) (ht : Reads W B 1 A2 ts.length (ts.map intZ)) (hi : i < xs.length) (hl : xs.length ≤ 400) (hlt : ts.length ≤ 9223372036854775807) (hit : i < ts.length)
    (hQ : ∀ (s10 s41 s42 s43 s44 s45 s46 s47 s48 s49 s50 s51 s52 s53 s54 s55 s56 s57 s58 s59 s60 : Value) (vj' : Value) (b' : Nat → Nat) (r' : Nat → Value) (W' : World), WvAt W' B p gl 5 (jobW xs ts (i + 1)) 0 vj' b' r' → WKeep AskT B W W' → Q (.normal) ⟨#[.slice A1 xs.length c1, .slice A2 ts.length c2, u2, u3, u4, u5, u6, .pointer (some ⟨p, 0, none⟩), u8, .int .i64 (i : Nat), s10, u11, u12, u13, u14, u15, u16, u17, u18, u19, u20, u21, u22, u23, u24, u25, u26, u27, u28, u29, u30, u31, u32, u33, u34, u35, u36, u37, u38, u39, u40, s41, s42, s43, s44, s45, s46, s47, s48, s49, s50, s51, s52, s53, s54, s55, s56, s57, s58, s59, s60, u61, u62, u63, u64, u65, u66, u67, u68, u69, u70, u71, u72, u73, u74, u75, u76, u77, u78, u79, u80, u81, u82, u83, u84, u85, u86, u87, u88, u89, u90, u91, u92, u93, u94, u95, u96, u97, u98, u99, u100, u101, u102, u103, u104, u105, u106, u107, u108, u109, u110, u111, u112, u113, u114, u115, u116, u117, u118, u119, u120, u121, u122, u123, u124, u125, u126, u127, u128, u129, u130, u131, u132, u133, u134, u135, u136, u137, u138, u139, u140, u141, u142, u143, u144, u145, u146, u147, u148, u149, u150, u151, u152, u153, u154, u155, u156, u157, u158, u159, u160, u161, u162, u163, u164, u165, u166, u167, u168, u169, u170, u171, u172, u173, u174, u175, u176, u177, u178, u179, u180, u181, u182, u183, u184, u185, u186, u187], []⟩ W') :
    Code.wp Try.prog (part Try.f3 [1, 1, 1, 1, 1, 0, 1, 2, 2, 1, 0, 2]) Q ⟨#[.slice A1 xs.length c1, .slice A2 ts.length c2, u2, u3, u4, u5, u6, .pointer (some ⟨p, 0, none⟩), u8, .int .i64 (i : Nat), u10, u11, u12, u13, u14, u15, u16, u17, u18, u19, u20, u21, u22, u23, u24, u25, u26, u27, u28, u29, u30, u31, u32, u33, u34, u35, u36, u37, u38, u39, u40, u41, u42, u43, u44, u45, u46, u47, u48, u49, u50, u51, u52, u53, u54, u55, u56, u57, u58, u59, u60, u61, u62, u63, u64, u65, u66, u67, u68, u69, u70, u71, u72, u73, u74, u75, u76, u77, u78, u79, u80, u81, u82, u83, u84, u85, u86, u87, u88, u89, u90, u91, u92, u93, u94, u95, u96, u97, u98, u99, u100, u101, u102, u103, u104, u105, u106, u107, u108, u109, u110, u111, u112, u113, u114, u115, u116, u117, u118, u119, u120, u121, u122, u123, u124, u125, u126, u127, u128, u129, u130, u131, u132, u133, u134, u135, u136, u137, u138, u139, u140, u141, u142, u143, u144, u145, u146, u147, u148, u149, u150, u151, u152, u153, u154, u155, u156, u157, u158, u159, u160, u161, u162, u163, u164, u165, u166, u167, u168, u169, u170, u171, u172, u173, u174, u175, u176, u177, u178, u179, u180, u181, u182, u183, u184, u185, u186, u187], []⟩ W := by
  conv => arg 2; whnf
  have HQ := Lib.hid hQ
  clear hQ
  obtain ⟨ad, rfl, hab, hc⟩ := int_at hx rfl hi
  have hW' := Lib.hid hW
  have i1 : (0 : Int) ≤ (i : Int) := by omega
  have i2 : (i : Int) < (xs.length : Int) := by omega
  have hjl := jobW_len xs ts i
  have hBW : B ≤ W.heap.size := by have := hW.pb.lt; have := hW.ge.1; omega
  have hs5 : (xs.getD i 0 % 5).toNat < 5 := by omega
  have HS := Lib.hid (jobW_succ xs ts i)
  generalize xs.getD i 0 = x at hc hs5 HS
  obtain ⟨ad2, rfl, hab2, hc2⟩ := int_at ht rfl hit
  have i3 : (i : Int) < (ts.length : Int) := by omega
  have HT := Lib.hid (show tkW ts i = 1 + (ts.getD i 0 % 9).toNat by
    unfold tkW
    rw [List.getElem?_eq_getElem hit, getD_at hit])
  have hq9 : (ts.getD i 0 % 9).toNat < 9 := by omega
  rw [HT.out] at HS
  generalize ts.getD i 0 = y at hc2 HS hq9
  clear hx ht hW HT
  refine wp_seq_k fun K0 hK => ?_
  have HK0 := Lib.hid hK
  clear hK
  go_wp2_with fail
  refine HK0.out _ _ ?_
  clear HK0
  refine wp_seq_k fun K0 hK => ?_
  have HK0 := Lib.hid hK
  clear hK
  refine wp_seq_k fun K1 hK => ?_
  have HK1 := Lib.hid hK
  clear hK
  go_wp2_with fail
  refine HK1.out _ _ ?_
  clear HK1
  go_wp2_with fail
  refine (kit_nine _ _).mono ?_
  rintro e w1 ⟨rfl, rfl⟩
  generalize (y % 9).toNat = q at hq9 HS ⊢
  obtain ⟨t, ht⟩ : ∃ t : Nat, (1 : Int) + (q : Int) = (t : Int) := ⟨1 + q, by omega⟩
  have htn : 1 + q = t := by omega
  rw [htn] at HS
  have ht1 : 1 ≤ t ∧ t ≤ 9 := by omega
  go_wp2_with fail
  refine HK0.out _ _ ?_
  clear HK0
  clear ht htn
  go_wp2_with fail
  refine (kit_five _ _).mono ?_
  rintro e w1 ⟨rfl, rfl⟩
  generalize (x % 5).toNat = s at hs5 HS ⊢
  go_wp2_with fail
  refine (ask_new (s := s) (t := t) hW'.out hs5 (by omega) (by omega) (by omega)).mono ?_
  rintro e w2 ⟨rfl, ⟨vj', b', r', hw⟩, hk⟩
  rw [← HS.out] at hw
  have H2 := Lib.hid (And.intro hw hk)
  clear hw hk
  go_wp2_with fail
  exact HQ.out _ _ _ _ _ _ _ _ _ _ _ _ _ _ _ _ _ _ _ _ _ vj' b' r' _ H2.out.1 H2.out.2
set_option maxHeartbeats 6400000 in
set_option maxRecDepth 100000 in
theorem wt_one2 {W : World} {u2 u3 u4 u5 u6 u8 u10 u11 u12 u13 u14 u15 u16 u17 u18 u19 u20 u21 u22 u23 u24 u25 u26 u27 u28 u29 u30 u31 u32 u33 u34 u35 u36 u37 u38 u39 u40 u41 u42 u43 u44 u45 u46 u47 u48 u49 u50 u51 u52 u53 u54 u55 u56 u57 u58 u59 u60 u61 u62 u63 u64 u65 u66 u67 u68 u69 u70 u71 u72 u73 u74 u75 u76 u77 u78 u79 u80 u81 u82 u83 u84 u85 u86 u87 u88 u89 u90 u91 u92 u93 u94 u95 u96 u97 u98 u99 u100 u101 u102 u103 u104 u105 u106 u107 u108 u109 u110 u111 u112 u113 u114 u115 u116 u117 u118 u119 u120 u121 u122 u123 u124 u125 u126 u127 u128 u129 u130 u131 u132 u133 u134 u135 u136 u137 u138 u139 u140 u141 u142 u143 u144 u145 u146 u147 u148 u149 u150 u151 u152 u153 u154 u155 u156 u157 u158 u159 u160 u161 u162 u163 u164 u165 u166 u167 u168 u169 u170 u171 u172 u173 u174 u175 u176 u177 u178 u179 u180 u181 u182 u183 u184 u185 u186 u187 : Value} {Q : Exit → Act → World → Prop} {B p gl i : Nat} {A1 A2 : Option Addr} {c1 c2 : Nat} {xs ts : List Int} {vj : Value} {b : Nat → Nat} {r : Nat → Value} (hW : WvAt W B p gl 5 (jobW xs ts i) 0 vj b r) (hx : Reads W B 1 A1 xs.length (xs.map intZ)) (ht : Reads W B 1 A2 ts.length (ts.map intZ)) (hi : i < xs.length) (hl : xs.length ≤ 400) (hlt : ts.length ≤ 9223372036854775807) (hit : ¬ i < ts.length)
    (hQ : ∀ (s10 s41 s42 s43 s44 s45 s46 s47 s48 s49 s50 s51 s52 s53 s54 s55 s56 s57 s58 s59 s60 : Value) (vj' : Value) (b' : Nat → Nat) (r' : Nat → Value) (W' : World), WvAt W' B p gl 5 (jobW xs ts (i + 1)) 0 vj' b' r' → WKeep AskT B W W' → Q (.normal) ⟨#[.slice A1 xs.length c1, .slice A2 ts.length c2, u2, u3, u4, u5, u6, .pointer (some ⟨p, 0, none⟩), u8, .int .i64 (i : Nat), s10, u11, u12, u13, u14, u15, u16, u17, u18, u19, u20, u21, u22, u23, u24, u25, u26, u27, u28, u29, u30, u31, u32, u33, u34, u35, u36, u37, u38, u39, u40, s41, s42, s43, s44, s45, s46, s47, s48, s49, s50, s51, s52, s53, s54, s55, s56, s57, s58, s59, s60, u61, u62, u63, u64, u65, u66, u67, u68, u69, u70, u71, u72, u73, u74, u75, u76, u77, u78, u79, u80, u81, u82, u83, u84, u85, u86, u87, u88, u89, u90, u91, u92, u93, u94, u95, u96, u97, u98, u99, u100, u101, u102, u103, u104, u105, u106, u107, u108, u109, u110, u111, u112, u113, u114, u115, u116, u117, u118, u119, u120, u121, u122, u123, u124, u125, u126, u127, u128, u129, u130, u131, u132, u133, u134, u135, u136, u137, u138, u139, u140, u141, u142, u143, u144, u145, u146, u147, u148, u149, u150, u151, u152, u153, u154, u155, u156, u157, u158, u159, u160, u161, u162, u163, u164, u165, u166, u167, u168, u169, u170, u171, u172, u173, u174, u175, u176, u177, u178, u179, u180, u181, u182, u183, u184, u185, u186, u187], []⟩ W') :
    Code.wp Try.prog (part Try.f3 [1, 1, 1, 1, 1, 0, 1, 2, 2, 1, 0, 2]) Q ⟨#[.slice A1 xs.length c1, .slice A2 ts.length c2, u2, u3, u4, u5, u6, .pointer (some ⟨p, 0, none⟩), u8, .int .i64 (i : Nat), u10, u11, u12, u13, u14, u15, u16, u17, u18, u19, u20, u21, u22, u23, u24, u25, u26, u27, u28, u29, u30, u31, u32, u33, u34, u35, u36, u37, u38, u39, u40, u41, u42, u43, u44, u45, u46, u47, u48, u49, u50, u51, u52, u53, u54, u55, u56, u57, u58, u59, u60, u61, u62, u63, u64, u65, u66, u67, u68, u69, u70, u71, u72, u73, u74, u75, u76, u77, u78, u79, u80, u81, u82, u83, u84, u85, u86, u87, u88, u89, u90, u91, u92, u93, u94, u95, u96, u97, u98, u99, u100, u101, u102, u103, u104, u105, u106, u107, u108, u109, u110, u111, u112, u113, u114, u115, u116, u117, u118, u119, u120, u121, u122, u123, u124, u125, u126, u127, u128, u129, u130, u131, u132, u133, u134, u135, u136, u137, u138, u139, u140, u141, u142, u143, u144, u145, u146, u147, u148, u149, u150, u151, u152, u153, u154, u155, u156, u157, u158, u159, u160, u161, u162, u163, u164, u165, u166, u167, u168, u169, u170, u171, u172, u173, u174, u175, u176, u177, u178, u179, u180, u181, u182, u183, u184, u185, u186, u187], []⟩ W := by
  conv => arg 2; whnf
  have HQ := Lib.hid hQ
  clear hQ
  obtain ⟨ad, rfl, hab, hc⟩ := int_at hx rfl hi
  have hW' := Lib.hid hW
  have i1 : (0 : Int) ≤ (i : Int) := by omega
  have i2 : (i : Int) < (xs.length : Int) := by omega
  have hjl := jobW_len xs ts i
  have hBW : B ≤ W.heap.size := by have := hW.pb.lt; have := hW.ge.1; omega
  have hs5 : (xs.getD i 0 % 5).toNat < 5 := by omega
  have HS := Lib.hid (jobW_succ xs ts i)
  generalize xs.getD i 0 = x at hc hs5 HS
  have i3 : ¬ (i : Int) < (ts.length : Int) := by omega
  have HT := Lib.hid (show tkW ts i = 1 by
    unfold tkW
    rw [List.getElem?_eq_none (by omega)])
  rw [HT.out] at HS
  clear hx ht hW HT
  refine wp_seq_k fun K0 hK => ?_
  have HK0 := Lib.hid hK
  clear hK
  go_wp2_with fail
  refine HK0.out _ _ ?_
  clear HK0
  refine wp_seq_k fun K0 hK => ?_
  have HK0 := Lib.hid hK
  clear hK
  go_wp2_with fail
  refine HK0.out _ _ ?_
  clear HK0
  go_wp2_with fail
  refine (kit_five _ _).mono ?_
  rintro e w1 ⟨rfl, rfl⟩
  generalize (x % 5).toNat = s at hs5 HS ⊢
  go_wp2_with fail
  refine (ask_new (s := s) (t := 1) hW'.out hs5 (by omega) (by omega) (by omega)).mono ?_
  rintro e w2 ⟨rfl, ⟨vj', b', r', hw⟩, hk⟩
  rw [← HS.out] at hw
  have H2 := Lib.hid (And.intro hw hk)
  clear hw hk
  go_wp2_with fail
  exact HQ.out _ _ _ _ _ _ _ _ _ _ _ _ _ _ _ _ _ _ _ _ _ vj' b' r' _ H2.out.1 H2.out.2
set_option maxHeartbeats 6400000 in
set_option maxRecDepth 100000 in
theorem wt_loop1 {W : World} {u2 u3 u4 u5 u6 u8 u9 u10 u11 u12 u13 u14 u15 u16 u17 u18 u19 u20 u21 u22 u23 u24 u25 u26 u27 u28 u29 u30 u31 u32 u33 u34 u35 u36 u37 u38 u39 u40 u41 u42 u43 u44 u45 u46 u47 u48 u49 u50 u51 u52 u53 u54 u55 u56 u57 u58 u59 u60 u61 u62 u63 u64 u65 u66 u67 u68 u69 u70 u71 u72 u73 u74 u75 u76 u77 u78 u79 u80 u81 u82 u83 u84 u85 u86 u87 u88 u89 u90 u91 u92 u93 u94 u95 u96 u97 u98 u99 u100 u101 u102 u103 u104 u105 u106 u107 u108 u109 u110 u111 u112 u113 u114 u115 u116 u117 u118 u119 u120 u121 u122 u123 u124 u125 u126 u127 u128 u129 u130 u131 u132 u133 u134 u135 u136 u137 u138 u139 u140 u141 u142 u143 u144 u145 u146 u147 u148 u149 u150 u151 u152 u153 u154 u155 u156 u157 u158 u159 u160 u161 u162 u163 u164 u165 u166 u167 u168 u169 u170 u171 u172 u173 u174 u175 u176 u177 u178 u179 u180 u181 u182 u183 u184 u185 u186 u187 : Value} {Q : Exit → Act → World → Prop} {B p gl : Nat} {A1 A2 : Option Addr} {c1 c2 : Nat} {xs ts : List Int} {vj : Value} {b : Nat → Nat} {r : Nat → Value} (hW : WvAt W B p gl 5 [] 0 vj b r) (hx : Reads W B 1 A1 xs.length (xs.map intZ)) (ht : Reads W B 1 A2 ts.length (ts.map intZ)) (hl : xs.length ≤ 400) (hlt : ts.length ≤ 9223372036854775807)
    (hQ : ∀ (s9 s10 s35 s36 s37 s38 s39 s40 s41 s42 s43 s44 s45 s46 s47 s48 s49 s50 s51 s52 s53 s54 s55 s56 s57 s58 s59 s60 : Value) (vj' : Value) (b' : Nat → Nat) (r' : Nat → Value) (W' : World), WvAt W' B p gl 5 (jobW xs ts xs.length) 0 vj' b' r' → WKeep AskT B W W' → Q (.normal) ⟨#[.slice A1 xs.length c1, .slice A2 ts.length c2, u2, u3, u4, u5, u6, .pointer (some ⟨p, 0, none⟩), u8, s9, s10, u11, u12, u13, u14, u15, u16, u17, u18, u19, u20, u21, u22, u23, u24, u25, u26, u27, u28, u29, u30, u31, u32, u33, u34, s35, s36, s37, s38, s39, s40, s41, s42, s43, s44, s45, s46, s47, s48, s49, s50, s51, s52, s53, s54, s55, s56, s57, s58, s59, s60, u61, u62, u63, u64, u65, u66, u67, u68, u69, u70, u71, u72, u73, u74, u75, u76, u77, u78, u79, u80, u81, u82, u83, u84, u85, u86, u87, u88, u89, u90, u91, u92, u93, u94, u95, u96, u97, u98, u99, u100, u101, u102, u103, u104, u105, u106, u107, u108, u109, u110, u111, u112, u113, u114, u115, u116, u117, u118, u119, u120, u121, u122, u123, u124, u125, u126, u127, u128, u129, u130, u131, u132, u133, u134, u135, u136, u137, u138, u139, u140, u141, u142, u143, u144, u145, u146, u147, u148, u149, u150, u151, u152, u153, u154, u155, u156, u157, u158, u159, u160, u161, u162, u163, u164, u165, u166, u167, u168, u169, u170, u171, u172, u173, u174, u175, u176, u177, u178, u179, u180, u181, u182, u183, u184, u185, u186, u187], []⟩ W') :
    Code.wp Try.prog (part Try.f3 [1, 1, 1, 1, 1, 0]) Q ⟨#[.slice A1 xs.length c1, .slice A2 ts.length c2, u2, u3, u4, u5, u6, .pointer (some ⟨p, 0, none⟩), u8, u9, u10, u11, u12, u13, u14, u15, u16, u17, u18, u19, u20, u21, u22, u23, u24, u25, u26, u27, u28, u29, u30, u31, u32, u33, u34, u35, u36, u37, u38, u39, u40, u41, u42, u43, u44, u45, u46, u47, u48, u49, u50, u51, u52, u53, u54, u55, u56, u57, u58, u59, u60, u61, u62, u63, u64, u65, u66, u67, u68, u69, u70, u71, u72, u73, u74, u75, u76, u77, u78, u79, u80, u81, u82, u83, u84, u85, u86, u87, u88, u89, u90, u91, u92, u93, u94, u95, u96, u97, u98, u99, u100, u101, u102, u103, u104, u105, u106, u107, u108, u109, u110, u111, u112, u113, u114, u115, u116, u117, u118, u119, u120, u121, u122, u123, u124, u125, u126, u127, u128, u129, u130, u131, u132, u133, u134, u135, u136, u137, u138, u139, u140, u141, u142, u143, u144, u145, u146, u147, u148, u149, u150, u151, u152, u153, u154, u155, u156, u157, u158, u159, u160, u161, u162, u163, u164, u165, u166, u167, u168, u169, u170, u171, u172, u173, u174, u175, u176, u177, u178, u179, u180, u181, u182, u183, u184, u185, u186, u187], []⟩ W := by
  conv => arg 2; whnf
  have HQ := Lib.hid hQ
  clear hQ
  have HX := Lib.hid (And.intro hx ht)
  have HW := Lib.hid hW
  clear hx ht hW
  go_wp2_with fail
  go_loopw [9] (fun v wr => ∃ k : Nat, k ≤ xs.length ∧ v = .int .i64 (k : Nat) ∧ Hid ((∃ vj b r, WvAt wr B p gl 5 (jobW xs ts k) 0 vj b r) ∧ WKeep AskT B W wr)) (fun v _ => xs.length - (intOf v).toNat)
  case atStart => exact ⟨0, Nat.zero_le _, rfl, Lib.hid ⟨⟨vj, b, r, HW.out⟩, WKeep.refl _ _ _⟩⟩
  case round =>
    obtain ⟨k, hk, rfl, HJ⟩ := hrel
    have i1 : (0 : Int) ≤ (k : Int) := by omega
    obtain ⟨vj1, b1, r1, hw1⟩ := HJ.out.1
    have HW1 := Lib.hid hw1
    clear hw1
    by_cases hlk : k < xs.length
    · have i2 : (k : Int) < (xs.length : Int) := by omega
      refine wp_seq_k fun K0 hK => ?_
      have HK0 := Lib.hid hK
      clear hK
      go_wp2_with fail
      refine HK0.out _ _ ?_
      clear HK0
      refine wp_seq_k fun K0 hK => ?_
      have HK0 := Lib.hid hK
      clear hK
      refine wp_block ?_
      by_cases hit : k < ts.length
      · skip
        refine wt_one1 HW1.out (HX.out.1.below HJ.out.2.below) (HX.out.2.below HJ.out.2.below) hlk hl hlt hit ?_
        intro _ _ _ _ _ _ _ _ _ _ _ _ _ _ _ _ _ _ _ _ _ vj' b' r' W3 hw3 hk3
        have H3 := Lib.hid (And.intro (show ∃ vj b r, WvAt W3 B p gl 5 (jobW xs ts (k + 1)) 0 vj b r from ⟨vj', b', r', hw3⟩) (HJ.out.2.trans hk3))
        clear hw3 hk3
        refine HK0.out _ _ ?_
        clear HK0
        go_wp2_with fail
        go_roundw
        case rel => exact ⟨k + 1, by omega, by go_num, H3⟩
        case measure => simp [intOf]; omega
      · skip
        refine wt_one2 HW1.out (HX.out.1.below HJ.out.2.below) (HX.out.2.below HJ.out.2.below) hlk hl hlt hit ?_
        intro _ _ _ _ _ _ _ _ _ _ _ _ _ _ _ _ _ _ _ _ _ vj' b' r' W3 hw3 hk3
        have H3 := Lib.hid (And.intro (show ∃ vj b r, WvAt W3 B p gl 5 (jobW xs ts (k + 1)) 0 vj b r from ⟨vj', b', r', hw3⟩) (HJ.out.2.trans hk3))
        clear hw3 hk3
        refine HK0.out _ _ ?_
        clear HK0
        go_wp2_with fail
        go_roundw
        case rel => exact ⟨k + 1, by omega, by go_num, H3⟩
        case measure => simp [intOf]; omega
    · obtain rfl : k = xs.length := by omega
      go_wp2_with fail
      exact HQ.out _ _ _ _ _ _ _ _ _ _ _ _ _ _ _ _ _ _ _ _ _ _ _ _ _ _ _ _ vj1 b1 r1 _ HW1.out HJ.out.2
end Go.Proofs.Ytagcbihjejjmnaa
