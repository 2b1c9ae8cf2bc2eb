/-
  Layer 7: FewOrder's three loops.
-/
import Derived.Test.YtmcpfhhggapkcaaFewL2
namespace Go.Proofs.Ytmcpfhhggapkcaa
open Go.RowKit Go.Shelf
set_option linter.unusedVariables false
set_option linter.unusedSimpArgs false

set_option maxHeartbeats 3200000 in
set_option maxRecDepth 100000 in
theorem ordC_loop (wx : World) (g B0 : Nat) (A : Option Addr) (cap : Nat) (l : List Nat) (hl : ∀ b ∈ l, b < 256) (hlen : l.length ≤ 9223372036854775807) (hf : FewAt wx g 16 noKids) {u0 u1 u3 u4 u5 u6 u7 u8 u9 u10 u12 u14 u15 u16 u17 u18 u19 u20 u21 u22 u23 u24 u25 u26 u27 u28 u29 u30 u31 u32 u33 u34 u35 u36 u37 u38 u39 u40 u41 u42 u43 u44 u45 u46 u47 u48 u49 u50 u51 u52 u53 u54 u55 u56 u57 u58 u59 u60 u61 u62 u63 u64 u65 u66 u67 u68 u69 u70 u71 u72 u73 u74 u75 u76 u77 u78 u79 u80 u81 u82 u83 u84 u85 u86 u87 u88 u89 u90 u91 u92 u93 u94 u95 u96 u97 u98 u99 u100 u101 u102 u103 u104 u105 u106 u107 u108 u109 u110 u111 u112 u113 u114 u115 u116 u117 u118 u119 u120 u121 u122 u123 u124 u125 u126 u127 u128 u129 u130 u131 u132 u133 u134 u135 u136 u137 u138 u139 u140 u141 u142 u143 u144 u145 u146 u147 u148 u149 u150 u151 u152 u153 u154 u155 u156 u157 u158 u159 u160 u161 u162 u163 u164 u165 u166 u167 u168 u169 u170 u171 u172 u173 u174 u175 u176 u177 u178 u179 u180 u181 u182 u183 u184 u185 u186 u187 u188 u189 u190 u191 u192 u193 u194 u195 u196 u197 u198 u199 u200 u201 u202 u203 u204 u205 u206 u207 u208 u209 u210 u211 u212 u213 u214 u215 u216 : Value} {Q : Exit → Act → World → Prop} (R : World → Prop) (hR0 : R wx) (hRk : ∀ W W', R W → W.grownBy W' (some g) → R W') (hRd : ∀ W, R W → Reads W B0 1 A l.length (l.flatMap nrow))
    (hQ : ∀ (W : World) (y14 y60 y61 y62 y63 y64 y65 y66 y67 y68 y69 y70 y71 y72 y73 y74 y75 : Value) (f : Kids), FewAt W g 16 f → (∀ x, (f x).isSome = true → x ∈ l) → R W → Q .normal ⟨#[u0, u1, .slice A l.length cap, u3, u4, u5, u6, u7, u8, u9, u10, .pointer (some ⟨g, 0, none⟩), u12, .int .i64 (cntK f : Int), y14, u15, u16, u17, u18, u19, u20, u21, u22, u23, u24, u25, u26, u27, u28, u29, u30, u31, u32, u33, u34, u35, u36, u37, u38, u39, u40, u41, u42, u43, u44, u45, u46, u47, u48, u49, u50, u51, u52, u53, u54, u55, u56, u57, u58, u59, y60, y61, y62, y63, y64, y65, y66, y67, y68, y69, y70, y71, y72, y73, y74, y75, u76, u77, u78, u79, u80, u81, u82, u83, u84, u85, u86, u87, u88, u89, u90, u91, u92, u93, u94, u95, u96, u97, u98, u99, u100, u101, u102, u103, u104, u105, u106, u107, u108, u109, u110, u111, u112, u113, u114, u115, u116, u117, u118, u119, u120, u121, u122, u123, u124, u125, u126, u127, u128, u129, u130, u131, u132, u133, u134, u135, u136, u137, u138, u139, u140, u141, u142, u143, u144, u145, u146, u147, u148, u149, u150, u151, u152, u153, u154, u155, u156, u157, u158, u159, u160, u161, u162, u163, u164, u165, u166, u167, u168, u169, u170, u171, u172, u173, u174, u175, u176, u177, u178, u179, u180, u181, u182, u183, u184, u185, u186, u187, u188, u189, u190, u191, u192, u193, u194, u195, u196, u197, u198, u199, u200, u201, u202, u203, u204, u205, u206, u207, u208, u209, u210, u211, u212, u213, u214, u215, u216], []⟩ W) :
    Code.wp Try.prog (part Try.f3 [1, 1, 1, 1, 1, 1, 1, 0]) Q ⟨#[u0, u1, .slice A l.length cap, u3, u4, u5, u6, u7, u8, u9, u10, .pointer (some ⟨g, 0, none⟩), u12, .int .i64 0, u14, u15, u16, u17, u18, u19, u20, u21, u22, u23, u24, u25, u26, u27, u28, u29, u30, u31, u32, u33, u34, u35, u36, u37, u38, u39, u40, u41, u42, u43, u44, u45, u46, u47, u48, u49, u50, u51, u52, u53, u54, u55, u56, u57, u58, u59, u60, u61, u62, u63, u64, u65, u66, u67, u68, u69, u70, u71, u72, u73, u74, u75, u76, u77, u78, u79, u80, u81, u82, u83, u84, u85, u86, u87, u88, u89, u90, u91, u92, u93, u94, u95, u96, u97, u98, u99, u100, u101, u102, u103, u104, u105, u106, u107, u108, u109, u110, u111, u112, u113, u114, u115, u116, u117, u118, u119, u120, u121, u122, u123, u124, u125, u126, u127, u128, u129, u130, u131, u132, u133, u134, u135, u136, u137, u138, u139, u140, u141, u142, u143, u144, u145, u146, u147, u148, u149, u150, u151, u152, u153, u154, u155, u156, u157, u158, u159, u160, u161, u162, u163, u164, u165, u166, u167, u168, u169, u170, u171, u172, u173, u174, u175, u176, u177, u178, u179, u180, u181, u182, u183, u184, u185, u186, u187, u188, u189, u190, u191, u192, u193, u194, u195, u196, u197, u198, u199, u200, u201, u202, u203, u204, u205, u206, u207, u208, u209, u210, u211, u212, u213, u214, u215, u216], []⟩ wx := by
  conv => arg 2; whnf
  have HL := Lib.hid hl
  have HR0 := Lib.hid hR0
  have HRK := Lib.hid hRk
  have HRD := Lib.hid hRd
  have HQ := Lib.hid hQ
  clear hl hR0 hRk hRd hQ
  have HF0 := Lib.hid hf
  clear hf
  go_wp2_with fail
  go_loopw [13, 14] (fun m i wr => ∃ (k : Nat) (f : Kids), k ≤ l.length ∧ i = .int .i64 k ∧ m = .int .i64 (cntK f : Int) ∧ Hid (FewAt wr g 16 f ∧ (∀ x, (f x).isSome = true → x ∈ l.take k) ∧ R wr)) (fun _ i _ => l.length - (intOf i).toNat)
  case atStart => exact ⟨0, noKids, Nat.zero_le _, rfl, by rw [noKids_cnt]; rfl, Lib.hid ⟨HF0.out, fun x h => by (cases h), HR0.out⟩⟩
  case round =>
    obtain ⟨k, f, hk, rfl, rfl, HW⟩ := hrel
    by_cases hlt : k < l.length
    · obtain ⟨ad, rfl, hab, c0⟩ := byte_at (HRD.out wr HW.out.2.2) hlt
      have hb256 := HL.out _ (List.getElem_mem hlt)
      have htake : l.take (k + 1) = l.take k ++ [l[k]] := List.take_succ_eq_append_getElem hlt
      generalize l[k] = b at c0 hb256 htake
      have hb0 : (0 : Int) ≤ (b : Int) := by omega
      have hb1 : (b : Int) ≤ 255 := by omega
      have i1 : (0 : Int) ≤ (k : Int) := by omega
      have i2 : (k : Int) < (l.length : Int) := by omega
      have hc := cnt_256 f
      have hP : Calls Try.prog 10 #[.pointer (some ⟨g, 0, none⟩), .int .u8 (b : Int), .agg #[.int .i64 300, .int .u32 0]] wr (FewEnd (.int .i64 (putK 16 f b (300, 0)).1) g 16 (putK 16 f b (300, 0)).2 wr) := Put_k g 16 f b (300, 0) wr HW.out.1 hb256
      obtain ⟨q1, q2, q3⟩ := put_law f (300, 0) hb256
      generalize (putK 16 f b (300, 0)).1 = p1 at hP q1 q2 q3
      generalize (putK 16 f b (300, 0)).2 = f2 at hP q1 q2 q3
      have HP := Lib.hid hP
      have HT := Lib.hid htake
      have H3 := Lib.hid q3
      clear hP htake q3
      by_cases hz : p1 = 0
      · have hzb : (p1 == 0) = true := by rw [hz]; rfl
        have hc2 := q1 hz
        clear q1 q2
        go_wp2_with fail
        refine HP.out.mono ?_
        rintro e wn ⟨rfl, hfn, hgn⟩
        have HN := Lib.hid (And.intro hfn (And.intro (fun x h => (by rw [HT.out]; rcases H3.out x h with h | h; exact List.mem_append_left _ (HW.out.2.1 x h); exact List.mem_append_right _ (by simp [h]) : x ∈ l.take (k + 1))) (HRK.out _ _ HW.out.2.2 hgn)))
        clear hfn hgn
        go_wp2_with fail
        go_roundw
        case rel => exact ⟨k + 1, f2, by omega, by go_num, by rw [hc2]; go_num, HN⟩
        case measure => simp [intOf]; omega
      · have hzb : (p1 == 0) = false := beq_eq_false_iff_ne.2 hz
        have hff := q2 hz
        clear q1 q2
        subst hff
        go_wp2_with fail
        refine HP.out.mono ?_
        rintro e wn ⟨rfl, hfn, hgn⟩
        have HN := Lib.hid (And.intro hfn (And.intro (fun x h => (by rw [HT.out]; rcases H3.out x h with h | h; exact List.mem_append_left _ (HW.out.2.1 x h); exact List.mem_append_right _ (by simp [h]) : x ∈ l.take (k + 1))) (HRK.out _ _ HW.out.2.2 hgn)))
        clear hfn hgn
        go_wp2_with fail
        go_roundw
        case rel => exact ⟨k + 1, _, by omega, by go_num, rfl, HN⟩
        case measure => simp [intOf]; omega
    · obtain rfl : k = l.length := by omega
      have i2 : ¬ ((l.length : Int) < (l.length : Int)) := by omega
      go_wp2_with fail
      exact HQ.out _ _ _ _ _ _ _ _ _ _ _ _ _ _ _ _ _ _ f HW.out.1 (fun x h => by have := HW.out.2.1 x h; rwa [List.take_length] at this) HW.out.2.2

set_option maxHeartbeats 3200000 in
set_option maxRecDepth 100000 in
theorem ordD_loop (wx : World) (g B0 : Nat) (A : Option Addr) (cap : Nat) (l : List Nat) (hl : ∀ b ∈ l, b < 256) (hlen : l.length ≤ 9223372036854775807) (f : Kids) (hf : FewAt wx g 16 f) (hfl : ∀ x, (f x).isSome = true → x ∈ l) {u0 u1 u3 u4 u5 u6 u7 u8 u9 u10 u12 u14 u15 u16 u17 u18 u19 u20 u21 u22 u23 u24 u25 u26 u27 u28 u29 u30 u31 u32 u33 u34 u35 u36 u37 u38 u39 u40 u41 u42 u43 u44 u45 u46 u47 u48 u49 u50 u51 u52 u53 u54 u55 u56 u57 u58 u59 u60 u61 u62 u63 u64 u65 u66 u67 u68 u69 u70 u71 u72 u73 u74 u75 u76 u77 u78 u79 u80 u81 u82 u83 u84 u85 u86 u87 u88 u89 u90 u91 u92 u93 u94 u95 u96 u97 u98 u99 u100 u101 u102 u103 u104 u105 u106 u107 u108 u109 u110 u111 u112 u113 u114 u115 u116 u117 u118 u119 u120 u121 u122 u123 u124 u125 u126 u127 u128 u129 u130 u131 u132 u133 u134 u135 u136 u137 u138 u139 u140 u141 u142 u143 u144 u145 u146 u147 u148 u149 u150 u151 u152 u153 u154 u155 u156 u157 u158 u159 u160 u161 u162 u163 u164 u165 u166 u167 u168 u169 u170 u171 u172 u173 u174 u175 u176 u177 u178 u179 u180 u181 u182 u183 u184 u185 u186 u187 u188 u189 u190 u191 u192 u193 u194 u195 u196 u197 u198 u199 u200 u201 u202 u203 u204 u205 u206 u207 u208 u209 u210 u211 u212 u213 u214 u215 u216 : Value} {Q : Exit → Act → World → Prop} (R : World → Prop) (hR0 : R wx) (hRk : ∀ W W', R W → W.grownBy W' (some g) → R W') (hRd : ∀ W, R W → Reads W B0 1 A l.length (l.flatMap nrow))
    (hQ : ∀ (W : World) (y15 y16 y17 y76 y77 y78 y79 y80 y81 y82 y83 y84 y85 y86 y87 y88 y89 y90 y91 y92 y93 y94 : Value), FewAt W g 16 noKids → R W → Q .normal ⟨#[u0, u1, .slice A l.length cap, u3, u4, u5, u6, u7, u8, u9, u10, .pointer (some ⟨g, 0, none⟩), u12, .int .i64 0, u14, y15, y16, y17, u18, u19, u20, u21, u22, u23, u24, u25, u26, u27, u28, u29, u30, u31, u32, u33, u34, u35, u36, u37, u38, u39, u40, u41, u42, u43, u44, u45, u46, u47, u48, u49, u50, u51, u52, u53, u54, u55, u56, u57, u58, u59, u60, u61, u62, u63, u64, u65, u66, u67, u68, u69, u70, u71, u72, u73, u74, u75, y76, y77, y78, y79, y80, y81, y82, y83, y84, y85, y86, y87, y88, y89, y90, y91, y92, y93, y94, u95, u96, u97, u98, u99, u100, u101, u102, u103, u104, u105, u106, u107, u108, u109, u110, u111, u112, u113, u114, u115, u116, u117, u118, u119, u120, u121, u122, u123, u124, u125, u126, u127, u128, u129, u130, u131, u132, u133, u134, u135, u136, u137, u138, u139, u140, u141, u142, u143, u144, u145, u146, u147, u148, u149, u150, u151, u152, u153, u154, u155, u156, u157, u158, u159, u160, u161, u162, u163, u164, u165, u166, u167, u168, u169, u170, u171, u172, u173, u174, u175, u176, u177, u178, u179, u180, u181, u182, u183, u184, u185, u186, u187, u188, u189, u190, u191, u192, u193, u194, u195, u196, u197, u198, u199, u200, u201, u202, u203, u204, u205, u206, u207, u208, u209, u210, u211, u212, u213, u214, u215, u216], []⟩ W) :
    Code.wp Try.prog (part Try.f3 [1, 1, 1, 1, 1, 1, 1, 1, 0]) Q ⟨#[u0, u1, .slice A l.length cap, u3, u4, u5, u6, u7, u8, u9, u10, .pointer (some ⟨g, 0, none⟩), u12, .int .i64 (cntK f : Int), u14, u15, u16, u17, u18, u19, u20, u21, u22, u23, u24, u25, u26, u27, u28, u29, u30, u31, u32, u33, u34, u35, u36, u37, u38, u39, u40, u41, u42, u43, u44, u45, u46, u47, u48, u49, u50, u51, u52, u53, u54, u55, u56, u57, u58, u59, u60, u61, u62, u63, u64, u65, u66, u67, u68, u69, u70, u71, u72, u73, u74, u75, u76, u77, u78, u79, u80, u81, u82, u83, u84, u85, u86, u87, u88, u89, u90, u91, u92, u93, u94, u95, u96, u97, u98, u99, u100, u101, u102, u103, u104, u105, u106, u107, u108, u109, u110, u111, u112, u113, u114, u115, u116, u117, u118, u119, u120, u121, u122, u123, u124, u125, u126, u127, u128, u129, u130, u131, u132, u133, u134, u135, u136, u137, u138, u139, u140, u141, u142, u143, u144, u145, u146, u147, u148, u149, u150, u151, u152, u153, u154, u155, u156, u157, u158, u159, u160, u161, u162, u163, u164, u165, u166, u167, u168, u169, u170, u171, u172, u173, u174, u175, u176, u177, u178, u179, u180, u181, u182, u183, u184, u185, u186, u187, u188, u189, u190, u191, u192, u193, u194, u195, u196, u197, u198, u199, u200, u201, u202, u203, u204, u205, u206, u207, u208, u209, u210, u211, u212, u213, u214, u215, u216], []⟩ wx := by
  conv => arg 2; whnf
  have HL := Lib.hid hl
  have HR0 := Lib.hid hR0
  have HRK := Lib.hid hRk
  have HRD := Lib.hid hRd
  have HQ := Lib.hid hQ
  clear hl hR0 hRk hRd hQ
  have HF0 := Lib.hid (And.intro hf hfl)
  clear hf hfl
  go_wp2_with fail
  go_loopw [13, 15] (fun m i wr => ∃ (k : Nat) (f : Kids), k ≤ l.length ∧ i = .int .i64 k ∧ m = .int .i64 (cntK f : Int) ∧ Hid (FewAt wr g 16 f ∧ (∀ x, (f x).isSome = true → x ∈ l.drop k) ∧ R wr)) (fun _ i _ => l.length - (intOf i).toNat)
  case atStart => exact ⟨0, f, Nat.zero_le _, rfl, rfl, Lib.hid ⟨HF0.out.1, fun x h => HF0.out.2 x h, HR0.out⟩⟩
  case round =>
    clear HF0 f
    obtain ⟨k, f, hk, rfl, rfl, HW⟩ := hrel
    by_cases hlt : k < l.length
    · obtain ⟨ad, rfl, hab, c0⟩ := byte_at (HRD.out wr HW.out.2.2) hlt
      have hb256 := HL.out _ (List.getElem_mem hlt)
      have hdrop : l.drop k = l[k] :: l.drop (k + 1) := List.drop_eq_getElem_cons hlt
      generalize l[k] = b at c0 hb256 hdrop
      have hb0 : (0 : Int) ≤ (b : Int) := by omega
      have hb1 : (b : Int) ≤ 255 := by omega
      have i1 : (0 : Int) ≤ (k : Int) := by omega
      have i2 : (k : Int) < (l.length : Int) := by omega
      have hc := cnt_256 f
      have hP := Take_k g 16 f b wr HW.out.1 hb256
      obtain ⟨q1, q2, q3⟩ := take_law2 f hb256
      generalize (takeK f b).1.2 = p1 at hP q1 q2 q3
      generalize (takeK f b).1.1 = p0 at hP
      generalize (takeK f b).2 = f2 at hP q1 q2 q3
      have HP := Lib.hid hP
      have HT := Lib.hid hdrop
      have H3 := Lib.hid q3
      clear hP hdrop q3
      by_cases hz : p1 = 0
      · have hzb : (p1 == 0) = true := by rw [hz]; rfl
        have hc2 := q1 hz
        clear q1 q2
        go_wp2_with fail
        refine HP.out.mono ?_
        rintro e wn ⟨rfl, hfn, hgn⟩
        have HN := Lib.hid (And.intro (hfn.below (below_box wn (.cells #[.int .i64 p0.1, .int .u32 p0.2] 31))) (And.intro (fun x h => (by have h2 := HW.out.2.1 x (H3.out x h).1; rw [HT.out] at h2; rcases List.mem_cons.1 h2 with h2 | h2; exact absurd h2 (H3.out x h).2; exact h2 : x ∈ l.drop (k + 1))) (HRK.out _ _ (HRK.out _ _ HW.out.2.2 hgn) (World.grownBy_alloc wn (.cells #[.int .i64 p0.1, .int .u32 p0.2] 31) _))))
        clear hfn hgn
        go_wp2_with fail
        go_roundw
        case rel => exact ⟨k + 1, f2, by omega, by go_num, by rw [← hc2]; go_num, HN⟩
        case measure => simp [intOf]; omega
      · have hzb : (p1 == 0) = false := beq_eq_false_iff_ne.2 hz
        have hff := q2 hz
        clear q1 q2
        subst hff
        go_wp2_with fail
        refine HP.out.mono ?_
        rintro e wn ⟨rfl, hfn, hgn⟩
        have HN := Lib.hid (And.intro (hfn.below (below_box wn (.cells #[.int .i64 p0.1, .int .u32 p0.2] 31))) (And.intro (fun x h => (by have h2 := HW.out.2.1 x (H3.out x h).1; rw [HT.out] at h2; rcases List.mem_cons.1 h2 with h2 | h2; exact absurd h2 (H3.out x h).2; exact h2 : x ∈ l.drop (k + 1))) (HRK.out _ _ (HRK.out _ _ HW.out.2.2 hgn) (World.grownBy_alloc wn (.cells #[.int .i64 p0.1, .int .u32 p0.2] 31) _))))
        clear hfn hgn
        go_wp2_with fail
        go_roundw
        case rel => exact ⟨k + 1, _, by omega, by go_num, rfl, HN⟩
        case measure => simp [intOf]; omega
    · obtain rfl : k = l.length := by omega
      have i2 : ¬ ((l.length : Int) < (l.length : Int)) := by omega
      obtain rfl : f = noKids := no_kids (fun x h => by have := HW.out.2.1 x h; rw [List.drop_length] at this; cases this)
      rw [noKids_cnt]
      go_wp2_with fail
      exact HQ.out _ _ _ _ _ _ _ _ _ _ _ _ _ _ _ _ _ _ _ _ _ _ _  HW.out.1 HW.out.2.2

set_option maxHeartbeats 3200000 in
set_option maxRecDepth 100000 in
theorem ordE_loop (wx : World) (g B0 : Nat) (A : Option Addr) (cap : Nat) (l : List Nat) (hl : ∀ b ∈ l, b < 256) (hlen : l.length ≤ 16) (turn : Int) (h1 : -9223372036854775808 ≤ turn) (h2 : turn ≤ 9223372036854775807) (hf : FewAt wx g 16 noKids) {u2 u3 u4 u5 u6 u7 u8 u9 u10 u12 u13 u14 u15 u16 u17 u19 u20 u21 u22 u23 u24 u25 u26 u27 u28 u29 u30 u31 u32 u33 u34 u35 u36 u37 u38 u39 u40 u41 u42 u43 u44 u45 u46 u47 u48 u49 u50 u51 u52 u53 u54 u55 u56 u57 u58 u59 u60 u61 u62 u63 u64 u65 u66 u67 u68 u69 u70 u71 u72 u73 u74 u75 u76 u77 u78 u79 u80 u81 u82 u83 u84 u85 u86 u87 u88 u89 u90 u91 u92 u93 u94 u95 u96 u97 u98 u99 u100 u101 u102 u103 u104 u105 u106 u107 u108 u109 u110 u111 u112 u113 u114 u115 u116 u117 u118 u119 u120 u121 u122 u123 u124 u125 u126 u127 u128 u129 u130 u131 u132 u133 u134 u135 u136 u137 u138 u139 u140 u141 u142 u143 u144 u145 u146 u147 u148 u149 u150 u151 u152 u153 u154 u155 u156 u157 u158 u159 u160 u161 u162 u163 u164 u165 u166 u167 u168 u169 u170 u171 u172 u173 u174 u175 u176 u177 u178 u179 u180 u181 u182 u183 u184 u185 u186 u187 u188 u189 u190 u191 u192 u193 u194 u195 u196 u197 u198 u199 u200 u201 u202 u203 u204 u205 u206 u207 u208 u209 u210 u211 u212 u213 u214 u215 u216 : Value} {Q : Exit → Act → World → Prop} (R : World → Prop) (hR0 : R wx) (hRk : ∀ W W', R W → W.grownBy W' (some g) → R W') (hRd : ∀ W, R W → Reads W B0 1 A l.length (l.flatMap nrow))
    (hQ : ∀ (W : World) (y19 y20 y95 y96 y97 y98 y99 y100 y101 y102 y103 y104 y105 y106 y107 y108 y109 y110 y111 y112 y113 y114 y115 y116 y117 y118 y119 y120 y121 : Value), FewAt W g 16 (rowK l).1 → R W → Q .normal ⟨#[.slice A l.length cap, .int .i64 turn, u2, u3, u4, u5, u6, u7, u8, u9, u10, .pointer (some ⟨g, 0, none⟩), u12, u13, u14, u15, u16, u17, .int .i64 ((rowK l).2 : Int), y19, y20, u21, u22, u23, u24, u25, u26, u27, u28, u29, u30, u31, u32, u33, u34, u35, u36, u37, u38, u39, u40, u41, u42, u43, u44, u45, u46, u47, u48, u49, u50, u51, u52, u53, u54, u55, u56, u57, u58, u59, u60, u61, u62, u63, u64, u65, u66, u67, u68, u69, u70, u71, u72, u73, u74, u75, u76, u77, u78, u79, u80, u81, u82, u83, u84, u85, u86, u87, u88, u89, u90, u91, u92, u93, u94, y95, y96, y97, y98, y99, y100, y101, y102, y103, y104, y105, y106, y107, y108, y109, y110, y111, y112, y113, y114, y115, y116, y117, y118, y119, y120, y121, u122, u123, u124, u125, u126, u127, u128, u129, u130, u131, u132, u133, u134, u135, u136, u137, u138, u139, u140, u141, u142, u143, u144, u145, u146, u147, u148, u149, u150, u151, u152, u153, u154, u155, u156, u157, u158, u159, u160, u161, u162, u163, u164, u165, u166, u167, u168, u169, u170, u171, u172, u173, u174, u175, u176, u177, u178, u179, u180, u181, u182, u183, u184, u185, u186, u187, u188, u189, u190, u191, u192, u193, u194, u195, u196, u197, u198, u199, u200, u201, u202, u203, u204, u205, u206, u207, u208, u209, u210, u211, u212, u213, u214, u215, u216], []⟩ W) :
    Code.wp Try.prog (part Try.f3 [1, 1, 1, 1, 1, 1, 1, 1, 1, 1, 0]) Q ⟨#[.slice A l.length cap, .int .i64 turn, u2, u3, u4, u5, u6, u7, u8, u9, u10, .pointer (some ⟨g, 0, none⟩), u12, u13, u14, u15, u16, u17, .int .i64 0, u19, u20, u21, u22, u23, u24, u25, u26, u27, u28, u29, u30, u31, u32, u33, u34, u35, u36, u37, u38, u39, u40, u41, u42, u43, u44, u45, u46, u47, u48, u49, u50, u51, u52, u53, u54, u55, u56, u57, u58, u59, u60, u61, u62, u63, u64, u65, u66, u67, u68, u69, u70, u71, u72, u73, u74, u75, u76, u77, u78, u79, u80, u81, u82, u83, u84, u85, u86, u87, u88, u89, u90, u91, u92, u93, u94, u95, u96, u97, u98, u99, u100, u101, u102, u103, u104, u105, u106, u107, u108, u109, u110, u111, u112, u113, u114, u115, u116, u117, u118, u119, u120, u121, u122, u123, u124, u125, u126, u127, u128, u129, u130, u131, u132, u133, u134, u135, u136, u137, u138, u139, u140, u141, u142, u143, u144, u145, u146, u147, u148, u149, u150, u151, u152, u153, u154, u155, u156, u157, u158, u159, u160, u161, u162, u163, u164, u165, u166, u167, u168, u169, u170, u171, u172, u173, u174, u175, u176, u177, u178, u179, u180, u181, u182, u183, u184, u185, u186, u187, u188, u189, u190, u191, u192, u193, u194, u195, u196, u197, u198, u199, u200, u201, u202, u203, u204, u205, u206, u207, u208, u209, u210, u211, u212, u213, u214, u215, u216], []⟩ wx := by
  conv => arg 2; whnf
  have HL := Lib.hid hl
  have HR0 := Lib.hid hR0
  have HRK := Lib.hid hRk
  have HRD := Lib.hid hRd
  have HQ := Lib.hid hQ
  clear hl hR0 hRk hRd hQ
  have HF0 := Lib.hid hf
  clear hf
  have hp0 : l.length ≠ 0 → 0 ≤ pickM turn (l.length : Int) ∧ pickM turn (l.length : Int) < (l.length : Int) := fun h => pick_in (by omega)
  obtain ⟨pn, hpn⟩ : ∃ pn : Nat, pn = (pickM turn (l.length : Int)).toNat := ⟨_, rfl⟩
  have hpk : l.length ≠ 0 → pickM turn (l.length : Int) = (pn : Int) ∧ pn < l.length := fun h => by have := hp0 h; omega
  have hrot : rowK (rotL pn l) = rowK l := row_rot (by by_cases h : l.length = 0; exact .inr h; exact .inl (hpk h).2) hlen HL.out
  have HROT := Lib.hid hrot
  have HBAD := Lib.hid (fun k => rowK_bad ((rotL pn l).take k))
  have HPK := Lib.hid hpk
  clear hrot hpk hp0 hpn
  go_wp2_with fail
  go_loopw [18, 19] (fun m i wr => ∃ (k : Nat), k ≤ l.length ∧ i = .int .i64 k ∧ m = .int .i64 ((rowK ((rotL pn l).take k)).2 : Int) ∧ Hid (FewAt wr g 16 (rowK ((rotL pn l).take k)).1 ∧ True ∧ R wr)) (fun _ i _ => l.length - (intOf i).toNat)
  case atStart => exact ⟨0, Nat.zero_le _, rfl, rfl, Lib.hid ⟨HF0.out, trivial, HR0.out⟩⟩
  case round =>
    obtain ⟨k, hk, rfl, rfl, HW⟩ := hrel
    by_cases hlt : k < l.length
    · obtain ⟨hp1, hp2⟩ := HPK.out (by omega)
      have hmod : (k + pn) % l.length < l.length := Nat.mod_lt _ (by omega)
      have htake := rotL_succ (p := pn) hlt hmod
      obtain ⟨ad, rfl, hab, c0⟩ := byte_at (HRD.out wr HW.out.2.2) hmod
      have hb256 := HL.out _ (List.getElem_mem hmod)
      generalize l[(k + pn) % l.length] = b at c0 hb256 htake
      have hrem : ((k : Int) + (pn : Int)).tmod (l.length : Int) = (((k + pn) % l.length : Nat) : Int) := by
        rw [Int.tmod_eq_emod_of_nonneg (by omega)]; rfl
      have hrem0 : ((l.length : Int) == 0) = false := beq_eq_false_iff_ne.2 (by omega)
      have hrem1 : ¬ ((l.length : Int) = 0) := by omega
      generalize (k + pn) % l.length = j at c0 hmod hrem
      have i3 : (0 : Int) ≤ (j : Int) := by omega
      have i4 : (j : Int) < (l.length : Int) := by omega
      have hPK := pick_any turn (l.length : Int) wr h1 h2 (by omega) (by omega)
      rw [hp1] at hPK
      have hb0 : (0 : Int) ≤ (b : Int) := by omega
      have hb1 : (b : Int) ≤ 255 := by omega
      have i1 : (0 : Int) ≤ (k : Int) := by omega
      have i2 : (k : Int) < (l.length : Int) := by omega
      have hbad := HBAD.out k
      rw [List.length_take, rotL_len] at hbad
      obtain ⟨bd, hbd⟩ : ∃ bd, (rowK ((rotL pn l).take k)).2 = bd := ⟨_, rfl⟩
      rw [hbd] at hbad ⊢
      have HS : Hid (rowK ((rotL pn l).take (k + 1)) = rowStep (rowK ((rotL pn l).take k)) b) := Lib.hid (by rw [htake, rowK_snoc])
      have HBD := Lib.hid hbd
      obtain ⟨p, hp⟩ : ∃ p, putK 16 (rowK ((rotL pn l).take k)).1 b ((b : Int), 1) = p := ⟨_, rfl⟩
      have hput : ∀ V, FewAt V g 16 (rowK ((rotL pn l).take k)).1 → Calls Try.prog 10 #[.pointer (some ⟨g, 0, none⟩), .int .u8 (b : Int), .agg #[.int .i64 (b : Int), .int .u32 1]] V (FewEnd (.int .i64 (putK 16 (rowK ((rotL pn l).take k)).1 b ((b : Int), 1)).1) g 16 (putK 16 (rowK ((rotL pn l).take k)).1 b ((b : Int), 1)).2 V) := fun V h => Put_k g 16 _ b ((b : Int), 1) V h hb256
      have sw : IntKind.i64.wrap (b : Int) = (b : Int) := IntWalk.i64_in _ (by omega)
      have sk : IntKind.i64.wrap ((k : Int) + (pn : Int)) = (k : Int) + (pn : Int) := IntWalk.i64_in _ (by omega)
      have sj : IntKind.i64.wrap (j : Int) = (j : Int) := IntWalk.i64_in _ (by omega)
      rw [hp] at hput
      have HP := Lib.hid hput
      have HPP := Lib.hid hp
      have HPI := Lib.hid hPK
      clear htake hput hp hbd hPK hp1
      by_cases hz : p.1 = 0
      · have hzb : (p.1 != 0) = false := by rw [hz]; rfl
        have HZ := Lib.hid hz
        clear hz
        go_wp2_with fail
        refine HPI.out.mono ?_
        rintro e wn ⟨rfl, rfl⟩
        clear HPI
        go_wp2_with fail
        refine (HP.out _ HW.out.1).mono ?_
        rintro e wm ⟨rfl, hfn, hgn⟩
        have HN := Lib.hid (And.intro hfn (And.intro True.intro (HRK.out _ _ HW.out.2.2 hgn)))
        clear hfn hgn sw
        go_wp2_with fail
        go_roundw
        case rel =>
          refine ⟨k + 1, by omega, by go_num, ?_, Lib.hid ⟨?_, HN.out.2⟩⟩
          · rw [HS.out]; unfold rowStep; rw [HPP.out, if_pos HZ.out, HBD.out]
          · rw [HS.out]; unfold rowStep; rw [HPP.out]; exact HN.out.1
        case measure => simp [intOf]; omega
      · have hzb : (p.1 != 0) = true := by rw [bne_iff_ne]; exact hz
        have HZ := Lib.hid hz
        have hbd9 : (bd : Int) ≤ 9223372036854775806 := by omega
        have hbd0 : (0 : Int) ≤ (bd : Int) := by omega
        clear hz
        go_wp2_with fail
        refine HPI.out.mono ?_
        rintro e wn ⟨rfl, rfl⟩
        clear HPI
        go_wp2_with fail
        refine (HP.out _ HW.out.1).mono ?_
        rintro e wm ⟨rfl, hfn, hgn⟩
        have HN := Lib.hid (And.intro hfn (And.intro True.intro (HRK.out _ _ HW.out.2.2 hgn)))
        clear hfn hgn sw
        go_wp2_with fail
        go_roundw
        case rel =>
          refine ⟨k + 1, by omega, by go_num, ?_, Lib.hid ⟨?_, HN.out.2⟩⟩
          · rw [HS.out]; unfold rowStep; rw [HPP.out, if_neg HZ.out, HBD.out]; go_num
          · rw [HS.out]; unfold rowStep; rw [HPP.out]; exact HN.out.1
        case measure => simp [intOf]; omega
    · obtain rfl : k = l.length := by omega
      have i2 : ¬ ((l.length : Int) < (l.length : Int)) := by omega
      have hfin := HW.out.1
      have hr : rowK ((rotL pn l).take l.length) = rowK l := by rw [← rotL_len pn l, List.take_length]; exact HROT.out
      rw [hr] at hfin ⊢
      have HF := Lib.hid hfin
      clear hfin hr
      go_wp2_with fail
      exact HQ.out _ _ _ _ _ _ _ _ _ _ _ _ _ _ _ _ _ _ _ _ _ _ _ _ _ _ _ _ _ _  HF.out HW.out.2.2

end Go.Proofs.Ytmcpfhhggapkcaa
