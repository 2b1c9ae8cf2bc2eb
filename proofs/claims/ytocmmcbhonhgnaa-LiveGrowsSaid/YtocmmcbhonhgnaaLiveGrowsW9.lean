/-
  Walks: LiveGrows, its last part.
-/
import Derived.Test.YtocmmcbhonhgnaaLiveGrowsM
import Derived.Test.YtocmmcbhonhgnaaLiveAwakeW
import Derived.Test.YtocmmcbhonhgnaaTail
namespace Go.Proofs.Ytocmmcbhonhgnaa
open Go.RowKit
set_option linter.unusedVariables false

set_option maxHeartbeats 3200000 in
set_option maxRecDepth 100000 in
theorem grows9 (r : Req) (t m : Int) {u0 u1 u2 u3 u5 u6 u7 u11 u12 u13 u14 u15 u16 u17 u18 u19 u20 u21 u22 u23 u24 u25 u26 u27 u28 u29 u30 u31 u32 u33 u34 u35 u36 u37 u38 u39 u40 u41 u42 u43 u44 u45 u46 u47 u48 u49 u50 u51 u52 u53 u54 u55 u56 u57 u58 u59 u60 u61 u62 u63 u64 u65 u66 u67 u68 u69 u70 u71 u72 u73 u74 u75 u76 u77 u78 u79 u80 u81 u82 u83 u84 u85 u86 u87 u88 u89 u90 u91 u92 u93 u94 u95 u96 u97 u98 u99 u100 u101 u102 u103 u104 u105 u106 u107 u108 u109 u110 u111 u112 u113 u114 u115 u116 u117 u118 u119 u120 u121 u122 u123 u124 u125 u126 u127 u128 u129 u130 u131 u132 u133 u134 u135 u136 u137 u138 u139 u140 u141 u142 u143 u144 u145 u146 u147 u148 u149 u150 u151 u152 u153 u154 u155 u156 u157 u158 u159 u160 u161 u162 u163 u164 u165 u166 u167 u168 u169 u170 u171 u172 u173 u174 u175 u176 u177 u178 u179 u180 u181 u182 u183 u184 u185 u186 u187 u188 u189 u190 u191 u192 u193 u194 u195 u196 : Value} (w wx : World) (his : isB r = true) (ht : 0 ≤ t ∧ t ≤ 1048575) (hm : 0 ≤ m ∧ m ≤ 1048575) (hblk : Blk wx w.heap.size 31 r.row.toArray) (hbel : Below w.heap.size w wx) :
    Code.wp Try.prog (bodyTail Try.f6 9) (bodyPost Try.prog Try.f6 (BoolEnd true w)) ⟨#[u0, u1, u2, u3, .pointer (some ⟨w.heap.size, 0, none⟩), u5, u6, u7, .bool false, .int .i64 t, .int .i64 m, u11, u12, u13, u14, u15, u16, u17, u18, u19, u20, u21, u22, u23, u24, u25, u26, u27, u28, u29, u30, u31, u32, u33, u34, u35, u36, u37, u38, u39, u40, u41, u42, u43, u44, u45, u46, u47, u48, u49, u50, u51, u52, u53, u54, u55, u56, u57, u58, u59, u60, u61, u62, u63, u64, u65, u66, u67, u68, u69, u70, u71, u72, u73, u74, u75, u76, u77, u78, u79, u80, u81, u82, u83, u84, u85, u86, u87, u88, u89, u90, u91, u92, u93, u94, u95, u96, u97, u98, u99, u100, u101, u102, u103, u104, u105, u106, u107, u108, u109, u110, u111, u112, u113, u114, u115, u116, u117, u118, u119, u120, u121, u122, u123, u124, u125, u126, u127, u128, u129, u130, u131, u132, u133, u134, u135, u136, u137, u138, u139, u140, u141, u142, u143, u144, u145, u146, u147, u148, u149, u150, u151, u152, u153, u154, u155, u156, u157, u158, u159, u160, u161, u162, u163, u164, u165, u166, u167, u168, u169, u170, u171, u172, u173, u174, u175, u176, u177, u178, u179, u180, u181, u182, u183, u184, u185, u186, u187, u188, u189, u190, u191, u192, u193, u194, u195, u196], []⟩ wx := by
  conv => arg 2; whnf
  have et : smallB t = true := by simp [smallB]; omega
  have em : smallB m = true := by simp [smallB]; omega
  have hbp := bound_pos his et
  have HI := Lib.hid his
  obtain ⟨k, HK⟩ : ∃ k, Hid (enoughOf r t m = k) := ⟨_, rfl⟩
  obtain ⟨B, HB⟩ : ∃ k, Hid (boundOf r t = k) := ⟨_, rfl⟩
  have CK : Hid (∀ W, Calls Try.prog 15 #[r.v, .int .i64 t, .int .i64 m] W (IntEnd k W)) := fun W => by have := enough_any r t m W; rwa [HK.out] at this
  have CB : Hid (∀ W, Calls Try.prog 14 #[r.v, .int .i64 t] W (IntEnd B W)) := fun W => by have := bound_any r t W; rwa [HB.out] at this
  rw [HB.out] at hbp
  have s1 : IntKind.i64.wrap (B + m) = B + m := IntWalk.i64_in _ (by omega)
  have hz : k = 0 → picksOf r 4096 ≤ B + m := fun h => by rw [← HB.out]; exact enough_zero his et em (by rw [HK.out, h])
  have hs : k ≠ 0 → 2 ≤ k ∧ k ≤ 4096 ∧ B + m < picksOf r k ∧ ∀ c, 2 ≤ c → c < k → picksOf r c ≤ B + m := fun h => by
    have := enough_some his et em (by rw [HK.out]; exact h)
    rwa [HK.out, HB.out] at this
  have hls : k ≠ 0 → 2 ≤ enoughOf r (t / 2) (m / 2) ∧ enoughOf r (t / 2) (m / 2) ≤ k := fun h => by
    have := enough_less (s := t / 2) (t := t) (l := m / 2) (m := m) his (by omega) (by omega) (by omega) (by omega) (by omega) (by omega) (by rw [HK.out]; exact h)
    rwa [HK.out] at this
  have hp2 : picksOf r 2 ≤ B + m := by rw [← HB.out]; exact picks_two his (by omega) (by omega) (by omega)
  have HP2 := Lib.hid hp2
  clear hp2
  have HZ := Lib.hid hz
  have HS := Lib.hid hs
  have HLS := Lib.hid hls
  clear hz hs hls et em his
  obtain ⟨h0, h1, h2, h3, h4, h5, h6, h7, h8, h9, h10, h11⟩ := req_cells hblk
  go_wp2_with fail
  refine (CK.out _).mono ?_
  rintro e w1 ⟨rfl, hb⟩
  have hsz := hblk.lt
  have hblk1 := hblk.below hb hsz
  have hbel1 := below_trans hbel hb
  clear hb hblk hbel hsz h0 h1 h2 h3 h4 h5 h6 h7 h8 h9 h10 h11
  obtain ⟨h0, h1, h2, h3, h4, h5, h6, h7, h8, h9, h10, h11⟩ := req_cells hblk1
  by_cases hk : k = 0
  · have hkb : (k == 0) = true := by simp [hk]
    have hp := HZ.out hk
    obtain ⟨P, HP⟩ : ∃ p, Hid (picksOf r 4096 = p) := ⟨_, rfl⟩
    have CP : Hid (∀ W, Calls Try.prog 16 #[r.v, .int .i64 4096] W (IntEnd P W)) := fun W => by have := picks_any r 4096 W; rw [← HP.out]; exact this
    have CA : Hid (∀ W, Calls Try.prog 8 #[] W (BoolEnd true W)) := fun W => awake_any W
    rw [HP.out] at hp
    have hpd : decide (P ≤ B + m) = true := by simpa using hp
    clear hk
    go_wp2_with fail
    go_region_held3 (fun w' => Blk w' w.heap.size 31 r.row.toArray ∧ Below w.heap.size w w' ∧ w'.cell? ⟨w.heap.size, 0, none⟩ = some (.int .i64 r.deed) ∧ w'.cell? ⟨w.heap.size, 1, none⟩ = some (.int .i64 r.ten) ∧ w'.cell? ⟨w.heap.size, 2, none⟩ = some (.int .u32 r.gen) ∧ w'.cell? ⟨w.heap.size, 3, none⟩ = some (.int .u8 r.rig) ∧ w'.cell? ⟨w.heap.size, 4, none⟩ = some (.string r.key) ∧ w'.cell? ⟨w.heap.size, 5, none⟩ = some (.string r.val) ∧ w'.cell? ⟨w.heap.size, 6, none⟩ = some (.string r.old) ∧ w'.cell? ⟨w.heap.size, 7, none⟩ = some (.int .i64 r.lim) ∧ w'.cell? ⟨w.heap.size, 8, none⟩ = some (.int .i64 r.tenant) ∧ w'.cell? ⟨w.heap.size, 9, none⟩ = some (.int .u64 r.qk) ∧ w'.cell? ⟨w.heap.size, 10, none⟩ = some (.int .u64 r.qb) ∧ w'.cell? ⟨w.heap.size, 11, none⟩ = some (.int .u8 r.rights)) ((refine ⟨?_, ?_, ?_⟩ <;> first | assumption | (refine Blk.drew ?_; assumption) | (refine Below.drew ?_; assumption) | go_keep))
      (first | (go_at_call 16; (with_reducible refine (CP.out _).mono ?_); rintro e wn ⟨rfl, hb⟩; have hH := ‹Blk _ w.heap.size _ _ ∧ Below w.heap.size _ _ ∧ _›; have hkN := Blk.below hH.1 hb (Blk.lt hH.1); have hBN := below_trans hH.2.1 hb; obtain ⟨q0, q1, q2, q3, q4, q5, q6, q7, q8, q9, q10, q11⟩ := req_cells hkN) | (go_at_call 14; (with_reducible refine (CB.out _).mono ?_); rintro e wn ⟨rfl, hb⟩; have hH := ‹Blk _ w.heap.size _ _ ∧ Below w.heap.size _ _ ∧ _›; have hkN := Blk.below hH.1 hb (Blk.lt hH.1); have hBN := below_trans hH.2.1 hb; obtain ⟨q0, q1, q2, q3, q4, q5, q6, q7, q8, q9, q10, q11⟩ := req_cells hkN) | (go_at_call 8; (with_reducible refine (CA.out _).mono ?_); rintro e wn ⟨rfl, hb⟩; have hH := ‹Blk _ w.heap.size _ _ ∧ Below w.heap.size _ _ ∧ _›; have hkN := Blk.below hH.1 hb (Blk.lt hH.1); have hBN := below_trans hH.2.1 hb; obtain ⟨q0, q1, q2, q3, q4, q5, q6, q7, q8, q9, q10, q11⟩ := req_cells hkN))
    rename_i hH
    go_wp2
    go_ret
    exact ⟨rfl, hH.2.1⟩
  · obtain ⟨k1, k2, k3, k4⟩ := HS.out hk
    obtain ⟨l1, l2⟩ := HLS.out hk
    have hkb : (k == 0) = false := by simp [hk]
    obtain ⟨L, HL⟩ : ∃ p, Hid (enoughOf r (t / 2) (m / 2) = p) := ⟨_, rfl⟩
    rw [HL.out] at l1 l2
    have CL : Hid (∀ W, Calls Try.prog 15 #[r.v, .int .i64 (t / 2), .int .i64 (m / 2)] W (IntEnd L W)) := fun W => by have := enough_any r (t / 2) (m / 2) W; rwa [HL.out] at this
    have CA : Hid (∀ W, Calls Try.prog 8 #[] W (BoolEnd true W)) := fun W => awake_any W
    obtain ⟨P, HP⟩ : ∃ p, Hid (picksOf r k = p) := ⟨_, rfl⟩
    have CP : Hid (∀ W, Calls Try.prog 16 #[r.v, .int .i64 k] W (IntEnd P W)) := fun W => by have := picks_any r k W; rw [← HP.out]; exact this
    rw [HP.out] at k3
    have K4 := Lib.hid k4
    clear hk k4
    go_wp2_with fail
    refine (CL.out _).mono ?_
    rintro e w2 ⟨rfl, hb⟩
    have hsz := hblk1.lt
    have hblk2 := hblk1.below hb hsz
    have hbel2 := below_trans hbel1 hb
    clear hb hblk1 hbel1 hsz h0 h1 h2 h3 h4 h5 h6 h7 h8 h9 h10 h11
    obtain ⟨h0, h1, h2, h3, h4, h5, h6, h7, h8, h9, h10, h11⟩ := req_cells hblk2
    have d1 : decide (2 ≤ k) = true := by simpa using k1
    have d2 : decide (k ≤ 4096) = true := by simpa using k2
    have d3 : decide (B + m < P) = true := by simpa using k3
    have d4 : decide (2 ≤ L) = true := by simpa using l1
    have d5 : decide (L ≤ k) = true := by simpa using l2
    by_cases hk2 : k = 2
    · exfalso
      have e1 := HP2.out
      have e2 := HP.out
      rw [hk2] at e2
      omega
    · have hb2 : (k == 2) = false := by simp [hk2]
      obtain ⟨P2, HQ2⟩ : ∃ p, Hid (picksOf r (k - 1) = p) := ⟨_, rfl⟩
      have CP2 : Hid (∀ W, Calls Try.prog 16 #[r.v, .int .i64 (k - 1)] W (IntEnd P2 W)) := fun W => by have := picks_any r (k - 1) W; rw [← HQ2.out]; exact this
      have k5 := K4.out (k - 1) (by omega) (by omega)
      rw [HQ2.out] at k5
      have d6 : decide (P2 ≤ B + m) = true := by simpa using k5
      have s2 : IntKind.i64.wrap (k - 1) = k - 1 := IntWalk.i64_in _ (by omega)
      clear hk2
      go_wp2_with fail
      go_region_held3 (fun w' => Blk w' w.heap.size 31 r.row.toArray ∧ Below w.heap.size w w' ∧ w'.cell? ⟨w.heap.size, 0, none⟩ = some (.int .i64 r.deed) ∧ w'.cell? ⟨w.heap.size, 1, none⟩ = some (.int .i64 r.ten) ∧ w'.cell? ⟨w.heap.size, 2, none⟩ = some (.int .u32 r.gen) ∧ w'.cell? ⟨w.heap.size, 3, none⟩ = some (.int .u8 r.rig) ∧ w'.cell? ⟨w.heap.size, 4, none⟩ = some (.string r.key) ∧ w'.cell? ⟨w.heap.size, 5, none⟩ = some (.string r.val) ∧ w'.cell? ⟨w.heap.size, 6, none⟩ = some (.string r.old) ∧ w'.cell? ⟨w.heap.size, 7, none⟩ = some (.int .i64 r.lim) ∧ w'.cell? ⟨w.heap.size, 8, none⟩ = some (.int .i64 r.tenant) ∧ w'.cell? ⟨w.heap.size, 9, none⟩ = some (.int .u64 r.qk) ∧ w'.cell? ⟨w.heap.size, 10, none⟩ = some (.int .u64 r.qb) ∧ w'.cell? ⟨w.heap.size, 11, none⟩ = some (.int .u8 r.rights)) ((refine ⟨?_, ?_, ?_⟩ <;> first | assumption | (refine Blk.drew ?_; assumption) | (refine Below.drew ?_; assumption) | go_keep))
        (first | (go_at_call 16; (with_reducible refine (CP.out _).mono ?_); rintro e wn ⟨rfl, hb⟩; have hH := ‹Blk _ w.heap.size _ _ ∧ Below w.heap.size _ _ ∧ _›; have hkN := Blk.below hH.1 hb (Blk.lt hH.1); have hBN := below_trans hH.2.1 hb; obtain ⟨q0, q1, q2, q3, q4, q5, q6, q7, q8, q9, q10, q11⟩ := req_cells hkN) | (go_at_call 16; (with_reducible refine (CP2.out _).mono ?_); rintro e wn ⟨rfl, hb⟩; have hH := ‹Blk _ w.heap.size _ _ ∧ Below w.heap.size _ _ ∧ _›; have hkN := Blk.below hH.1 hb (Blk.lt hH.1); have hBN := below_trans hH.2.1 hb; obtain ⟨q0, q1, q2, q3, q4, q5, q6, q7, q8, q9, q10, q11⟩ := req_cells hkN) | (go_at_call 14; (with_reducible refine (CB.out _).mono ?_); rintro e wn ⟨rfl, hb⟩; have hH := ‹Blk _ w.heap.size _ _ ∧ Below w.heap.size _ _ ∧ _›; have hkN := Blk.below hH.1 hb (Blk.lt hH.1); have hBN := below_trans hH.2.1 hb; obtain ⟨q0, q1, q2, q3, q4, q5, q6, q7, q8, q9, q10, q11⟩ := req_cells hkN) | (go_at_call 8; (with_reducible refine (CA.out _).mono ?_); rintro e wn ⟨rfl, hb⟩; have hH := ‹Blk _ w.heap.size _ _ ∧ Below w.heap.size _ _ ∧ _›; have hkN := Blk.below hH.1 hb (Blk.lt hH.1); have hBN := below_trans hH.2.1 hb; obtain ⟨q0, q1, q2, q3, q4, q5, q6, q7, q8, q9, q10, q11⟩ := req_cells hkN))
      rename_i hH
      go_wp2
      go_ret
      exact ⟨rfl, hH.2.1⟩

end Go.Proofs.Ytocmmcbhonhgnaa
