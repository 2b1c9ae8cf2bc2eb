/-
  Walks: LiveGrows, from the key on.
-/
import Derived.Test.YtocmmcbhonhgnaaLiveGrowsW8
namespace Go.Proofs.Ytocmmcbhonhgnaa
open Go.RowKit
set_option linter.unusedVariables false

set_option maxHeartbeats 3200000 in
set_option maxRecDepth 100000 in
theorem grows7 (r : Req) (t m : Int) {u0 u1 u2 u3 u5 u6 u7 u11 u12 u13 u14 u15 u16 u17 u18 u19 u20 u21 u22 u23 u24 u25 u26 u27 u28 u29 u30 u31 u32 u33 u34 u35 u36 u37 u38 u39 u40 u41 u42 u43 u44 u45 u46 u47 u48 u49 u50 u51 u52 u53 u54 u55 u56 u57 u58 u59 u60 u61 u62 u63 u64 u65 u66 u67 u68 u69 u70 u71 u72 u73 u74 u75 u76 u77 u78 u79 u80 u81 u82 u83 u84 u85 u86 u87 u88 u89 u90 u91 u92 u93 u94 u95 u96 u97 u98 u99 u100 u101 u102 u103 u104 u105 u106 u107 u108 u109 u110 u111 u112 u113 u114 u115 u116 u117 u118 u119 u120 u121 u122 u123 u124 u125 u126 u127 u128 u129 u130 u131 u132 u133 u134 u135 u136 u137 u138 u139 u140 u141 u142 u143 u144 u145 u146 u147 u148 u149 u150 u151 u152 u153 u154 u155 u156 u157 u158 u159 u160 u161 u162 u163 u164 u165 u166 u167 u168 u169 u170 u171 u172 u173 u174 u175 u176 u177 u178 u179 u180 u181 u182 u183 u184 u185 u186 u187 u188 u189 u190 u191 u192 u193 u194 u195 u196 : Value} (w wx : World) (his : isB r = true) (ht : 0 ≤ t ∧ t ≤ 1048575) (hm : 0 ≤ m ∧ m ≤ 1048575) (hblk : Blk wx w.heap.size 31 r.row.toArray) (hbel : Below w.heap.size w wx) :
    Code.wp Try.prog (bodyTail Try.f6 7) (bodyPost Try.prog Try.f6 (BoolEnd true w)) ⟨#[u0, u1, u2, u3, .pointer (some ⟨w.heap.size, 0, none⟩), u5, u6, u7, .bool false, .int .i64 t, .int .i64 m, u11, u12, u13, u14, u15, u16, u17, u18, u19, u20, u21, u22, u23, u24, u25, u26, u27, u28, u29, u30, u31, u32, u33, u34, u35, u36, u37, u38, u39, u40, u41, u42, u43, u44, u45, u46, u47, u48, u49, u50, u51, u52, u53, u54, u55, u56, u57, u58, u59, u60, u61, u62, u63, u64, u65, u66, u67, u68, u69, u70, u71, u72, u73, u74, u75, u76, u77, u78, u79, u80, u81, u82, u83, u84, u85, u86, u87, u88, u89, u90, u91, u92, u93, u94, u95, u96, u97, u98, u99, u100, u101, u102, u103, u104, u105, u106, u107, u108, u109, u110, u111, u112, u113, u114, u115, u116, u117, u118, u119, u120, u121, u122, u123, u124, u125, u126, u127, u128, u129, u130, u131, u132, u133, u134, u135, u136, u137, u138, u139, u140, u141, u142, u143, u144, u145, u146, u147, u148, u149, u150, u151, u152, u153, u154, u155, u156, u157, u158, u159, u160, u161, u162, u163, u164, u165, u166, u167, u168, u169, u170, u171, u172, u173, u174, u175, u176, u177, u178, u179, u180, u181, u182, u183, u184, u185, u186, u187, u188, u189, u190, u191, u192, u193, u194, u195, u196], []⟩ wx := by
  conv => arg 2; whnf
  refine wp_seq_k fun K hK => ?_
  have HK := Lib.hid hK
  clear hK
  have HI := Lib.hid his
  by_cases hc : r.key.size < 16
  · obtain ⟨hlo, hwl⟩ := way_long his hc
    have hw1 := way_pos his
    have hw2 := way_pos hlo
    obtain ⟨Y, HY⟩ : ∃ k, Hid (wayOf r = k) := ⟨_, rfl⟩
    obtain ⟨Y2, HY2⟩ : ∃ k, Hid (wayOf (longR r) = k) := ⟨_, rfl⟩
    have CY : Hid (∀ W, Calls Try.prog 13 #[r.v] W (IntEnd Y W)) := fun W => by have := way_any r W; rwa [HY.out] at this
    have CY2 : Hid (∀ W, Calls Try.prog 13 #[(longR r).v] W (IntEnd Y2 W)) := fun W => by have := way_any (longR r) W; rwa [HY2.out] at this
    rw [HY.out] at hw1 hwl
    rw [HY2.out] at hw2 hwl
    have s1 : IntKind.i64.wrap (Y2 - Y) = Y2 - Y := IntWalk.i64_in _ (by omega)
    have HWL := Lib.hid hwl
    clear hwl hlo his
    obtain ⟨h0, h1, h2, h3, h4, h5, h6, h7, h8, h9, h10, h11⟩ := req_cells hblk
    by_cases hd : r.deed = 5
    · have hb5 : (r.deed == 5) = true := by simp [hd]
      have hne : ((Y2 - Y) != 0) = false := by have := HWL.out; rw [if_pos hd] at this; rw [this]; rfl
      clear hd
      go_upto_region 14 with fail
      have hx : Blk (wx.alloc (.cells #[.int .i64 r.deed, .int .i64 r.ten, .int .u32 r.gen, .int .u8 r.rig, .string (r.key ++ { data := #[97] }), .string r.val, .string r.old, .int .i64 r.lim, .int .i64 r.tenant, .int .u64 r.qk, .int .u64 r.qb, .int .u8 r.rights] 31)) wx.heap.size 31 (longR r).row.toArray := Blk.new _ _ _
      have hblk1 := hblk.alloc (.cells #[.int .i64 r.deed, .int .i64 r.ten, .int .u32 r.gen, .int .u8 r.rig, .string (r.key ++ { data := #[97] }), .string r.val, .string r.old, .int .i64 r.lim, .int .i64 r.tenant, .int .u64 r.qk, .int .u64 r.qb, .int .u8 r.rights] 31)
      have hbel1 := below_alloc hbel (.cells #[.int .i64 r.deed, .int .i64 r.ten, .int .u32 r.gen, .int .u8 r.rig, .string (r.key ++ { data := #[97] }), .string r.val, .string r.old, .int .i64 r.lim, .int .i64 r.tenant, .int .u64 r.qk, .int .u64 r.qb, .int .u8 r.rights] 31)
      generalize (wx.alloc (.cells #[.int .i64 r.deed, .int .i64 r.ten, .int .u32 r.gen, .int .u8 r.rig, .string (r.key ++ { data := #[97] }), .string r.val, .string r.old, .int .i64 r.lim, .int .i64 r.tenant, .int .u64 r.qk, .int .u64 r.qb, .int .u8 r.rights] 31)) = W at hx hblk1 hbel1 ⊢
      generalize wx.heap.size = gx at hx ⊢
      clear h0 h1 h2 h3 h4 h5 h6 h7 h8 h9 h10 h11
      obtain ⟨h0, h1, h2, h3, h4, h5, h6, h7, h8, h9, h10, h11⟩ := req_cells hblk1
      obtain ⟨x0, x1, x2, x3, x4, x5, x6, x7, x8, x9, x10, x11⟩ := req_cells hx
      go_wp2_with fail
      go_region_held3 (fun w' => Blk w' w.heap.size 31 r.row.toArray ∧ Below w.heap.size w w' ∧ Blk w' (gx) 31 (longR r).row.toArray ∧ w'.cell? ⟨w.heap.size, 0, none⟩ = some (.int .i64 r.deed) ∧ w'.cell? ⟨w.heap.size, 1, none⟩ = some (.int .i64 r.ten) ∧ w'.cell? ⟨w.heap.size, 2, none⟩ = some (.int .u32 r.gen) ∧ w'.cell? ⟨w.heap.size, 3, none⟩ = some (.int .u8 r.rig) ∧ w'.cell? ⟨w.heap.size, 4, none⟩ = some (.string r.key) ∧ w'.cell? ⟨w.heap.size, 5, none⟩ = some (.string r.val) ∧ w'.cell? ⟨w.heap.size, 6, none⟩ = some (.string r.old) ∧ w'.cell? ⟨w.heap.size, 7, none⟩ = some (.int .i64 r.lim) ∧ w'.cell? ⟨w.heap.size, 8, none⟩ = some (.int .i64 r.tenant) ∧ w'.cell? ⟨w.heap.size, 9, none⟩ = some (.int .u64 r.qk) ∧ w'.cell? ⟨w.heap.size, 10, none⟩ = some (.int .u64 r.qb) ∧ w'.cell? ⟨w.heap.size, 11, none⟩ = some (.int .u8 r.rights) ∧ w'.cell? ⟨gx, 0, none⟩ = some (.int .i64 r.deed) ∧ w'.cell? ⟨gx, 1, none⟩ = some (.int .i64 r.ten) ∧ w'.cell? ⟨gx, 2, none⟩ = some (.int .u32 r.gen) ∧ w'.cell? ⟨gx, 3, none⟩ = some (.int .u8 r.rig) ∧ w'.cell? ⟨gx, 4, none⟩ = some (.string (r.key ++ { data := #[97] })) ∧ w'.cell? ⟨gx, 5, none⟩ = some (.string r.val) ∧ w'.cell? ⟨gx, 6, none⟩ = some (.string r.old) ∧ w'.cell? ⟨gx, 7, none⟩ = some (.int .i64 r.lim) ∧ w'.cell? ⟨gx, 8, none⟩ = some (.int .i64 r.tenant) ∧ w'.cell? ⟨gx, 9, none⟩ = some (.int .u64 r.qk) ∧ w'.cell? ⟨gx, 10, none⟩ = some (.int .u64 r.qb) ∧ w'.cell? ⟨gx, 11, none⟩ = some (.int .u8 r.rights)) ((refine ⟨?_, ?_, ?_, ?_⟩ <;> first | assumption | (refine Blk.drew ?_; assumption) | (refine Below.drew ?_; assumption) | go_keep))
        (first | (go_at_call 13; (with_reducible refine (CY2.out _).mono ?_); rintro e wn ⟨rfl, hb⟩; have hH := ‹Blk _ w.heap.size _ _ ∧ Below w.heap.size _ _ ∧ _›; have hkN := Blk.below hH.1 hb (Blk.lt hH.1); have hkX := Blk.below hH.2.2.1 hb (Blk.lt hH.2.2.1); have hBN := below_trans hH.2.1 hb; obtain ⟨q0, q1, q2, q3, q4, q5, q6, q7, q8, q9, q10, q11⟩ := req_cells hkN; obtain ⟨y0, y1, y2, y3, y4, y5, y6, y7, y8, y9, y10, y11⟩ := req_cells hkX) | (go_at_call 13; (with_reducible refine (CY.out _).mono ?_); rintro e wn ⟨rfl, hb⟩; have hH := ‹Blk _ w.heap.size _ _ ∧ Below w.heap.size _ _ ∧ _›; have hkN := Blk.below hH.1 hb (Blk.lt hH.1); have hkX := Blk.below hH.2.2.1 hb (Blk.lt hH.2.2.1); have hBN := below_trans hH.2.1 hb; obtain ⟨q0, q1, q2, q3, q4, q5, q6, q7, q8, q9, q10, q11⟩ := req_cells hkN; obtain ⟨y0, y1, y2, y3, y4, y5, y6, y7, y8, y9, y10, y11⟩ := req_cells hkX))
      rename_i hH
      have hblk2 := hH.1
      have hbel2 := hH.2.1
      clear hH
      go_wp2_with fail
      exact HK.out _ _ (grows8 r t m w _ HI.out ht hm hblk2 hbel2)
    · have hb5 : (r.deed == 5) = false := by simp [hd]
      have hne : ((Y2 - Y) != 4) = false := by have := HWL.out; rw [if_neg hd] at this; rw [this]; rfl
      clear hd
      go_upto_region 14 with fail
      have hx : Blk (wx.alloc (.cells #[.int .i64 r.deed, .int .i64 r.ten, .int .u32 r.gen, .int .u8 r.rig, .string (r.key ++ { data := #[97] }), .string r.val, .string r.old, .int .i64 r.lim, .int .i64 r.tenant, .int .u64 r.qk, .int .u64 r.qb, .int .u8 r.rights] 31)) wx.heap.size 31 (longR r).row.toArray := Blk.new _ _ _
      have hblk1 := hblk.alloc (.cells #[.int .i64 r.deed, .int .i64 r.ten, .int .u32 r.gen, .int .u8 r.rig, .string (r.key ++ { data := #[97] }), .string r.val, .string r.old, .int .i64 r.lim, .int .i64 r.tenant, .int .u64 r.qk, .int .u64 r.qb, .int .u8 r.rights] 31)
      have hbel1 := below_alloc hbel (.cells #[.int .i64 r.deed, .int .i64 r.ten, .int .u32 r.gen, .int .u8 r.rig, .string (r.key ++ { data := #[97] }), .string r.val, .string r.old, .int .i64 r.lim, .int .i64 r.tenant, .int .u64 r.qk, .int .u64 r.qb, .int .u8 r.rights] 31)
      generalize (wx.alloc (.cells #[.int .i64 r.deed, .int .i64 r.ten, .int .u32 r.gen, .int .u8 r.rig, .string (r.key ++ { data := #[97] }), .string r.val, .string r.old, .int .i64 r.lim, .int .i64 r.tenant, .int .u64 r.qk, .int .u64 r.qb, .int .u8 r.rights] 31)) = W at hx hblk1 hbel1 ⊢
      generalize wx.heap.size = gx at hx ⊢
      clear h0 h1 h2 h3 h4 h5 h6 h7 h8 h9 h10 h11
      obtain ⟨h0, h1, h2, h3, h4, h5, h6, h7, h8, h9, h10, h11⟩ := req_cells hblk1
      obtain ⟨x0, x1, x2, x3, x4, x5, x6, x7, x8, x9, x10, x11⟩ := req_cells hx
      go_wp2_with fail
      go_region_held3 (fun w' => Blk w' w.heap.size 31 r.row.toArray ∧ Below w.heap.size w w' ∧ Blk w' (gx) 31 (longR r).row.toArray ∧ w'.cell? ⟨w.heap.size, 0, none⟩ = some (.int .i64 r.deed) ∧ w'.cell? ⟨w.heap.size, 1, none⟩ = some (.int .i64 r.ten) ∧ w'.cell? ⟨w.heap.size, 2, none⟩ = some (.int .u32 r.gen) ∧ w'.cell? ⟨w.heap.size, 3, none⟩ = some (.int .u8 r.rig) ∧ w'.cell? ⟨w.heap.size, 4, none⟩ = some (.string r.key) ∧ w'.cell? ⟨w.heap.size, 5, none⟩ = some (.string r.val) ∧ w'.cell? ⟨w.heap.size, 6, none⟩ = some (.string r.old) ∧ w'.cell? ⟨w.heap.size, 7, none⟩ = some (.int .i64 r.lim) ∧ w'.cell? ⟨w.heap.size, 8, none⟩ = some (.int .i64 r.tenant) ∧ w'.cell? ⟨w.heap.size, 9, none⟩ = some (.int .u64 r.qk) ∧ w'.cell? ⟨w.heap.size, 10, none⟩ = some (.int .u64 r.qb) ∧ w'.cell? ⟨w.heap.size, 11, none⟩ = some (.int .u8 r.rights) ∧ w'.cell? ⟨gx, 0, none⟩ = some (.int .i64 r.deed) ∧ w'.cell? ⟨gx, 1, none⟩ = some (.int .i64 r.ten) ∧ w'.cell? ⟨gx, 2, none⟩ = some (.int .u32 r.gen) ∧ w'.cell? ⟨gx, 3, none⟩ = some (.int .u8 r.rig) ∧ w'.cell? ⟨gx, 4, none⟩ = some (.string (r.key ++ { data := #[97] })) ∧ w'.cell? ⟨gx, 5, none⟩ = some (.string r.val) ∧ w'.cell? ⟨gx, 6, none⟩ = some (.string r.old) ∧ w'.cell? ⟨gx, 7, none⟩ = some (.int .i64 r.lim) ∧ w'.cell? ⟨gx, 8, none⟩ = some (.int .i64 r.tenant) ∧ w'.cell? ⟨gx, 9, none⟩ = some (.int .u64 r.qk) ∧ w'.cell? ⟨gx, 10, none⟩ = some (.int .u64 r.qb) ∧ w'.cell? ⟨gx, 11, none⟩ = some (.int .u8 r.rights)) ((refine ⟨?_, ?_, ?_, ?_⟩ <;> first | assumption | (refine Blk.drew ?_; assumption) | (refine Below.drew ?_; assumption) | go_keep))
        (first | (go_at_call 13; (with_reducible refine (CY2.out _).mono ?_); rintro e wn ⟨rfl, hb⟩; have hH := ‹Blk _ w.heap.size _ _ ∧ Below w.heap.size _ _ ∧ _›; have hkN := Blk.below hH.1 hb (Blk.lt hH.1); have hkX := Blk.below hH.2.2.1 hb (Blk.lt hH.2.2.1); have hBN := below_trans hH.2.1 hb; obtain ⟨q0, q1, q2, q3, q4, q5, q6, q7, q8, q9, q10, q11⟩ := req_cells hkN; obtain ⟨y0, y1, y2, y3, y4, y5, y6, y7, y8, y9, y10, y11⟩ := req_cells hkX) | (go_at_call 13; (with_reducible refine (CY.out _).mono ?_); rintro e wn ⟨rfl, hb⟩; have hH := ‹Blk _ w.heap.size _ _ ∧ Below w.heap.size _ _ ∧ _›; have hkN := Blk.below hH.1 hb (Blk.lt hH.1); have hkX := Blk.below hH.2.2.1 hb (Blk.lt hH.2.2.1); have hBN := below_trans hH.2.1 hb; obtain ⟨q0, q1, q2, q3, q4, q5, q6, q7, q8, q9, q10, q11⟩ := req_cells hkN; obtain ⟨y0, y1, y2, y3, y4, y5, y6, y7, y8, y9, y10, y11⟩ := req_cells hkX))
      rename_i hH
      have hblk2 := hH.1
      have hbel2 := hH.2.1
      clear hH
      go_wp2_with fail
      exact HK.out _ _ (grows8 r t m w _ HI.out ht hm hblk2 hbel2)
  · have hc2 : 16 ≤ r.key.size := by omega
    have h4 : wx.cell? ⟨w.heap.size, 4, none⟩ = some (.string r.key) := hblk.cell 4
    clear hc his
    go_wp2_with fail
    exact HK.out _ _ (grows8 r t m w _ HI.out ht hm hblk hbel)

end Go.Proofs.Ytocmmcbhonhgnaa
