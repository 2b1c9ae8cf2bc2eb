/-
  Walks: LiveGrows, whole.
-/
import Derived.Test.YtocmmcbhonhgnaaLiveGrowsW6
namespace Go.Proofs.Ytocmmcbhonhgnaa
open Go.RowKit
set_option linter.unusedVariables false

theorem eight_x {r o : Req} {W : World} {g : Nat} {ty : TypeId} (h : Blk W g ty r.row.toArray) : Blk ((((((((W.setCell { block := g, off := 1 } (Value.int .i64 o.ten)).setCell { block := g, off := 2 } (Value.int .u32 o.gen)).setCell { block := g, off := 3 } (Value.int .u8 o.rig)).setCell { block := g, off := 5 } (Value.string { data := #[] })).setCell { block := g, off := 8 } (Value.int .i64 o.tenant)).setCell { block := g, off := 9 } (Value.int .u64 o.qk)).setCell { block := g, off := 10 } (Value.int .u64 o.qb)).setCell { block := g, off := 11 } (Value.int .u8 o.rights)).drew g ty (otherR r o r.lim).row.toArray := by
  have := ((((((((h.set_ 1 (.int .i64 o.ten)).set_ 2 (.int .u32 o.gen)).set_ 3 (.int .u8 o.rig)).set_ 5 (.string { data := #[] })).set_ 8 (.int .i64 o.tenant)).set_ 9 (.int .u64 o.qk)).set_ 10 (.int .u64 o.qb)).set_ 11 (.int .u8 o.rights))
  simp only [Req.row, List.setIfInBounds_toArray, List.set_cons_zero, List.set_cons_succ] at this
  exact Blk.drew this
theorem eight_far {o : Req} {W : World} {g b : Nat} {ty : TypeId} {cs : Array Value} (h : Blk W b ty cs) (hn : b ≠ g) : Blk ((((((((W.setCell { block := g, off := 1 } (Value.int .i64 o.ten)).setCell { block := g, off := 2 } (Value.int .u32 o.gen)).setCell { block := g, off := 3 } (Value.int .u8 o.rig)).setCell { block := g, off := 5 } (Value.string { data := #[] })).setCell { block := g, off := 8 } (Value.int .i64 o.tenant)).setCell { block := g, off := 9 } (Value.int .u64 o.qk)).setCell { block := g, off := 10 } (Value.int .u64 o.qb)).setCell { block := g, off := 11 } (Value.int .u8 o.rights)).drew b ty cs :=
  Blk.drew ((((((((h.far (p := ⟨g, 1, none⟩) hn (.int .i64 o.ten)).far (p := ⟨g, 2, none⟩) hn (.int .u32 o.gen)).far (p := ⟨g, 3, none⟩) hn (.int .u8 o.rig)).far (p := ⟨g, 5, none⟩) hn (.string { data := #[] })).far (p := ⟨g, 8, none⟩) hn (.int .i64 o.tenant)).far (p := ⟨g, 9, none⟩) hn (.int .u64 o.qk)).far (p := ⟨g, 10, none⟩) hn (.int .u64 o.qb)).far (p := ⟨g, 11, none⟩) hn (.int .u8 o.rights))
theorem eight_below {o : Req} {w W : World} {g : Nat} (h : Below w.heap.size w W) (hn : w.heap.size ≤ g) : Below w.heap.size w ((((((((W.setCell { block := g, off := 1 } (Value.int .i64 o.ten)).setCell { block := g, off := 2 } (Value.int .u32 o.gen)).setCell { block := g, off := 3 } (Value.int .u8 o.rig)).setCell { block := g, off := 5 } (Value.string { data := #[] })).setCell { block := g, off := 8 } (Value.int .i64 o.tenant)).setCell { block := g, off := 9 } (Value.int .u64 o.qk)).setCell { block := g, off := 10 } (Value.int .u64 o.qb)).setCell { block := g, off := 11 } (Value.int .u8 o.rights)).drew :=
  Below.drew ((((((((h.setCell (p := ⟨g, 1, none⟩) hn (.int .i64 o.ten)).setCell (p := ⟨g, 2, none⟩) hn (.int .u32 o.gen)).setCell (p := ⟨g, 3, none⟩) hn (.int .u8 o.rig)).setCell (p := ⟨g, 5, none⟩) hn (.string { data := #[] })).setCell (p := ⟨g, 8, none⟩) hn (.int .i64 o.tenant)).setCell (p := ⟨g, 9, none⟩) hn (.int .u64 o.qk)).setCell (p := ⟨g, 10, none⟩) hn (.int .u64 o.qb)).setCell (p := ⟨g, 11, none⟩) hn (.int .u8 o.rights))

theorem seven_x {r o : Req} {W : World} {g : Nat} {ty : TypeId} {l : Int} (h : Blk W g ty (otherR r o l).row.toArray) : Blk (W.setCell ⟨g, 7, none⟩ (.int .i64 o.lim)) g ty (otherR r o o.lim).row.toArray := by
  have := h.set_ 7 (.int .i64 o.lim)
  simp only [Req.row, List.setIfInBounds_toArray, List.set_cons_zero, List.set_cons_succ] at this
  exact this

set_option maxHeartbeats 3200000 in
set_option maxRecDepth 100000 in
theorem grows5 (r o : Req) (t m : Int) (gx : Nat) {u0 u1 u2 u3 u5 u6 u12 u13 u14 u15 u16 u17 u18 u19 u20 u21 u22 u23 u24 u25 u26 u27 u28 u29 u30 u31 u32 u33 u34 u35 u36 u37 u38 u39 u40 u41 u42 u43 u44 u45 u46 u47 u48 u49 u50 u51 u52 u53 u54 u55 u56 u57 u58 u59 u60 u61 u62 u63 u64 u65 u66 u67 u68 u69 u70 u71 u72 u73 u74 u75 u76 u77 u78 u79 u80 u81 u82 u83 u84 u85 u86 u87 u88 u89 u90 u91 u92 u93 u94 u95 u96 u97 u98 u99 u100 u101 u102 u103 u104 u105 u106 u107 u108 u109 u110 u111 u112 u113 u114 u115 u116 u117 u118 u119 u120 u121 u122 u123 u124 u125 u126 u127 u128 u129 u130 u131 u132 u133 u134 u135 u136 u137 u138 u139 u140 u141 u142 u143 u144 u145 u146 u147 u148 u149 u150 u151 u152 u153 u154 u155 u156 u157 u158 u159 u160 u161 u162 u163 u164 u165 u166 u167 u168 u169 u170 u171 u172 u173 u174 u175 u176 u177 u178 u179 u180 u181 u182 u183 u184 u185 u186 u187 u188 u189 u190 u191 u192 u193 u194 u195 u196 : Value} (w wx : World) (his : isB r = true) (ht : 0 ≤ t ∧ t ≤ 1048575) (hm : 0 ≤ m ∧ m ≤ 1048575) (hblk : Blk wx w.heap.size 31 r.row.toArray) (hbel : Below w.heap.size w wx) (hgx : w.heap.size + 1 < gx) (hbo : Blk wx (w.heap.size + 1) 31 o.row.toArray) (hx : Blk wx gx 31 (otherR r o r.lim).row.toArray) :
    Code.wp Try.prog (bodyTail Try.f6 5) (bodyPost Try.prog Try.f6 (BoolEnd true w)) ⟨#[u0, u1, u2, u3, .pointer (some ⟨w.heap.size, 0, none⟩), u5, u6, .pointer (some ⟨w.heap.size + 1, 0, none⟩), .bool false, .int .i64 t, .int .i64 m, .pointer (some ⟨gx, 0, none⟩), u12, u13, u14, u15, u16, u17, u18, u19, u20, u21, u22, u23, u24, u25, u26, u27, u28, u29, u30, u31, u32, u33, u34, u35, u36, u37, u38, u39, u40, u41, u42, u43, u44, u45, u46, u47, u48, u49, u50, u51, u52, u53, u54, u55, u56, u57, u58, u59, u60, u61, u62, u63, u64, u65, u66, u67, u68, u69, u70, u71, u72, u73, u74, u75, u76, u77, u78, u79, u80, u81, u82, u83, u84, u85, u86, u87, u88, u89, u90, u91, u92, u93, u94, u95, u96, u97, u98, u99, u100, u101, u102, u103, u104, u105, u106, u107, u108, u109, u110, u111, u112, u113, u114, u115, u116, u117, u118, u119, u120, u121, u122, u123, u124, u125, u126, u127, u128, u129, u130, u131, u132, u133, u134, u135, u136, u137, u138, u139, u140, u141, u142, u143, u144, u145, u146, u147, u148, u149, u150, u151, u152, u153, u154, u155, u156, u157, u158, u159, u160, u161, u162, u163, u164, u165, u166, u167, u168, u169, u170, u171, u172, u173, u174, u175, u176, u177, u178, u179, u180, u181, u182, u183, u184, u185, u186, u187, u188, u189, u190, u191, u192, u193, u194, u195, u196], []⟩ wx := by
  conv => arg 2; whnf
  refine wp_seq_k fun K hK => ?_
  have HK := Lib.hid hK
  clear hK
  have hne : w.heap.size ≠ gx := by omega
  have hle : w.heap.size ≤ gx := by omega
  have r0 : wx.cell? ⟨w.heap.size, 0, none⟩ = some (.int .i64 r.deed) := hblk.cell 0
  by_cases h5 : r.deed = 5
  · have hb5 : (r.deed != 5) = false := by simp [h5]
    clear h5
    go_wp2_with fail
    exact HK.out _ _ (grows6 r o r.lim t m gx w _ his ht hm hblk hbel (fun _ => rfl) hx)
  · have hb5 : (r.deed != 5) = true := by simp [h5]
    have H5 : Hid (r.deed = 5 → o.lim = r.lim) := (fun h => absurd h h5 : r.deed = 5 → o.lim = r.lim)
    have o5 : wx.cell? ⟨w.heap.size + 1, 7, none⟩ = some (.int .i64 o.lim) := hbo.cell 7
    have x7 : wx.cell? ⟨gx, 7, none⟩ = some (.int .i64 r.lim) := hx.cell 7
    have f7 := hx.frozen 7
    clear h5
    go_wp2_with fail
    exact HK.out _ _ (grows6 r o o.lim t m gx w _ his ht hm (hblk.far (p := ⟨gx, 7, none⟩) hne (.int .i64 o.lim)) (hbel.setCell (p := ⟨gx, 7, none⟩) hle (.int .i64 o.lim)) H5.out (seven_x hx))

theorem trunc20 (n : Int) (h : 0 ≤ n) : 0 ≤ n % 1048576 ∧ n % 1048576 ≤ 1048575 := by omega

set_option maxHeartbeats 1600000 in
set_option maxRecDepth 100000 in
theorem grows_yes (r o : Req) (t0 m0 : Int) (w : World) (ht0 : 0 ≤ t0 ∧ t0 ≤ 4294967295) (hm0 : 0 ≤ m0 ∧ m0 ≤ 4294967295) (his : isB r = true) :
    Calls Try.prog 6 #[r.v, .int .u32 t0, .int .u32 m0, o.v] w (BoolEnd true w) := by
  have HI := Lib.hid his
  have ht := trunc20 t0 ht0.1
  have hm := trunc20 m0 hm0.1
  clear his
  go_enter Try.func6, Try.ntmps6
  go_wp2_with fail
  have hblk0 := (req_box r w 31).alloc (.cells #[.int .i64 o.deed, .int .i64 o.ten, .int .u32 o.gen, .int .u8 o.rig, .string o.key, .string o.val, .string o.old, .int .i64 o.lim, .int .i64 o.tenant, .int .u64 o.qk, .int .u64 o.qb, .int .u8 o.rights] 31)
  have hble0 := req_box o (w.alloc (.cells #[.int .i64 r.deed, .int .i64 r.ten, .int .u32 r.gen, .int .u8 r.rig, .string r.key, .string r.val, .string r.old, .int .i64 r.lim, .int .i64 r.tenant, .int .u64 r.qk, .int .u64 r.qb, .int .u8 r.rights] 31)) 31
  generalize hW : ((w.alloc (Obj.cells _ 31)).alloc (Obj.cells _ 31)) = W at hblk0 hble0 ⊢
  have hbel0 : Below w.heap.size w W := by rw [← hW]; exact below_alloc (below_box w _) _
  clear hW
  simp at hble0
  generalize t0 % 1048576 = t at ht ⊢
  generalize m0 % 1048576 = m at hm ⊢
  refine (is_any r _).mono ?_
  rintro e w1 ⟨rfl, hb⟩
  rw [HI.out]
  have hblk := hblk0.below hb hblk0.lt
  have hbo := hble0.below hb hble0.lt
  have hbel := below_trans hbel0 hb
  clear hb hblk0 hble0 hbel0
  obtain ⟨h0, h1, h2, h3, h4, h5, h6, h7, h8, h9, h10, h11⟩ := req_cells hblk
  obtain ⟨o0, o1, o2, o3, o4, o5, o6, o7, o8, o9, o10, o11⟩ := req_cells hbo
  have hsz := hbo.lt
  go_wp2_with fail
  clear h0 h1 h2 h3 h4 h5 h6 h7 h8 h9 h10 h11 o0 o2 o1 o3 o4 o5 o6 o7 o8 o9 o10 o11
  have hx := req_box r w1 31
  have hblk2 := hblk.alloc (.cells #[.int .i64 r.deed, .int .i64 r.ten, .int .u32 r.gen, .int .u8 r.rig, .string r.key, .string r.val, .string r.old, .int .i64 r.lim, .int .i64 r.tenant, .int .u64 r.qk, .int .u64 r.qb, .int .u8 r.rights] 31)
  have hbo2 := hbo.alloc (.cells #[.int .i64 r.deed, .int .i64 r.ten, .int .u32 r.gen, .int .u8 r.rig, .string r.key, .string r.val, .string r.old, .int .i64 r.lim, .int .i64 r.tenant, .int .u64 r.qk, .int .u64 r.qb, .int .u8 r.rights] 31)
  have hbel2 := below_alloc hbel (.cells #[.int .i64 r.deed, .int .i64 r.ten, .int .u32 r.gen, .int .u8 r.rig, .string r.key, .string r.val, .string r.old, .int .i64 r.lim, .int .i64 r.tenant, .int .u64 r.qk, .int .u64 r.qb, .int .u8 r.rights] 31)
  generalize (w1.alloc (Obj.cells _ 31)) = W2 at hx hblk2 hbo2 hbel2 ⊢
  have hgx : w.heap.size + 1 < w1.heap.size := hsz
  generalize w1.heap.size = gx at hx hgx ⊢
  clear hblk hbo hbel hsz w1
  obtain ⟨o0, o1, o2, o3, o4, o5, o6, o7, o8, o9, o10, o11⟩ := req_cells hbo2
  obtain ⟨x0, x1, x2, x3, x4, x5, x6, x7, x8, x9, x10, x11⟩ := req_cells hx
  have f1 := hx.frozen 1
  have f2 := hx.frozen 2
  have f3 := hx.frozen 3
  have f5 := hx.frozen 5
  have f8 := hx.frozen 8
  have f9 := hx.frozen 9
  have f10 := hx.frozen 10
  have f11 := hx.frozen 11
  go_region
  have hx3 := eight_x (o := o) hx
  have hblk3 := eight_far (o := o) (g := gx) hblk2 (by omega)
  have hbo3 := eight_far (o := o) (g := gx) hbo2 (by omega)
  have hbel3 := eight_below (o := o) (g := gx) hbel2 (by omega)
  generalize ((((((((W2.setCell { block := gx, off := 1 } (Value.int .i64 o.ten)).setCell { block := gx, off := 2 } (Value.int .u32 o.gen)).setCell { block := gx, off := 3 } (Value.int .u8 o.rig)).setCell { block := gx, off := 5 } (Value.string { data := #[] })).setCell { block := gx, off := 8 } (Value.int .i64 o.tenant)).setCell { block := gx, off := 9 } (Value.int .u64 o.qk)).setCell { block := gx, off := 10 } (Value.int .u64 o.qb)).setCell { block := gx, off := 11 } (Value.int .u8 o.rights)).drew = W3 at hx3 hblk3 hbo3 hbel3 ⊢
  clear o0 o1 o2 o3 o4 o5 o6 o7 o8 o9 o10 o11 x0 x1 x2 x3 x4 x5 x6 x7 x8 x9 x10 x11 f1 f2 f3 f5 f8 f9 f10 f11 hx hblk2 hbo2 hbel2 W2
  exact ‹∀ (a : Act) (w : World), Code.wp _ _ _ a w → _› _ _ (grows5 r o t m gx w _ HI.out ht hm hblk3 hbel3 hgx hbo3 hx3)

set_option maxHeartbeats 3200000 in
set_option maxRecDepth 100000 in
theorem grows_no (r o : Req) (t0 m0 : Int) (w : World) (ht0 : 0 ≤ t0 ∧ t0 ≤ 4294967295) (hm0 : 0 ≤ m0 ∧ m0 ≤ 4294967295) (his : isB r = false) :
    Calls Try.prog 6 #[r.v, .int .u32 t0, .int .u32 m0, o.v] w (BoolEnd true w) := by
  have HI := Lib.hid his
  have ht := trunc20 t0 ht0.1
  have hm := trunc20 m0 hm0.1
  have e1 : Hid (wayOf r = 0) := (by simp [wayOf, his] : wayOf r = 0)
  have e2 : Hid (∀ t, boundOf r t = 0) := (by intro t; simp [boundOf, his] : ∀ t, boundOf r t = 0)
  have e3 : Hid (∀ t m, enoughOf r t m = 0) := (by intro t m; simp [enoughOf, his] : ∀ t m, enoughOf r t m = 0)
  clear his
  go_enter Try.func6, Try.ntmps6
  go_wp2_with fail
  have hblk0 := (req_box r w 31).alloc (.cells #[.int .i64 o.deed, .int .i64 o.ten, .int .u32 o.gen, .int .u8 o.rig, .string o.key, .string o.val, .string o.old, .int .i64 o.lim, .int .i64 o.tenant, .int .u64 o.qk, .int .u64 o.qb, .int .u8 o.rights] 31)
  generalize hW : ((w.alloc (Obj.cells _ 31)).alloc (Obj.cells _ 31)) = W at hblk0 ⊢
  have hbel0 : Below w.heap.size w W := by rw [← hW]; exact below_alloc (below_box w _) _
  clear hW
  generalize t0 % 1048576 = t at ht ⊢
  generalize m0 % 1048576 = m at hm ⊢
  refine (is_any r _).mono ?_
  rintro e w1 ⟨rfl, hb⟩
  rw [HI.out]
  have hblk := hblk0.below hb hblk0.lt
  have hbel := below_trans hbel0 hb
  clear hb hblk0 hbel0
  obtain ⟨h0, h1, h2, h3, h4, h5, h6, h7, h8, h9, h10, h11⟩ := req_cells hblk
  go_wp2_with fail
  refine (way_any r _).mono ?_
  rintro e w2 ⟨rfl, hb⟩
  rw [e1.out]
  have hblk2 := hblk.below hb hblk.lt
  have hbel2 := below_trans hbel hb
  clear hb hblk hbel h0 h1 h2 h3 h4 h5 h6 h7 h8 h9 h10 h11
  obtain ⟨h0, h1, h2, h3, h4, h5, h6, h7, h8, h9, h10, h11⟩ := req_cells hblk2
  go_wp2_with fail
  refine (bound_any r t _).mono ?_
  rintro e w3 ⟨rfl, hb⟩
  rw [e2.out]
  have hblk3 := hblk2.below hb hblk2.lt
  have hbel3 := below_trans hbel2 hb
  clear hb hblk2 hbel2 h0 h1 h2 h3 h4 h5 h6 h7 h8 h9 h10 h11
  obtain ⟨h0, h1, h2, h3, h4, h5, h6, h7, h8, h9, h10, h11⟩ := req_cells hblk3
  go_wp2_with fail
  refine (enough_any r t m _).mono ?_
  rintro e w4 ⟨rfl, hb⟩
  rw [e3.out]
  have hbel4 := below_trans hbel3 hb
  clear hb hblk3 hbel3 h0 h1 h2 h3 h4 h5 h6 h7 h8 h9 h10 h11
  go_wp2_with fail
  refine (awake_any _).mono ?_
  rintro e w5 ⟨rfl, hb⟩
  go_wp2
  go_ret
  exact ⟨rfl, below_trans hbel4 hb⟩

theorem grows_law (r o : Req) (t0 m0 : Int) (w : World) (ht0 : 0 ≤ t0 ∧ t0 ≤ 4294967295) (hm0 : 0 ≤ m0 ∧ m0 ≤ 4294967295) :
    Calls Try.prog 6 #[r.v, .int .u32 t0, .int .u32 m0, o.v] w (BoolEnd true w) := by
  cases his : isB r with
  | false => exact grows_no r o t0 m0 w ht0 hm0 his
  | true => exact grows_yes r o t0 m0 w ht0 hm0 his
end Go.Proofs.Ytocmmcbhonhgnaa
