/-
  Walks of layer 29: Bound, fair, Fair.
-/
import Derived.Test.YtocmmcbhonhgnaaLiveW
import Derived.Test.YtocmmcbhonhgnaaPicksW
namespace Go.Proofs.Ytocmmcbhonhgnaa
open Go.RowKit
set_option linter.unusedVariables false

theorem bound_no1 (r : Req) (t : Int) (w : World) (his : isB r = false) : Calls Try.prog 14 #[r.v, .int .i64 t] w (IntEnd (boundOf r t) w) := by
  have e : boundOf r t = 0 := by simp [boundOf, his]
  have HE := Lib.hid e
  have HI := Lib.hid his
  clear e his
  go_enter Try.func14, Try.ntmps14
  go_wp2_with fail
  refine (is_any r _).mono ?_
  rintro e w1 ⟨rfl, hb⟩
  rw [HI.out]
  go_wp2
  go_ret
  exact ⟨ret_int HE.out.symm, below_trans (below_box w _) hb⟩

theorem reads_one (w : World) (n : Int) (e : TypeId) : Reads (w.alloc (.cells #[.int .i64 n] e)) (w.alloc (.cells #[.int .i64 n] e)).heap.size 1 (some ⟨w.heap.size, 0, none⟩) 1 (ints [n]) :=
  ⟨rfl, fun _ => ⟨_, rfl, by simp, fun j u hu => by
    match j, hu with
    | 0, hu => simp [ints] at hu; subst hu; simp [Addr.add]⟩⟩

theorem bound_no2 (r : Req) (t : Int) (w : World) (his : isB r = true) (ht : smallB t = false) : Calls Try.prog 14 #[r.v, .int .i64 t] w (IntEnd (boundOf r t) w) := by
  have e : boundOf r t = 0 := by simp [boundOf, ht]
  have HE := Lib.hid e
  have HI := Lib.hid his
  have ha : [t].all smallB = false := by simp [ht]
  have HA := Lib.hid ha
  clear e his ht ha
  go_enter Try.func14, Try.ntmps14
  go_wp2_with fail
  refine (is_any r _).mono ?_
  rintro e w1 ⟨rfl, hb⟩
  rw [HI.out]
  go_wp2_with fail
  refine (within_any [t] _ _ _ _ (by omega) (reads_one w1 t _)).mono ?_
  rintro e w2 ⟨rfl, rfl⟩
  rw [HA.out]
  go_wp2
  go_ret
  exact ⟨ret_int HE.out.symm, below_alloc (below_trans (below_box w _) hb) _⟩

set_option maxHeartbeats 1600000 in
theorem bound_scan (r : Req) (t : Int) (w : World) (his : isB r = true) (ht : smallB t = true) (h5 : r.deed = 5) : Calls Try.prog 14 #[r.v, .int .i64 t] w (IntEnd (boundOf r t) w) := by
  have hw : wayOf r = 139 := by simp [wayOf, his, h5]
  have e : boundOf r t = (36 * r.lim + t) * 139 + 2 := by simp [boundOf, his, ht, h5, hw]
  have HE := Lib.hid e
  have HI := Lib.hid his
  have HW := Lib.hid hw
  have ha : [t].all smallB = true := by simp [ht]
  have HA := Lib.hid ha
  have hl : 0 ≤ r.lim ∧ r.lim ≤ 4096 := by simp [isB] at his; omega
  have htt : 0 ≤ t ∧ t ≤ 1099511627776 := by simpa [smallB] using ht
  have h5b : (r.deed == 5) = true := by simp [h5]
  clear e his ht ha hw h5
  go_enter Try.func14, Try.ntmps14
  go_wp2_with fail
  refine (is_any r _).mono ?_
  rintro e w1 ⟨rfl, hb⟩
  rw [HI.out]
  have hblk := (req_box r w 31).below hb (by simp)
  have hbel := below_trans (below_box w _) hb
  clear hb
  go_wp2_with fail
  refine (within_any [t] _ _ _ _ (by omega) (reads_one w1 t _)).mono ?_
  rintro e w2 ⟨rfl, rfl⟩
  rw [HA.out]
  generalize hW : (w1.alloc (Obj.cells _ _)) = W
  have hblk2 : Blk W w.heap.size 31 r.row.toArray := by rw [← hW]; exact hblk.alloc _
  have hbel2 : Below w.heap.size w W := by rw [← hW]; exact hbel.alloc hbel.size _
  have hsz2 := hblk2.lt
  clear hW hblk hbel
  obtain ⟨h0, h1, h2, h3, h4, h5, h6, h7, h8, h9, h10, h11⟩ := req_cells hblk2
  have s1 : IntKind.i64.wrap (36 * r.lim) = 36 * r.lim := IntWalk.i64_in _ (by omega)
  have s2 : IntKind.i64.wrap (36 * r.lim + t) = 36 * r.lim + t := IntWalk.i64_in _ (by omega)
  have s3 : IntKind.i64.wrap ((36 * r.lim + t) * 139) = (36 * r.lim + t) * 139 := IntWalk.i64_in _ (by omega)
  have s4 : IntKind.i64.wrap ((36 * r.lim + t) * 139 + 2) = (36 * r.lim + t) * 139 + 2 := IntWalk.i64_in _ (by omega)
  go_wp2_with fail
  go_region_held3 (fun w' => w'.cell? ⟨w.heap.size, 0, none⟩ = some (.int .i64 r.deed) ∧ w'.cell? ⟨w.heap.size, 1, none⟩ = some (.int .i64 r.ten) ∧ w'.cell? ⟨w.heap.size, 2, none⟩ = some (.int .u32 r.gen) ∧ w'.cell? ⟨w.heap.size, 3, none⟩ = some (.int .u8 r.rig) ∧ w'.cell? ⟨w.heap.size, 4, none⟩ = some (.string r.key) ∧ w'.cell? ⟨w.heap.size, 5, none⟩ = some (.string r.val) ∧ w'.cell? ⟨w.heap.size, 6, none⟩ = some (.string r.old) ∧ w'.cell? ⟨w.heap.size, 7, none⟩ = some (.int .i64 r.lim) ∧ w'.cell? ⟨w.heap.size, 8, none⟩ = some (.int .i64 r.tenant) ∧ w'.cell? ⟨w.heap.size, 9, none⟩ = some (.int .u64 r.qk) ∧ w'.cell? ⟨w.heap.size, 10, none⟩ = some (.int .u64 r.qb) ∧ w'.cell? ⟨w.heap.size, 11, none⟩ = some (.int .u8 r.rights)) (first | go_keep | assumption)
      (first | (go_at_call 13; refine (way_any r _).mono ?_; rintro e w2 ⟨rfl, hb⟩; rw [HW.out]; obtain ⟨q0, q1, q2, q3, q4, q5, q6, q7, q8, q9, q10, q11⟩ := req_cells (hblk2.drew.below hb (by simpa using hsz2))))
  go_wp2
  go_ret
  exact ⟨ret_int (by rw [HE.out]), hbel2.drew.trans (hb.mono (by simp; omega))⟩

set_option maxHeartbeats 1600000 in
theorem bound_key (r : Req) (t : Int) (w : World) (his : isB r = true) (ht : smallB t = true) (h5 : r.deed ≠ 5) : Calls Try.prog 14 #[r.v, .int .i64 t] w (IntEnd (boundOf r t) w) := by
  have e : boundOf r t = (t + 1) * wayOf r + 1 := by simp [boundOf, his, ht, h5]
  have HE := Lib.hid e
  have HI := Lib.hid his
  have ha : [t].all smallB = true := by simp [ht]
  have HA := Lib.hid ha
  have htt : 0 ≤ t ∧ t ≤ 1099511627776 := by simpa [smallB] using ht
  have h5b : (r.deed == 5) = false := by simp [h5]
  have hw := way_pos his
  clear e his ht ha h5
  generalize hy : wayOf r = y at HE hw
  have HY := Lib.hid hy
  have hm1 : (t + 1) * y ≤ (t + 1) * 145 := Int.mul_le_mul_of_nonneg_left hw.2 (by omega)
  have hm2 : 0 ≤ (t + 1) * y := Int.mul_nonneg (by omega) (by omega)
  have s3 : IntKind.i64.wrap ((t + 1) * y) = (t + 1) * y := IntWalk.i64_in _ (by omega)
  have s4 : IntKind.i64.wrap ((t + 1) * y + 1) = (t + 1) * y + 1 := IntWalk.i64_in _ (by omega)
  clear hm1 hm2 hy hw
  go_enter Try.func14, Try.ntmps14
  go_wp2_with fail
  refine (is_any r _).mono ?_
  rintro e w1 ⟨rfl, hb⟩
  rw [HI.out]
  have hblk := (req_box r w 31).below hb (by simp)
  have hbel := below_trans (below_box w _) hb
  clear hb
  go_wp2_with fail
  refine (within_any [t] _ _ _ _ (by omega) (reads_one w1 t _)).mono ?_
  rintro e w2 ⟨rfl, rfl⟩
  rw [HA.out]
  generalize hW : (w1.alloc (Obj.cells _ _)) = W
  have hblk2 : Blk W w.heap.size 31 r.row.toArray := by rw [← hW]; exact hblk.alloc _
  have hbel2 : Below w.heap.size w W := by rw [← hW]; exact hbel.alloc hbel.size _
  have hsz2 := hblk2.lt
  clear hW hblk hbel
  obtain ⟨h0, h1, h2, h3, h4, h5, h6, h7, h8, h9, h10, h11⟩ := req_cells hblk2
  go_wp2_with fail
  refine (way_any r _).mono ?_
  rintro e w2 ⟨rfl, hb⟩
  rw [HY.out]
  go_wp2
  go_ret
  exact ⟨ret_int (by rw [HE.out]), below_trans hbel2 hb⟩

theorem bound_any (r : Req) (t : Int) (w : World) : Calls Try.prog 14 #[r.v, .int .i64 t] w (IntEnd (boundOf r t) w) := by
  cases his : isB r with
  | false => exact bound_no1 r t w his
  | true =>
    cases ht : smallB t with
    | false => exact bound_no2 r t w his ht
    | true =>
      by_cases h5 : r.deed = 5
      · exact bound_scan r t w his ht h5
      · exact bound_key r t w his ht h5
end Go.Proofs.Ytocmmcbhonhgnaa
