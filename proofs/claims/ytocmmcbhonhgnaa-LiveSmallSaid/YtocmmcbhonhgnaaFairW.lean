/-
  Walks of layer 29: fair, Fair.
-/
import Derived.Test.YtocmmcbhonhgnaaBoundW
namespace Go.Proofs.Ytocmmcbhonhgnaa
open Go.RowKit
set_option linter.unusedVariables false

theorem bound_pos {r : Req} {t : Int} (h : isB r = true) (ht : smallB t = true) : 0 ≤ boundOf r t ∧ boundOf r t ≤ 159429591500000000 := by
  have htt : 0 ≤ t ∧ t ≤ 1099511627776 := by simpa [smallB] using ht
  have hw := way_pos h
  have hl : r.deed = 5 → 0 ≤ r.lim ∧ r.lim ≤ 4096 := by intro h5; simp [isB, h5] at h; omega
  unfold boundOf
  rw [if_pos ⟨h, ht⟩]
  split
  · rename_i h5
    have h1 := hl h5
    have h2 : 0 ≤ (36 * r.lim + t) * wayOf r := Int.mul_nonneg (by omega) (by omega)
    have h3 : (36 * r.lim + t) * wayOf r ≤ (36 * r.lim + t) * 145 := Int.mul_le_mul_of_nonneg_left hw.2 (by omega)
    omega
  · have h2 : 0 ≤ (t + 1) * wayOf r := Int.mul_nonneg (by omega) (by omega)
    have h3 : (t + 1) * wayOf r ≤ (t + 1) * 145 := Int.mul_le_mul_of_nonneg_left hw.2 (by omega)
    omega

abbrev workV (r : Req) (p t k m : Int) : Value := .agg #[.int .i64 r.deed, .int .i64 r.ten, .int .u32 r.gen, .int .u8 r.rig, .string r.key, .string r.val, .string r.old, .int .i64 r.lim, .int .i64 r.tenant, .int .u64 r.qk, .int .u64 r.qb, .int .u8 r.rights, .int .i64 p, .int .i64 t, .int .i64 k, .int .i64 m]
theorem work_cells {r : Req} {p t k m : Int} {W : World} {g : Nat} {ty : TypeId} (h : Blk W g ty #[.int .i64 r.deed, .int .i64 r.ten, .int .u32 r.gen, .int .u8 r.rig, .string r.key, .string r.val, .string r.old, .int .i64 r.lim, .int .i64 r.tenant, .int .u64 r.qk, .int .u64 r.qb, .int .u8 r.rights, .int .i64 p, .int .i64 t, .int .i64 k, .int .i64 m]) :
    W.cell? ⟨g, 0, none⟩ = some (.int .i64 r.deed) ∧ W.cell? ⟨g, 1, none⟩ = some (.int .i64 r.ten) ∧ W.cell? ⟨g, 2, none⟩ = some (.int .u32 r.gen) ∧ W.cell? ⟨g, 3, none⟩ = some (.int .u8 r.rig) ∧
    W.cell? ⟨g, 4, none⟩ = some (.string r.key) ∧ W.cell? ⟨g, 5, none⟩ = some (.string r.val) ∧ W.cell? ⟨g, 6, none⟩ = some (.string r.old) ∧ W.cell? ⟨g, 7, none⟩ = some (.int .i64 r.lim) ∧
    W.cell? ⟨g, 8, none⟩ = some (.int .i64 r.tenant) ∧ W.cell? ⟨g, 9, none⟩ = some (.int .u64 r.qk) ∧ W.cell? ⟨g, 10, none⟩ = some (.int .u64 r.qb) ∧ W.cell? ⟨g, 11, none⟩ = some (.int .u8 r.rights) ∧
    W.cell? ⟨g, 12, none⟩ = some (.int .i64 p) ∧ W.cell? ⟨g, 13, none⟩ = some (.int .i64 t) ∧ W.cell? ⟨g, 14, none⟩ = some (.int .i64 k) ∧ W.cell? ⟨g, 15, none⟩ = some (.int .i64 m) :=
  ⟨h.cell 0, h.cell 1, h.cell 2, h.cell 3, h.cell 4, h.cell 5, h.cell 6, h.cell 7, h.cell 8, h.cell 9, h.cell 10, h.cell 11, h.cell 12, h.cell 13, h.cell 14, h.cell 15⟩

set_option maxHeartbeats 1600000 in
theorem fair_no (r : Req) (p t k m : Int) (w : World) (ht : smallB t = true) (hk : smallB k = true) (hc : ¬ t ≤ k + 1) :
    Calls Try.prog 21 #[workV r p t k m] w (BoolEnd false w) := by
  have htt : 0 ≤ t ∧ t ≤ 1099511627776 := by simpa [smallB] using ht
  have hkk : 0 ≤ k ∧ k ≤ 1099511627776 := by simpa [smallB] using hk
  have s1 : IntKind.i64.wrap (k + 1) = k + 1 := IntWalk.i64_in _ (by omega)
  have hd : decide (t ≤ k + 1) = false := by simpa using hc
  clear ht hk
  go_enter Try.func21, Try.ntmps21
  go_wp2_with fail
  go_quiet (fail)
  go_wp2
  go_ret
  exact ⟨rfl, below_drewN (below_box w _) _⟩

set_option maxHeartbeats 3200000 in
theorem fair_yes (r : Req) (p t k m : Int) (w : World) (his : isB r = true) (ht : smallB t = true) (hk : smallB k = true) (hm : smallB m = true) (hc : t ≤ k + 1) :
    Calls Try.prog 21 #[workV r p t k m] w (BoolEnd (decide (p ≤ boundOf r t + m)) w) := by
  have htt : 0 ≤ t ∧ t ≤ 1099511627776 := by simpa [smallB] using ht
  have hkk : 0 ≤ k ∧ k ≤ 1099511627776 := by simpa [smallB] using hk
  have hmm : 0 ≤ m ∧ m ≤ 1099511627776 := by simpa [smallB] using hm
  have hbb := bound_pos his ht
  have s1 : IntKind.i64.wrap (k + 1) = k + 1 := IntWalk.i64_in _ (by omega)
  have hd : decide (t ≤ k + 1) = true := by simpa using hc
  generalize hB : boundOf r t = B at hbb
  have HB := Lib.hid hB
  have s2 : IntKind.i64.wrap (B + m) = B + m := IntWalk.i64_in _ (by omega)
  clear ht hk hm hB his
  go_enter Try.func21, Try.ntmps21
  go_wp2_with fail
  generalize hW : (w.alloc (Obj.cells _ 49)) = W
  have hblk : Blk W w.heap.size 49 #[.int .i64 r.deed, .int .i64 r.ten, .int .u32 r.gen, .int .u8 r.rig, .string r.key, .string r.val, .string r.old, .int .i64 r.lim, .int .i64 r.tenant, .int .u64 r.qk, .int .u64 r.qb, .int .u8 r.rights, .int .i64 p, .int .i64 t, .int .i64 k, .int .i64 m] := by rw [← hW]; exact Blk.new _ _ _
  have hbel : Below w.heap.size w W := by rw [← hW]; exact below_box w _
  have hsz := hblk.lt
  clear hW
  obtain ⟨h0, h1, h2, h3, h4, h5, h6, h7, h8, h9, h10, h11, h12, h13, h14, h15⟩ := work_cells hblk
  go_region_held3 (fun w' => w'.cell? ⟨w.heap.size, 0, none⟩ = some (.int .i64 r.deed) ∧ w'.cell? ⟨w.heap.size, 1, none⟩ = some (.int .i64 r.ten) ∧ w'.cell? ⟨w.heap.size, 2, none⟩ = some (.int .u32 r.gen) ∧ w'.cell? ⟨w.heap.size, 3, none⟩ = some (.int .u8 r.rig) ∧ w'.cell? ⟨w.heap.size, 4, none⟩ = some (.string r.key) ∧ w'.cell? ⟨w.heap.size, 5, none⟩ = some (.string r.val) ∧ w'.cell? ⟨w.heap.size, 6, none⟩ = some (.string r.old) ∧ w'.cell? ⟨w.heap.size, 7, none⟩ = some (.int .i64 r.lim) ∧ w'.cell? ⟨w.heap.size, 8, none⟩ = some (.int .i64 r.tenant) ∧ w'.cell? ⟨w.heap.size, 9, none⟩ = some (.int .u64 r.qk) ∧ w'.cell? ⟨w.heap.size, 10, none⟩ = some (.int .u64 r.qb) ∧ w'.cell? ⟨w.heap.size, 11, none⟩ = some (.int .u8 r.rights) ∧ w'.cell? ⟨w.heap.size, 12, none⟩ = some (.int .i64 p) ∧ w'.cell? ⟨w.heap.size, 13, none⟩ = some (.int .i64 t) ∧ w'.cell? ⟨w.heap.size, 14, none⟩ = some (.int .i64 k) ∧ w'.cell? ⟨w.heap.size, 15, none⟩ = some (.int .i64 m)) (first | go_keep | assumption)
      (first | (go_at_call 14; refine (bound_any r _ _).mono ?_; rintro e w2 ⟨rfl, hb⟩; rw [HB.out]; obtain ⟨q0, q1, q2, q3, q4, q5, q6, q7, q8, q9, q10, q11, q12, q13, q14, q15⟩ := work_cells (hblk.drew.below hb (by simpa using hsz))))
  go_wp2
  go_ret
  exact ⟨rfl, hbel.drew.trans (hb.mono (by simp; omega))⟩

abbrev effV (p t k m : Int) : Value := .agg #[.int .i64 p, .int .i64 t, .int .i64 k, .int .i64 m]

theorem fair_not_op (r : Req) (p t k m : Int) (w : World) (his : isB r = false) : Calls Try.prog 9 #[r.v, effV p t k m] w (BoolEnd (fairB r p t k m) w) := by
  have e : fairB r p t k m = false := by simp [fairB, his]
  have HI := Lib.hid his
  rw [e]
  clear e his
  go_enter Try.func9, Try.ntmps9
  go_wp2_with fail
  refine (is_any r _).mono ?_
  rintro e w1 ⟨rfl, hb⟩
  rw [HI.out]
  go_wp2
  go_ret
  exact ⟨rfl, below_trans (below_alloc (below_box w _) _) hb⟩

theorem reads_four (w : World) (a b c d : Int) (e : TypeId) : Reads (w.alloc (.cells #[.int .i64 a, .int .i64 b, .int .i64 c, .int .i64 d] e)) (w.alloc (.cells #[.int .i64 a, .int .i64 b, .int .i64 c, .int .i64 d] e)).heap.size 1 (some ⟨w.heap.size, 0, none⟩) 4 (ints [a, b, c, d]) :=
  ⟨rfl, fun _ => ⟨_, rfl, by simp, fun j u hu => by
    match j, hu with
    | 0, hu => simp [ints] at hu; subst hu; simp [Addr.add]
    | 1, hu => simp [ints] at hu; subst hu; simp [Addr.add]
    | 2, hu => simp [ints] at hu; subst hu; simp [Addr.add]
    | 3, hu => simp [ints] at hu; subst hu; simp [Addr.add]⟩⟩

set_option maxHeartbeats 1600000 in
theorem fair_op (r : Req) (p t k m : Int) (w : World) (his : isB r = true) : Calls Try.prog 9 #[r.v, effV p t k m] w (BoolEnd (fairB r p t k m) w) := by
  have HI := Lib.hid his
  clear his
  go_enter Try.func9, Try.ntmps9
  go_wp2_with fail
  refine (is_any r _).mono ?_
  rintro e w1 ⟨rfl, hb⟩
  rw [HI.out]
  have hblk := ((req_box r w 31).alloc (.cells #[.int .i64 p, .int .i64 t, .int .i64 k, .int .i64 m] 35)).below hb (by simp; omega)
  have hble := (Blk.new (w.alloc (.cells #[.int .i64 r.deed, .int .i64 r.ten, .int .u32 r.gen, .int .u8 r.rig, .string r.key, .string r.val, .string r.old, .int .i64 r.lim, .int .i64 r.tenant, .int .u64 r.qk, .int .u64 r.qb, .int .u8 r.rights] 31)) 35 #[.int .i64 p, .int .i64 t, .int .i64 k, .int .i64 m]).below hb (by simp)
  have hbel := below_trans (below_alloc (below_box w _) _) hb
  have hsz := hblk.lt
  have hsz2 := hble.lt
  simp at hble hsz2
  clear hb
  obtain ⟨h0, h1, h2, h3, h4, h5, h6, h7, h8, h9, h10, h11⟩ := req_cells hblk
  have e0 := hble.cell 0
  have e1 := hble.cell 1
  have e2 := hble.cell 2
  have e3 := hble.cell 3
  simp at e0 e1 e2 e3
  go_wp2_with fail
  refine (within_any [p, t, k, m] _ _ _ _ (by omega) (reads_four w1 p t k m _)).mono ?_
  rintro e w2 ⟨rfl, rfl⟩
  cases ha : [p, t, k, m].all smallB with
  | false =>
    have e : fairB r p t k m = false := by
      simp only [List.all_cons, List.all_nil, Bool.and_true] at ha
      unfold fairB
      rw [HI.out]
      revert ha
      cases smallB p <;> cases smallB t <;> cases smallB k <;> cases smallB m <;> simp
    have E := Lib.hid e
    clear ha e
    go_wp2
    go_ret
    exact ⟨ret_bool E.out.symm, below_alloc hbel _⟩
  | true =>
    simp only [List.all_cons, List.all_nil, Bool.and_true, Bool.and_eq_true] at ha
    obtain ⟨a1, a2, a3, a4⟩ := ha
    have e : fairB r p t k m = (decide (t ≤ k + 1) && decide (p ≤ boundOf r t + m)) := by simp [fairB, HI.out, a1, a2, a3, a4]
    have E := Lib.hid e
    have A1 := Lib.hid a1
    have A2 := Lib.hid a2
    have A3 := Lib.hid a3
    have A4 := Lib.hid a4
    clear a1 a2 a3 a4 e
    by_cases hc : t ≤ k + 1
    · have HC := Lib.hid hc
      clear hc
      go_wp2_with fail
      refine (fair_yes r p t k m _ HI.out A2.out A3.out A4.out HC.out).mono ?_
      rintro e w2 ⟨rfl, hb⟩
      go_wp2
      go_ret
      exact ⟨ret_bool (by rw [E.out, decide_eq_true HC.out]; rfl), below_trans (below_alloc hbel _) hb⟩
    · have HC : Hid (k + 1 < t) := (by omega : k + 1 < t)
      clear hc
      go_wp2_with fail
      refine (fair_no r p t k m _ A2.out A3.out (by have := HC.out; omega)).mono ?_
      rintro e w2 ⟨rfl, hb⟩
      go_wp2
      go_ret
      exact ⟨ret_bool (by rw [E.out, decide_eq_false (by have := HC.out; omega)]; rfl), below_trans (below_alloc hbel _) hb⟩

theorem fair_any (r : Req) (p t k m : Int) (w : World) : Calls Try.prog 9 #[r.v, effV p t k m] w (BoolEnd (fairB r p t k m) w) := by
  cases his : isB r with
  | false => exact fair_not_op r p t k m w his
  | true => exact fair_op r p t k m w his

end Go.Proofs.Ytocmmcbhonhgnaa
