/-
  Walks: the reference of layer 29: Is, Way, Bound, small, Fair, Enough.
-/
import Derived.Test.YtocmmcbhonhgnaaRefEncW
import Derived.Test.YtocmmcbhonhgnaaFairW
import Derived.Test.YtocmmcbhonhgnaaEnoughM
namespace Go.Proofs.Ytocmmcbhonhgnaa
open Go.RowKit
set_option linter.unusedVariables false

theorem small_any (n : Int) (w : World) : Calls Try.prog 22 #[.int .i64 n] w fun e w' => e = .returned (.bool (smallB n)) ∧ w = w' := by
  go_enter Try.func22, Try.ntmps22
  go_wp2
  all_goals go_ret
  all_goals refine ⟨ret_bool ?_, rfl⟩
  all_goals (rw [Bool.eq_iff_iff]; simp [smallB]; omega)

set_option maxHeartbeats 800000 in
theorem ris_any (r : Req) (w : World) : Calls Try.prog 17 #[r.v] w (BoolEnd (isB r) w) := by
  go_enter Try.func17, Try.ntmps17
  go_wp2
  all_goals go_ret
  all_goals refine ⟨ret_bool ?_, below_box w _⟩
  all_goals (rw [Bool.eq_iff_iff]; simp [isB]; omega)

theorem rway_no (r : Req) (w : World) (his : isB r = false) : Calls Try.prog 18 #[r.v] w (IntEnd (wayOf r) w) := by
  have e : wayOf r = 0 := by simp [wayOf, his]
  have HE := Lib.hid e
  have HI := Lib.hid his
  clear e his
  go_enter Try.func18, Try.ntmps18
  go_wp2_with fail
  refine (ris_any r _).mono ?_
  rintro e w1 ⟨rfl, hb⟩
  rw [HI.out]
  go_wp2
  go_ret
  exact ⟨ret_int HE.out.symm, below_trans (below_box w _) hb⟩

set_option maxHeartbeats 1600000 in
theorem rway_yes (r : Req) (w : World) (his : isB r = true) (n : Nat) (hn : n = if r.deed = 5 then 34 else (encode r.key.data.toList).length) : Calls Try.prog 18 #[r.v] w (IntEnd (wayOf r) w) := by
  have hk : r.key.size ≤ 16 := by simp [isB] at his; omega
  have hd : 1 ≤ r.deed ∧ r.deed ≤ 5 := by simp [isB] at his; omega
  have hl := encode_len r.key hk
  have hn34 : n ≤ 34 := by rw [hn]; split <;> omega
  have e : wayOf r = 4 * (n : Int) + 3 + addOf r.deed := by
    unfold wayOf
    rw [if_pos his, hn]
    by_cases h5 : r.deed = 5
    · rw [if_pos h5, if_pos h5, h5]; decide
    · rw [if_neg h5, if_neg h5]
  have HE := Lib.hid e
  have HI := Lib.hid his
  have HN := Lib.hid hn
  generalize hc : encode r.key.data.toList = c at HN hl
  have HC := Lib.hid hc
  clear e his hn hc
  go_enter Try.func18, Try.ntmps18
  go_wp2_with fail
  refine (ris_any r _).mono ?_
  rintro e w1 ⟨rfl, hb⟩
  rw [HI.out]
  have hblk := (req_box r w 31).below hb (by simp)
  have hbel := below_trans (below_box w _) hb
  clear hb
  obtain ⟨h0, h4⟩ : w1.cell? ⟨w.heap.size, 0, none⟩ = some (.int .i64 r.deed) ∧ w1.cell? ⟨w.heap.size, 4, none⟩ = some (.string r.key) := ⟨hblk.cell 0, hblk.cell 4⟩
  go_wp2_with fail
  refine (rencode_any r.key _ hk).mono ?_
  rintro e w2 ⟨rfl, rfl⟩
  rw [HC.out]
  by_cases h5 : r.deed = 5
  · have hb5 : (r.deed == 5) = true := by simp [h5]
    have hnv : n = 34 := by have := HN.out; rw [if_pos h5] at this; exact this
    have HNV := Lib.hid hnv
    have H5 := Lib.hid h5
    have x2 : (r.deed == 2) = false := by simp [h5]
    have x4 : (r.deed == 4) = false := by simp [h5]
    have x3 : (r.deed == 3) = false := by simp [h5]
    clear hnv h5
    go_wp2
    go_loop [6, 7] (fun s i => ∃ k : Nat, k ≤ 34 ∧ i = .int .i64 k ∧ s = .int .i64 (3 + 4 * (k : Int))) (fun _ i => 34 - (intOf i).toNat)
    case atStart => exact ⟨0, by omega, rfl, rfl⟩
    case round =>
      obtain ⟨k, hk, rfl, rfl⟩ := hrel
      by_cases hlt : k < 34
      · go_wp2
        go_round
        case rel => exact ⟨k + 1, by omega, by go_num, by go_num⟩
        case measure => simp [intOf]; omega
      · obtain rfl : k = 34 := by omega
        go_wp2
        go_ret
        exact ⟨ret_int (by rw [HE.out, HNV.out, H5.out]; decide), hbel⟩
  · have hb5 : (r.deed == 5) = false := by simp [h5]
    have hnv : n = c.length := by have := HN.out; rw [if_neg h5] at this; exact this
    have HNV := Lib.hid hnv
    clear hnv
    have h5' : r.deed < 5 := by omega
    clear h5
    go_wp2
    go_loop [6, 7] (fun s i => ∃ k : Nat, k ≤ c.length ∧ i = .int .i64 k ∧ s = .int .i64 (3 + 4 * (k : Int))) (fun _ i => c.length - (intOf i).toNat)
    case atStart => exact ⟨0, by omega, rfl, rfl⟩
    case round =>
      obtain ⟨k, hk, rfl, rfl⟩ := hrel
      by_cases hlt : k < c.length
      · go_wp2
        go_round
        case rel => exact ⟨k + 1, by omega, by go_num, by go_num⟩
        case measure => simp [intOf]; omega
      · have hk2 : k = c.length := by omega
        have HK := Lib.hid hk2
        clear hk2
        go_wp2
        all_goals go_ret
        all_goals refine ⟨ret_int ?_, hbel⟩
        all_goals (rw [HE.out, HNV.out, ← HK.out]; unfold addOf)
        · rw [if_pos (by simpa using ‹(r.deed == 2) = true›)]; omega
        · rw [if_neg (by simpa using ‹(r.deed == 2) = false›), if_neg (by have := ‹(r.deed == 4) = true›; simp at this; omega), if_pos (by simpa using ‹(r.deed == 4) = true›)]; omega
        · rw [if_neg (by simpa using ‹(r.deed == 2) = false›), if_pos (by simpa using ‹(r.deed == 3) = true›)]; omega
        · rw [if_neg (by simpa using ‹(r.deed == 2) = false›), if_neg (by simpa using ‹(r.deed == 3) = false›), if_neg (by simpa using ‹(r.deed == 4) = false›)]; omega

theorem rway_any (r : Req) (w : World) : Calls Try.prog 18 #[r.v] w (IntEnd (wayOf r) w) := by
  cases his : isB r with
  | false => exact rway_no r w his
  | true => exact rway_yes r w his _ rfl

theorem rbound_no1 (r : Req) (t : Int) (w : World) (his : isB r = false) : Calls Try.prog 11 #[r.v, .int .i64 t] w (IntEnd (boundOf r t) w) := by
  have e : boundOf r t = 0 := by simp [boundOf, his]
  have HE := Lib.hid e
  have HI := Lib.hid his
  clear e his
  go_enter Try.func11, Try.ntmps11
  go_wp2_with fail
  refine (ris_any r _).mono ?_
  rintro e w1 ⟨rfl, hb⟩
  rw [HI.out]
  go_wp2
  go_ret
  exact ⟨ret_int HE.out.symm, below_trans (below_box w _) hb⟩

theorem rbound_no2 (r : Req) (t : Int) (w : World) (his : isB r = true) (ht : smallB t = false) : Calls Try.prog 11 #[r.v, .int .i64 t] w (IntEnd (boundOf r t) w) := by
  have e : boundOf r t = 0 := by simp [boundOf, ht]
  have HE := Lib.hid e
  have HI := Lib.hid his
  have htt : t < 0 ∨ (0 ≤ t ∧ 1099511627776 < t) := by simp [smallB] at ht; omega
  clear e his ht
  rcases htt with h | h
  all_goals
    go_enter Try.func11, Try.ntmps11
    go_wp2_with fail
    refine (ris_any r _).mono ?_
    rintro e w1 ⟨rfl, hb⟩
    rw [HI.out]
    go_wp2
    go_ret
    exact ⟨ret_int HE.out.symm, below_trans (below_box w _) hb⟩

set_option maxHeartbeats 3200000 in
theorem rbound_yes (r : Req) (t : Int) (w : World) (his : isB r = true) (ht : smallB t = true) : Calls Try.prog 11 #[r.v, .int .i64 t] w (IntEnd (boundOf r t) w) := by
  have htt : 0 ≤ t ∧ t ≤ 1099511627776 := by simpa [smallB] using ht
  have hw := way_pos his
  have hl : r.deed = 5 → 0 ≤ r.lim ∧ r.lim ≤ 4096 := by intro h5; simp [isB, h5] at his; omega
  have e5 : r.deed = 5 → boundOf r t = 36 * r.lim * wayOf r + t * wayOf r + 2 := by
    intro h5
    simp [boundOf, his, ht, h5, Int.add_mul]
  have en : r.deed ≠ 5 → boundOf r t = wayOf r + t * wayOf r + 1 := by
    intro h5
    simp [boundOf, his, ht, h5, Int.add_mul]
    omega
  have HI := Lib.hid his
  generalize hy : wayOf r = y at hw e5 en
  have HY := Lib.hid hy
  clear hy his ht
  have m1 : 0 ≤ t * y := Int.mul_nonneg (by omega) (by omega)
  have m2 : t * y ≤ t * 145 := Int.mul_le_mul_of_nonneg_left hw.2 (by omega)
  have s1 : IntKind.i64.wrap (t * y) = t * y := IntWalk.i64_in _ (by omega)
  by_cases h5 : r.deed = 5
  · have E := Lib.hid (e5 h5)
    have hl5 := hl h5
    have m3 : 0 ≤ 36 * r.lim * y := Int.mul_nonneg (by omega) (by omega)
    have m4 : 36 * r.lim * y ≤ 36 * r.lim * 145 := Int.mul_le_mul_of_nonneg_left hw.2 (by omega)
    have s2 : IntKind.i64.wrap (36 * r.lim) = 36 * r.lim := IntWalk.i64_in _ (by omega)
    have s3 : IntKind.i64.wrap (36 * r.lim * y) = 36 * r.lim * y := IntWalk.i64_in _ (by omega)
    have s4 : IntKind.i64.wrap (36 * r.lim * y + t * y) = 36 * r.lim * y + t * y := IntWalk.i64_in _ (by omega)
    have s5 : IntKind.i64.wrap (36 * r.lim * y + t * y + 2) = 36 * r.lim * y + t * y + 2 := IntWalk.i64_in _ (by omega)
    have hb5 : (r.deed == 5) = true := by simp [h5]
    clear h5 e5 en hl m1 m2 m3 m4 hw hl5
    go_enter Try.func11, Try.ntmps11
    go_wp2_with fail
    refine (ris_any r _).mono ?_
    rintro e w1 ⟨rfl, hb⟩
    rw [HI.out]
    have hblk := (req_box r w 31).below hb (by simp)
    have hbel := below_trans (below_box w _) hb
    have hsz := hblk.lt
    clear hb
    obtain ⟨h0, h1, h2, h3, h4, h5, h6, h7, h8, h9, h10, h11⟩ := req_cells hblk
    go_wp2_with fail
    go_region_held3 (fun w' => Blk w' w.heap.size 31 r.row.toArray ∧ Below w.heap.size w w' ∧ w'.cell? ⟨w.heap.size, 0, none⟩ = some (.int .i64 r.deed) ∧ w'.cell? ⟨w.heap.size, 1, none⟩ = some (.int .i64 r.ten) ∧ w'.cell? ⟨w.heap.size, 2, none⟩ = some (.int .u32 r.gen) ∧ w'.cell? ⟨w.heap.size, 3, none⟩ = some (.int .u8 r.rig) ∧ w'.cell? ⟨w.heap.size, 4, none⟩ = some (.string r.key) ∧ w'.cell? ⟨w.heap.size, 5, none⟩ = some (.string r.val) ∧ w'.cell? ⟨w.heap.size, 6, none⟩ = some (.string r.old) ∧ w'.cell? ⟨w.heap.size, 7, none⟩ = some (.int .i64 r.lim) ∧ w'.cell? ⟨w.heap.size, 8, none⟩ = some (.int .i64 r.tenant) ∧ w'.cell? ⟨w.heap.size, 9, none⟩ = some (.int .u64 r.qk) ∧ w'.cell? ⟨w.heap.size, 10, none⟩ = some (.int .u64 r.qb) ∧ w'.cell? ⟨w.heap.size, 11, none⟩ = some (.int .u8 r.rights)) ((refine ⟨?_, ?_, ?_⟩ <;> first | assumption | (refine Blk.drew ?_; assumption) | (refine Below.drew ?_; assumption) | go_keep))
      (first | (go_at_call 18; refine (rway_any r _).mono ?_; rintro e wn ⟨rfl, hb⟩; have hH := ‹Blk _ w.heap.size _ _ ∧ Below w.heap.size _ _ ∧ _›; rw [HY.out]; have hkN := Blk.below hH.1 hb (Blk.lt hH.1); have hBN := below_trans hH.2.1 hb; obtain ⟨q0, q1, q2, q3, q4, q5, q6, q7, q8, q9, q10, q11⟩ := req_cells hkN))
    rename_i hH
    go_wp2
    go_ret
    exact ⟨ret_int (by rw [E.out]), hH.2.1⟩
  · have E := Lib.hid (en h5)
    have s3 : IntKind.i64.wrap (y + t * y) = y + t * y := IntWalk.i64_in _ (by omega)
    have s4 : IntKind.i64.wrap (y + t * y + 1) = y + t * y + 1 := IntWalk.i64_in _ (by omega)
    have hb5 : (r.deed == 5) = false := by simp [h5]
    clear h5 e5 en hl m1 m2 hw
    go_enter Try.func11, Try.ntmps11
    go_wp2_with fail
    refine (ris_any r _).mono ?_
    rintro e w1 ⟨rfl, hb⟩
    rw [HI.out]
    have hblk := (req_box r w 31).below hb (by simp)
    have hbel := below_trans (below_box w _) hb
    have hsz := hblk.lt
    clear hb
    obtain ⟨h0, h1, h2, h3, h4, h5, h6, h7, h8, h9, h10, h11⟩ := req_cells hblk
    go_wp2_with fail
    go_region_held3 (fun w' => Blk w' w.heap.size 31 r.row.toArray ∧ Below w.heap.size w w' ∧ w'.cell? ⟨w.heap.size, 0, none⟩ = some (.int .i64 r.deed) ∧ w'.cell? ⟨w.heap.size, 1, none⟩ = some (.int .i64 r.ten) ∧ w'.cell? ⟨w.heap.size, 2, none⟩ = some (.int .u32 r.gen) ∧ w'.cell? ⟨w.heap.size, 3, none⟩ = some (.int .u8 r.rig) ∧ w'.cell? ⟨w.heap.size, 4, none⟩ = some (.string r.key) ∧ w'.cell? ⟨w.heap.size, 5, none⟩ = some (.string r.val) ∧ w'.cell? ⟨w.heap.size, 6, none⟩ = some (.string r.old) ∧ w'.cell? ⟨w.heap.size, 7, none⟩ = some (.int .i64 r.lim) ∧ w'.cell? ⟨w.heap.size, 8, none⟩ = some (.int .i64 r.tenant) ∧ w'.cell? ⟨w.heap.size, 9, none⟩ = some (.int .u64 r.qk) ∧ w'.cell? ⟨w.heap.size, 10, none⟩ = some (.int .u64 r.qb) ∧ w'.cell? ⟨w.heap.size, 11, none⟩ = some (.int .u8 r.rights)) ((refine ⟨?_, ?_, ?_⟩ <;> first | assumption | (refine Blk.drew ?_; assumption) | (refine Below.drew ?_; assumption) | go_keep))
      (first | (go_at_call 18; refine (rway_any r _).mono ?_; rintro e wn ⟨rfl, hb⟩; have hH := ‹Blk _ w.heap.size _ _ ∧ Below w.heap.size _ _ ∧ _›; rw [HY.out]; have hkN := Blk.below hH.1 hb (Blk.lt hH.1); have hBN := below_trans hH.2.1 hb; obtain ⟨q0, q1, q2, q3, q4, q5, q6, q7, q8, q9, q10, q11⟩ := req_cells hkN))
    rename_i hH
    go_wp2
    go_ret
    exact ⟨ret_int (by rw [E.out]), hH.2.1⟩

theorem rbound_any (r : Req) (t : Int) (w : World) : Calls Try.prog 11 #[r.v, .int .i64 t] w (IntEnd (boundOf r t) w) := by
  cases his : isB r with
  | false => exact rbound_no1 r t w his
  | true =>
    cases ht : smallB t with
    | false => exact rbound_no2 r t w his ht
    | true => exact rbound_yes r t w his ht

theorem rfair_not (r : Req) (p t k m : Int) (w : World) (his : isB r = false) : Calls Try.prog 10 #[r.v, effV p t k m] w (BoolEnd (fairB r p t k m) w) := by
  have e : fairB r p t k m = false := by simp [fairB, his]
  have HE := Lib.hid e
  have HI := Lib.hid his
  clear e his
  go_enter Try.func10, Try.ntmps10
  go_wp2_with fail
  refine (ris_any r _).mono ?_
  rintro e w1 ⟨rfl, hb⟩
  rw [HI.out]
  go_wp2
  go_ret
  exact ⟨ret_bool HE.out.symm, below_trans (below_alloc (below_box w _) _) hb⟩

set_option maxHeartbeats 3200000 in
theorem rfair_op (r : Req) (p t k m : Int) (w : World) (his : isB r = true) : Calls Try.prog 10 #[r.v, effV p t k m] w (BoolEnd (fairB r p t k m) w) := by
  have HI := Lib.hid his
  clear his
  go_enter Try.func10, Try.ntmps10
  go_wp2_with fail
  refine (ris_any r _).mono ?_
  rintro e w1 ⟨rfl, hb⟩
  rw [HI.out]
  have hblk := ((req_box r w 31).alloc (.cells #[.int .i64 p, .int .i64 t, .int .i64 k, .int .i64 m] 38)).below hb (by simp; omega)
  have hble := (Blk.new (w.alloc (.cells #[.int .i64 r.deed, .int .i64 r.ten, .int .u32 r.gen, .int .u8 r.rig, .string r.key, .string r.val, .string r.old, .int .i64 r.lim, .int .i64 r.tenant, .int .u64 r.qk, .int .u64 r.qb, .int .u8 r.rights] 31)) 38 #[.int .i64 p, .int .i64 t, .int .i64 k, .int .i64 m]).below hb (by simp)
  have hbel := below_trans (below_alloc (below_box w _) _) hb
  have hsz := hblk.lt
  have hsz2 := hble.lt
  simp at hble hsz2
  clear hb
  obtain ⟨h0, h1, h2, h3, h4, h5, h6, h7, h8, h9, h10, h11⟩ := req_cells hblk
  have e0 := hble.cell 0
  have e1 := hble.cell 1
  have e2 := hble.cell 2
  have e3 := hble.cell 3
  simp at e0 e1 e2 e3
  cases a1 : smallB p with
  | false =>
    have E : Hid (fairB r p t k m = false) := (by simp [fairB, a1] : fairB r p t k m = false)
    have A1 := Lib.hid a1
    clear a1
    go_wp2_with fail
    refine (small_any p _).mono ?_
    rintro e w2 ⟨rfl, rfl⟩
    rw [A1.out]
    go_wp2
    go_ret
    exact ⟨ret_bool E.out.symm, hbel⟩
  | true =>
  have A1 := Lib.hid a1
  clear a1
  cases a2 : smallB t with
  | false =>
    have E : Hid (fairB r p t k m = false) := (by simp [fairB, a2] : fairB r p t k m = false)
    have A2 := Lib.hid a2
    clear a2
    go_wp2_with fail
    refine (small_any p _).mono ?_
    rintro e w2 ⟨rfl, rfl⟩
    rw [A1.out]
    go_wp2_with fail
    refine (small_any t _).mono ?_
    rintro e w2 ⟨rfl, rfl⟩
    rw [A2.out]
    go_wp2
    go_ret
    exact ⟨ret_bool E.out.symm, hbel⟩
  | true =>
  have A2 := Lib.hid a2
  clear a2
  cases a3 : smallB k with
  | false =>
    have E : Hid (fairB r p t k m = false) := (by simp [fairB, a3] : fairB r p t k m = false)
    have A3 := Lib.hid a3
    clear a3
    go_wp2_with fail
    refine (small_any p _).mono ?_
    rintro e w2 ⟨rfl, rfl⟩
    rw [A1.out]
    go_wp2_with fail
    refine (small_any t _).mono ?_
    rintro e w2 ⟨rfl, rfl⟩
    rw [A2.out]
    go_wp2_with fail
    refine (small_any k _).mono ?_
    rintro e w2 ⟨rfl, rfl⟩
    rw [A3.out]
    go_wp2
    go_ret
    exact ⟨ret_bool E.out.symm, hbel⟩
  | true =>
  have A3 := Lib.hid a3
  clear a3
  go_wp2_with fail
  refine (small_any p _).mono ?_
  rintro e w2 ⟨rfl, rfl⟩
  rw [A1.out]
  go_wp2_with fail
  refine (small_any t _).mono ?_
  rintro e w2 ⟨rfl, rfl⟩
  rw [A2.out]
  go_wp2_with fail
  refine (small_any k _).mono ?_
  rintro e w2 ⟨rfl, rfl⟩
  rw [A3.out]
  go_wp2_with fail
  refine (small_any m _).mono ?_
  rintro e w2 ⟨rfl, rfl⟩
  cases a4 : smallB m with
  | false =>
    have E : Hid (fairB r p t k m = false) := (by simp [fairB, a4] : fairB r p t k m = false)
    clear a4
    go_wp2
    go_ret
    exact ⟨ret_bool E.out.symm, hbel⟩
  | true =>
    have e : fairB r p t k m = (decide (t ≤ k + 1) && decide (p ≤ boundOf r t + m)) := by simp [fairB, HI.out, A1.out, A2.out, A3.out, a4]
    have E := Lib.hid e
    have b1 : 0 ≤ p ∧ p ≤ 1099511627776 := by have := A1.out; simpa [smallB] using this
    have b2 : 0 ≤ t ∧ t ≤ 1099511627776 := by have := A2.out; simpa [smallB] using this
    have b3 : 0 ≤ k ∧ k ≤ 1099511627776 := by have := A3.out; simpa [smallB] using this
    have b4 : 0 ≤ m ∧ m ≤ 1099511627776 := by simpa [smallB] using a4
    have s1 : IntKind.i64.wrap (1 + k) = 1 + k := IntWalk.i64_in _ (by omega)
    have s2 : IntKind.i64.wrap (p - m) = p - m := IntWalk.i64_in _ (by omega)
    clear a4 e
    by_cases hc : t ≤ 1 + k
    · have hd : decide (t ≤ 1 + k) = true := by simpa using hc
      have hd2 : decide (t ≤ k + 1) = true := by simp; omega
      have HD := Lib.hid hd2
      clear hc hd2
      go_wp2_with fail
      go_region_held3 (fun w' => Blk w' w.heap.size 31 r.row.toArray ∧ Below w.heap.size w w' ∧ Blk w' (w.heap.size + 1) 38 #[.int .i64 p, .int .i64 t, .int .i64 k, .int .i64 m] ∧ w'.cell? ⟨w.heap.size + 1, 0, none⟩ = some (.int .i64 p) ∧ w'.cell? ⟨w.heap.size + 1, 1, none⟩ = some (.int .i64 t) ∧ w'.cell? ⟨w.heap.size + 1, 2, none⟩ = some (.int .i64 k) ∧ w'.cell? ⟨w.heap.size + 1, 3, none⟩ = some (.int .i64 m) ∧ w'.cell? ⟨w.heap.size, 0, none⟩ = some (.int .i64 r.deed) ∧ w'.cell? ⟨w.heap.size, 1, none⟩ = some (.int .i64 r.ten) ∧ w'.cell? ⟨w.heap.size, 2, none⟩ = some (.int .u32 r.gen) ∧ w'.cell? ⟨w.heap.size, 3, none⟩ = some (.int .u8 r.rig) ∧ w'.cell? ⟨w.heap.size, 4, none⟩ = some (.string r.key) ∧ w'.cell? ⟨w.heap.size, 5, none⟩ = some (.string r.val) ∧ w'.cell? ⟨w.heap.size, 6, none⟩ = some (.string r.old) ∧ w'.cell? ⟨w.heap.size, 7, none⟩ = some (.int .i64 r.lim) ∧ w'.cell? ⟨w.heap.size, 8, none⟩ = some (.int .i64 r.tenant) ∧ w'.cell? ⟨w.heap.size, 9, none⟩ = some (.int .u64 r.qk) ∧ w'.cell? ⟨w.heap.size, 10, none⟩ = some (.int .u64 r.qb) ∧ w'.cell? ⟨w.heap.size, 11, none⟩ = some (.int .u8 r.rights)) ((refine ⟨?_, ?_, ?_, ?_⟩ <;> first | assumption | (refine Blk.drew ?_; assumption) | (refine Below.drew ?_; assumption) | go_keep))
        (first | (go_at_call 11; refine (rbound_any r _ _).mono ?_; rintro e wn ⟨rfl, hb⟩; have hH := ‹Blk _ w.heap.size _ _ ∧ Below w.heap.size _ _ ∧ _›; have hkN := Blk.below hH.1 hb (Blk.lt hH.1); have hkE := Blk.below hH.2.2.1 hb (Blk.lt hH.2.2.1); have hBN := below_trans hH.2.1 hb; obtain ⟨q0, q1, q2, q3, q4, q5, q6, q7, q8, q9, q10, q11⟩ := req_cells hkN; have q12 := hkE.cell 0; have q13 := hkE.cell 1; have q14 := hkE.cell 2; have q15 := hkE.cell 3; simp at q12 q13 q14 q15))
      rename_i hH
      go_wp2
      go_ret
      exact ⟨ret_bool (by rw [E.out, HD.out, Bool.true_and, decide_eq_decide]; omega), hH.2.1⟩
    · have hd : decide (t ≤ 1 + k) = false := by simpa using hc
      have hd2 : decide (t ≤ k + 1) = false := by simp; omega
      have HD := Lib.hid hd2
      clear hc hd2
      go_wp2_with fail
      go_quiet (fail)
      go_wp2
      go_ret
      exact ⟨ret_bool (by rw [E.out, HD.out]; rfl), below_drewN hbel _⟩

theorem rfair_any (r : Req) (p t k m : Int) (w : World) : Calls Try.prog 10 #[r.v, effV p t k m] w (BoolEnd (fairB r p t k m) w) := by
  cases his : isB r with
  | false => exact rfair_not r p t k m w his
  | true => exact rfair_op r p t k m w his
end Go.Proofs.Ytocmmcbhonhgnaa
