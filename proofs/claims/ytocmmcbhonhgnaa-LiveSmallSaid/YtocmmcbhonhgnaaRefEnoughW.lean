/-
  Walks: the reference's Enough (layer 29).
-/
import Derived.Test.YtocmmcbhonhgnaaRefLiveW
namespace Go.Proofs.Ytocmmcbhonhgnaa
open Go.RowKit
set_option linter.unusedVariables false

theorem renough_no1 (r : Req) (t m : Int) (w : World) (his : isB r = false) : Calls Try.prog 19 #[r.v, .int .i64 t, .int .i64 m] w (IntEnd (enoughOf r t m) w) := by
  have e : enoughOf r t m = 0 := by simp [enoughOf, his]
  have HE := Lib.hid e
  have HI := Lib.hid his
  clear e his
  go_enter Try.func19, Try.ntmps19
  go_wp2_with fail
  refine (ris_any r _).mono ?_
  rintro e w1 ⟨rfl, hb⟩
  rw [HI.out]
  go_wp2
  go_ret
  exact ⟨ret_int HE.out.symm, below_trans (below_box w _) hb⟩

theorem renough_no2 (r : Req) (t m : Int) (w : World) (his : isB r = true) (ht : smallB t = false) : Calls Try.prog 19 #[r.v, .int .i64 t, .int .i64 m] w (IntEnd (enoughOf r t m) w) := by
  have e : enoughOf r t m = 0 := by simp [enoughOf, ht]
  have HE := Lib.hid e
  have HI := Lib.hid his
  have HA := Lib.hid ht
  clear e his ht
  go_enter Try.func19, Try.ntmps19
  go_wp2_with fail
  refine (ris_any r _).mono ?_
  rintro e w1 ⟨rfl, hb⟩
  rw [HI.out]
  go_wp2_with fail
  refine (small_any t _).mono ?_
  rintro e w2 ⟨rfl, rfl⟩
  rw [HA.out]
  go_wp2
  go_ret
  exact ⟨ret_int HE.out.symm, below_trans (below_box w _) hb⟩

theorem renough_no3 (r : Req) (t m : Int) (w : World) (his : isB r = true) (ht : smallB t = true) (hm : smallB m = false) : Calls Try.prog 19 #[r.v, .int .i64 t, .int .i64 m] w (IntEnd (enoughOf r t m) w) := by
  have e : enoughOf r t m = 0 := by simp [enoughOf, hm]
  have HE := Lib.hid e
  have HI := Lib.hid his
  have HA := Lib.hid ht
  have HM := Lib.hid hm
  clear e his ht hm
  go_enter Try.func19, Try.ntmps19
  go_wp2_with fail
  refine (ris_any r _).mono ?_
  rintro e w1 ⟨rfl, hb⟩
  rw [HI.out]
  go_wp2_with fail
  refine (small_any t _).mono ?_
  rintro e w2 ⟨rfl, rfl⟩
  rw [HA.out]
  go_wp2_with fail
  refine (small_any m _).mono ?_
  rintro e w2 ⟨rfl, rfl⟩
  rw [HM.out]
  go_wp2
  go_ret
  exact ⟨ret_int HE.out.symm, below_trans (below_box w _) hb⟩

theorem leastFrom_step {r : Req} {need b : Int} (n : Nat) (h : picksOf r b ≤ need) : leastFrom r need (n + 1) b = leastFrom r need n (b + 1) := by
  rw [leastFrom, if_neg (by omega)]
theorem leastFrom_found {r : Req} {need b : Int} (n : Nat) (h : need < picksOf r b) : leastFrom r need (n + 1) b = b := by
  rw [leastFrom, if_pos h]

set_option maxHeartbeats 3200000 in
theorem renough_yes (r : Req) (t m : Int) (w : World) (his : isB r = true) (ht : smallB t = true) (hm : smallB m = true) : Calls Try.prog 19 #[r.v, .int .i64 t, .int .i64 m] w (IntEnd (enoughOf r t m) w) := by
  have e : enoughOf r t m = leastFrom r (boundOf r t + m) 4095 2 := by simp [enoughOf, his, ht, hm]
  have hbb := bound_pos his ht
  have hmm : 0 ≤ m ∧ m ≤ 1099511627776 := by simpa [smallB] using hm
  have HE := Lib.hid e
  have HI := Lib.hid his
  have HA := Lib.hid ht
  have HM := Lib.hid hm
  generalize hB : boundOf r t = B at hbb HE
  have HB := Lib.hid hB
  clear e his ht hm hB
  have s1 : IntKind.i64.wrap (B + m) = B + m := IntWalk.i64_in _ (by omega)
  go_enter Try.func19, Try.ntmps19
  go_wp2_with fail
  refine (ris_any r _).mono ?_
  rintro e w1 ⟨rfl, hb⟩
  rw [HI.out]
  have hblk := (req_box r w 31).below hb (by simp)
  have hbel := below_trans (below_box w _) hb
  have hsz := hblk.lt
  clear hb
  obtain ⟨h0, h1, h2, h3, h4, h5, h6, h7, h8, h9, h10, h11⟩ := req_cells hblk
  go_wp2_with fail
  refine (small_any t _).mono ?_
  rintro e w2 ⟨rfl, rfl⟩
  rw [HA.out]
  go_wp2_with fail
  refine (small_any m _).mono ?_
  rintro e w2 ⟨rfl, rfl⟩
  rw [HM.out]
  go_wp2_with fail
  refine (rbound_any r t _).mono ?_
  rintro e w2 ⟨rfl, hb⟩
  rw [HB.out]
  have hblk3 := hblk.below hb hsz
  have hbel3 := below_trans hbel hb
  clear hb h0 h1 h2 h3 h4 h5 h6 h7 h8 h9 h10 h11 hblk hbel hsz
  go_wp2_with fail
  go_loopw [8] (fun lo wr => ∃ k : Nat, k ≤ 4095 ∧ lo = .int .i64 (2 + (k : Int)) ∧ Hid (leastFrom r (B + m) (4095 - k) (2 + (k : Int)) = leastFrom r (B + m) 4095 2) ∧ Blk wr w.heap.size 31 r.row.toArray ∧ Below w.heap.size w wr) (fun lo _ => (4097 - intOf lo).toNat)
  case atStart => exact ⟨0, by omega, rfl, rfl, hblk3, hbel3⟩
  case round =>
    obtain ⟨k, hk, rfl, HK, hblk, hbel⟩ := hrel
    obtain ⟨h0, h1, h2, h3, h4, h5, h6, h7, h8, h9, h10, h11⟩ := req_cells hblk
    have hsz := hblk.lt
    by_cases hl : k < 4095
    · obtain ⟨n, hn⟩ : ∃ n, 4095 - k = n + 1 := ⟨4094 - k, by omega⟩
      have hn2 : 4095 - (k + 1) = n := by omega
      have HN := Lib.hid hn
      have HN2 := Lib.hid hn2
      clear hn hn2
      go_wp2_with fail
      refine (rpicks_any r _ _).mono ?_
      rintro e w3 ⟨rfl, hb⟩
      have hblk4 := hblk.below hb hsz
      have hbel4 := below_trans hbel hb
      clear hb h0 h1 h2 h3 h4 h5 h6 h7 h8 h9 h10 h11 hblk hbel hsz
      by_cases hp : B + m < picksOf r (2 + (k : Int))
      · have HP := Lib.hid hp
        go_wp2
        go_ret
        exact ⟨ret_int (by rw [HE.out, ← HK.out, HN.out, leastFrom_found n HP.out]), hbel4⟩
      · have HP : Hid (picksOf r (2 + (k : Int)) ≤ B + m) := (by omega : picksOf r (2 + (k : Int)) ≤ B + m)
        go_wp2
        go_roundw
        case rel => exact ⟨k + 1, by omega, by go_num, by
          have := HK.out
          rw [HN.out, leastFrom_step n HP.out] at this
          rw [HN2.out, show (2 + ((k + 1 : Nat) : Int)) = 2 + (k : Int) + 1 by omega]
          exact this, hblk4, hbel4⟩
        case measure => simp [intOf]; omega
    · obtain rfl : k = 4095 := by omega
      go_wp2
      go_ret
      exact ⟨ret_int (by rw [HE.out, ← HK.out]; rfl), hbel⟩

theorem renough_any (r : Req) (t m : Int) (w : World) : Calls Try.prog 19 #[r.v, .int .i64 t, .int .i64 m] w (IntEnd (enoughOf r t m) w) := by
  cases his : isB r with
  | false => exact renough_no1 r t m w his
  | true =>
    cases ht : smallB t with
    | false => exact renough_no2 r t m w his ht
    | true =>
      cases hm : smallB m with
      | false => exact renough_no3 r t m w his ht hm
      | true => exact renough_yes r t m w his ht hm
end Go.Proofs.Ytocmmcbhonhgnaa
