/-
  Walks of layer 29: Enough.
-/
import Derived.Test.YtocmmcbhonhgnaaFairW
import Derived.Test.YtocmmcbhonhgnaaEnoughM
namespace Go.Proofs.Ytocmmcbhonhgnaa
open Go.RowKit
set_option linter.unusedVariables false

theorem reads_two (w : World) (a b : Int) (e : TypeId) : Reads (w.alloc (.cells #[.int .i64 a, .int .i64 b] e)) (w.alloc (.cells #[.int .i64 a, .int .i64 b] e)).heap.size 1 (some ⟨w.heap.size, 0, none⟩) 2 (ints [a, b]) :=
  ⟨rfl, fun _ => ⟨_, rfl, by simp, fun j u hu => by
    match j, hu with
    | 0, hu => simp [ints] at hu; subst hu; simp [Addr.add]
    | 1, hu => simp [ints] at hu; subst hu; simp [Addr.add]⟩⟩

theorem enough_no1 (r : Req) (t m : Int) (w : World) (his : isB r = false) : Calls Try.prog 15 #[r.v, .int .i64 t, .int .i64 m] w (IntEnd (enoughOf r t m) w) := by
  have e : enoughOf r t m = 0 := by simp [enoughOf, his]
  have HE := Lib.hid e
  have HI := Lib.hid his
  clear e his
  go_enter Try.func15, Try.ntmps15
  go_wp2_with fail
  refine (is_any r _).mono ?_
  rintro e w1 ⟨rfl, hb⟩
  rw [HI.out]
  go_wp2
  go_ret
  exact ⟨ret_int HE.out.symm, below_trans (below_box w _) hb⟩

theorem enough_no2 (r : Req) (t m : Int) (w : World) (his : isB r = true) (ht : ¬ (smallB t = true ∧ smallB m = true)) : Calls Try.prog 15 #[r.v, .int .i64 t, .int .i64 m] w (IntEnd (enoughOf r t m) w) := by
  have e : enoughOf r t m = 0 := by simp [enoughOf, his]; intro h1 h2; exact absurd ⟨h1, h2⟩ ht
  have HE := Lib.hid e
  have HI := Lib.hid his
  have ha : [t, m].all smallB = false := by
    cases h1 : smallB t <;> cases h2 : smallB m <;> simp [h1, h2] at ht ⊢
  have HA := Lib.hid ha
  clear e his ht ha
  go_enter Try.func15, Try.ntmps15
  go_wp2_with fail
  refine (is_any r _).mono ?_
  rintro e w1 ⟨rfl, hb⟩
  rw [HI.out]
  go_wp2_with fail
  refine (within_any [t, m] _ _ _ _ (by omega) (reads_two w1 t m _)).mono ?_
  rintro e w2 ⟨rfl, rfl⟩
  rw [HA.out]
  go_wp2
  go_ret
  exact ⟨ret_int HE.out.symm, below_alloc (below_trans (below_box w _) hb) _⟩

set_option maxHeartbeats 3200000 in
theorem enough_yes (r : Req) (t m : Int) (w : World) (his : isB r = true) (ht : smallB t = true) (hm : smallB m = true) : Calls Try.prog 15 #[r.v, .int .i64 t, .int .i64 m] w (IntEnd (enoughOf r t m) w) := by
  have e : enoughOf r t m = leastFrom r (boundOf r t + m) 4095 2 := by simp [enoughOf, his, ht, hm]
  have hbb := bound_pos his ht
  have hmm : 0 ≤ m ∧ m ≤ 1099511627776 := by simpa [smallB] using hm
  have HE := Lib.hid e
  have HI := Lib.hid his
  have ha : [t, m].all smallB = true := by simp [ht, hm]
  have HA := Lib.hid ha
  generalize hB : boundOf r t = B at hbb HE
  have HB := Lib.hid hB
  clear e his ht ha hB
  have s1 : IntKind.i64.wrap (B + m) = B + m := IntWalk.i64_in _ (by omega)
  go_enter Try.func15, Try.ntmps15
  go_wp2_with fail
  refine (is_any r _).mono ?_
  rintro e w1 ⟨rfl, hb⟩
  rw [HI.out]
  have hblk := (req_box r w 31).below hb (by simp)
  have hbel := below_trans (below_box w _) hb
  clear hb
  go_wp2_with fail
  refine (within_any [t, m] _ _ _ _ (by omega) (reads_two w1 t m _)).mono ?_
  rintro e w2 ⟨rfl, rfl⟩
  rw [HA.out]
  generalize hW : (w1.alloc (Obj.cells _ _)) = W
  have hblk2 : Blk W w.heap.size 31 r.row.toArray := by rw [← hW]; exact hblk.alloc _
  have hbel2 : Below w.heap.size w W := by rw [← hW]; exact hbel.alloc hbel.size _
  have hsz2 := hblk2.lt
  clear hW hblk hbel
  obtain ⟨h0, h1, h2, h3, h4, h5, h6, h7, h8, h9, h10, h11⟩ := req_cells hblk2
  go_wp2_with fail
  refine (bound_any r t _).mono ?_
  rintro e w2 ⟨rfl, hb⟩
  rw [HB.out]
  have hblk3 := hblk2.below hb hsz2
  have hbel3 := below_trans hbel2 hb
  clear hb h0 h1 h2 h3 h4 h5 h6 h7 h8 h9 h10 h11 hblk2 hbel2 hsz2
  go_wp2_with fail
  go_loopw [8, 9] (fun lo hi wr => ∃ low high : Int, lo = .int .i64 low ∧ hi = .int .i64 high ∧ Srch r (B + m) low high ∧ Blk wr w.heap.size 31 r.row.toArray ∧ Below w.heap.size w wr) (fun lo hi _ => (intOf hi - intOf lo).toNat)
  case atStart => exact ⟨2, 4097, rfl, rfl, Srch.start _ _, hblk3, hbel3⟩
  case round =>
    obtain ⟨low, high, rfl, rfl, hs, hblk, hbel⟩ := hrel
    have a1 := hs.lo
    have a2 := hs.le
    have a3 := hs.hi
    obtain ⟨h0, h1, h2, h3, h4, h5, h6, h7, h8, h9, h10, h11⟩ := req_cells hblk
    have hsz := hblk.lt
    by_cases hl : low < high
    · go_wp2_with fail
      refine (picks_any r _ _).mono ?_
      rintro e w3 ⟨rfl, hb⟩
      have hblk4 := hblk.below hb hsz
      have hbel4 := below_trans hbel hb
      clear hb h0 h1 h2 h3 h4 h5 h6 h7 h8 h9 h10 h11 hblk hbel hsz
      by_cases hp : B + m < picksOf r ((low + high) / 2)
      · have hs2 := hs.down hl hp
        go_wp2
        go_roundw
        case rel => exact ⟨_, _, rfl, rfl, hs2, hblk4, hbel4⟩
        case measure => simp [intOf]; omega
      · have hs2 := hs.up HI.out hl (by omega)
        go_wp2
        go_roundw
        case rel => exact ⟨_, _, rfl, rfl, hs2, hblk4, hbel4⟩
        case measure => simp [intOf]; omega
    · obtain rfl : low = high := by omega
      have hd := hs.done
      have HD := Lib.hid hd
      clear hd
      by_cases h4096 : low ≤ 4096
      · go_wp2
        go_ret
        exact ⟨ret_int (by rw [HE.out, HD.out, if_pos h4096]), hbel⟩
      · go_wp2
        go_ret
        exact ⟨ret_int (by rw [HE.out, HD.out, if_neg (by omega)]), hbel⟩

theorem enough_any (r : Req) (t m : Int) (w : World) : Calls Try.prog 15 #[r.v, .int .i64 t, .int .i64 m] w (IntEnd (enoughOf r t m) w) := by
  cases his : isB r with
  | false => exact enough_no1 r t m w his
  | true =>
    by_cases h : smallB t = true ∧ smallB m = true
    · exact enough_yes r t m w his h.1 h.2
    · exact enough_no2 r t m w his h
end Go.Proofs.Ytocmmcbhonhgnaa
