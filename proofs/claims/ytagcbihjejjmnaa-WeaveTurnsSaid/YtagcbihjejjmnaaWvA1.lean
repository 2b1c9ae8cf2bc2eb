/-
  Layer 23: burgagekit's Pick and SameInts.
-/
import Derived.Test.YtagcbihjejjmnaaWvW5
namespace Go.Proofs.Ytagcbihjejjmnaa
open Go.RowKit
set_option linter.unusedVariables false
set_option linter.unusedSimpArgs false

theorem kit_pick (x : Int) (n : Nat) (W : World) (h1 : 0 < n) (h2 : n ≤ 4096) : Calls Try.prog 8 #[.int .i64 x, .int .i64 (n : Nat)] W (StayW (.int .i64 (x % (n : Int))) W) := by
  obtain ⟨q, hq, hq1, hq2, hq3, hq4⟩ := pick_idx x n h1
  have e1 := Int.emod_nonneg x (show (n : Int) ≠ 0 by omega)
  have e2 := Int.emod_lt_of_pos x (show (0 : Int) < n by omega)
  have e3 : (q + n) % (n : Int) = x % (n : Int) := by rw [hq3, Int.toNat_of_nonneg e1]
  have w1 : IntKind.i64.wrap q = q := IntWalk.i64_in _ (by omega)
  have w2 : IntKind.i64.wrap (q + (n : Int)) = q + (n : Int) := IntWalk.i64_in _ (by omega)
  have i1 : ¬ (n : Int) < 1 := by omega
  have n0 : ((n : Int) == 0) = false := by simp; omega
  clear hq3 hq4
  by_cases hneg : q < 0
  · have hx : q + n = x % (n : Int) := by
      rw [← e3, Int.emod_eq_of_lt (by omega) (by omega)]
    have HX := Lib.hid hx
    clear hx e1 e2 e3
    go_enter Try.func8, Try.ntmps8
    go_wp2_with fail
    go_ret
    exact ⟨congrArg (fun v => Ending.returned (Value.int .i64 v)) HX.out, rfl⟩
  · have hx : q = x % (n : Int) := by
      have : (q + n) % (n : Int) = q := by rw [Int.add_emod_right, Int.emod_eq_of_lt (by omega) (by omega)]
      omega
    have HX := Lib.hid hx
    clear hx e1 e2 e3
    go_enter Try.func8, Try.ntmps8
    go_wp2_with fail
    go_ret
    exact ⟨congrArg (fun v => Ending.returned (Value.int .i64 v)) HX.out, rfl⟩
/-- A call that only draws. -/
def DrewW (v : Value) (w : World) (e : Ending) (w' : World) : Prop := e = .returned v ∧ ∃ n, w' = w.drewN n
theorem below_drewn (W : World) (n : Nat) : Below W.heap.size W (W.drewN n) := ⟨rfl, rfl, rfl, Nat.le_refl _, fun _ _ => rfl⟩
set_option maxHeartbeats 1600000 in
theorem same_ints {W : World} {A A' : Option Addr} {c c' : Nat} {l : List Nat} (h1 : Reads W W.heap.size 1 A l.length (l.map numV)) (h2 : Reads W W.heap.size 1 A' l.length (l.map numV)) (hl : l.length ≤ 9223372036854775806) :
    Calls Try.prog 16 #[.slice A l.length c, .slice A' l.length c'] W (DrewW (.bool true) W) := by
  have H := Lib.hid (And.intro h1 h2)
  clear h1 h2
  go_enter Try.func16, Try.ntmps16
  go_wp2_with fail
  go_loopw [5] (fun v wr => ∃ (k : Nat) (n : Nat), k ≤ l.length ∧ v = .int .i64 (k : Nat) ∧ Hid (wr = W.drewN n)) (fun v _ => l.length - (intOf v).toNat)
  case atStart => exact ⟨0, 0, Nat.zero_le _, rfl, Lib.hid rfl⟩
  case round =>
    obtain ⟨k, nd, hk, rfl, hw⟩ := hrel
    have i1 : (0 : Int) ≤ (k : Int) := by omega
    by_cases hlt : k < l.length
    · have i2 : (k : Int) < (l.length : Int) := by omega
      obtain ⟨ad, u, rfl, _, hu, hc⟩ := H.out.1.at_ hlt
      obtain ⟨ad', u', rfl, _, hu', hc'⟩ := H.out.2.at_ hlt
      rw [List.getElem?_map, List.getElem?_eq_getElem hlt] at hu hu'
      obtain rfl := Option.some.inj hu
      obtain rfl := Option.some.inj hu'
      unfold numV at hc hc'
      obtain ⟨x, hx⟩ : ∃ x, l[k] = x := ⟨_, rfl⟩
      rw [hx] at hc hc'
      have d1 : wr.cell? (ad.add k) = some (.int .i64 (x : Nat)) := by rw [hw.out]; exact hc
      have d2 : wr.cell? (ad'.add k) = some (.int .i64 (x : Nat)) := by rw [hw.out]; exact hc'
      clear hc hc' hu hu' hx
      have hqe : ((x : Int) != (x : Int)) = false := by simp
      go_wp2_with fail
      go_quiet (fail)
      go_wp2
      go_roundw
      case rel => exact ⟨k + 1, _, by omega, by go_num, Lib.hid (by rw [hw.out, World.drewN_drewN])⟩
      case measure => simp [intOf]; omega
    · obtain rfl : k = l.length := by omega
      go_wp2
      go_ret
      exact ⟨rfl, nd, hw.out⟩
end Go.Proofs.Ytagcbihjejjmnaa
