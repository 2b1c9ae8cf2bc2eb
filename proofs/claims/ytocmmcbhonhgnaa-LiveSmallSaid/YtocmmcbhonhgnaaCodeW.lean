/-
  Walks: within$1, slices.IndexFunc, slices.ContainsFunc, within; code.Encode.
-/
import Derived.Test.YtocmmcbhonhgnaaReqM
namespace Go.Proofs.Ytocmmcbhonhgnaa
open Go.RowKit
set_option linter.unusedVariables false

theorem within1_any (n : Int) (w : World) : Calls Try.prog 28 #[.int .i64 n] w fun e w' => e = .returned (.bool (!smallB n)) ∧ w = w' := by
  by_cases h1 : n < 0
  · have h2 : smallB n = false := by simp [smallB]; omega
    rw [h2]
    go_enter Try.func28, Try.ntmps28
    go_wp2
    go_ret
    exact ⟨rfl, rfl⟩
  · by_cases h3 : 1099511627776 < n
    · have h2 : smallB n = false := by simp [smallB]; omega
      rw [h2]
      go_enter Try.func28, Try.ntmps28
      go_wp2
      go_ret
      exact ⟨rfl, rfl⟩
    · have h2 : smallB n = true := by simp [smallB]; omega
      rw [h2]
      go_enter Try.func28, Try.ntmps28
      go_wp2
      go_ret
      exact ⟨rfl, rfl⟩

def ints (xs : List Int) : List Value := xs.map (.int .i64)

def idxFrom (p : Int → Bool) (i : Nat) : List Int → Int
  | [] => -1
  | x :: xs => if p x then (i : Int) else idxFrom p (i + 1) xs

theorem ints_at {xs : List Int} {k : Nat} {u : Value} (h : (ints xs)[k]? = some u) : ∃ x, u = .int .i64 x ∧ xs.drop k = x :: xs.drop (k + 1) := by
  simp only [ints, List.getElem?_map, Option.map_eq_some_iff] at h
  obtain ⟨x, hx, rfl⟩ := h
  obtain ⟨hk, rfl⟩ := List.getElem?_eq_some_iff.1 hx
  exact ⟨_, rfl, List.drop_eq_getElem_cons hk⟩

set_option maxHeartbeats 400000 in
theorem indexFunc_any (xs : List Int) (A : Option Addr) (n c : Nat) (w : World) (hn : n ≤ 9223372036854775806) (h : Reads w w.heap.size 1 A n (ints xs)) :
    Calls Try.prog 30 #[.slice A n c, .func (.func 28) #[] #[]] w fun e w' => e = .returned (.int .i64 (idxFrom (fun n => !smallB n) 0 xs)) ∧ w = w' := by
  have hlen : xs.length = n := by simpa [ints] using h.1
  have HL := Lib.hid hlen
  clear hlen
  go_enter Try.func30, Try.ntmps30
  go_wp2
  go_loop [8] (fun i => ∃ k : Nat, k ≤ n ∧ i = .int .i64 k ∧ Hid (idxFrom (fun n => !smallB n) k (xs.drop k) = idxFrom (fun n => !smallB n) 0 xs)) (fun i => n - (intOf i).toNat)
  case atStart => exact ⟨0, Nat.zero_le _, rfl, rfl⟩
  case round =>
    obtain ⟨k, hk, rfl, HK⟩ := hrel
    by_cases hlt : k < n
    · obtain ⟨ad, u, rfl, hb, hu, hcell⟩ := h.at_ hlt
      obtain ⟨x, rfl, hd⟩ := ints_at hu
      have HD := Lib.hid hd
      clear hd hu
      go_wp2_with (go_at_call 28; refine (within1_any _ _).mono ?_; rintro e w' ⟨rfl, rfl⟩)
      · rename_i hp
        go_ret
        refine ⟨ret_int ?_, rfl⟩
        have := HK.out
        rw [← this, HD.out, idxFrom, if_pos hp]
      · rename_i hp
        go_round
        case rel => exact ⟨k + 1, by omega, by go_num, by
          have := HK.out
          rw [HD.out, idxFrom, if_neg (by rw [hp]; decide)] at this
          exact this⟩
        case measure => simp [intOf]; omega
    · go_wp2
      go_ret
      refine ⟨ret_int ?_, rfl⟩
      have := HK.out
      rw [← this, List.drop_of_length_le (by rw [HL.out]; omega)]
      rfl

theorem idxFrom_neg (p : Int → Bool) : ∀ (xs : List Int) (i : Nat), decide (0 ≤ idxFrom p i xs) = xs.any p
  | [], _ => rfl
  | x :: xs, i => by
    unfold idxFrom
    cases hp : p x with
    | true => simp [hp]
    | false => simpa [hp] using idxFrom_neg p xs (i + 1)

theorem containsFunc_any (xs : List Int) (A : Option Addr) (n c : Nat) (w : World) (hn : n ≤ 9223372036854775806) (h : Reads w w.heap.size 1 A n (ints xs)) :
    Calls Try.prog 27 #[.slice A n c, .func (.func 28) #[] #[]] w fun e w' => e = .returned (.bool (xs.any fun n => !smallB n)) ∧ w = w' := by
  go_enter Try.func27, Try.ntmps27
  go_wp2_with (go_at_call 30; refine (indexFunc_any xs _ _ _ _ hn h).mono ?_; rintro e w' ⟨rfl, rfl⟩)
  go_ret
  exact ⟨ret_bool (idxFrom_neg _ xs 0), rfl⟩

theorem within_any (xs : List Int) (A : Option Addr) (n c : Nat) (w : World) (hn : n ≤ 9223372036854775806) (h : Reads w w.heap.size 1 A n (ints xs)) :
    Calls Try.prog 20 #[.slice A n c] w fun e w' => e = .returned (.bool (xs.all smallB)) ∧ w = w' := by
  go_enter Try.func20, Try.ntmps20
  go_wp2_with (go_at_call 27; refine (containsFunc_any xs _ _ _ _ hn h).mono ?_; rintro e w' ⟨rfl, rfl⟩)
  go_ret
  exact ⟨ret_bool (by simp [List.all_eq_not_any_not]), rfl⟩
end Go.Proofs.Ytocmmcbhonhgnaa
