/-
  Walks: the closure of hide.Times that finds the session.
-/
import Derived.Test.YtlmehmmdbdembaaTimesM
namespace Go.Proofs.Ytlmehmmdbdembaa
open Go.RowKit
set_option linter.unusedVariables false

/-- Slices of these lengths. -/
def Slices (vs : List Value) (lens : List Nat) : Prop := vs.length = lens.length ∧ ∀ (k n : Nat), lens[k]? = some n → ∃ A c, vs[k]? = some (.slice A n c)

theorem Slices.at_ {vs : List Value} {lens : List Nat} (h : Slices vs lens) {W : World} {g : Nat} {ty : TypeId} (hb : Blk W g ty vs.toArray) {k : Nat} (hk : k < lens.length) :
    ∃ A c n, W.cell? ⟨g, k, none⟩ = some (.slice A n c) ∧ lens.drop k = n :: lens.drop (k + 1) ∧ n ∈ lens := by
  obtain ⟨A, c, h1⟩ := h.2 k lens[k] (List.getElem?_eq_getElem hk)
  refine ⟨A, c, lens[k], ?_, List.drop_eq_getElem_cons hk, List.getElem_mem hk⟩
  rw [hb.cell, List.getElem?_toArray, h1]

set_option maxHeartbeats 1600000 in
theorem next_any (g3 g8 gr : Nat) (vs : List Value) (lens : List Nat) (p : Int) (w : World) (hp : -9223372036854775808 ≤ p ∧ p ≤ 9223372036854775807) (hn : lens.length ≤ 64)
    (h3 : w.cell? ⟨g3, 0, none⟩ = some (.int .i64 (lens.length : Int))) (h8 : w.cell? ⟨g8, 0, none⟩ = some (.slice (some ⟨gr, 0, none⟩) lens.length lens.length)) (hr : Blk w gr 70 vs.toArray) (hs : Slices vs lens) (hlen : ∀ n ∈ lens, n ≤ 9223372036854775807) :
    Calls Try.prog 32 #[.int .i64 p, .pointer (some ⟨g3, 0, none⟩), .pointer (some ⟨g8, 0, none⟩)] w fun e w' => e = .returned (.int .i64 (nextOf lens p)) ∧ w = w' := by
  have HLen := Lib.hid hlen
  clear hlen
  go_enter Try.func32, Try.ntmps32
  go_wp2_with fail
  go_loop [5, 9] (fun c i => ∃ k : Nat, k ≤ lens.length ∧ i = .int .i64 k ∧ c = .int .i64 (countPos (lens.take k))) (fun _ i => lens.length - (intOf i).toNat)
  case atStart => exact ⟨0, by omega, rfl, rfl⟩
  case round =>
    obtain ⟨k, hk, rfl, rfl⟩ := hrel
    have hc := countPos_le (lens.take k)
    have hc2 : (lens.take k).length ≤ k := List.length_take_le _ _
    by_cases hlt : k < lens.length
    · obtain ⟨A, c, n, hcell, hd, hmem⟩ := hs.at_ hr hlt
      have hnb := HLen.out n hmem
      have ht : lens.take (k + 1) = lens.take k ++ [n] := by
        rw [List.take_succ_eq_append_getElem hlt]
        rw [List.drop_eq_getElem_cons hlt] at hd
        injection hd with h1 h2
        rw [h1]
      have hT : countPos (lens.take (k + 1)) = countPos (lens.take k) + (if 0 < n then 1 else 0) := by
        rw [ht, countPos_append]
        simp [countPos]
      have HT := Lib.hid hT
      clear hd ht hT hmem
      by_cases h0 : 0 < n
      · have hz : (0 : Int) < (n : Int) := by omega
        go_wp2
        go_round
        case rel => exact ⟨k + 1, by omega, by go_num, by rw [HT.out, if_pos h0]; go_num⟩
        case measure => simp [intOf]; omega
      · have hz : ¬ (0 : Int) < (n : Int) := by omega
        go_wp2
        go_round
        case rel => exact ⟨k + 1, by omega, by go_num, by rw [HT.out, if_neg h0]; go_num⟩
        case measure => simp [intOf]; omega
    · obtain rfl : k = lens.length := by omega
      have ht : lens.take lens.length = lens := List.take_length
      rw [ht] at hc ⊢
      clear ht
      obtain ⟨N, hN⟩ : ∃ N, countPos lens = N := ⟨_, rfl⟩
      rw [hN] at hc ⊢
      have HN := Lib.hid hN
      clear hN
      by_cases h0 : N = 0
      · have hb0 : ((N : Int) == 0) = true := by simp [h0]
        have H0 := Lib.hid h0
        clear h0
        go_wp2
        go_ret
        exact ⟨ret_int (by unfold nextOf; rw [HN.out, if_pos H0.out]), rfl⟩
      · have hb0 : ((N : Int) == 0) = false := by simp [h0]
        have hN0 : 0 < N := by omega
        have hbr := bring_range p N hN0
        have ht1 := Int.tmod_lt_of_pos p (show (0 : Int) < N by omega)
        have ht2 : -(N : Int) < p.tmod N := by
          have := Int.lt_tmod_of_pos p (show (0 : Int) < N by omega)
          omega
        have hbd : bring p N = p.tmod N % (N : Int) := by
          unfold bring
          rw [Int.tmod_eq_emod_of_nonneg (by omega)]
          simp
        have HQ : Hid (nextOf lens p = nthPos (p.tmod N % (N : Int)).toNat lens 0) := by
          show nextOf lens p = _
          unfold nextOf
          rw [HN.out, if_neg (by omega), hbd]
        rw [hbd] at hbr
        clear h0 hbd
        go_wp2_with fail
        generalize p.tmod N % (N : Int) = q0 at hbr HQ ⊢
        clear ht1 ht2
        go_loop [0, 31] (fun c i => ∃ (k : Nat) (q : Int), k ≤ lens.length ∧ i = .int .i64 k ∧ c = .int .i64 q ∧ 0 ≤ q ∧ q ≤ 64 ∧ Hid (nthPos q.toNat (lens.drop k) k = nthPos q0.toNat lens 0)) (fun _ i => lens.length - (intOf i).toNat)
        case atStart => exact ⟨0, q0, by omega, rfl, rfl, hbr.1, by omega, rfl⟩
        case round =>
          obtain ⟨k, q, hk, rfl, rfl, hq0, hq64, HK⟩ := hrel
          by_cases hlt : k < lens.length
          · obtain ⟨A, c, n, hcell, hd, hmem⟩ := hs.at_ hr hlt
            have hnb := HLen.out n hmem
            have HD := Lib.hid hd
            clear hd hmem
            by_cases h0 : 0 < n
            · have hz : (0 : Int) < (n : Int) := by omega
              by_cases hqz : q = 0
              · have hqb : (q == 0) = true := by simp [hqz]
                have HZ := Lib.hid hqz
                clear hqz
                go_wp2
                go_ret
                refine ⟨ret_int ?_, rfl⟩
                rw [HQ.out, ← HK.out, HD.out, nthPos, if_pos h0, if_pos (by rw [HZ.out]; rfl)]
              · have hqb : (q == 0) = false := by simp [hqz]
                have HZ : Hid (q.toNat ≠ 0 ∧ q.toNat - 1 = (q - 1).toNat) := (by omega : q.toNat ≠ 0 ∧ q.toNat - 1 = (q - 1).toNat)
                have hq1 : 1 ≤ q := by omega
                clear hqz
                go_wp2
                go_round
                case rel => exact ⟨k + 1, q - 1, by omega, by go_num, rfl, by omega, by omega, by
                  have := HK.out
                  rw [HD.out, nthPos, if_pos h0, if_neg HZ.out.1, HZ.out.2] at this
                  exact this⟩
                case measure => simp [intOf]; omega
            · have hz : ¬ (0 : Int) < (n : Int) := by omega
              go_wp2
              go_round
              case rel => exact ⟨k + 1, q, by omega, by go_num, rfl, by omega, by omega, by
                have := HK.out
                rw [HD.out, nthPos, if_neg h0] at this
                exact this⟩
              case measure => simp [intOf]; omega
          · obtain rfl : k = lens.length := by omega
            have hT : lens.drop lens.length = [] := List.drop_length
            have HT := Lib.hid hT
            clear hT
            go_wp2
            go_ret
            refine ⟨ret_int ?_, rfl⟩
            rw [HQ.out, ← HK.out, HT.out, nthPos]
end Go.Proofs.Ytlmehmmdbdembaa
