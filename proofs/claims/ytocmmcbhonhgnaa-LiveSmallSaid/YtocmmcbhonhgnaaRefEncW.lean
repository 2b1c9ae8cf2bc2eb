/-
  Walks: the reference's Encode (layer 4).
-/
import Derived.Test.YtocmmcbhonhgnaaReqM
namespace Go.Proofs.Ytocmmcbhonhgnaa
open Go.RowKit
set_option linter.unusedVariables false

theorem str_ext {a b : ByteArray} (h : a.data.toList = b.data.toList) : Value.string a = Value.string b := by
  obtain ⟨a⟩ := a
  obtain ⟨b⟩ := b
  simp only [Array.toList_inj] at h
  rw [h]

theorem app_list (a b : ByteArray) : (a ++ b).data.toList = a.data.toList ++ b.data.toList := by simp
theorem ext1 (s : ByteArray) (k : Nat) (h : k < s.size) : (s.extract k (k + 1)).data.toList = [s[k]] := by
  rw [ByteArray.data_extract, Array.toList_extract, List.extract_eq_take_drop, List.drop_eq_getElem_cons (by simpa using h)]
  simp
  rfl

set_option maxHeartbeats 800000 in
theorem rencode_any (s : ByteArray) (w : World) (hs : s.size ≤ 16) :
    Calls Try.prog 25 #[.string s] w fun e w' => e = .returned (.tuple #[.string ⟨(encode s.data.toList).toArray⟩, .int .i64 0]) ∧ w = w' := by
  go_enter Try.func25, Try.ntmps25
  go_wp2
  go_loop [4, 5] (fun o i => ∃ k : Nat, k ≤ s.size ∧ i = .int .i64 k ∧ ∃ t : ByteArray, o = .string t ∧ Hid (t.data.toList = (s.data.toList.take k).flatMap enc1)) (fun _ i => s.size - (intOf i).toNat)
  case atStart => exact ⟨0, Nat.zero_le _, rfl, _, rfl, rfl⟩
  case round =>
    obtain ⟨k, hk, rfl, t, rfl, HT⟩ := hrel
    have ht : t.size ≤ 32 := by
      have h1 := enc_len (s.data.toList.take k)
      have h2 : (s.data.toList.take k).length ≤ k := List.length_take_le _ _
      have h3 : t.size = t.data.toList.length := by simp
      rw [h3, HT.out]
      omega
    by_cases hlt : k < s.size
    · have HE := Lib.hid (enc_take s k hlt)
      by_cases h0 : s[k] = 0
      · have HZ := Lib.hid h0
        have h1 : ((s[k].toNat : Int) == 0) = true := by simp [h0]
        clear h0
        go_wp2
        go_round
        case rel =>
          refine ⟨k + 1, by omega, by go_num, _, rfl, ?_⟩
          show _ = _
          rw [HE.out]
          have e : enc1 s[k] = [s[k], 1] := by unfold enc1; rw [if_pos HZ.out, HZ.out]
          rw [e, ← HT.out]
          simp only [app_list, ext1 s k hlt, List.append_assoc]
          rfl
        case measure => simp [intOf]; omega
      · have HZ := Lib.hid h0
        have h1 : ((s[k].toNat : Int) == 0) = false := by
          simp only [beq_eq_false_iff_ne, ne_eq]
          intro h
          exact h0 (by have : s[k].toNat = 0 := by omega
                       exact UInt8.toNat_inj.1 (by simpa using this))
        clear h0
        go_wp2
        go_round
        case rel =>
          refine ⟨k + 1, by omega, by go_num, _, rfl, ?_⟩
          show _ = _
          rw [HE.out]
          have e : enc1 s[k] = [s[k]] := by unfold enc1; rw [if_neg HZ.out]
          rw [e, ← HT.out]
          simp only [app_list, ext1 s k hlt]
        case measure => simp [intOf]; omega
    · obtain rfl : k = s.size := by omega
      have hT : s.data.toList.take s.size = s.data.toList := List.take_of_length_le (by simp)
      rw [hT] at HT
      clear hT
      go_wp2
      go_ret2
      refine ⟨?_, rfl⟩
      have e : Value.string (t ++ { data := #[0, 0] }) = .string ⟨(encode s.data.toList).toArray⟩ := by
        apply str_ext
        rw [app_list, HT.out]
        rfl
      show Ending.returned (.tuple #[Value.string (t ++ { data := #[0, 0] }), .int .i64 0]) = _
      rw [e]
end Go.Proofs.Ytocmmcbhonhgnaa
