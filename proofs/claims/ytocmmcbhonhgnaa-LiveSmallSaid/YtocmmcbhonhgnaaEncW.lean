/-
  Walks: code.Encode and its closure; the reference's Encode.
-/
import Derived.Test.YtocmmcbhonhgnaaReqM
namespace Go.Proofs.Ytocmmcbhonhgnaa
open Go.RowKit
set_option linter.unusedVariables false

theorem infoU8 : (Try.prog.info? 5).map (fun i => (i.zero, i.size, i.bytes)) = some (some (.int .u8 0), 1, 1) := by kernel_rfl


/-- What the closure leaves: the captured variable's row is longer by what was handed in. -/
def PutEnd (base g n m : Nat) (xs news : List Value) (w : World) (e : Ending) (w' : World) : Prop :=
  e = .returned (.tuple #[]) ∧ ∃ v', Blk w' g 41 #[v'] ∧ w'.ownsRow base 5 1 v' (n + m) (xs ++ news) ∧ Below g w w'

set_option maxHeartbeats 400000 in
theorem encode1_any (base g n m c : Nat) (ad : Addr) (v : Value) (xs news : List Value) (w : World) (hb : g < base) (hbase : base ≤ w.heap.size) (hg : Blk w g 41 #[v]) (hown : w.ownsRow base 5 1 v n xs)
    (hl : news.length = m) (hnews : ∀ j u, news[j]? = some u → w.cell? (ad.add j) = some u) (h1 : ∀ u ∈ news, u.oneCell' = true) (hsmall : n + m ≤ 100000) :
    Calls Try.prog 29 #[.slice (some ad) m c, .pointer (some ⟨g, 0, none⟩)] w (PutEnd base g n m xs news w) := by
  obtain ⟨i0, hi, hz0, hz1, hz2⟩ := info_parts infoU8
  have hc := hg.cell 0
  have hf := hg.frozen 0
  simp at hc
  go_enter Try.func29, Try.ntmps29
  go_wp2_with (at_builtin; refine wpList_append_own _ rfl _ _ 41 rfl base 5 i0 (.int .u8 0) 1 1 Try.underlying41 hi hz0 hz1 hz2 rfl (by decide) _ _ _ rfl hown ad m _ news rfl (by omega) hnews h1 ?c3 ?c4 hbase ?_)
  case c3 => unfold maxLen; omega
  case c4 => omega
  intro v' w1 hown' hgrow _
  obtain ⟨A, c', hv', _, _, _⟩ := own_form hown'
  subst hv'
  have hg1 := hg.grown hgrow (own_block_ge hown hb)
  have hc1 := hg1.cell 0
  have hf1 := hg1.frozen 0
  simp at hc1
  go_wp2
  go_end0
  exact ⟨rfl, _, by simpa using hg1.set_ 0 _, ownsRow_setCell_below hown' hb _, (below_of_grown (B := g) hgrow hown (by omega) hbase).setCell (p := ⟨g, 0, none⟩) (Nat.le_refl _) _⟩

/-- One byte is put. -/
def Put1End (g n : Nat) (xs : List Value) (u : Value) (w : World) (e : Ending) (w' : World) : Prop :=
  e = .returned (.tuple #[]) ∧ ∃ v', Blk w' g 41 #[v'] ∧ w'.ownsRow (g + 1) 5 1 v' (n + 1) (xs ++ [u]) ∧ Below g w w' ∧ w.heap.size ≤ w'.heap.size
theorem put1_any (g n : Nat) (v : Value) (xs : List Value) (x : Int) (w : World) (hbase : g + 1 ≤ w.heap.size) (hg : Blk w g 41 #[v]) (hown : w.ownsRow (g + 1) 5 1 v n xs) (hsmall : n ≤ 90000) :
    Calls Try.prog 29 #[.slice (some ⟨w.heap.size, 0, none⟩) 1 1, .pointer (some ⟨g, 0, none⟩)] (w.alloc (.cells #[.int .u8 x] 5)) (Put1End g n xs (.int .u8 x) w) :=
  (encode1_any (g + 1) g n 1 1 ⟨w.heap.size, 0, none⟩ v xs [.int .u8 x] _ (by omega) (by simp; omega) (hg.alloc _) (hown.alloc _) rfl (cell_one_new _ _ _) (by simp [Value.oneCell']) (by omega)).mono fun e w' ⟨he, v', h1, h2, h3⟩ =>
    ⟨he, v', h1, h2, ((Below.refl _ _).alloc (by omega) _).trans h3, Nat.le_trans (by simp) h3.size⟩
/-- Two bytes are put. -/
def Put2End (g n : Nat) (xs : List Value) (us : List Value) (w : World) (e : Ending) (w' : World) : Prop :=
  e = .returned (.tuple #[]) ∧ ∃ A c, Blk w' g 41 #[.slice A (n + 2) c] ∧ w'.ownsRow (g + 1) 5 1 (.slice A (n + 2) c) (n + 2) (xs ++ us) ∧ Below g w w'
theorem put2_any (g n : Nat) (v : Value) (xs : List Value) (x y : Int) (w : World) (hbase : g + 1 ≤ w.heap.size) (hg : Blk w g 41 #[v]) (hown : w.ownsRow (g + 1) 5 1 v n xs) (hsmall : n ≤ 90000) :
    Calls Try.prog 29 #[.slice (some ⟨w.heap.size, 0, none⟩) 2 2, .pointer (some ⟨g, 0, none⟩)] (w.alloc (.cells #[.int .u8 x, .int .u8 y] 5)) (Put2End g n xs [.int .u8 x, .int .u8 y] w) :=
  (encode1_any (g + 1) g n 2 2 ⟨w.heap.size, 0, none⟩ v xs [.int .u8 x, .int .u8 y] _ (by omega) (by simp; omega) (hg.alloc _) (hown.alloc _) rfl (by
      intro j u hj
      match j, hj with
      | 0, hj => simp at hj; subst hj; simp [Addr.add]
      | 1, hj => simp at hj; subst hj; simp [Addr.add]) (by simp [Value.oneCell']) (by omega)).mono fun e w' ⟨he, v', h1, h2, h3⟩ => by
    obtain ⟨A, c, rfl, _⟩ := own_form h2
    exact ⟨he, A, c, h1, h2, ((Below.refl _ _).alloc (by omega) _).trans h3⟩

set_option maxHeartbeats 800000 in
theorem encode_any (s : ByteArray) (w : World) (hs : s.size ≤ 16) :
    Calls Try.prog 24 #[.string s] w fun e w' => e = .returned (.tuple #[.string ⟨(encode s.data.toList).toArray⟩, .int .i64 0]) ∧ Below w.heap.size w w' := by
  have hmf : ∀ (fn : Fn) (first cap : Array Value) (w : World), (Instr.makeFunc fn first cap).run Try.prog w = .ok (.func fn first cap) w := fun _ _ _ _ => rfl
  go_enter Try.func24, Try.ntmps24
  go_wp2
  go_loopw [13] (fun i wr => ∃ k : Nat, k ≤ s.size ∧ i = .int .i64 k ∧ ∃ v, Blk wr w.heap.size 41 #[v] ∧ wr.ownsRow (w.heap.size + 1) 5 1 v ((s.data.toList.take k).flatMap enc1).length (u8s ((s.data.toList.take k).flatMap enc1)) ∧ Below w.heap.size w wr ∧ w.heap.size + 1 ≤ wr.heap.size) (fun i _ => s.size - (intOf i).toNat)
  case atStart => exact ⟨0, Nat.zero_le _, rfl, _, Blk.new _ _ _, ⟨rfl, Or.inl ⟨rfl, rfl⟩⟩, (Below.refl _ _).alloc (Nat.le_refl _) _, by simp⟩
  case round =>
    obtain ⟨k, hk, rfl, v, hg, hown, hbel, hsz⟩ := hrel
    have hlen := enc_len (s.data.toList.take k)
    have hlen2 : (s.data.toList.take k).length ≤ k := List.length_take_le _ _
    by_cases hlt : k < s.size
    · have HT := Lib.hid (enc_take s k hlt)
      go_wp2_with fail
      refine (put1_any w.heap.size _ v _ _ wr hsz hg hown (by omega)).mono ?_
      rintro e w1 ⟨rfl, v1, hg1, hown1, hb1, hs1⟩
      by_cases h0 : s[k] = 0
      · have HZ := Lib.hid h0
        have h1 : ((s[k].toNat : Int) == 0) = true := by simp [h0]
        clear h0
        go_wp2_with fail
        refine (put1_any w.heap.size _ v1 _ _ w1 (by omega) hg1 hown1 (by omega)).mono ?_
        rintro e w2 ⟨rfl, v2, hg2, hown2, hb2, hs2⟩
        go_wp2
        go_roundw
        case rel =>
          refine ⟨k + 1, by omega, by go_num, v2, hg2, ?_, (hbel.trans hb1).trans hb2, by omega⟩
          rw [HT.out]
          have e : enc1 s[k] = [s[k], 1] := by unfold enc1; rw [if_pos HZ.out, HZ.out]
          rw [e, u8s_append, List.length_append]
          simpa [u8s, HZ.out] using hown2
        case measure => simp [intOf]; omega
      · have HZ := Lib.hid h0
        have h1 : ((s[k].toNat : Int) == 0) = false := by
          simp only [beq_eq_false_iff_ne, ne_eq]
          intro h
          exact h0 (by have : s[k].toNat = 0 := by omega
                       exact UInt8.toNat_inj.1 (by simpa using this))
        clear h0
        go_wp2
        go_roundw
        case rel =>
          refine ⟨k + 1, by omega, by go_num, v1, hg1, ?_, hbel.trans hb1, by omega⟩
          rw [HT.out]
          have e : enc1 s[k] = [s[k]] := by unfold enc1; rw [if_neg HZ.out]
          rw [e, u8s_append, List.length_append]
          simpa [u8s] using hown1
        case measure => simp [intOf]; omega
    · obtain rfl : k = s.size := by omega
      have hT : s.data.toList.take s.size = s.data.toList := List.take_of_length_le (by simp)
      rw [hT] at hown hlen hlen2
      clear hT
      go_wp2_with fail
      refine (put2_any w.heap.size _ v _ _ _ wr hsz hg hown (by omega)).mono ?_
      rintro e w1 ⟨rfl, A, c, hg1, hown1, hb1⟩
      have hr : Reads w1 w1.heap.size 1 A (((s.data.toList).flatMap enc1).length + 2) (u8s (encode s.data.toList)) := by
        have := Reads.of_own hown1
        simpa [encode, u8s] using this
      have hA : A = none → c = 0 := by
        obtain ⟨A', c', h, h2, _, _⟩ := own_form hown1
        cases h
        exact fun h => (h2 h).2
      clear hown1 hown hlen
      generalize ((s.data.toList).flatMap enc1).length + 2 = L at hr hg1
      have hc1 := hg1.cell 0
      simp at hc1
      have hcv := run_string_of_reads (cap := c) 41 9 5 Try.underlying41 Try.underlying5 Try.underlying9 hA hr
      clear hr hg hg1 hA
      go_wp2
      go_ret2
      exact ⟨rfl, hbel.trans hb1⟩

theorem encode_long (s : ByteArray) (w : World) (hs : 16 < s.size) :
    Calls Try.prog 24 #[.string s] w fun e w' => e = .returned (.tuple #[.string ⟨#[]⟩, .int .i64 3]) ∧ w = w' := by
  go_enter Try.func24, Try.ntmps24
  go_wp2
  go_ret2
  exact ⟨rfl, rfl⟩
end Go.Proofs.Ytocmmcbhonhgnaa
