/-
  Layer 8: row, awake.
-/
import Derived.Test.YtmcpfhhggapkcaaManyN3
import Derived.Test.YtmcpfhhggapkcaaFewW6
namespace Go.Proofs.Ytmcpfhhggapkcaa
open Go.RowKit
set_option linter.unusedVariables false
set_option linter.unusedSimpArgs false

theorem below_three {n a b c : Nat} {w W W' : World} (hb : Below n w W) (ht : Three a b c W W') (hn : n ≤ W.heap.size) (h1 : n ≤ a) (h2 : n ≤ b) (h3 : n ≤ c) : Below n w W' :=
  ⟨ht.os.trans hb.os, ht.tape.trans hb.tape, ht.output.trans hb.output, Nat.le_trans hb.size ht.size, fun k hk => (ht.block k (Nat.lt_of_lt_of_le hk hn) (by omega) (by omega) (by omega)).trans (hb.block k hk)⟩
def rowMStep (s : Kids × Nat) (b : Nat) : Kids × Nat := ((putK 256 s.1 b ((b : Int), 1)).2, if (putK 256 s.1 b ((b : Int), 1)).1 = 0 then s.2 else s.2 + 1)
def rowM (l : List Nat) : Kids × Nat := l.foldl rowMStep (noKids, 0)
theorem rowM_snoc (l : List Nat) (b : Nat) : rowM (l ++ [b]) = rowMStep (rowM l) b := by unfold rowM; rw [List.foldl_append]; rfl
theorem rowM_bad (l : List Nat) : (rowM l).2 ≤ l.length := by
  have h : ∀ (l : List Nat) (s : Kids × Nat), (l.foldl rowMStep s).2 ≤ s.2 + l.length := by
    intro l
    induction l with
    | nil => intro s; exact Nat.le_refl _
    | cons x l ih =>
      intro s
      rw [List.foldl_cons, List.length_cons]
      have := ih (rowMStep s x)
      have h2 : (rowMStep s x).2 ≤ s.2 + 1 := by unfold rowMStep; dsimp only; split <;> omega
      omega
  have := h l (noKids, 0)
  simpa [rowM] using this
def RowMEnd (l : List Nat) (w : World) (e : Ending) (w' : World) : Prop := ∃ g gr gu, e = .returned (.tuple #[.pointer (some ⟨g, 0, none⟩), .int .i64 ((rowM l).2 : Int)]) ∧ ManyAt w' g gr gu 256 (rowM l).1 ∧ w.heap.size ≤ g ∧ w.heap.size ≤ gr ∧ w.heap.size ≤ gu ∧ Below w.heap.size w w'
set_option maxHeartbeats 1600000 in
set_option maxRecDepth 100000 in
theorem row_m (l : List Nat) (A : Option Addr) (cap : Nat) (w : World) (hA : Reads w w.heap.size 1 A l.length (l.flatMap nrow)) (hl : ∀ b ∈ l, b < 256) (hlen : l.length ≤ 9223372036854775807) :
    Calls Try.prog 18 #[.slice A l.length cap] w (RowMEnd l w) := by
  have HA := Lib.hid hA
  have HL := Lib.hid hl
  have HBAD := Lib.hid (fun k => rowM_bad (l.take k))
  clear hA hl
  go_enter Try.func18, Try.ntmps18
  go_wp2_with fail
  refine (New_m 256 w (.inr rfl)).mono ?_
  rintro e w1 ⟨g, gr, gu, rfl, hf, hg, hg2, hg3, hb⟩
  have H0 := Lib.hid (And.intro hf hb)
  clear hf hb
  go_wp2_with fail
  go_loopw [6, 7] (fun s i wr => ∃ k : Nat, k ≤ l.length ∧ i = .int .i64 k ∧ s = .int .i64 ((rowM (l.take k)).2 : Int) ∧ Hid (ManyAt wr g gr gu 256 (rowM (l.take k)).1 ∧ Below w.heap.size w wr)) (fun _ i _ => l.length - (intOf i).toNat)
  case atStart => exact ⟨0, Nat.zero_le _, rfl, rfl, H0⟩
  case round =>
    obtain ⟨k, hk, rfl, rfl, HW⟩ := hrel
    by_cases hlt : k < l.length
    · obtain ⟨ad, rfl, hab, hc⟩ := byte_at HA.out hlt
      have c0 : wr.cell? (ad.add k) = some (.int .u8 (l[k] : Int)) := (HW.out.2.cell (p := ad.add k) (by rw [block_of_add]; exact hab)).trans hc
      have hb256 := HL.out _ (List.getElem_mem hlt)
      have htake : l.take (k + 1) = l.take k ++ [l[k]] := List.take_succ_eq_append_getElem hlt
      generalize l[k] = b at c0 hb256 htake
      have hbi : (b : Int) ≤ 255 := by omega
      have hb0 : (0 : Int) ≤ (b : Int) := by omega
      have i1 : (0 : Int) ≤ (k : Int) := by omega
      have i2 : (k : Int) < (l.length : Int) := by omega
      have hbad := HBAD.out k
      rw [List.length_take] at hbad
      obtain ⟨bd, hbd⟩ : ∃ bd, (rowM (l.take k)).2 = bd := ⟨_, rfl⟩
      rw [hbd] at hbad ⊢
      have HS : Hid (rowM (l.take (k + 1)) = rowMStep (rowM (l.take k)) b) := Lib.hid (by rw [htake, rowM_snoc])
      have HBD := Lib.hid hbd
      obtain ⟨p, hp⟩ : ∃ p, putK 256 (rowM (l.take k)).1 b ((b : Int), 1) = p := ⟨_, rfl⟩
      have hput : ∀ V, ManyAt V g gr gu 256 (rowM (l.take k)).1 → Calls Try.prog 39 #[.pointer (some ⟨g, 0, none⟩), .int .u8 (b : Int), .agg #[.int .i64 (b : Int), .int .u32 1]] V (ManyEnd (.int .i64 (putK 256 (rowM (l.take k)).1 b ((b : Int), 1)).1) g gr gu 256 (putK 256 (rowM (l.take k)).1 b ((b : Int), 1)).2 V) := fun V h => Put_m g gr gu 256 _ b ((b : Int), 1) V h hb256
      have sw : IntKind.i64.wrap (b : Int) = (b : Int) := IntWalk.i64_in _ (by omega)
      rw [hp] at hput
      have HP := Lib.hid hput
      have HPP := Lib.hid hp
      clear hc htake hput hp hbd
      by_cases hz : p.1 = 0
      · have hzb : (p.1 != 0) = false := by rw [hz]; rfl
        have HZ := Lib.hid hz
        clear hz
        go_wp2_with fail
        go_region_with ((go_at_call 39; refine (HP.out _ HW.out.1.drew).mono ?_; rintro e wn ⟨rfl, hgn, hwn⟩))
        all_goals
          have hbn : Below w.heap.size w wn := below_three HW.out.2.drew hwn HW.out.2.size hg hg2 hg3
          have HN := Lib.hid (And.intro hgn hbn)
          clear hgn hwn hbn sw
          go_wp2
          go_roundw
          case rel =>
            refine ⟨k + 1, by omega, by go_num, ?_, Lib.hid ⟨?_, HN.out.2⟩⟩
            · rw [HS.out]; unfold rowMStep; rw [HPP.out, if_pos HZ.out, HBD.out]
            · rw [HS.out]; unfold rowMStep; rw [HPP.out]; exact HN.out.1
          case measure => simp [intOf]; omega
      · have hzb : (p.1 != 0) = true := by rw [bne_iff_ne]; exact hz
        have HZ := Lib.hid hz
        have hbd9 : (bd : Int) ≤ 9223372036854775806 := by omega
        have hbd0 : (0 : Int) ≤ (bd : Int) := by omega
        clear hz
        go_wp2_with fail
        go_region_with ((go_at_call 39; refine (HP.out _ HW.out.1.drew).mono ?_; rintro e wn ⟨rfl, hgn, hwn⟩))
        all_goals
          have hbn : Below w.heap.size w wn := below_three HW.out.2.drew hwn HW.out.2.size hg hg2 hg3
          have HN := Lib.hid (And.intro hgn hbn)
          clear hgn hwn hbn sw
          go_wp2
          go_roundw
          case rel =>
            refine ⟨k + 1, by omega, by go_num, ?_, Lib.hid ⟨?_, HN.out.2⟩⟩
            · rw [HS.out]; unfold rowMStep; rw [HPP.out, if_neg HZ.out, HBD.out]; go_num
            · rw [HS.out]; unfold rowMStep; rw [HPP.out]; exact HN.out.1
          case measure => simp [intOf]; omega
    · obtain rfl : k = l.length := by omega
      have hfin := HW.out.1
      rw [List.take_length] at hfin ⊢
      have HF := Lib.hid (And.intro hfin HW.out.2)
      clear hfin
      go_wp2
      go_ret2
      exact ⟨g, gr, gu, rfl, HF.out.1, hg, hg2, hg3, HF.out.2⟩

/-! ### awake -/
def kTo (n : Nat) : Kids := fun b => if 10 ≤ b ∧ b < n then some ((b : Int), 1) else none
theorem kTo_set (n : Nat) (h : 10 ≤ n) : setK (kTo n) n (some ((n : Int), 1)) = kTo (n + 1) := by
  funext b
  unfold setK kTo
  by_cases hb : b = n
  · subst hb; rw [if_pos rfl, if_pos (by omega)]
  · rw [if_neg hb]
    by_cases hc : 10 ≤ b ∧ b < n
    · rw [if_pos hc, if_pos (by omega)]
    · rw [if_neg hc, if_neg (by omega)]
theorem kTo_cnt : ∀ d, d ≤ 48 → cntK (kTo (10 + d)) = d
  | 0, _ => by decide +kernel
  | d + 1, h => by
    rw [show 10 + (d + 1) = (10 + d) + 1 by omega, ← kTo_set _ (by omega), cnt_set_some _ (by omega) (by unfold kTo; rw [if_neg (by omega)]), kTo_cnt d (by omega)]
theorem kTo_put (n : Nat) (h1 : 10 ≤ n) (h2 : n < 58) : putK 48 (kTo n) n ((n : Int), 1) = (0, kTo (n + 1)) := by
  have hc := kTo_cnt (n - 10) (by omega)
  rw [show 10 + (n - 10) = n by omega] at hc
  rw [put_new (by unfold kTo; rw [if_neg (by omega)]; rfl) (by omega), kTo_set n h1]
def kT2 : Kids := setK (kTo 58) 20 none
def kT3 : Kids := setK kT2 58 (some (7, 0))
theorem kT_1 : putK 48 (kTo 58) 58 (0, 0) = (14, kTo 58) := by unfold putK; rw [if_neg (by decide +kernel), if_pos (by decide +kernel)]
theorem kT_2 : takeK (kTo 58) 20 = (((20, 1), 0), kT2) := by
  have h : kTo 58 20 = some (20, 1) := by decide +kernel
  unfold takeK; rw [h]; rfl
theorem kT_3 : putK 48 kT2 58 (7, 0) = (0, kT3) := put_new (by decide +kernel) (by decide +kernel)
theorem kT_4 : nextK kT3 20 = (21, ((21, 1), true)) := by decide +kernel
theorem kT_5 : cntK kT3 = 48 := by decide +kernel
theorem putm_at (g gr gu room : Nat) (f f' : Kids) (b : Nat) (r : Int × Int) (c : Int) (hp : putK room f b r = (c, f')) (hb : b < 256) (V : World) (h : ManyAt V g gr gu room f) :
    Calls Try.prog 39 #[.pointer (some ⟨g, 0, none⟩), .int .u8 (b : Int), .agg #[.int .i64 r.1, .int .u32 r.2]] V (ManyEnd (.int .i64 c) g gr gu room f' V) := by
  have := Put_m g gr gu room f b r V h hb
  rw [hp] at this
  exact this
set_option maxHeartbeats 3200000 in
set_option maxRecDepth 100000 in
theorem awake_m (w : World) : Calls Try.prog 17 #[] w (BoolEnd true w) := by
  go_enter Try.func17, Try.ntmps17
  go_wp2_with fail
  refine (New_m 48 w (.inl rfl)).mono ?_
  rintro e w1 ⟨g, gr, gu, rfl, hf, hg, hg2, hg3, hb⟩
  have H0 : Hid (ManyAt w1 g gr gu 48 (kTo 10) ∧ Below w.heap.size w w1) := Lib.hid ⟨by rw [show kTo 10 = noKids from by funext b; unfold kTo noKids; rw [if_neg (by omega)]]; exact hf, hb⟩
  clear hf hb
  go_wp2_with fail
  go_loopw [3] (fun i wr => ∃ k : Nat, 10 ≤ k ∧ k ≤ 58 ∧ i = .int .i64 k ∧ Hid (ManyAt wr g gr gu 48 (kTo k) ∧ Below w.heap.size w wr)) (fun i _ => 58 - (intOf i).toNat)
  case atStart => exact ⟨10, by omega, by omega, rfl, H0⟩
  case round =>
    obtain ⟨k, hk0, hk, rfl, HW⟩ := hrel
    by_cases hlt : k < 58
    · have i1 : (0 : Int) ≤ (k : Int) := by omega
      have i2 : (k : Int) < 58 := by omega
      have sw : IntKind.u8.wrap (k : Int) = (k : Int) := IntWalk.u8_in _ (by omega)
      have HP := Lib.hid (putm_at g gr gu 48 (kTo k) _ k ((k : Int), 1) 0 (kTo_put k hk0 hlt) (by omega) wr HW.out.1)
      go_wp2_with fail
      refine HP.out.mono ?_
      rintro e wn ⟨rfl, hn, ht⟩
      have HN := Lib.hid (And.intro hn (below_three HW.out.2 ht HW.out.2.size hg hg2 hg3))
      clear hn ht HP
      go_wp2
      go_roundw
      case rel => exact ⟨k + 1, by omega, by omega, by go_num, HN⟩
      case measure => simp [intOf]; omega
    · obtain rfl : k = 58 := by omega
      have i2 : ¬ (((58 : Nat) : Int) < 58) := by omega
      have HP := Lib.hid (putm_at g gr gu 48 _ _ 58 (0, 0) 14 kT_1 (by decide) wr HW.out.1)
      go_wp2_with fail
      refine HP.out.mono ?_
      rintro e w2 ⟨rfl, hn, ht⟩
      have H2 := Lib.hid (And.intro hn (below_three HW.out.2 ht HW.out.2.size hg hg2 hg3))
      clear hn ht HP HW
      have hT := Take_m g gr gu 48 _ 20 w2 H2.out.1 (by decide)
      rw [kT_2] at hT
      have HT := Lib.hid hT
      clear hT
      go_wp2_with fail
      refine HT.out.mono ?_
      rintro e w3 ⟨rfl, hn, ht⟩
      have H3 := Lib.hid (And.intro hn (below_three H2.out.2 ht H2.out.2.size hg hg2 hg3))
      clear hn ht HT H2
      go_wp2_with fail
      have q5 := Blk.new w3 31 #[.int .i64 20, .int .u32 1]
      have hlt3 := H3.out.1.lt
      have HP := Lib.hid (putm_at g gr gu 48 _ _ 58 (7, 0) 0 kT_3 (by decide) _ (H3.out.1.below (below_box w3 (.cells #[.int .i64 20, .int .u32 1] 31))))
      refine HP.out.mono ?_
      rintro e w4 ⟨rfl, hn, ht⟩
      have H4 := Lib.hid (And.intro hn (And.intro (below_three (below_alloc H3.out.2 (.cells #[.int .i64 20, .int .u32 1] 31)) ht (by have := H3.out.2.size; simp; omega) hg hg2 hg3) (q5.three ht (by omega) (by omega) (by omega))))
      have hN := Next_m g gr gu 48 _ 20 w4 hn
      rw [kT_4] at hN
      have HN := Lib.hid hN
      clear hn ht HP H3 hN q5 hlt3
      go_wp2_with fail
      refine HN.out.mono ?_
      rintro e w5 ⟨rfl, hb5⟩
      have H5 := Lib.hid (And.intro (H4.out.1.below hb5) (And.intro (below_trans H4.out.2.1 hb5) (H4.out.2.2.below hb5 H4.out.2.2.lt)))
      clear HN H4 hb5
      have q9 := Blk.new w5 31 #[.int .i64 21, .int .u32 1]
      have q5 := H5.out.2.2.alloc (.cells #[.int .i64 21, .int .u32 1] 31)
      have e5 := q5.cell 0
      have e9 := q9.cell 0
      simp at e5 e9
      have hL := Len_m g gr gu 48 _ (w5.alloc (.cells #[.int .i64 21, .int .u32 1] 31)) (H5.out.1.below (below_box w5 _))
      rw [kT_5] at hL
      have HL := Lib.hid hL
      clear hL
      go_wp2_with fail
      refine HL.out.mono ?_
      rintro e w6 ⟨rfl, hb6⟩
      have HB6 := Lib.hid (below_trans (below_alloc H5.out.2.1 (.cells #[.int .i64 21, .int .u32 1] 31)) hb6)
      have HR := Lib.hid (Room_m g gr gu 48 _ w6 ((H5.out.1.below (below_box w5 (.cells #[.int .i64 21, .int .u32 1] 31))).below hb6))
      clear HL H5 q5 q9 hb6
      go_wp2_with fail
      refine HR.out.mono ?_
      rintro e w7 ⟨rfl, rfl⟩
      go_wp2_with fail
      go_ret
      exact ⟨rfl, HB6.out⟩
end Go.Proofs.Ytmcpfhhggapkcaa
