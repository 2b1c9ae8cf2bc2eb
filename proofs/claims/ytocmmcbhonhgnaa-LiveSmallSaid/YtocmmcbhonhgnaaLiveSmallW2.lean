/-
  Walks: LiveSmall, the loops over deeds and keys.
-/
import Derived.Test.YtocmmcbhonhgnaaLiveSmallW3
namespace Go.Proofs.Ytocmmcbhonhgnaa
open Go.RowKit
set_option linter.unusedVariables false

theorem byte_of_three (n : Nat) : (((UInt8.ofNat (n % 3 * 60)).toNat : Nat) : Int) = (n : Int) % 3 * 60 := by
  have h : n % 3 * 60 < 256 := by omega
  rw [UInt8.toNat_ofNat', Nat.mod_eq_of_lt h]
  omega
theorem reads_byte (w : World) (b : UInt8) (e : TypeId) : Reads (w.alloc (.cells #[.int .u8 (b.toNat : Int)] e)) (w.alloc (.cells #[.int .u8 (b.toNat : Int)] e)).heap.size 1 (some ⟨w.heap.size, 0, none⟩) 1 (u8s [b]) :=
  ⟨rfl, fun _ => ⟨_, rfl, by simp, fun j u hu => by
    match j, hu with
    | 0, hu => simp [u8s] at hu; subst hu; simp [Addr.add]⟩⟩

/-- The request of a round. -/
abbrev smallR (d : Int) (n : Nat) (s : ByteArray) : Req := ⟨d, 0, 0, 0, s, ⟨#[]⟩, ⟨#[]⟩, (n : Int), 0, 0, 0, 0⟩

set_option maxHeartbeats 3200000 in
set_option maxRecDepth 100000 in
theorem small2 (s0 : ByteArray) {u2 u3 u4 u5 u6 u7 u8 u9 u10 u11 u12 u13 u14 u15 u16 u17 u18 u19 u20 u21 u22 u23 u24 u25 u26 u27 u28 u29 u30 u31 u32 u33 u34 u35 u36 u37 u38 u39 u40 u41 u42 u43 u44 u45 u46 u47 u48 u49 u50 u51 u52 u53 u54 u55 u56 u57 u58 u59 u60 u61 u62 u63 u64 u65 u66 u67 u68 u69 u70 u71 u72 u73 u74 u75 u76 u77 u78 u79 u80 u81 u82 u83 u84 u85 u86 u87 u88 u89 u90 u91 u92 u93 u94 u95 u96 u97 u98 u99 u100 u101 u102 u103 u104 u105 u106 u107 u108 u109 u110 u111 u112 u113 u114 u115 u116 u117 u118 u119 u120 u121 u122 u123 u124 u125 u126 u127 u128 u129 u130 : Value} (w wx : World) (hs0 : s0.size = 0) (hbel : Below w.heap.size w wx) :
    Code.wp Try.prog (bodyTail Try.f5 2) (bodyPost Try.prog Try.f5 (BoolEnd true w)) ⟨#[.bool false, .string s0, u2, u3, u4, u5, u6, u7, u8, u9, u10, u11, u12, u13, u14, u15, u16, u17, u18, u19, u20, u21, u22, u23, u24, u25, u26, u27, u28, u29, u30, u31, u32, u33, u34, u35, u36, u37, u38, u39, u40, u41, u42, u43, u44, u45, u46, u47, u48, u49, u50, u51, u52, u53, u54, u55, u56, u57, u58, u59, u60, u61, u62, u63, u64, u65, u66, u67, u68, u69, u70, u71, u72, u73, u74, u75, u76, u77, u78, u79, u80, u81, u82, u83, u84, u85, u86, u87, u88, u89, u90, u91, u92, u93, u94, u95, u96, u97, u98, u99, u100, u101, u102, u103, u104, u105, u106, u107, u108, u109, u110, u111, u112, u113, u114, u115, u116, u117, u118, u119, u120, u121, u122, u123, u124, u125, u126, u127, u128, u129, u130], []⟩ wx := by
  conv => arg 2; whnf
  refine wp_seq_k fun K hK => ?_
  have HK := Lib.hid hK
  clear hK
  have H0 := Lib.hid hs0
  clear hs0
  go_wp2_with fail
  go_loopw [0, 1, 14] (fun z ks i wr => ∃ n : Nat, n ≤ 19 ∧ z = .bool false ∧ i = .int .i64 n ∧ Below w.heap.size w wr ∧ ∃ s : ByteArray, ks = .string s ∧ s.size ≤ n) (fun _ _ i _ => 19 - (intOf i).toNat)
  case atStart => exact ⟨0, by omega, rfl, rfl, hbel, s0, rfl, by rw [H0.out]; omega⟩
  case round =>
    obtain ⟨n, hn, rfl, rfl, hbel1, s, rfl, hs⟩ := hrel
    obtain ⟨wo, rfl⟩ : ∃ wo : World, wo = wr := ⟨_, rfl⟩
    by_cases hn19 : n < 19
    · have hdn : decide ((n : Int) < 19) = true := by simp; omega
      go_wp2_with fail
      go_loopw [0, 3] (fun z i wr => ∃ d : Int, -1 ≤ d ∧ d ≤ 12 ∧ z = .bool false ∧ i = .int .i64 d ∧ Below w.heap.size w wr) (fun _ i _ => (12 - intOf i).toNat)
      case atStart => exact ⟨-1, by omega, by omega, rfl, rfl, hbel1⟩
      case round =>
        obtain ⟨d, hd1, hd2, rfl, rfl, hbel2⟩ := hrel
        obtain ⟨wp, rfl⟩ : ∃ wp : World, wp = wr := ⟨_, rfl⟩
        by_cases hd : d ≤ 11
        · have hdd : decide (d ≤ 11) = true := by simp; omega
          go_wp2_with fail
          have hbox0 : Blk (wp.alloc (.cells #[.int .i64 d, .int .i64 0, .int .u32 0, .int .u8 0, .string s, .string { data := #[] }, .string { data := #[] }, .int .i64 (n : Int), .int .i64 0, .int .u64 0, .int .u64 0, .int .u8 0] 31)) wp.heap.size 31 (smallR d n s).row.toArray := Blk.new _ _ _
          have hbel0 := below_alloc hbel2 (.cells #[.int .i64 d, .int .i64 0, .int .u32 0, .int .u8 0, .string s, .string { data := #[] }, .string { data := #[] }, .int .i64 (n : Int), .int .i64 0, .int .u64 0, .int .u64 0, .int .u8 0] 31)
          have hs1 : (wp.alloc (.cells #[.int .i64 d, .int .i64 0, .int .u32 0, .int .u8 0, .string s, .string { data := #[] }, .string { data := #[] }, .int .i64 (n : Int), .int .i64 0, .int .u64 0, .int .u64 0, .int .u8 0] 31)).heap.size = wp.heap.size + 1 := by simp
          generalize (wp.alloc (.cells #[.int .i64 d, .int .i64 0, .int .u32 0, .int .u8 0, .string s, .string { data := #[] }, .string { data := #[] }, .int .i64 (n : Int), .int .i64 0, .int .u64 0, .int .u64 0, .int .u8 0] 31)) = W1 at hbox0 hbel0 hs1 ⊢
          have htr1 : Blk (W1.alloc (.cells #[.int .i64 (-1), .int .i64 0, .int .i64 1, .int .i64 3, .int .i64 1099511627776, .int .i64 1099511627777] 3)) W1.heap.size 3 #[.int .i64 (-1), .int .i64 0, .int .i64 1, .int .i64 3, .int .i64 1099511627776, .int .i64 1099511627777] := Blk.new _ _ _
          have hbox1 := hbox0.alloc (.cells #[.int .i64 (-1), .int .i64 0, .int .i64 1, .int .i64 3, .int .i64 1099511627776, .int .i64 1099511627777] 3)
          have hbel1' := below_alloc hbel0 (.cells #[.int .i64 (-1), .int .i64 0, .int .i64 1, .int .i64 3, .int .i64 1099511627776, .int .i64 1099511627777] 3)
          rw [hs1] at htr1
          generalize (W1.alloc (.cells #[.int .i64 (-1), .int .i64 0, .int .i64 1, .int .i64 3, .int .i64 1099511627776, .int .i64 1099511627777] 3)) = W2 at hbox1 htr1 hbel1' ⊢
          generalize wp.heap.size = b1 at hbox1 htr1 ⊢
          clear hbox0 hbel0 hs1 hbel2
          go_loopw [0, 27] (fun z i wr => ∃ q : Nat, q ≤ 6 ∧ z = .bool false ∧ i = .int .i64 q ∧ Blk wr b1 31 (smallR d n s).row.toArray ∧ Blk wr (b1 + 1) 3 #[.int .i64 (-1), .int .i64 0, .int .i64 1, .int .i64 3, .int .i64 1099511627776, .int .i64 1099511627777] ∧ Below w.heap.size w wr) (fun _ i _ => 6 - (intOf i).toNat)
          case atStart => exact ⟨0, by omega, rfl, rfl, hbox1, htr1, hbel1'⟩
          case round =>
            obtain ⟨q, hq, rfl, rfl, hbox3, htr3, hbel3⟩ := hrel
            obtain ⟨wq, rfl⟩ : ∃ wq : World, wq = wr := ⟨_, rfl⟩
            by_cases hql : q < 6
            · have hdq : decide ((q : Int) < 6) = true := by simp; omega
              obtain ⟨x, hx⟩ : ∃ x : Int, wq.cell? ⟨b1 + 1, q, none⟩ = some (.int .i64 x) := by
                rw [htr3.cell]
                match q, hql with
                | 0, _ => exact ⟨_, rfl⟩
                | 1, _ => exact ⟨_, rfl⟩
                | 2, _ => exact ⟨_, rfl⟩
                | 3, _ => exact ⟨_, rfl⟩
                | 4, _ => exact ⟨_, rfl⟩
                | 5, _ => exact ⟨_, rfl⟩
              obtain ⟨h0, h1, h2, h3, h4, h5, h6, h7, h8, h9, h10, h11⟩ := req_cells hbox3
              go_wp2_with fail
              refine (bounds_any (smallR d n s) x n _).mono ?_
              rintro e w4 ⟨rfl, hb⟩
              have hbox4 := hbox3.below hb hbox3.lt
              have htr4 := htr3.below hb htr3.lt
              have hbel4 := below_trans hbel3 hb
              clear hb hbox3 htr3 hbel3 h0 h1 h2 h3 h4 h5 h6 h7 h8 h9 h10 h11
              obtain ⟨h0, h1, h2, h3, h4, h5, h6, h7, h8, h9, h10, h11⟩ := req_cells hbox4
              go_wp2_with fail
              refine (bounds_any (smallR d n s) n x _).mono ?_
              rintro e w5 ⟨rfl, hb⟩
              have hbox5 := hbox4.below hb hbox4.lt
              have htr5 := htr4.below hb htr4.lt
              have hbel5 := below_trans hbel4 hb
              clear hb hbox4 htr4 hbel4 h0 h1 h2 h3 h4 h5 h6 h7 h8 h9 h10 h11
              obtain ⟨h0, h1, h2, h3, h4, h5, h6, h7, h8, h9, h10, h11⟩ := req_cells hbox5
              go_wp2_with fail
              clear h0 h1 h2 h3 h4 h5 h6 h7 h8 h9 h10 h11
              go_loopw [0, 7] (fun z i wr => ∃ k : Int, -2 ≤ k ∧ k ≤ 3 ∧ z = .bool false ∧ i = .int .i64 k ∧ Blk wr b1 31 (smallR d n s).row.toArray ∧ Blk wr (b1 + 1) 3 #[.int .i64 (-1), .int .i64 0, .int .i64 1, .int .i64 3, .int .i64 1099511627776, .int .i64 1099511627777] ∧ Below w.heap.size w wr) (fun _ i _ => (3 - intOf i).toNat)
              case atStart => exact ⟨-2, by omega, by omega, rfl, rfl, hbox5, htr5, hbel5⟩
              case round =>
                obtain ⟨k, hk1, hk2, rfl, rfl, hbox6, htr6, hbel6⟩ := hrel
                by_cases hk : k ≤ 2
                · have hdk : decide (k ≤ 2) = true := by simp; omega
                  obtain ⟨h0, h1, h2, h3, h4, h5, h6, h7, h8, h9, h10, h11⟩ := req_cells hbox6
                  obtain ⟨B, HB⟩ : ∃ p, Hid (boundOf (smallR d n s) x = p) := ⟨_, rfl⟩
                  go_wp2_with fail
                  refine (rbound_any (smallR d n s) x _).mono ?_
                  rintro e w7 ⟨rfl, hb⟩
                  rw [HB.out]
                  have hbox7 := hbox6.below hb hbox6.lt
                  have htr7 := htr6.below hb htr6.lt
                  have hbel7 := below_trans hbel6 hb
                  clear hb hbox6 htr6 hbel6 h0 h1 h2 h3 h4 h5 h6 h7 h8 h9 h10 h11
                  go_wp2_with fail
                  generalize wrap64 (wrap64 (B + (n : Int)) + k) = p
                  generalize wrap64 (wrap64 (x + k) - 1) = tk
                  have hef : Blk (w7.alloc (.cells #[.int .i64 p, .int .i64 x, .int .i64 tk, .int .i64 (n : Int)] 35)) w7.heap.size 35 #[.int .i64 p, .int .i64 x, .int .i64 tk, .int .i64 (n : Int)] := Blk.new _ _ _
                  have hbox8 := hbox7.alloc (.cells #[.int .i64 p, .int .i64 x, .int .i64 tk, .int .i64 (n : Int)] 35)
                  have htr8 := htr7.alloc (.cells #[.int .i64 p, .int .i64 x, .int .i64 tk, .int .i64 (n : Int)] 35)
                  have hbel8 := below_alloc hbel7 (.cells #[.int .i64 p, .int .i64 x, .int .i64 tk, .int .i64 (n : Int)] 35)
                  generalize (w7.alloc (.cells #[.int .i64 p, .int .i64 x, .int .i64 tk, .int .i64 (n : Int)] 35)) = W8 at hef hbox8 htr8 hbel8 ⊢
                  generalize w7.heap.size = b3 at hef ⊢
                  clear hbox7 htr7 hbel7
                  obtain ⟨h0, h1, h2, h3, h4, h5, h6, h7, h8, h9, h10, h11⟩ := req_cells hbox8
                  have e0 := hef.cell 0
                  have e1 := hef.cell 1
                  have e2 := hef.cell 2
                  have e3 := hef.cell 3
                  simp at e0 e1 e2 e3
                  go_region_held3 (fun w' => Blk w' b1 31 (smallR d n s).row.toArray ∧ Below w.heap.size w w' ∧ Blk w' b3 35 #[.int .i64 p, .int .i64 x, .int .i64 tk, .int .i64 (n : Int)] ∧ Blk w' (b1 + 1) 3 #[.int .i64 (-1), .int .i64 0, .int .i64 1, .int .i64 3, .int .i64 1099511627776, .int .i64 1099511627777] ∧ w'.cell? ⟨b1, 0, none⟩ = some (.int .i64 d) ∧ w'.cell? ⟨b1, 1, none⟩ = some (.int .i64 0) ∧ w'.cell? ⟨b1, 2, none⟩ = some (.int .u32 0) ∧ w'.cell? ⟨b1, 3, none⟩ = some (.int .u8 0) ∧ w'.cell? ⟨b1, 4, none⟩ = some (.string s) ∧ w'.cell? ⟨b1, 5, none⟩ = some (.string ⟨#[]⟩) ∧ w'.cell? ⟨b1, 6, none⟩ = some (.string ⟨#[]⟩) ∧ w'.cell? ⟨b1, 7, none⟩ = some (.int .i64 (n : Int)) ∧ w'.cell? ⟨b1, 8, none⟩ = some (.int .i64 0) ∧ w'.cell? ⟨b1, 9, none⟩ = some (.int .u64 0) ∧ w'.cell? ⟨b1, 10, none⟩ = some (.int .u64 0) ∧ w'.cell? ⟨b1, 11, none⟩ = some (.int .u8 0) ∧ w'.cell? ⟨b3, 0, none⟩ = some (.int .i64 p) ∧ w'.cell? ⟨b3, 1, none⟩ = some (.int .i64 x) ∧ w'.cell? ⟨b3, 2, none⟩ = some (.int .i64 tk) ∧ w'.cell? ⟨b3, 3, none⟩ = some (.int .i64 (n : Int))) ((refine ⟨?_, ?_, ?_, ?_, ?_⟩ <;> first | assumption | (refine Blk.drew ?_; assumption) | (refine Below.drew ?_; assumption) | go_keep))
                    (first | (go_at_call 9; refine (fair_any (smallR d n s) p x tk n _).mono ?_; rintro e wn ⟨rfl, hb⟩; have hH := ‹Blk _ b1 _ _ ∧ Below w.heap.size _ _ ∧ _›; have hkN := Blk.below hH.1 hb (Blk.lt hH.1); have hkE := Blk.below hH.2.2.1 hb (Blk.lt hH.2.2.1); have hkT := Blk.below hH.2.2.2.1 hb (Blk.lt hH.2.2.2.1); have hBN := below_trans hH.2.1 hb; obtain ⟨q0, q1, q2, q3, q4, q5, q6, q7, q8, q9, q10, q11⟩ := req_cells hkN; have q12 := hkE.cell 0; have q13 := hkE.cell 1; have q14 := hkE.cell 2; have q15 := hkE.cell 3; simp at q12 q13 q14 q15) | (go_at_call 10; refine (rfair_any (smallR d n s) p x tk n _).mono ?_; rintro e wn ⟨rfl, hb⟩; have hH := ‹Blk _ b1 _ _ ∧ Below w.heap.size _ _ ∧ _›; have hkN := Blk.below hH.1 hb (Blk.lt hH.1); have hkE := Blk.below hH.2.2.1 hb (Blk.lt hH.2.2.1); have hkT := Blk.below hH.2.2.2.1 hb (Blk.lt hH.2.2.2.1); have hBN := below_trans hH.2.1 hb; obtain ⟨q0, q1, q2, q3, q4, q5, q6, q7, q8, q9, q10, q11⟩ := req_cells hkN; have q12 := hkE.cell 0; have q13 := hkE.cell 1; have q14 := hkE.cell 2; have q15 := hkE.cell 3; simp at q12 q13 q14 q15))
                  rename_i hH
                  have hbox9 := hH.1
                  have htr9 := hH.2.2.2.1
                  have hbel9 := hH.2.1
                  clear hH h0 h1 h2 h3 h4 h5 h6 h7 h8 h9 h10 h11 e0 e1 e2 e3 hef hbox8 htr8 hbel8
                  go_wp2
                  go_roundw
                  case rel => exact ⟨k + 1, by omega, by omega, rfl, by go_num, hbox9, htr9, hbel9⟩
                  case measure => simp [intOf]; omega
                · have hdk : decide (k ≤ 2) = false := by simp; omega
                  go_wp2
                  go_roundw
                  case rel => exact ⟨q + 1, by omega, rfl, by go_num, hbox6, htr6, hbel6⟩
                  case measure => simp [intOf]; omega
            · have hdq : decide ((q : Int) < 6) = false := by simp; omega
              go_wp2
              go_roundw
              case rel => exact ⟨d + 1, by omega, by omega, rfl, by go_num, hbel3⟩
              case measure => simp [intOf]; omega
        · have hdd : decide (d ≤ 11) = false := by simp; omega
          have hby := byte_of_three n
          have hr := reads_byte wp (UInt8.ofNat (n % 3 * 60)) 5
          rw [hby] at hr
          have hcv := run_string_of_reads (cap := 1) 41 9 5 Try.underlying41 Try.underlying5 Try.underlying9 (fun h => by cases h) hr
          clear hr hby
          have hsz : (s ++ (⟨[UInt8.ofNat (n % 3 * 60)].toArray⟩ : ByteArray)).size = s.size + 1 := by rw [ByteArray.size_append]; rfl
          have HSZ := Lib.hid hsz
          clear hsz
          have h1 : (⟨[UInt8.ofNat (n % 3 * 60)].toArray⟩ : ByteArray).size = 1 := rfl
          generalize (⟨[UInt8.ofNat (n % 3 * 60)].toArray⟩ : ByteArray) = one at hcv h1 HSZ
          have hone : one.size ≤ 1 := by omega
          clear h1
          go_wp2
          go_roundw
          case rel => exact ⟨n + 1, by omega, rfl, by go_num, below_alloc hbel2 _, _, rfl, by rw [HSZ.out]; omega⟩
          case measure => simp [intOf]; omega
    · obtain rfl : n = 19 := by omega
      go_wp2_with fail
      exact HK.out _ _ (small3 w _ hbel1)

end Go.Proofs.Ytocmmcbhonhgnaa
