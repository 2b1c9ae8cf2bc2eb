/-
  Layer 8: ManyNext.
-/
import Derived.Test.YtmcpfhhggapkcaaManyX1
namespace Go.Proofs.Ytmcpfhhggapkcaa
open Go.RowKit Go.Shelf
set_option linter.unusedVariables false
set_option linter.unusedSimpArgs false

set_option maxHeartbeats 3200000 in
set_option maxRecDepth 100000 in
theorem ManyNext_any (l : List Nat) (A : Option Addr) (cap : Nat) (b : Nat) (w : World) (hA : Reads w w.heap.size 1 A l.length (l.flatMap nrow)) (hl : ∀ b ∈ l, b < 256) (hlen : l.length ≤ 9223372036854775807) (hb : b < 256) :
    Calls Try.prog 5 #[.slice A l.length cap, .int .u8 (b : Int)] w (BoolEnd true w) := by
  have HA := Lib.hid hA
  have HL := Lib.hid hl
  clear hA hl
  refine (callsIn_wide (n := 10)).1 (callsIn_of_wp_marks Try.func5 rfl trivial (wpIn_wide.2 ?_) rfl)
  simp only [Try.ntmps5, List.size_toArray, List.length_cons, List.length_nil, Nat.reduceAdd, Nat.reduceSub, Array.replicate_succ, Array.replicate_zero, List.push_toArray, List.append_toArray, List.nil_append, List.cons_append]
  refine wp_seq_k fun K0 hK => ?_
  have HK0 := Lib.hid hK
  clear hK
  go_wp2_with fail
  refine HK0.out _ _ ?_
  refine wp_seq_k fun K1 hK => ?_
  have HK1 := Lib.hid hK
  clear hK HK0
  go_wp2_with fail
  refine (awake_m _).mono ?_
  rintro e w1 ⟨rfl, hb1⟩
  have hq4 := (Blk.new w 4 #[.bool false]).below hb1 (by simp)
  have hw1 : Below w.heap.size w w1 := (below_box w _).trans (hb1.mono (by simp))
  have HW1 := Lib.hid (And.intro hq4 hw1)
  clear hb1 hq4 hw1
  go_wp2_with fail
  refine HK1.out _ _ ?_
  clear HK1
  refine wp_seq_k fun K2 hK => ?_
  have HK2 := Lib.hid hK
  clear hK
  have e4 := HW1.out.1.cell 0
  have g40 := HW1.out.1.frozen 0
  have l4 := HW1.out.1.lt
  simp at e4
  by_cases h16 : 300 < (l.length : Int)
  · go_wp2_with fail
    refine ⟨.bool true, by simp [results, Try.results5, go_sem, *], rfl, HW1.out.2.setCell (Nat.le_refl _) _⟩
  · go_wp2_with fail
    refine HK2.out _ _ ?_
    clear HK2 e4 g40 l4
    refine wp_seq_k fun K3 hK => ?_
    have HK3 := Lib.hid hK
    clear hK
    have hl16 : l.length ≤ 300 := by omega
    have hR := row_m l A cap w1 ((HA.out.below HW1.out.2).more HW1.out.2.size) HL.out hlen
    have HR := Lib.hid hR
    clear hR
    go_wp2_with fail
    refine HR.out.mono ?_
    rintro e w2 ⟨g, gr, gu, rfl, hf, hg, hg2, hg3, hb2⟩
    have HW2 := Lib.hid (And.intro (HW1.out.1.below hb2 HW1.out.1.lt) (And.intro (HW1.out.2.trans (hb2.mono HW1.out.2.size)) (And.intro hf (And.intro hg hb2.size))))
    have HW1S := HW1.out.2.size
    have HW1L := HW1.out.1.lt
    clear hf hb2 HR HW1
    go_wp2_with fail
    refine HK3.out _ _ ?_
    clear HK3
    have hq5 := Blk.new w2 45 #[.pointer (some ⟨g, 0, none⟩)]
    have hq4 := HW2.out.1.alloc (.cells #[.pointer (some ⟨g, 0, none⟩)] 45)
    have hfw : ManyAt (w2.alloc (.cells #[.pointer (some ⟨g, 0, none⟩)] 45)) g gr gu 256 (rowM l).1 := HW2.out.2.2.1.below (below_box w2 _)
    have hbw : Below w.heap.size w (w2.alloc (.cells #[.pointer (some ⟨g, 0, none⟩)] 45)) := HW2.out.2.1.alloc HW2.out.2.1.size _
    obtain ⟨hgl, hgrl, hgul⟩ := HW2.out.2.2.1.lt
    have hz5 : w.heap.size < w2.heap.size := HW2.out.1.lt
    have hsz : w2.heap.size + 1 = (w2.alloc (.cells #[.pointer (some ⟨g, 0, none⟩)] 45)).heap.size := by simp
    have hgw : w.heap.size ≤ g := Nat.le_trans HW1S hg
    have hgrw : w.heap.size ≤ gr := Nat.le_trans HW1S hg2
    have hguw : w.heap.size ≤ gu := Nat.le_trans HW1S hg3
    clear HW2
    generalize w2.alloc (.cells #[.pointer (some ⟨g, 0, none⟩)] 45) = w3 at hq5 hq4 hfw hbw hsz ⊢
    generalize w2.heap.size = g5 at hq5 hgl hgrl hgul hz5 hsz ⊢
    have e5 := hq5.cell 0
    simp at e5
    refine wp_seq_k fun K4 hK => ?_
    have HK4 := Lib.hid hK
    clear hK
    have H3 := Lib.hid (And.intro hq4 (And.intro hq5 (And.intro hfw hbw)))
    clear hq5 hq4 hfw hbw
    go_wp2_with fail
    refine HK4.out _ _ ?_
    clear HK4
    refine wp_seq_k fun K5 hK => ?_
    have HK5 := Lib.hid hK
    clear hK
    go_wp2_with fail
    refine HK5.out _ _ ?_
    clear HK5
    have hq7 := Blk.new w3 3 #[.int .i64 0]
    have a4 := H3.out.1.alloc (.cells #[.int .i64 0] 3)
    have a5 := H3.out.2.1.alloc (.cells #[.int .i64 0] 3)
    have af : ManyAt (w3.alloc (.cells #[.int .i64 0] 3)) g gr gu 256 (rowM l).1 := H3.out.2.2.1.below (below_box w3 _)
    have ab : Below w.heap.size w (w3.alloc (.cells #[.int .i64 0] 3)) := H3.out.2.2.2.alloc H3.out.2.2.2.size _
    have hsz7 : w3.heap.size + 1 = (w3.alloc (.cells #[.int .i64 0] 3)).heap.size := by simp
    clear H3 e5
    have hl7 : g5 < w3.heap.size := by omega
    generalize w3.alloc (.cells #[.int .i64 0] 3) = w4 at hq7 a4 a5 af ab hsz7 ⊢
    generalize w3.heap.size = g7 at hq7 hl7 hsz hsz7 ⊢
    have e5 := a5.cell 0
    simp at e5
    have H4 := Lib.hid (And.intro hq7 (And.intro a4 (And.intro a5 (And.intro af ab))))
    clear hq7 a4 a5 af ab
    refine wp_seq_k fun K6 hK => ?_
    have HK6 := Lib.hid hK
    clear hK
    refine wp_seq_k fun K7 hK => ?_
    have HK7 := Lib.hid hK
    clear hK
    go_wp2_with fail
    refine (All_m _ _).mono ?_
    rintro e w5 ⟨rfl, rfl⟩
    go_wp2_with fail
    refine HK7.out _ _ ?_
    clear HK7
    have hqb := Blk.new w4 45 #[.pointer (some ⟨g, 0, none⟩)]
    have a7 := H4.out.1.alloc (.cells #[.pointer (some ⟨g, 0, none⟩)] 45)
    have a4 := H4.out.2.1.alloc (.cells #[.pointer (some ⟨g, 0, none⟩)] 45)
    have a5 := H4.out.2.2.1.alloc (.cells #[.pointer (some ⟨g, 0, none⟩)] 45)
    have af := H4.out.2.2.2.1.below (below_box w4 (.cells #[.pointer (some ⟨g, 0, none⟩)] 45))
    have ab := H4.out.2.2.2.2.alloc H4.out.2.2.2.2.size (.cells #[.pointer (some ⟨g, 0, none⟩)] 45)
    have hszb : w4.heap.size + 1 = (w4.alloc (.cells #[.pointer (some ⟨g, 0, none⟩)] 45)).heap.size := by simp
    clear H4 e5
    generalize w4.alloc (.cells #[.pointer (some ⟨g, 0, none⟩)] 45) = w5 at hqb a7 a4 a5 af ab hszb ⊢
    generalize w4.heap.size = gb at hqb hsz7 hszb ⊢
    have cb := hqb.cell 0
    simp at cb
    refine mnext_loop g gr gu w.heap.size g5 g7 gb (rowM l).1 w w5 cb ab.size ⟨⟨0, a7, by decide, fun _ => rfl⟩, a4, a5, af, ab, Nat.le_refl _⟩ ⟨by omega, by omega, by omega, by omega⟩ ⟨by omega, by omega, by omega, by omega⟩ ?_
    intro D W hD hI hdef
    obtain ⟨⟨m, h7, hm, hmf⟩, h4, h5, hf, hbel, hlo⟩ := hI
    obtain rfl := hmf (List.prefix_refl _)
    have hD0 : w.heap.size ≤ D := Nat.le_trans ab.size hD
    have hN := Next_m g gr gu 256 (rowM l).1 (fromOf (kidsF (rowM l).1) : Int) W hf
    rw [next_end] at hN
    have HN := Lib.hid hN
    have HD := Lib.hid hdef
    have e5 := h5.cell 0
    have e7 := h7.cell 0
    simp at e5 e7
    have H := Lib.hid (And.intro h4 (And.intro h5 (And.intro hf hbel)))
    clear hN hdef hmf h7 h4 h5 hf hbel hqb a7 a4 a5 af cb ab
    dsimp only
    refine HK6.out _ _ ?_
    clear HK6
    refine wp_seq_k fun K8 hK => ?_
    have HK8 := Lib.hid hK
    clear hK
    go_wp2_with fail
    refine HN.out.mono ?_
    rintro e w6 ⟨rfl, hb6⟩
    have hs6 := hb6.size
    have H6 := Lib.hid (And.intro (H.out.1.below hb6 H.out.1.lt) (And.intro (H.out.2.1.below hb6 H.out.2.1.lt) (And.intro (H.out.2.2.1.below hb6) (And.intro (H.out.2.2.2.trans (hb6.mono H.out.2.2.2.size)) ((hb6.block D (by have := Array.getElem?_eq_some_iff.1 HD.out; exact this.1)).trans HD.out)))))
    clear HN H HD e5 e7 hb6
    go_wp2_with fail
    refine HK8.out _ _ ?_
    clear HK8
    have b4 := H6.out.1.alloc (.cells #[.int .i64 0, .int .u32 0] 31)
    have b5 := H6.out.2.1.alloc (.cells #[.int .i64 0, .int .u32 0] 31)
    have bf := H6.out.2.2.1.below (below_box w6 (.cells #[.int .i64 0, .int .u32 0] 31))
    have bb := H6.out.2.2.2.1.alloc H6.out.2.2.2.1.size (.cells #[.int .i64 0, .int .u32 0] 31)
    have bD : (w6.alloc (.cells #[.int .i64 0, .int .u32 0] 31)).heap[D]? = some (.deferred (some [])) := (Below.heap_alloc _ _ _ (Array.getElem?_eq_some_iff.1 H6.out.2.2.2.2).1).trans H6.out.2.2.2.2
    have HA7 := Lib.hid (HA.out.below bb)
    have H7 := Lib.hid (And.intro b4 (And.intro b5 (And.intro bf (And.intro bb bD))))
    have hsz14 : w6.heap.size + 1 = (w6.alloc (.cells #[.int .i64 0, .int .u32 0] 31)).heap.size := by simp
    clear b4 b5 bf bb bD H6
    generalize w6.alloc (.cells #[.int .i64 0, .int .u32 0] 31) = w7 at HA7 H7 hsz14 ⊢
    refine wp_seq_k fun K9 hK => ?_
    have HK9 := Lib.hid hK
    clear hK
    go_wp2_with fail
    refine HK9.out _ _ ?_
    clear HK9
    refine wp_seq_k fun K10 hK => ?_
    have HK10 := Lib.hid hK
    clear hK
    go_wp2_with fail
    go_loopw [16, 17] (fun s i wr => ∃ k : Nat, k ≤ l.length ∧ i = .int .i64 k ∧ s = .bool (decide (b ∈ l.take k)) ∧ wr = w7) (fun _ i _ => l.length - (intOf i).toNat)
    case atStart => exact ⟨0, Nat.zero_le _, rfl, by simp, rfl⟩
    case round =>
      obtain ⟨k, hk, rfl, rfl, rfl⟩ := hrel
      by_cases hlt : k < l.length
      · obtain ⟨ad, rfl, hab, hc⟩ := byte_at HA7.out hlt
        have htake : l.take (k + 1) = l.take k ++ [l[k]] := List.take_succ_eq_append_getElem hlt
        generalize l[k] = y at hc htake
        have i1 : (0 : Int) ≤ (k : Int) := by omega
        have i2 : (k : Int) < (l.length : Int) := by omega
        by_cases hm : b ∈ l.take k
        · rw [decide_eq_true hm]
          go_wp2_with fail
          go_roundw
          case rel => exact ⟨k + 1, by omega, by go_num, by rw [htake]; simp [hm], by first | rfl | trivial⟩
          case measure => simp [intOf]; omega
        · rw [decide_eq_false hm]
          by_cases hy : y = b
          · subst hy
            go_wp2_with fail
            go_roundw
            case rel => exact ⟨k + 1, by omega, by go_num, by rw [htake]; simp, by first | rfl | trivial⟩
            case measure => simp [intOf]; omega
          · have hyb : ((y : Int) == (b : Int)) = false := by simp; omega
            go_wp2_with fail
            go_roundw
            case rel => exact ⟨k + 1, by omega, by go_num, by rw [htake]; simp [hm, Ne.symm hy], by first | rfl | trivial⟩
            case measure => simp [intOf]; omega
      · obtain rfl : k = l.length := by omega
        have i2 : ¬ ((l.length : Int) < (l.length : Int)) := by omega
        go_wp2_with fail
        refine HK10.out _ _ ?_
        clear HK10
        have hsome := rowM_law l HL.out b
        have e5 := H7.out.2.1.cell 0
        simp at e5
        have hF := Find_m g gr gu 256 (rowM l).1 b wr H7.out.2.2.1 hb
        unfold optV at hF
        generalize hx : ((rowM l).1 b).getD (0, 0) = x at hF
        generalize hfi : ((rowM l).1 b).isSome = fi at hF hsome
        subst hsome
        have HX := Lib.hid (And.intro hx hfi)
        have HF := Lib.hid hF
        clear hF hx hfi
        refine wp_seq_k fun K11 hK => ?_
        have HK11 := Lib.hid hK
        clear hK
        go_wp2_with fail
        refine HF.out.mono ?_
        rintro e w8 ⟨rfl, hb8⟩
        have h8 := hb8.size
        have H8 := Lib.hid (And.intro (H7.out.1.below hb8 H7.out.1.lt) (And.intro (H7.out.2.1.below hb8 H7.out.2.1.lt) (And.intro (H7.out.2.2.1.below hb8) (And.intro (H7.out.2.2.2.1.trans (hb8.mono H7.out.2.2.2.1.size)) ((hb8.block D (Array.getElem?_eq_some_iff.1 H7.out.2.2.2.2).1).trans H7.out.2.2.2.2)))))
        clear HF H7 HA7 e5 hb8
        go_wp2_with fail
        refine HK11.out _ _ ?_
        clear HK11
        have c4 := H8.out.1.alloc (.cells #[.int .i64 x.1, .int .u32 x.2] 31)
        have c5 := H8.out.2.1.alloc (.cells #[.int .i64 x.1, .int .u32 x.2] 31)
        have cf := H8.out.2.2.1.below (below_box w8 (.cells #[.int .i64 x.1, .int .u32 x.2] 31))
        have cb := H8.out.2.2.2.1.alloc H8.out.2.2.2.1.size (.cells #[.int .i64 x.1, .int .u32 x.2] 31)
        have cD : (w8.alloc (.cells #[.int .i64 x.1, .int .u32 x.2] 31)).heap[D]? = some (.deferred (some [])) := (Below.heap_alloc _ _ _ (Array.getElem?_eq_some_iff.1 H8.out.2.2.2.2).1).trans H8.out.2.2.2.2
        have c18 := Blk.new w8 31 #[.int .i64 x.1, .int .u32 x.2]
        have H9 := Lib.hid (And.intro c4 (And.intro c5 (And.intro cf (And.intro cb (And.intro cD c18)))))
        have hs18 : w8.heap.size + 1 = (w8.alloc (.cells #[.int .i64 x.1, .int .u32 x.2] 31)).heap.size := by simp
        have hg18 : g < w8.heap.size := by omega
        have hgr18 : gr < w8.heap.size := by omega
        have hgu18 : gu < w8.heap.size := by omega
        have e5 := c5.cell 0
        simp at e5
        clear c4 c5 cf cb cD c18 H8
        generalize w8.alloc (.cells #[.int .i64 x.1, .int .u32 x.2] 31) = w9 at H9 hs18 e5 ⊢
        generalize w8.heap.size = g18 at H9 hs18 hg18 hgr18 hgu18 ⊢
        refine wp_seq_k fun K12 hK => ?_
        have HK12 := Lib.hid hK
        clear hK
        have HL9 := Lib.hid (Len_m g gr gu 256 (rowM l).1 w9 H9.out.2.2.1)
        go_wp2_with fail
        refine HL9.out.mono ?_
        rintro e w9' ⟨rfl, hb9⟩
        have hs9 := hb9.size
        replace H9 := Lib.hid (And.intro (H9.out.1.below hb9 H9.out.1.lt) (And.intro (H9.out.2.1.below hb9 H9.out.2.1.lt) (And.intro (H9.out.2.2.1.below hb9) (And.intro (H9.out.2.2.2.1.trans (hb9.mono H9.out.2.2.2.1.size)) (And.intro ((hb9.block D (Array.getElem?_eq_some_iff.1 H9.out.2.2.2.2.1).1).trans H9.out.2.2.2.2.1) (H9.out.2.2.2.2.2.below hb9 H9.out.2.2.2.2.2.lt))))))
        replace e5 := H9.out.2.1.cell 0
        simp at e5
        clear HL9 hb9
        go_wp2_with fail
        refine HK12.out _ _ ?_
        clear HK12
        refine wp_seq_k fun K13 hK => ?_
        have HK13 := Lib.hid hK
        clear hK
        have hT := Take_m g gr gu 256 (rowM l).1 b w9' H9.out.2.2.1 hb
        obtain ⟨t1, t2, t3, t4⟩ := take_law (rowM l).1 hb
        rw [t2, HX.out.1] at hT
        rw [HX.out.2] at t1 t4
        generalize (takeK (rowM l).1 b).1.2 = te at hT t1
        generalize (takeK (rowM l).1 b).2 = f2 at hT t3 t4
        have HT := Lib.hid hT
        have HTL := Lib.hid (And.intro t1 (And.intro t3 t4))
        clear hT t1 t2 t3 t4
        go_wp2_with fail
        refine HT.out.mono ?_
        rintro e wt ⟨rfl, hft, hgt⟩
        clear HT
        have ht10 := hgt.size
        have HH10 := Lib.hid (And.intro (H9.out.1.three hgt (by omega) (by omega) (by omega)) (And.intro (H9.out.2.1.three hgt (by omega) (by omega) (by omega)) (And.intro hft (And.intro (below_three H9.out.2.2.2.1 hgt H9.out.2.2.2.1.size hgw hgrw hguw) (And.intro ((hgt.block D (Array.getElem?_eq_some_iff.1 H9.out.2.2.2.2.1).1 (by omega) (by omega) (by omega)).trans H9.out.2.2.2.2.1) (H9.out.2.2.2.2.2.three hgt (by omega) (by omega) (by omega)))))))
        clear hft hgt H9 e5
        go_wp2_with fail
        refine HK13.out _ _ ?_
        clear HK13
        have c4 := HH10.out.1.alloc (.cells #[.int .i64 x.1, .int .u32 x.2] 31)
        have c5 := HH10.out.2.1.alloc (.cells #[.int .i64 x.1, .int .u32 x.2] 31)
        have cf := HH10.out.2.2.1.below (below_box wt (.cells #[.int .i64 x.1, .int .u32 x.2] 31))
        have cb := HH10.out.2.2.2.1.alloc HH10.out.2.2.2.1.size (.cells #[.int .i64 x.1, .int .u32 x.2] 31)
        have cD : (wt.alloc (.cells #[.int .i64 x.1, .int .u32 x.2] 31)).heap[D]? = some (.deferred (some [])) := (Below.heap_alloc _ _ _ (Array.getElem?_eq_some_iff.1 HH10.out.2.2.2.2.1).1).trans HH10.out.2.2.2.2.1
        have c18 := HH10.out.2.2.2.2.2.alloc (.cells #[.int .i64 x.1, .int .u32 x.2] 31)
        have c21 := Blk.new wt 31 #[.int .i64 x.1, .int .u32 x.2]
        have H11 := Lib.hid (And.intro c4 (And.intro c5 (And.intro cf (And.intro cb (And.intro cD (And.intro c18 c21))))))
        have hs21 : wt.heap.size + 1 = (wt.alloc (.cells #[.int .i64 x.1, .int .u32 x.2] 31)).heap.size := by simp
        have e5 := c5.cell 0
        simp at e5
        clear c4 c5 cf cb cD c18 c21 HH10
        generalize wt.alloc (.cells #[.int .i64 x.1, .int .u32 x.2] 31) = w11 at H11 hs21 e5 ⊢
        generalize wt.heap.size = g21 at H11 hs21 ht10 ⊢
        refine wp_seq_k fun K14 hK => ?_
        have HK14 := Lib.hid hK
        clear hK
        have hF2 := Find_m g gr gu 256 f2 b w11 H11.out.2.2.1 hb
        rw [HTL.out.2.1] at hF2
        unfold optV at hF2
        generalize (f2 b).getD (0, 0) = y at hF2
        have HF2 := Lib.hid hF2
        clear hF2
        go_wp2_with fail
        refine HF2.out.mono ?_
        rintro e wu ⟨rfl, hbu⟩
        clear HF2
        have hsu := hbu.size
        have d4 := (H11.out.1.below hbu H11.out.1.lt).alloc (.cells #[.int .i64 y.1, .int .u32 y.2] 31)
        have d5 := (H11.out.2.1.below hbu H11.out.2.1.lt).alloc (.cells #[.int .i64 y.1, .int .u32 y.2] 31)
        have df := (H11.out.2.2.1.below hbu).below (below_box wu (.cells #[.int .i64 y.1, .int .u32 y.2] 31))
        have db0 := H11.out.2.2.2.1.trans (hbu.mono H11.out.2.2.2.1.size)
        have db := db0.alloc db0.size (.cells #[.int .i64 y.1, .int .u32 y.2] 31)
        have dD0 := (hbu.block D (Array.getElem?_eq_some_iff.1 H11.out.2.2.2.2.1).1).trans H11.out.2.2.2.2.1
        have dD : (wu.alloc (.cells #[.int .i64 y.1, .int .u32 y.2] 31)).heap[D]? = some (.deferred (some [])) := (Below.heap_alloc _ _ _ (Array.getElem?_eq_some_iff.1 dD0).1).trans dD0
        have d18 := (H11.out.2.2.2.2.2.1.below hbu H11.out.2.2.2.2.2.1.lt).alloc (.cells #[.int .i64 y.1, .int .u32 y.2] 31)
        have d21 := (H11.out.2.2.2.2.2.2.below hbu H11.out.2.2.2.2.2.2.lt).alloc (.cells #[.int .i64 y.1, .int .u32 y.2] 31)
        have H12 := Lib.hid (And.intro d4 (And.intro d5 (And.intro df (And.intro db (And.intro dD (And.intro d18 d21))))))
        clear d4 d5 df db0 db dD0 dD d18 d21 H11 e5 hbu
        go_wp2_with fail
        refine HK14.out _ _ ?_
        clear HK14
        generalize wu.alloc (.cells #[.int .i64 y.1, .int .u32 y.2] 31) = w13 at H12 ⊢
        have e5 := H12.out.2.1.cell 0
        have e4 := H12.out.1.cell 0
        have g40 := H12.out.1.frozen 0
        have l4 := H12.out.1.lt
        have e180 := H12.out.2.2.2.2.2.1.cell 0
        have e181 := H12.out.2.2.2.2.2.1.cell 1
        have e210 := H12.out.2.2.2.2.2.2.cell 0
        have e211 := H12.out.2.2.2.2.2.2.cell 1
        simp at e5 e4 e180 e181 e210 e211
        have er := eqlRef x x
        have grd := guardRef
        have HL13 := Lib.hid (Len_m g gr gu 256 f2 w13 H12.out.2.2.1)
        have t1 := HTL.out.1
        have t4 := HTL.out.2.2
        clear HTL HX
        generalize decide (b ∈ l) = fi at t1 t4 ⊢
        generalize cntK f2 = c2 at HL13 t4
        generalize cntK (rowM l).1 = c1 at t4 ⊢
        cases fi with
        | true =>
          have hc : ((c2 : Int) == (c1 : Int)) = false := by simp at t4 ⊢; omega
          clear t4
          go_wp2_with fail
          refine HL13.out.mono ?_
          rintro e w14 ⟨rfl, hb14⟩
          replace H12 := Lib.hid (And.intro (H12.out.1.below hb14 H12.out.1.lt) (And.intro (H12.out.2.2.2.1.trans (hb14.mono H12.out.2.2.2.1.size)) ((hb14.block D (Array.getElem?_eq_some_iff.1 H12.out.2.2.2.2.1).1).trans H12.out.2.2.2.2.1)))
          replace e4 := H12.out.1.cell 0
          replace g40 := H12.out.1.frozen 0
          replace l4 := H12.out.1.lt
          simp at e4
          clear hb14
          go_wp2_with fail
          have hDg : D ≠ w.heap.size := by omega
          have hK0 : (w14.setCell ⟨w.heap.size, 0, none⟩ (.bool true)).heap[D]? = some (.deferred (some [])) := (Below.heap_setCell _ _ _ _ hDg).trans H12.out.2.2
          refine ⟨by simp, .inl ⟨_, _, rfl, run_takeDeferred hK0, ?_⟩⟩
          have hc4 : ((w14.setCell ⟨w.heap.size, 0, none⟩ (.bool true)).putObj D (.deferred none)).cell? ⟨w.heap.size, 0, none⟩ = some (.bool true) := (World.cell?_of_block (World.putObj_heap_other (k := w.heap.size) (by omega))).trans (World.cell?_setCell_same' _ _ _ (by rw [e4]; rfl))
          refine ⟨.bool true, by simp [results, Try.results5, go_sem, hc4], rfl, (H12.out.2.1.setCell (Nat.le_refl _) _).trans ⟨rfl, rfl, rfl, by simp [World.putObj], fun k hk => World.putObj_heap_other (by omega)⟩⟩
        | false =>
          have hc : ((c2 : Int) == (c1 : Int)) = true := by simp at t4 ⊢; omega
          clear t4
          go_wp2_with fail
          refine HL13.out.mono ?_
          rintro e w14 ⟨rfl, hb14⟩
          replace H12 := Lib.hid (And.intro (H12.out.1.below hb14 H12.out.1.lt) (And.intro (H12.out.2.2.2.1.trans (hb14.mono H12.out.2.2.2.1.size)) ((hb14.block D (Array.getElem?_eq_some_iff.1 H12.out.2.2.2.2.1).1).trans H12.out.2.2.2.2.1)))
          replace e4 := H12.out.1.cell 0
          replace g40 := H12.out.1.frozen 0
          replace l4 := H12.out.1.lt
          simp at e4
          clear hb14
          go_wp2_with fail
          have hDg : D ≠ w.heap.size := by omega
          have hK0 : (w14.setCell ⟨w.heap.size, 0, none⟩ (.bool true)).heap[D]? = some (.deferred (some [])) := (Below.heap_setCell _ _ _ _ hDg).trans H12.out.2.2
          refine ⟨by simp, .inl ⟨_, _, rfl, run_takeDeferred hK0, ?_⟩⟩
          have hc4 : ((w14.setCell ⟨w.heap.size, 0, none⟩ (.bool true)).putObj D (.deferred none)).cell? ⟨w.heap.size, 0, none⟩ = some (.bool true) := (World.cell?_of_block (World.putObj_heap_other (k := w.heap.size) (by omega))).trans (World.cell?_setCell_same' _ _ _ (by rw [e4]; rfl))
          refine ⟨.bool true, by simp [results, Try.results5, go_sem, hc4], rfl, (H12.out.2.1.setCell (Nat.le_refl _) _).trans ⟨rfl, rfl, rfl, by simp [World.putObj], fun k hk => World.putObj_heap_other (by omega)⟩⟩
end Go.Proofs.Ytmcpfhhggapkcaa
