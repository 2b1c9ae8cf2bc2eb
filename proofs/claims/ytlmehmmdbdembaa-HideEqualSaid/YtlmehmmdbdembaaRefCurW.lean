/-
  Walks: the reference's takes, Pick, current.
-/
import Derived.Test.YtlmehmmdbdembaaScriptW
import Derived.Test.YtlmehmmdbdembaaAwakeW
namespace Go.Proofs.Ytlmehmmdbdembaa
open Go.RowKit
set_option linter.unusedVariables false

set_option maxHeartbeats 800000 in
theorem rtakes_any (r : Req) (b : Int) (w : World) : Calls Try.prog 53 #[r.v, .int .i64 b] w (IntEnd (takes b r) w) := by
  by_cases h : 1 ≤ r.deed ∧ r.deed ≤ 5
  · obtain ⟨h1, h2⟩ := h
    have e : takes b r = picksOf r b := by unfold takes; rw [if_pos ⟨h1, h2⟩]
    rw [e]
    clear e
    go_enter Try.func53, Try.ntmps53
    go_wp2_with (go_at_call 56; refine (rpicks_any r b _).mono ?_; rintro e w' ⟨rfl, hb⟩)
    go_ret
    exact ⟨rfl, below_trans (below_box w _) hb⟩
  · have e : takes b r = 1 := by unfold takes; rw [if_neg h]
    rw [e]
    clear e
    go_enter Try.func53, Try.ntmps53
    go_wp2
    all_goals first
      | omega
      | (go_ret
         exact ⟨rfl, below_box w _⟩)

theorem pick_bring (x : Int) (n : Nat) (h : 0 < n) : (if x.tmod n < 0 then x.tmod n + n else x.tmod n) = bring x n := by
  unfold bring
  have h1 := Int.tmod_lt_of_pos x (show (0 : Int) < n by omega)
  have h2 : -(n : Int) < x.tmod n := by
    have := Int.lt_tmod_of_pos x (show (0 : Int) < n by omega)
    omega
  generalize x.tmod n = q at *
  split
  · rw [Int.tmod_eq_emod_of_nonneg (by omega), Int.emod_eq_of_lt (by omega) (by omega)]
  · rw [Int.tmod_eq_emod_of_nonneg (by omega), Int.add_emod_right, Int.emod_eq_of_lt (by omega) (by omega)]

set_option maxHeartbeats 800000 in
theorem pick_any (x : Int) (n : Nat) (w : World) (hx : I64 x) (hn : 0 < n ∧ n ≤ 1000000) : Calls Try.prog 52 #[.int .i64 x, .int .i64 n] w fun e w' => e = .returned (.int .i64 (bring x n)) ∧ w = w' := by
  obtain ⟨x1, x2⟩ := hx
  obtain ⟨n1, n2⟩ := hn
  have hb := pick_bring x n n1
  have h1 := Int.tmod_lt_of_pos x (show (0 : Int) < n by omega)
  have h2 : -(n : Int) < x.tmod n := by
    have := Int.lt_tmod_of_pos x (show (0 : Int) < n by omega)
    omega
  have hn0 : ¬ (n : Int) < 1 := by omega
  have hz : ((n : Int) == 0) = false := by simp; omega
  have HB := Lib.hid hb
  clear hb
  by_cases hq : x.tmod n < 0
  · go_enter Try.func52, Try.ntmps52
    go_wp2
    go_ret
    exact ⟨ret_int (by rw [← HB.out, if_pos hq]), rfl⟩
  · go_enter Try.func52, Try.ntmps52
    go_wp2
    go_ret
    exact ⟨ret_int (by rw [← HB.out, if_neg (by omega)]), rfl⟩

/-- The first entry of a session that has not had all of its picks. -/
def curFrom (b k : Int) : Nat → List Ent → List Int → Int
  | i, e :: es, h :: hs => if e.ses = k ∧ h < takes b e.r then (i : Int) else curFrom b k (i + 1) es hs
  | _, _, _ => -1

theorem ent_facts {W : World} {e : Ent} {ad : Addr} {j : Nat} (h : ∀ i u, e.row[i]? = some u → W.cell? ((ad.add (j * 13)).add i) = some u) : W.cell? (ad.add (j * 13)) = some (.int .i64 e.ses) ∧ W.cell? ⟨(ad.add (j * 13)).block, (ad.add (j * 13)).off + 1, none⟩ = some (.int .i64 e.r.deed) ∧ W.cell? ⟨(ad.add (j * 13)).block, (ad.add (j * 13)).off + 2, none⟩ = some (.int .i64 e.r.ten) ∧ W.cell? ⟨(ad.add (j * 13)).block, (ad.add (j * 13)).off + 3, none⟩ = some (.int .u32 e.r.gen) ∧ W.cell? ⟨(ad.add (j * 13)).block, (ad.add (j * 13)).off + 4, none⟩ = some (.int .u8 e.r.rig) ∧ W.cell? ⟨(ad.add (j * 13)).block, (ad.add (j * 13)).off + 5, none⟩ = some (.string e.r.key) ∧ W.cell? ⟨(ad.add (j * 13)).block, (ad.add (j * 13)).off + 6, none⟩ = some (.string e.r.val) ∧ W.cell? ⟨(ad.add (j * 13)).block, (ad.add (j * 13)).off + 7, none⟩ = some (.string e.r.old) ∧ W.cell? ⟨(ad.add (j * 13)).block, (ad.add (j * 13)).off + 8, none⟩ = some (.int .i64 e.r.lim) ∧ W.cell? ⟨(ad.add (j * 13)).block, (ad.add (j * 13)).off + 9, none⟩ = some (.int .i64 e.r.tenant) ∧ W.cell? ⟨(ad.add (j * 13)).block, (ad.add (j * 13)).off + 10, none⟩ = some (.int .u64 e.r.qk) ∧ W.cell? ⟨(ad.add (j * 13)).block, (ad.add (j * 13)).off + 11, none⟩ = some (.int .u64 e.r.qb) ∧ W.cell? ⟨(ad.add (j * 13)).block, (ad.add (j * 13)).off + 12, none⟩ = some (.int .u8 e.r.rights) :=
  ⟨h 0 _ rfl, h 1 _ rfl, h 2 _ rfl, h 3 _ rfl, h 4 _ rfl, h 5 _ rfl, h 6 _ rfl, h 7 _ rfl, h 8 _ rfl, h 9 _ rfl, h 10 _ rfl, h 11 _ rfl, h 12 _ rfl⟩

set_option maxHeartbeats 3200000 in
set_option maxRecDepth 100000 in
theorem current_any (A B H : Option Addr) (c d ch m : Nat) (b k : Int) (es : List Ent) (had : List Int) (w : World) (hl : had.length = es.length) (hle : es.length ≤ 4096) (hE : Reads w w.heap.size 13 A es.length (es.flatMap Ent.row)) (hH : Reads w w.heap.size 1 H es.length (had.flatMap irow)) :
    Calls Try.prog 51 #[.agg #[.slice A es.length c, .slice B m d], .int .i64 b, .int .i64 k, .slice H es.length ch] w (IntEnd (curFrom b k 0 es had) w) := by
  have hec : (es.length : Int) ≤ 4096 := by omega
  have HL := Lib.hid hl
  have HE := Lib.hid hE
  have HH := Lib.hid hH
  clear hl hE hH
  go_enter Try.func51, Try.ntmps51
  refine wp_seq_k fun K0 hK => ?_
  have HK0 := Lib.hid hK
  clear hK
  go_wp2_with fail
  refine HK0.out _ _ ?_
  clear HK0 K0
  refine wp_seq_k fun K0 hK => ?_
  have HK0 := Lib.hid hK
  clear hK
  have b0 := Blk.new w 41 #[.slice A es.length c, .slice B m d]
  have hbel0 := below_box w (.cells #[.slice A es.length c, .slice B m d] 41)
  generalize w.alloc (.cells #[.slice A es.length c, .slice B m d] 41) = W0 at b0 hbel0 ⊢
  have HB0 := Lib.hid (And.intro b0 hbel0)
  clear b0 hbel0
  go_wp2_with fail
  go_loopw [9] (fun i wr => ∃ j : Nat, j ≤ es.length ∧ i = .int .i64 j ∧ Below W0.heap.size W0 wr ∧ Hid (curFrom b k 0 es had = curFrom b k j (es.drop j) (had.drop j))) (fun i _ => es.length - (intOf i).toNat)
  case atStart => exact ⟨0, by omega, rfl, Below.refl _ _, Lib.hid rfl⟩
  case round =>
    obtain ⟨j, hj, rfl, hbel, hcur⟩ := hrel
    have x0 := (hbel.cell (p := ⟨w.heap.size, 0, none⟩) HB0.out.1.lt).trans (HB0.out.1.cell 0)
    simp at x0
    by_cases hlt : j < es.length
    · obtain ⟨ad, rfl, hab, hc⟩ := row_cells ent_row_len HE.out rfl hlt
      obtain ⟨hd, hu, rfl, hhb, hhu, hhc⟩ := HH.out.at_ hlt
      rw [irow_map, List.getElem?_map, List.getElem?_eq_getElem (by rw [HL.out]; exact hlt)] at hhu
      simp only [Option.map_some, Option.some.injEq] at hhu
      subst hhu
      have hdr := List.drop_eq_getElem_cons hlt
      have hdr2 := List.drop_eq_getElem_cons (show j < had.length by rw [HL.out]; exact hlt)
      generalize es[j] = e at hc hdr
      generalize had[j]'(by rw [HL.out]; exact hlt) = h at hhc hdr2
      have hXX : ∀ W, Below W0.heap.size W0 W → W.cell? ⟨w.heap.size, 0, none⟩ = some (.slice (some ad) es.length c) ∧ W.cell? (hd.add j) = some (.int .i64 h) ∧ W.cell? (ad.add (j * 13)) = some (.int .i64 e.ses) ∧ W.cell? ⟨(ad.add (j * 13)).block, (ad.add (j * 13)).off + 1, none⟩ = some (.int .i64 e.r.deed) ∧ W.cell? ⟨(ad.add (j * 13)).block, (ad.add (j * 13)).off + 2, none⟩ = some (.int .i64 e.r.ten) ∧ W.cell? ⟨(ad.add (j * 13)).block, (ad.add (j * 13)).off + 3, none⟩ = some (.int .u32 e.r.gen) ∧ W.cell? ⟨(ad.add (j * 13)).block, (ad.add (j * 13)).off + 4, none⟩ = some (.int .u8 e.r.rig) ∧ W.cell? ⟨(ad.add (j * 13)).block, (ad.add (j * 13)).off + 5, none⟩ = some (.string e.r.key) ∧ W.cell? ⟨(ad.add (j * 13)).block, (ad.add (j * 13)).off + 6, none⟩ = some (.string e.r.val) ∧ W.cell? ⟨(ad.add (j * 13)).block, (ad.add (j * 13)).off + 7, none⟩ = some (.string e.r.old) ∧ W.cell? ⟨(ad.add (j * 13)).block, (ad.add (j * 13)).off + 8, none⟩ = some (.int .i64 e.r.lim) ∧ W.cell? ⟨(ad.add (j * 13)).block, (ad.add (j * 13)).off + 9, none⟩ = some (.int .i64 e.r.tenant) ∧ W.cell? ⟨(ad.add (j * 13)).block, (ad.add (j * 13)).off + 10, none⟩ = some (.int .u64 e.r.qk) ∧ W.cell? ⟨(ad.add (j * 13)).block, (ad.add (j * 13)).off + 11, none⟩ = some (.int .u64 e.r.qb) ∧ W.cell? ⟨(ad.add (j * 13)).block, (ad.add (j * 13)).off + 12, none⟩ = some (.int .u8 e.r.rights) := by
        intro W hW
        have hsz := HB0.out.2.size
        refine ⟨(hW.cell (p := ⟨w.heap.size, 0, none⟩) HB0.out.1.lt).trans (by rw [HB0.out.1.cell 0]; rfl), ?_, ent_facts fun i u hu => ?_⟩
        · exact (hW.cell (by rw [block_of_add]; omega)).trans ((HB0.out.2.cell (by rw [block_of_add]; exact hhb)).trans hhc)
        · exact (hW.cell (by rw [block_of_add, block_of_add]; omega)).trans ((HB0.out.2.cell (by rw [block_of_add, block_of_add]; exact hab)).trans (hc i u hu))
      obtain ⟨z0, z1, q0, q1, q2, q3, q4, q5, q6, q7, q8, q9, q10, q11, q12⟩ := hXX _ hbel
      have HX := Lib.hid hXX
      have HC := Lib.hid (And.intro hdr hdr2)
      have i1 : (0 : Int) ≤ (j : Int) := by omega
      have i2 : (j : Int) < (es.length : Int) := by omega
      clear hXX hc hhc hdr hdr2 z0
      by_cases hk : e.ses = k
      · have hkb : (e.ses == k) = true := by simp [hk]
        have HKK := Lib.hid hk
        clear hk
        go_wp2_with fail
        go_region_held3 (fun W => Below W0.heap.size W0 W ∧ W.cell? ⟨w.heap.size, 0, none⟩ = some (.slice (some ad) es.length c) ∧ W.cell? (hd.add j) = some (.int .i64 h) ∧ W.cell? (ad.add (j * 13)) = some (.int .i64 e.ses) ∧ W.cell? ⟨(ad.add (j * 13)).block, (ad.add (j * 13)).off + 1, none⟩ = some (.int .i64 e.r.deed) ∧ W.cell? ⟨(ad.add (j * 13)).block, (ad.add (j * 13)).off + 2, none⟩ = some (.int .i64 e.r.ten) ∧ W.cell? ⟨(ad.add (j * 13)).block, (ad.add (j * 13)).off + 3, none⟩ = some (.int .u32 e.r.gen) ∧ W.cell? ⟨(ad.add (j * 13)).block, (ad.add (j * 13)).off + 4, none⟩ = some (.int .u8 e.r.rig) ∧ W.cell? ⟨(ad.add (j * 13)).block, (ad.add (j * 13)).off + 5, none⟩ = some (.string e.r.key) ∧ W.cell? ⟨(ad.add (j * 13)).block, (ad.add (j * 13)).off + 6, none⟩ = some (.string e.r.val) ∧ W.cell? ⟨(ad.add (j * 13)).block, (ad.add (j * 13)).off + 7, none⟩ = some (.string e.r.old) ∧ W.cell? ⟨(ad.add (j * 13)).block, (ad.add (j * 13)).off + 8, none⟩ = some (.int .i64 e.r.lim) ∧ W.cell? ⟨(ad.add (j * 13)).block, (ad.add (j * 13)).off + 9, none⟩ = some (.int .i64 e.r.tenant) ∧ W.cell? ⟨(ad.add (j * 13)).block, (ad.add (j * 13)).off + 10, none⟩ = some (.int .u64 e.r.qk) ∧ W.cell? ⟨(ad.add (j * 13)).block, (ad.add (j * 13)).off + 11, none⟩ = some (.int .u64 e.r.qb) ∧ W.cell? ⟨(ad.add (j * 13)).block, (ad.add (j * 13)).off + 12, none⟩ = some (.int .u8 e.r.rights)) (first | exact ⟨hbel.drew, HX.out _ hbel.drew⟩ | exact ⟨hbN, HX.out _ hbN⟩)
          (first | (go_at_call 53; refine (rtakes_any e.r b _).mono ?_; rintro e' wn ⟨rfl, hbm⟩; have hH := ‹Below W0.heap.size W0 _ ∧ _›; have hbN := below_trans hH.1 hbm))
        have HbN := Lib.hid hbN
        clear hbN hbm
        by_cases hht : h < takes b e.r
        · go_wp2
          go_ret
          exact ⟨ret_int (by rw [hcur.out, HC.out.1, HC.out.2, curFrom, if_pos ⟨HKK.out, hht⟩]), HB0.out.2.trans (HbN.out.mono HB0.out.2.size)⟩
        · go_wp2
          go_roundw
          case rel => exact ⟨j + 1, by omega, by go_num, HbN.out, Lib.hid (by rw [hcur.out, HC.out.1, HC.out.2, curFrom, if_neg (fun hh => hht hh.2)])⟩
          case measure => simp [intOf]; omega
      · have hkb : (e.ses == k) = false := by simp [hk]
        have HKK := Lib.hid hk
        clear hk
        go_wp2_with fail
        go_quiet (fail)
        go_wp2
        go_roundw
        case rel => exact ⟨j + 1, by omega, by go_num, below_drewN hbel _, Lib.hid (by rw [hcur.out, HC.out.1, HC.out.2, curFrom, if_neg (fun hh => HKK.out hh.1)])⟩
        case measure => simp [intOf]; omega
    · obtain rfl : j = es.length := by omega
      have hcur2 : curFrom b k 0 es had = -1 := by rw [hcur.out, List.drop_length]; simp [curFrom]
      have HC := Lib.hid hcur2
      clear hcur2 hcur
      go_wp2_with fail
      refine HK0.out _ _ ?_
      go_wp2_with fail
      go_ret
      exact ⟨ret_int HC.out.symm, HB0.out.2.trans (hbel.mono HB0.out.2.size)⟩
end Go.Proofs.Ytlmehmmdbdembaa
