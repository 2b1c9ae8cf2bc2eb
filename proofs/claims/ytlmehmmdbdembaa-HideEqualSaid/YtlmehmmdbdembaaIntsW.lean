/-
  Walks: burgagekit's functions on lists: Ints.
-/
import Derived.Test.YtlmehmmdbdembaaAppW
namespace Go.Proofs.Ytlmehmmdbdembaa
open Go.RowKit
set_option linter.unusedVariables false

theorem infoInts : (Try.prog.info? 3).map (fun i => (i.zero, i.size, i.bytes)) = some (some (.int .i64 0), 1, 8) := by kernel_rfl

theorem mark_any (k i : Int) (w : World) (hk : 0 ≤ k ∧ k ≤ 1000) (hi : 0 ≤ i ∧ i ≤ 1000000) : Calls Try.prog 55 #[.int .i64 k, .int .i64 i] w fun e w' => e = .returned (.int .i64 (markN k i)) ∧ w = w' := by
  obtain ⟨h1, h2⟩ := hk
  obtain ⟨h3, h4⟩ := hi
  go_enter Try.func55, Try.ntmps55
  go_wp2
  go_ret
  exact ⟨rfl, rfl⟩
theorem mark_1 (k : Nat) (w : World) (h : k ≤ 1000000) : Calls Try.prog 55 #[.int .i64 1, .int .i64 k] w fun e w' => e = .returned (.int .i64 (markN 1 k)) ∧ w = w' := mark_any 1 k w (by omega) (by omega)
theorem mark_2 (k : Nat) (w : World) (h : k ≤ 1000000) : Calls Try.prog 55 #[.int .i64 2, .int .i64 k] w fun e w' => e = .returned (.int .i64 (markN 2 k)) ∧ w = w' := mark_any 2 k w (by omega) (by omega)

/-- What LentInts comes to. -/
def LentIntsEnd (l : List Int) (w : World) (e : Ending) (w' : World) : Prop :=
  ∃ g cap, e = .returned (.slice (some ⟨g, 0, none⟩) l.length cap) ∧ l.length + 12 ≤ cap ∧ cap ≤ maxLen ∧ w'.ownsRow w.heap.size 3 1 (.slice (some ⟨g, 0, none⟩) (l.length + 12) cap) (l.length + 12) ((l ++ marksI 12).flatMap irow) ∧ Below w.heap.size w w'

set_option maxHeartbeats 1600000 in
set_option maxRecDepth 100000 in
theorem lent_ints (l : List Int) (A : Option Addr) (c : Nat) (w : World) (hl : l.length ≤ 65536) (hA : Reads w w.heap.size 1 A l.length (l.flatMap irow)) :
    Calls Try.prog 37 #[.slice A l.length c] w (LentIntsEnd l w) := by
  obtain ⟨i0, hi0, iz0, iz1, iz2⟩ := info_parts infoInts
  have hmk : ∀ W, (Instr.makeSlice 39 (.int .i64 0) (.int .i64 ((l.length : Int) + 12))).run Try.prog W = .ok (.slice (some ⟨W.heap.size, 0, none⟩) 0 (l.length + 12)) (W.alloc (.cells (madeCells #[.int .i64 0] (l.length + 12)) 3)) := fun W => by
    have h := run_make_rowN (P := Try.prog) 39 3 i0 _ Try.underlying39 hi0 iz0 .i64 .i64 0 (l.length + 12) (by omega) (by rw [iz2]; omega) (by omega) W
    rw [iz1, Nat.mul_one] at h
    exact h
  have hmk0 : Blk (w.alloc (.cells (madeCells #[.int .i64 0] (l.length + 12)) 3)) w.heap.size 3 (madeCells #[.int .i64 0] (l.length + 12)) := Blk.new _ _ _
  have hown0 := Blk.own (base := w.heap.size) (size := 1) (n := 0) (c := l.length + 12) (xs := []) hmk0 (Nat.le_refl _) (by omega) (by unfold maxLen; omega) (by rw [size_madeCells]; omega) (by simp)
  have hbel0 := below_box w (.cells (madeCells #[.int .i64 0] (l.length + 12)) 3)
  have hsz0 : (w.alloc (.cells (madeCells #[.int .i64 0] (l.length + 12)) 3)).heap.size = w.heap.size + 1 := by simp
  have HW0 := Lib.hid (And.intro hown0 (And.intro hbel0 hsz0))
  clear hmk0 hown0 hbel0 hsz0
  have hlc : (l.length : Int) ≤ 65536 := by omega
  have HA := Lib.hid hA
  clear hA
  go_enter Try.func37, Try.ntmps37
  refine wp_seq_k fun K0 hK => ?_
  have HK0 := Lib.hid hK
  clear hK
  go_wp2_with fail
  refine HK0.out _ _ ?_
  clear HK0 K0
  refine wp_seq_k fun K0 hK => ?_
  have HK0 := Lib.hid hK
  clear hK
  go_wp2_with fail
  refine HK0.out _ _ ?_
  clear HK0 K0 hmk
  generalize w.alloc (.cells (madeCells #[.int .i64 0] (l.length + 12)) 3) = W0 at HW0 ⊢
  obtain ⟨hown0, hbel0, hsz0⟩ := HW0.out
  clear HW0
  have hsz1 : w.heap.size ≤ W0.heap.size := by omega
  clear hsz0
  refine wp_seq_k fun K0 hK => ?_
  have HK0 := Lib.hid hK
  clear hK
  go_wp2_with (first
    | (at_builtin
       refine wpList_append_any _ rfl (.tmp 9) (.tmp 10) _ rfl w.heap.size 3 i0 _ 1 8 Try.underlying39 hi0 iz0 iz1 iz2 rfl (by omega) (.slice (some ⟨w.heap.size, 0, none⟩) 0 (l.length + 12)) 0 [] rfl
         hown0 w.heap.size A l.length c _ rfl (HA.out.below hbel0) (flat_one irow_one l) (by unfold maxLen; omega) (by omega) hsz1 ?_
       intro v1 w1 hown1 hg1 hat1
       have hbel1 : Below w.heap.size w w1 := below_app hbel0 hown0 hg1 (Nat.le_refl _) hsz1))
  refine HK0.out _ _ ?_
  clear HK0 K0 hown0 hbel0 hg1 hat1
  simp only [List.nil_append, Nat.zero_add] at hown1
  refine wp_seq_k fun K0 hK => ?_
  have HK0 := Lib.hid hK
  clear hK
  go_wp2_with fail
  go_loopw [3, 4] (fun v i wr => ∃ k : Nat, k ≤ 12 ∧ i = .int .i64 k ∧ wr.ownsRow w.heap.size 3 1 v (l.length + k) ((l ++ marksI k).flatMap irow) ∧ Below w.heap.size w wr) (fun _ i _ => 12 - (intOf i).toNat)
  case atStart => exact ⟨0, by omega, rfl, by simpa [marksI] using hown1, hbel1⟩
  case round =>
    clear hown1 hbel1
    obtain ⟨k, hk, rfl, hown, hbel⟩ := hrel
    have hsz := hbel.size
    by_cases hlt : k < 12
    · go_wp2_with (first
        | (go_at_call 55; refine (mark_1 k _ (by omega)).mono ?_; rintro e w' ⟨rfl, rfl⟩)
        | (at_builtin
           refine wpList_append_any _ rfl (.tmp 16) (.tmp 19) _ rfl w.heap.size 3 i0 _ 1 8 Try.underlying39 hi0 iz0 iz1 iz2 rfl (by omega) u3 (l.length + k) ((l ++ marksI k).flatMap irow) rfl
             (hown.alloc _) _ (some ⟨wr.heap.size, 0, none⟩) 1 1 (irow (markN 1 k)) rfl (reads_of_blk (blk_newAt rfl) rfl rfl) (irow_one _) (by unfold maxLen; omega) (by omega) (by simp; omega) ?_
           intro v2 w2 hown2 hg2 hat2
           have hbel2 : Below w.heap.size w w2 := below_app (hbel.alloc hsz _) (hown.alloc _) hg2 (Nat.le_refl _) (by simp; omega)))
      clear hg2 hat2
      go_roundw
      case rel => exact ⟨k + 1, by omega, by go_num, by
        rw [marksI_succ, ← List.append_assoc, List.flatMap_append, List.flatMap_singleton]
        exact hown2, hbel2⟩
      case measure => simp [intOf]; omega
    · obtain rfl : k = 12 := by omega
      obtain ⟨g, cap, hv, hgb, hgl⟩ := hown.form (by omega)
      obtain ⟨A1, c1, hv1, -, hc1, hc2⟩ := own_form hown
      rw [hv] at hv1
      injection hv1 with e1 e2 e3
      subst e3
      clear e1 e2
      have hcl : ((l.length : Int)) ≤ ((cap : Nat) : Int) := by omega
      have hcm := hc2
      unfold maxLen at hcm
      have hcm2 : ((cap : Nat) : Int) ≤ 9223372036854775807 := by omega
      rw [hv] at hown ⊢
      clear hv
      go_wp2_with fail
      refine HK0.out _ _ ?_
      go_wp2_with fail
      go_ret
      exact ⟨g, cap, rfl, hc1, hc2, hown, hbel⟩

def KeptEnd (w : World) (e : Ending) (w' : World) : Prop := e = .returned (.bool true) ∧ Below w.heap.size w w'

set_option maxHeartbeats 3200000 in
set_option maxRecDepth 100000 in
theorem kept_ints (l : List Int) (A : Option Addr) (c g cap : Nat) (w : World) (hl : l.length ≤ 65536) (hA : Reads w w.heap.size 1 A l.length (l.flatMap irow)) (hX : Reads w w.heap.size 1 (some ⟨g, 0, none⟩) (l.length + 12) ((l ++ marksI 12).flatMap irow))
    (hgw : g < w.heap.size) (hc1 : l.length + 12 ≤ cap) (hc2 : cap ≤ maxLen) : Calls Try.prog 50 #[.slice (some ⟨g, 0, none⟩) l.length cap, .slice A l.length c] w (KeptEnd w) := by
  have hlc : (l.length : Int) ≤ 65536 := by omega
  have hcl : (l.length : Int) + 12 ≤ ((cap : Nat) : Int) := by omega
  unfold maxLen at hc2
  have hcm2 : ((cap : Nat) : Int) ≤ 9223372036854775807 := by omega
  have HA := Lib.hid hA
  have HX := Lib.hid hX
  have hm12 : (marksI 12).length = 12 := marksI_len 12
  have HM := Lib.hid hm12
  clear hA hX hm12
  go_enter Try.func50, Try.ntmps50
  refine wp_seq_k fun K0 hK => ?_
  have HK0 := Lib.hid hK
  clear hK
  go_wp2_with fail
  refine HK0.out _ _ ?_
  clear HK0 K0
  refine wp_seq_k fun K0 hK => ?_
  have HK0 := Lib.hid hK
  clear hK
  go_wp2_with fail
  refine HK0.out _ _ ?_
  clear HK0 K0
  refine wp_seq_k fun K0 hK => ?_
  have HK0 := Lib.hid hK
  clear hK
  go_wp2_with fail
  refine HK0.out _ _ ?_
  clear HK0 K0
  refine wp_seq_k fun K0 hK => ?_
  have HK0 := Lib.hid hK
  clear hK
  go_wp2_with fail
  go_loopw [6] (fun i wr => ∃ k : Nat, k ≤ l.length + 12 ∧ i = .int .i64 k ∧ Below w.heap.size w wr) (fun i _ => l.length + 12 - (intOf i).toNat)
  case atStart => exact ⟨0, by omega, rfl, Below.refl _ _⟩
  case round =>
    obtain ⟨k, hk, rfl, hbel⟩ := hrel
    by_cases hlt : k < l.length + 12
    · obtain ⟨gd, hgd, -, hx0⟩ := row_cells irow_len HX.out (by rw [List.length_append, HM.out]) (show k < (l ++ marksI 12).length by rw [List.length_append, HM.out]; exact hlt)
      obtain rfl : gd = ⟨g, 0, none⟩ := by injection hgd with h; exact h.symm
      have hx1 : ∀ j u, (irow ((l ++ marksI 12)[k]'(by rw [List.length_append, HM.out]; exact hlt)))[j]? = some u → w.cell? ⟨g, k + j, none⟩ = some u := by
        intro j u hu
        have := hx0 j u hu
        rw [add_of_add] at this
        have e : Addr.add ⟨g, 0, none⟩ (k * 1 + j) = ⟨g, k + j, none⟩ := by unfold Addr.add; split <;> simp_all
        rw [e] at this
        exact this
      clear hx0 hgd
      have i1 : (0 : Int) ≤ (k : Int) := by omega
      have i2 : (k : Int) < (l.length : Int) + 12 := by omega
      by_cases hkl : k < l.length
      · have hget : (l ++ marksI 12)[k]'(by rw [List.length_append, HM.out]; exact hlt) = l[k] := List.getElem_append_left hkl
        rw [hget] at hx1
        have hxx : ∀ j u, (irow l[k])[j]? = some u → wr.cell? ⟨g, k + j, none⟩ = some u := fun j u hu => (hbel.cell (p := ⟨g, k + j, none⟩) hgw).trans (hx1 j u hu)
        obtain ⟨ad, rfl, hab, hc⟩ := row_cells irow_len HA.out rfl hkl
        have hcc : ∀ j u, (irow l[k])[j]? = some u → wr.cell? ((ad.add (k)).add j) = some u := by
          intro j u hu
          have h := hc j u hu
          try simp only [Nat.mul_one] at h
          exact (hbel.cell (by rw [block_of_add, block_of_add]; exact hab)).trans h
        clear hc hget hx1
        generalize l[k] = x at hxx hcc
        have i3 : (k : Int) < (l.length : Int) := by omega
        have d2 : decide (l.length ≤ k) = false := by simp; omega
        have p0 : wr.cell? ⟨g, k, none⟩ = _ := hxx 0 _ rfl
        have q0 : wr.cell? (ad.add k) = _ := hcc 0 _ rfl
        clear hxx hcc
        go_wp2_with fail
        go_quiet (fail)
        go_wp2
        go_roundw
        case rel => exact ⟨k + 1, by omega, by go_num, below_drewN hbel _⟩
        case measure => simp [intOf]; omega
      · obtain ⟨j, hj⟩ : ∃ j, k = l.length + j := ⟨k - l.length, by omega⟩
        have hget : (l ++ marksI 12)[k]'(by rw [List.length_append, HM.out]; exact hlt) = (markN 1 j) := by
          subst hj
          rw [List.getElem_append_right (by omega)]
          simp [marksI]
        rw [hget] at hx1
        have i3 : (l.length : Int) ≤ (k : Int) := by omega
        have i4 : j ≤ 12 := by omega
        have d1 : decide (k < l.length) = false := by simp; omega
        have s1 : IntKind.i64.wrap ((k : Int) - (l.length : Int)) = (j : Int) := by rw [IntWalk.i64_in _ (by omega)]; omega
        clear hj hget
        obtain ⟨x, hx⟩ : ∃ x, (markN 1 j) = x := ⟨_, rfl⟩
        rw [hx] at hx1
        have HX2 := Lib.hid hx
        have hxx : ∀ j u, (irow x)[j]? = some u → wr.cell? ⟨g, k + j, none⟩ = some u := fun j u hu => (hbel.cell (p := ⟨g, k + j, none⟩) hgw).trans (hx1 j u hu)
        have HC0 := Lib.hid hx1
        clear hx hx1
        have p0 : wr.cell? ⟨g, k, none⟩ = _ := hxx 0 _ rfl
        clear hxx
        go_wp2_with fail
        go_quiet ((go_at_call 55; exact (mark_1 j _ (by omega)).mono (fun _ _ h => ⟨h.1.trans (by rw [HX2.out]), _, h.2.symm⟩)))
        go_wp2
        go_roundw
        case rel => exact ⟨k + 1, by omega, by go_num, below_drewN hbel _⟩
        case measure => simp [intOf]; omega
    · obtain rfl : k = l.length + 12 := by omega
      go_wp2_with fail
      refine HK0.out _ _ ?_
      go_wp2_with fail
      go_ret
      exact ⟨rfl, hbel⟩

set_option maxHeartbeats 3200000 in
set_option maxRecDepth 100000 in
theorem same_ints (A B : Option Addr) (ca cb : Nat) (ss ts : List Int) (W1 W2 : Nat) (w : World) (hs : ss.length ≤ 65536) (ht : ts.length ≤ 65536) (hA : Reads w W1 1 A ss.length (ss.flatMap irow)) (hB : Reads w W2 1 B ts.length (ts.flatMap irow)) :
    Calls Try.prog 43 #[.slice A ss.length ca, .slice B ts.length cb] w (SameEnd (decide (ss = ts)) w) := by
  have HA := Lib.hid hA
  have HB := Lib.hid hB
  clear hA hB
  by_cases hl : ss.length = ts.length
  · have hlb : ((ss.length : Int) != (ts.length : Int)) = false := by simp [hl]
    have HL := Lib.hid hl
    have hle : ss.length ≤ ts.length := by omega
    clear hl
    go_enter Try.func43, Try.ntmps43
    go_wp2_with fail
    clear hlb
    go_loopw [5] (fun i wr => ∃ (k : Nat) (n : Nat), k ≤ ss.length ∧ i = .int .i64 k ∧ Hid (wr = w.drewN n) ∧ Hid (ss.take k = ts.take k)) (fun i _ => ss.length - (intOf i).toNat)
    case atStart => exact ⟨0, 0, by omega, rfl, Lib.hid rfl, Lib.hid rfl⟩
    case round =>
      obtain ⟨k, n, hk, rfl, hw, he⟩ := hrel
      by_cases hlt : k < ss.length
      · obtain ⟨ad, rfl, hab, hc⟩ := row_cells irow_len HA.out rfl hlt
        obtain ⟨bd, rfl, hbb, hd⟩ := row_cells irow_len HB.out rfl (show k < ts.length by omega)
        have hsplit := list_split HL.out hlt he.out
        have hcc : ∀ j u, (irow ss[k])[j]? = some u → wr.cell? ((ad.add (k)).add j) = some u := by
          intro j u hu
          have h := hc j u hu
          rw [hw.out, World.cell?_drewN]
          simpa only [Nat.mul_one] using h
        have hdd : ∀ j u, (irow (ts[k]'(by omega)))[j]? = some u → wr.cell? ((bd.add (k)).add j) = some u := by
          intro j u hu
          have h := hd j u hu
          rw [hw.out, World.cell?_drewN]
          simpa only [Nat.mul_one] using h
        clear hc hd
        generalize ss[k] = x at hcc hsplit
        generalize ts[k]'(by omega) = y at hdd hsplit
        have q0 : wr.cell? (ad.add k) = _ := hcc 0 _ rfl
        have p0 : wr.cell? (bd.add k) = _ := hdd 0 _ rfl
        have i1 : (0 : Int) ≤ (k : Int) := by omega
        have i2 : (k : Int) < (ss.length : Int) := by omega
        have i3 : (k : Int) < (ts.length : Int) := by omega
        have HSp := Lib.hid hsplit
        clear hsplit hcc hdd
        by_cases hxy : x = y
        · have hT := HSp.out.1 hxy
          have HT := Lib.hid hT
          have hqe : (x != y) = false := by simp [hxy]
          clear hT hxy HSp
          go_wp2_with fail
          go_quiet (fail)
          go_wp2
          go_roundw
          case rel => exact ⟨k + 1, _, by omega, by go_num, Lib.hid (by rw [hw.out, World.drewN_drewN]), Lib.hid HT.out⟩
          case measure => simp [intOf]; omega
        · have hT := HSp.out.2 hxy
          have HT := Lib.hid hT
          have hqe : (x != y) = true := by simp [hxy]
          clear hT hxy HSp
          go_wp2_with fail
          go_quiet (fail)
          go_wp2
          go_ret
          exact ⟨ret_bool (by rw [decide_eq_false HT.out]), _, by rw [hw.out, World.drewN_drewN]⟩
      · obtain rfl : k = ss.length := by omega
        have hT : ss = ts := by
          have h1 := he.out
          rw [List.take_length, HL.out, List.take_length] at h1
          exact h1
        have HT := Lib.hid hT
        clear hT
        go_wp2
        go_ret
        exact ⟨ret_bool (by rw [decide_eq_true HT.out]), n, hw.out⟩
  · have hlb : ((ss.length : Int) != (ts.length : Int)) = true := by simp; omega
    have hT : ss ≠ ts := fun e => hl (by rw [e])
    have HT := Lib.hid hT
    clear hl hT
    go_enter Try.func43, Try.ntmps43
    go_wp2
    go_ret
    exact ⟨ret_bool (by rw [decide_eq_false HT.out]), 0, rfl⟩

/-- What a copy of a list comes to. -/
def CopyIntsEnd (l : List Int) (w : World) (e : Ending) (w' : World) : Prop := ∃ v, e = .returned v ∧ w'.ownsRow w.heap.size 3 1 v l.length (l.flatMap irow) ∧ Below w.heap.size w w'
set_option maxHeartbeats 800000 in
theorem copy_ints (l : List Int) (A : Option Addr) (c : Nat) (w : World) (hl : l.length ≤ 65536) (hA : Reads w w.heap.size 1 A l.length (l.flatMap irow)) :
    Calls Try.prog 30 #[.slice A l.length c] w (CopyIntsEnd l w) := by
  obtain ⟨i0, hi0, iz0, iz1, iz2⟩ := info_parts infoInts
  have HA := Lib.hid hA
  clear hA
  go_enter Try.func30, Try.ntmps30
  go_wp2_with (first
    | (at_builtin
       refine wpList_append_any _ rfl (.tmp 4) (.tmp 5) _ rfl w.heap.size 3 i0 _ 1 8 Try.underlying39 hi0 iz0 iz1 iz2 rfl (by omega) (.slice none 0 0) 0 [] rfl
         ⟨rfl, Or.inl ⟨rfl, rfl⟩⟩ w.heap.size A l.length c _ rfl HA.out (flat_one irow_one l) (by unfold maxLen; omega) (by omega) (Nat.le_refl _) ?_
       intro v1 w1 hown1 hg1 hat1
       have hbel1 : Below w.heap.size w w1 := (Below.refl _ _).grown hg1 (Nat.le_refl _) (by simp [Value.ownBlock])))
  simp only [List.nil_append, Nat.zero_add] at hown1
  clear hg1 hat1
  go_ret
  exact ⟨_, rfl, hown1, hbel1⟩

def OverEnd (b : Option Nat) (w : World) (e : Ending) (w' : World) : Prop := (∃ v, e = .returned v) ∧ w.grownBy w' b

set_option maxHeartbeats 6400000 in
set_option maxRecDepth 100000 in
theorem over1_ints (g q cap : Nat) {u0 u1 u3 u4 u5 u6 u7 u8 u9 u10 u11 u12 u13 u14 u15 u16 u17 u18 u19 u20 u21 u22 : Value} (w wx : World) (hq1 : q ≤ cap) (hq2 : q ≤ 65548) (cs : Array Value) (h : Blk wx g 3 cs) (hs : cs.size = cap * 1) (hg : w.grownBy wx (some g)) :
    Code.wp Try.prog (bodyTail Try.f48 1) (bodyPost Try.prog Try.f48 (OverEnd (some g) w)) ⟨#[u0, u1, .slice (some ⟨g, 0, none⟩) q cap, u3, u4, u5, u6, u7, u8, u9, u10, u11, u12, u13, u14, u15, u16, u17, u18, u19, u20, u21, u22], []⟩ wx := by
  conv => arg 2; whnf
  go_wp2_with fail
  have HH := Lib.hid (And.intro h (And.intro hs hg))
  clear h hs hg
  go_loopw [3] (fun i wr => ∃ (k : Nat) (cs : Array Value), k ≤ q ∧ i = .int .i64 k ∧ Blk wr g 3 cs ∧ Hid (cs.size = cap * 1 ∧ w.grownBy wr (some g))) (fun i _ => q - (intOf i).toNat)
  case atStart => exact ⟨0, cs, by omega, rfl, HH.out.1, Lib.hid HH.out.2⟩
  case round =>
    clear HH
    obtain ⟨k, cs, hk, rfl, hblk, hid⟩ := hrel
    by_cases hlt : k < q
    · have hsz := hid.out.1
      have i1 : (0 : Int) ≤ (k : Int) := by omega
      have i2 : (k : Int) < (q : Int) := by omega
      obtain ⟨o0, ho0⟩ : ∃ u, wr.cell? ⟨g, k, none⟩ = some u := by
        refine ⟨cs[k]'(by omega), ?_⟩
        rw [hblk.cell]; exact Array.getElem?_eq_getElem (by omega)
      have hz0 := hblk.frozen (k)
      have HS := Lib.hid hsz
      have HB := Lib.hid hblk
      clear hsz hblk
      go_wp2_with (go_at_call 55; refine (mark_2 k _ (by omega)).mono ?_; rintro e w' ⟨rfl, rfl⟩)
      have hb2 := (HB.out).set_ (k) (.int .i64 (markN 2 k))
      have hg2 := only_setCell (hid.out.2) (p := ⟨g, k, none⟩) (.inl rfl) (.int .i64 (markN 2 k))
      go_roundw
      case rel => exact ⟨k + 1, _, by omega, by go_num, hb2, Lib.hid ⟨by simpa using HS.out, hg2⟩⟩
      case measure => simp [intOf]; omega
    · obtain rfl : k = q := by omega
      go_wp2
      go_end0
      exact ⟨⟨_, rfl⟩, hid.out.2⟩

set_option maxHeartbeats 1600000 in
set_option maxRecDepth 100000 in
theorem over_ints (g n cap : Nat) (cs : Array Value) (w : World) (hn : n ≤ 65536) (h : Blk w g 3 cs) (hs : cs.size = cap * 1) (hc1 : n ≤ cap) (hc2 : cap ≤ maxLen) :
    Calls Try.prog 48 #[.slice (some ⟨g, 0, none⟩) n cap] w (OverEnd (some g) w) := by
  unfold maxLen at hc2
  have hcm2 : ((cap : Nat) : Int) ≤ 9223372036854775807 := by omega
  have HB := Lib.hid h
  have HS := Lib.hid hs
  clear h hs
  have hn2 : (n : Int) ≤ 65536 := by omega
  by_cases hle : (cap : Int) ≤ (n : Int) + 12
  · go_enter Try.func48, Try.ntmps48
    refine wp_seq_k fun K0 hK => ?_
    have HK0 := Lib.hid hK
    clear hK
    go_wp2_with fail
    exact HK0.out _ _ (over1_ints g cap cap w w (Nat.le_refl _) (by omega) cs HB.out HS.out (World.grownBy.refl w _))
  · have hle2 : (n : Int) + 12 ≤ (cap : Int) := by omega
    go_enter Try.func48, Try.ntmps48
    refine wp_seq_k fun K0 hK => ?_
    have HK0 := Lib.hid hK
    clear hK
    go_wp2_with fail
    exact HK0.out _ _ (over1_ints g (n + 12) cap w w (by omega) (by omega) cs HB.out HS.out (World.grownBy.refl w _))
/-- The empty list: nothing. -/
theorem over_ints_nil (w : World) : Calls Try.prog 48 #[.slice none 0 0] w (OverEnd none w) := by
  go_enter Try.func48, Try.ntmps48
  go_wp2_with fail
  go_loop [3] (fun i => i = .int .i64 0) (fun _ => 0)
  case atStart => rfl
  case round =>
    subst hrel
    go_wp2
    go_end0
    exact ⟨⟨_, rfl⟩, World.grownBy.refl w _⟩

set_option maxHeartbeats 3200000 in
set_option maxRecDepth 100000 in
theorem equal_ints (A B : Option Addr) (ca cb : Nat) (ss ts : List Int) (W1 W2 : Nat) (w : World) (hs : ss.length ≤ 65536) (ht : ts.length ≤ 65536) (hA : Reads w W1 1 A ss.length (ss.flatMap irow)) (hB : Reads w W2 1 B ts.length (ts.flatMap irow)) :
    Calls Try.prog 42 #[.slice A ss.length ca, .slice B ts.length cb] w (SameEnd (decide (ss = ts)) w) := by
  have HA := Lib.hid hA
  have HB := Lib.hid hB
  clear hA hB
  by_cases hl : ss.length = ts.length
  · have hlb : ((ss.length : Int) != (ts.length : Int)) = false := by simp [hl]
    have HL := Lib.hid hl
    have hle : ss.length ≤ ts.length := by omega
    clear hl
    go_enter Try.func42, Try.ntmps42
    go_wp2_with fail
    clear hlb
    go_loopw [13] (fun i wr => ∃ (k : Nat) (n : Nat), k ≤ ss.length ∧ i = .int .i64 k ∧ Hid (wr = w.drewN n) ∧ Hid (ss.take k = ts.take k)) (fun i _ => ss.length - (intOf i).toNat)
    case atStart => exact ⟨0, 0, by omega, rfl, Lib.hid rfl, Lib.hid rfl⟩
    case round =>
      obtain ⟨k, n, hk, rfl, hw, he⟩ := hrel
      by_cases hlt : k < ss.length
      · obtain ⟨ad, rfl, hab, hc⟩ := row_cells irow_len HA.out rfl hlt
        obtain ⟨bd, rfl, hbb, hd⟩ := row_cells irow_len HB.out rfl (show k < ts.length by omega)
        have hsplit := list_split HL.out hlt he.out
        have hcc : ∀ j u, (irow ss[k])[j]? = some u → wr.cell? ((ad.add (k)).add j) = some u := by
          intro j u hu
          have h := hc j u hu
          rw [hw.out, World.cell?_drewN]
          simpa only [Nat.mul_one] using h
        have hdd : ∀ j u, (irow (ts[k]'(by omega)))[j]? = some u → wr.cell? ((bd.add (k)).add j) = some u := by
          intro j u hu
          have h := hd j u hu
          rw [hw.out, World.cell?_drewN]
          simpa only [Nat.mul_one] using h
        clear hc hd
        generalize ss[k] = x at hcc hsplit
        generalize ts[k]'(by omega) = y at hdd hsplit
        have q0 : wr.cell? (ad.add k) = _ := hcc 0 _ rfl
        have p0 : wr.cell? (bd.add k) = _ := hdd 0 _ rfl
        have i1 : (0 : Int) ≤ (k : Int) := by omega
        have i2 : (k : Int) < (ss.length : Int) := by omega
        have i3 : (k : Int) < (ts.length : Int) := by omega
        have HSp := Lib.hid hsplit
        clear hsplit hcc hdd
        by_cases hxy : x = y
        · have hT := HSp.out.1 hxy
          have HT := Lib.hid hT
          have hqe : (x != y) = false := by simp [hxy]
          clear hT hxy HSp
          go_wp2_with fail
          go_quiet (fail)
          go_wp2
          go_roundw
          case rel => exact ⟨k + 1, _, by omega, by go_num, Lib.hid (by rw [hw.out, World.drewN_drewN]), Lib.hid HT.out⟩
          case measure => simp [intOf]; omega
        · have hT := HSp.out.2 hxy
          have HT := Lib.hid hT
          have hqe : (x != y) = true := by simp [hxy]
          clear hT hxy HSp
          go_wp2_with fail
          go_quiet (fail)
          go_wp2
          go_ret
          exact ⟨ret_bool (by rw [decide_eq_false HT.out]), _, by rw [hw.out, World.drewN_drewN]⟩
      · obtain rfl : k = ss.length := by omega
        have hT : ss = ts := by
          have h1 := he.out
          rw [List.take_length, HL.out, List.take_length] at h1
          exact h1
        have HT := Lib.hid hT
        clear hT
        go_wp2
        go_ret
        exact ⟨ret_bool (by rw [decide_eq_true HT.out]), n, hw.out⟩
  · have hlb : ((ss.length : Int) != (ts.length : Int)) = true := by simp; omega
    have hT : ss ≠ ts := fun e => hl (by rw [e])
    have HT := Lib.hid hT
    clear hl hT
    go_enter Try.func42, Try.ntmps42
    go_wp2
    go_ret
    exact ⟨ret_bool (by rw [decide_eq_false HT.out]), 0, rfl⟩
end Go.Proofs.Ytlmehmmdbdembaa
