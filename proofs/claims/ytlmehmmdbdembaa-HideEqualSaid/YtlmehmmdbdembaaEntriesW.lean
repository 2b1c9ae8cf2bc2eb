/-
  Walks: burgagekit's functions on lists: Entries.
-/
import Derived.Test.YtlmehmmdbdembaaEqW
import Derived.Test.YtlmehmmdbdembaaIntsW
namespace Go.Proofs.Ytlmehmmdbdembaa
open Go.RowKit
set_option linter.unusedVariables false

theorem infoEntries : (Try.prog.info? 46).map (fun i => (i.zero, i.size, i.bytes)) = some (some (.agg #[.int .i64 0, .int .i64 0, .int .i64 0, .int .u32 0, .int .u8 0, .string ⟨#[]⟩, .string ⟨#[]⟩, .string ⟨#[]⟩, .int .i64 0, .int .i64 0, .int .u64 0, .int .u64 0, .int .u8 0]), 13, 120) := by kernel_rfl

theorem markEntry_any (k i : Int) (w : World) (hk : 0 ≤ k ∧ k ≤ 1000) (hi : 0 ≤ i ∧ i ≤ 1000000) : Calls Try.prog 54 #[.int .i64 k, .int .i64 i] w fun e w' => e = .returned (.agg #[.int .i64 (markN k i), .int .i64 0, .int .i64 0, .int .u32 0, .int .u8 0, .string ⟨#[]⟩, .string ⟨#[]⟩, .string ⟨#[]⟩, .int .i64 0, .int .i64 0, .int .u64 0, .int .u64 0, .int .u8 0]) ∧ w' = w.alloc (.cells #[.int .i64 (markN k i), .int .i64 0, .int .i64 0, .int .u32 0, .int .u8 0, .string ⟨#[]⟩, .string ⟨#[]⟩, .string ⟨#[]⟩, .int .i64 0, .int .i64 0, .int .u64 0, .int .u64 0, .int .u8 0] 46) := by
  go_enter Try.func54, Try.ntmps54
  go_wp2_with (go_at_call 55; refine (mark_any k i _ hk hi).mono ?_; rintro e w' ⟨rfl, rfl⟩)
  refine bodyPost_ret (v := .agg #[.int .i64 (markN k i), .int .i64 0, .int .i64 0, .int .u32 0, .int .u8 0, .string ⟨#[]⟩, .string ⟨#[]⟩, .string ⟨#[]⟩, .int .i64 0, .int .i64 0, .int .u64 0, .int .u64 0, .int .u8 0]) (by simp [results, Try.results54, go_sem]) rfl ⟨rfl, ?_⟩
  rfl
theorem markEntry_1 (k : Nat) (w : World) (h : k ≤ 1000000) : Calls Try.prog 54 #[.int .i64 1, .int .i64 k] w fun e w' => e = .returned (.agg #[.int .i64 (markE 1 k).ses, .int .i64 (markE 1 k).r.deed, .int .i64 (markE 1 k).r.ten, .int .u32 (markE 1 k).r.gen, .int .u8 (markE 1 k).r.rig, .string (markE 1 k).r.key, .string (markE 1 k).r.val, .string (markE 1 k).r.old, .int .i64 (markE 1 k).r.lim, .int .i64 (markE 1 k).r.tenant, .int .u64 (markE 1 k).r.qk, .int .u64 (markE 1 k).r.qb, .int .u8 (markE 1 k).r.rights]) ∧ Below w.heap.size w w' := (markEntry_any 1 k w (by omega) (by omega)).mono fun _ _ h => ⟨h.1, by rw [h.2]; exact below_box w _⟩
theorem markEntry_2 (k : Nat) (w : World) (h : k ≤ 1000000) : Calls Try.prog 54 #[.int .i64 2, .int .i64 k] w fun e w' => e = .returned (.agg #[.int .i64 (markE 2 k).ses, .int .i64 (markE 2 k).r.deed, .int .i64 (markE 2 k).r.ten, .int .u32 (markE 2 k).r.gen, .int .u8 (markE 2 k).r.rig, .string (markE 2 k).r.key, .string (markE 2 k).r.val, .string (markE 2 k).r.old, .int .i64 (markE 2 k).r.lim, .int .i64 (markE 2 k).r.tenant, .int .u64 (markE 2 k).r.qk, .int .u64 (markE 2 k).r.qb, .int .u8 (markE 2 k).r.rights]) ∧ Below w.heap.size w w' := (markEntry_any 2 k w (by omega) (by omega)).mono fun _ _ h => ⟨h.1, by rw [h.2]; exact below_box w _⟩

/-- What LentEntries comes to. -/
def LentEntriesEnd (l : List Ent) (w : World) (e : Ending) (w' : World) : Prop :=
  ∃ g cap, e = .returned (.slice (some ⟨g, 0, none⟩) l.length cap) ∧ l.length + 12 ≤ cap ∧ cap ≤ maxLen ∧ w'.ownsRow w.heap.size 46 13 (.slice (some ⟨g, 0, none⟩) (l.length + 12) cap) (l.length + 12) ((l ++ marksE 12).flatMap Ent.row) ∧ Below w.heap.size w w'

set_option maxHeartbeats 1600000 in
set_option maxRecDepth 100000 in
theorem lent_entries (l : List Ent) (A : Option Addr) (c : Nat) (w : World) (hl : l.length ≤ 65536) (hA : Reads w w.heap.size 13 A l.length (l.flatMap Ent.row)) :
    Calls Try.prog 36 #[.slice A l.length c] w (LentEntriesEnd l w) := by
  obtain ⟨i0, hi0, iz0, iz1, iz2⟩ := info_parts infoEntries
  have hmk : ∀ W, (Instr.makeSlice 38 (.int .i64 0) (.int .i64 ((l.length : Int) + 12))).run Try.prog W = .ok (.slice (some ⟨W.heap.size, 0, none⟩) 0 (l.length + 12)) (W.alloc (.cells (madeCells #[.int .i64 0, .int .i64 0, .int .i64 0, .int .u32 0, .int .u8 0, .string ⟨#[]⟩, .string ⟨#[]⟩, .string ⟨#[]⟩, .int .i64 0, .int .i64 0, .int .u64 0, .int .u64 0, .int .u8 0] ((l.length + 12) * 13)) 46)) := fun W => by
    have h := run_make_rowN (P := Try.prog) 38 46 i0 _ Try.underlying38 hi0 iz0 .i64 .i64 0 (l.length + 12) (by omega) (by rw [iz2]; omega) (by omega) W
    rw [iz1] at h
    exact h
  have hmk0 : Blk (w.alloc (.cells (madeCells #[.int .i64 0, .int .i64 0, .int .i64 0, .int .u32 0, .int .u8 0, .string ⟨#[]⟩, .string ⟨#[]⟩, .string ⟨#[]⟩, .int .i64 0, .int .i64 0, .int .u64 0, .int .u64 0, .int .u8 0] ((l.length + 12) * 13)) 46)) w.heap.size 46 (madeCells #[.int .i64 0, .int .i64 0, .int .i64 0, .int .u32 0, .int .u8 0, .string ⟨#[]⟩, .string ⟨#[]⟩, .string ⟨#[]⟩, .int .i64 0, .int .i64 0, .int .u64 0, .int .u64 0, .int .u8 0] ((l.length + 12) * 13)) := Blk.new _ _ _
  have hown0 := Blk.own (base := w.heap.size) (size := 13) (n := 0) (c := l.length + 12) (xs := []) hmk0 (Nat.le_refl _) (by omega) (by unfold maxLen; omega) (by rw [size_madeCells]) (by simp)
  have hbel0 := below_box w (.cells (madeCells #[.int .i64 0, .int .i64 0, .int .i64 0, .int .u32 0, .int .u8 0, .string ⟨#[]⟩, .string ⟨#[]⟩, .string ⟨#[]⟩, .int .i64 0, .int .i64 0, .int .u64 0, .int .u64 0, .int .u8 0] ((l.length + 12) * 13)) 46)
  have hsz0 : (w.alloc (.cells (madeCells #[.int .i64 0, .int .i64 0, .int .i64 0, .int .u32 0, .int .u8 0, .string ⟨#[]⟩, .string ⟨#[]⟩, .string ⟨#[]⟩, .int .i64 0, .int .i64 0, .int .u64 0, .int .u64 0, .int .u8 0] ((l.length + 12) * 13)) 46)).heap.size = w.heap.size + 1 := by simp
  have HW0 := Lib.hid (And.intro hown0 (And.intro hbel0 hsz0))
  clear hmk0 hown0 hbel0 hsz0
  have hlc : (l.length : Int) ≤ 65536 := by omega
  have HA := Lib.hid hA
  clear hA
  go_enter Try.func36, Try.ntmps36
  refine wp_seq_k fun K0 hK => ?_
  have HK0 := Lib.hid hK
  clear hK
  go_wp2_with fail
  refine HK0.out _ _ ?_
  clear HK0 K0
  refine wp_seq_k fun K0 hK => ?_
  have HK0 := Lib.hid hK
  clear hK
  go_wp2_with fail
  refine HK0.out _ _ ?_
  clear HK0 K0 hmk
  generalize w.alloc (.cells (madeCells #[.int .i64 0, .int .i64 0, .int .i64 0, .int .u32 0, .int .u8 0, .string ⟨#[]⟩, .string ⟨#[]⟩, .string ⟨#[]⟩, .int .i64 0, .int .i64 0, .int .u64 0, .int .u64 0, .int .u8 0] ((l.length + 12) * 13)) 46) = W0 at HW0 ⊢
  obtain ⟨hown0, hbel0, hsz0⟩ := HW0.out
  clear HW0
  have hsz1 : w.heap.size ≤ W0.heap.size := by omega
  clear hsz0
  refine wp_seq_k fun K0 hK => ?_
  have HK0 := Lib.hid hK
  clear hK
  go_wp2_with (first
    | (at_builtin
       refine wpList_append_any _ rfl (.tmp 9) (.tmp 10) _ rfl w.heap.size 46 i0 _ 13 120 Try.underlying38 hi0 iz0 iz1 iz2 rfl (by omega) (.slice (some ⟨w.heap.size, 0, none⟩) 0 (l.length + 12)) 0 [] rfl
         hown0 w.heap.size A l.length c _ rfl (HA.out.below hbel0) (flat_one ent_one l) (by unfold maxLen; omega) (by omega) hsz1 ?_
       intro v1 w1 hown1 hg1 hat1
       have hbel1 : Below w.heap.size w w1 := below_app hbel0 hown0 hg1 (Nat.le_refl _) hsz1))
  refine HK0.out _ _ ?_
  clear HK0 K0 hown0 hbel0 hg1 hat1
  simp only [List.nil_append, Nat.zero_add] at hown1
  refine wp_seq_k fun K0 hK => ?_
  have HK0 := Lib.hid hK
  clear hK
  go_wp2_with fail
  go_loopw [3, 4] (fun v i wr => ∃ k : Nat, k ≤ 12 ∧ i = .int .i64 k ∧ wr.ownsRow w.heap.size 46 13 v (l.length + k) ((l ++ marksE k).flatMap Ent.row) ∧ Below w.heap.size w wr) (fun _ i _ => 12 - (intOf i).toNat)
  case atStart => exact ⟨0, by omega, rfl, by simpa [marksE] using hown1, hbel1⟩
  case round =>
    clear hown1 hbel1
    obtain ⟨k, hk, rfl, hown, hbel⟩ := hrel
    have hsz := hbel.size
    by_cases hlt : k < 12
    · go_wp2_with (first
        | (go_at_call 54; refine (markEntry_1 k _ (by omega)).mono ?_; rintro e w' ⟨rfl, hbm⟩; have hown := ownsRow_below hown hbm (Nat.le_refl _); have hbel := below_trans hbel hbm; have hsz := hbel.size)
        | (at_builtin
           refine wpList_append_any _ rfl (.tmp 16) (.tmp 19) _ rfl w.heap.size 46 i0 _ 13 120 Try.underlying38 hi0 iz0 iz1 iz2 rfl (by omega) u3 (l.length + k) ((l ++ marksE k).flatMap Ent.row) rfl
             (hown.alloc _) _ (some ⟨w'.heap.size, 0, none⟩) 1 1 (Ent.row (markE 1 k)) rfl (reads_of_blk (blk_newAt rfl) rfl rfl) (ent_one _) (by unfold maxLen; omega) (by omega) (by simp; omega) ?_
           intro v2 w2 hown2 hg2 hat2
           have hbel2 : Below w.heap.size w w2 := below_app (hbel.alloc hsz _) (hown.alloc _) hg2 (Nat.le_refl _) (by simp; omega)))
      clear hg2 hat2
      go_roundw
      case rel => exact ⟨k + 1, by omega, by go_num, by
        rw [marksE_succ, ← List.append_assoc, List.flatMap_append, List.flatMap_singleton]
        exact hown2, hbel2⟩
      case measure => simp [intOf]; omega
    · obtain rfl : k = 12 := by omega
      obtain ⟨g, cap, hv, hgb, hgl⟩ := hown.form (by omega)
      obtain ⟨A1, c1, hv1, -, hc1, hc2⟩ := own_form hown
      rw [hv] at hv1
      injection hv1 with e1 e2 e3
      subst e3
      clear e1 e2
      have hcl : ((l.length : Int)) ≤ ((cap : Nat) : Int) := by omega
      have hcm := hc2
      unfold maxLen at hcm
      have hcm2 : ((cap : Nat) : Int) ≤ 9223372036854775807 := by omega
      rw [hv] at hown ⊢
      clear hv
      go_wp2_with fail
      refine HK0.out _ _ ?_
      go_wp2_with fail
      go_ret
      exact ⟨g, cap, rfl, hc1, hc2, hown, hbel⟩

theorem markEntry_x (j : Nat) (x : Ent) (w : World) (hx : markE 1 j = x) (h : j ≤ 1000000) : Calls Try.prog 54 #[.int .i64 1, .int .i64 j] w fun e w' => e = .returned (.agg #[.int .i64 x.ses, .int .i64 x.r.deed, .int .i64 x.r.ten, .int .u32 x.r.gen, .int .u8 x.r.rig, .string x.r.key, .string x.r.val, .string x.r.old, .int .i64 x.r.lim, .int .i64 x.r.tenant, .int .u64 x.r.qk, .int .u64 x.r.qb, .int .u8 x.r.rights]) ∧ Below w.heap.size w w' := by
  subst hx
  exact markEntry_1 j w h

set_option maxHeartbeats 3200000 in
set_option maxRecDepth 100000 in
theorem kept_entries (l : List Ent) (A : Option Addr) (c g cap : Nat) (w : World) (hl : l.length ≤ 65536) (hA : Reads w w.heap.size 13 A l.length (l.flatMap Ent.row)) (hX : Reads w w.heap.size 13 (some ⟨g, 0, none⟩) (l.length + 12) ((l ++ marksE 12).flatMap Ent.row))
    (hgw : g < w.heap.size) (hc1 : l.length + 12 ≤ cap) (hc2 : cap ≤ maxLen) : Calls Try.prog 49 #[.slice (some ⟨g, 0, none⟩) l.length cap, .slice A l.length c] w (KeptEnd w) := by
  have hlc : (l.length : Int) ≤ 65536 := by omega
  have hcl : (l.length : Int) + 12 ≤ ((cap : Nat) : Int) := by omega
  unfold maxLen at hc2
  have hcm2 : ((cap : Nat) : Int) ≤ 9223372036854775807 := by omega
  have HA := Lib.hid hA
  have HX := Lib.hid hX
  have hm12 : (marksE 12).length = 12 := marksE_len 12
  have HM := Lib.hid hm12
  clear hA hX hm12
  go_enter Try.func49, Try.ntmps49
  refine wp_seq_k fun K0 hK => ?_
  have HK0 := Lib.hid hK
  clear hK
  go_wp2_with fail
  refine HK0.out _ _ ?_
  clear HK0 K0
  refine wp_seq_k fun K0 hK => ?_
  have HK0 := Lib.hid hK
  clear hK
  go_wp2_with fail
  refine HK0.out _ _ ?_
  clear HK0 K0
  refine wp_seq_k fun K0 hK => ?_
  have HK0 := Lib.hid hK
  clear hK
  go_wp2_with fail
  refine HK0.out _ _ ?_
  clear HK0 K0
  refine wp_seq_k fun K0 hK => ?_
  have HK0 := Lib.hid hK
  clear hK
  go_wp2_with fail
  go_loopw [6] (fun i wr => ∃ k : Nat, k ≤ l.length + 12 ∧ i = .int .i64 k ∧ Below w.heap.size w wr) (fun i _ => l.length + 12 - (intOf i).toNat)
  case atStart => exact ⟨0, by omega, rfl, Below.refl _ _⟩
  case round =>
    obtain ⟨k, hk, rfl, hbel⟩ := hrel
    by_cases hlt : k < l.length + 12
    · obtain ⟨gd, hgd, -, hx0⟩ := row_cells ent_row_len HX.out (by rw [List.length_append, HM.out]) (show k < (l ++ marksE 12).length by rw [List.length_append, HM.out]; exact hlt)
      obtain rfl : gd = ⟨g, 0, none⟩ := by injection hgd with h; exact h.symm
      have hx1 : ∀ j u, (Ent.row ((l ++ marksE 12)[k]'(by rw [List.length_append, HM.out]; exact hlt)))[j]? = some u → w.cell? ⟨g, k * 13 + j, none⟩ = some u := by
        intro j u hu
        have := hx0 j u hu
        rw [add_of_add] at this
        have e : Addr.add ⟨g, 0, none⟩ (k * 13 + j) = ⟨g, k * 13 + j, none⟩ := by unfold Addr.add; split <;> simp_all
        rw [e] at this
        exact this
      clear hx0 hgd
      have i1 : (0 : Int) ≤ (k : Int) := by omega
      have i2 : (k : Int) < (l.length : Int) + 12 := by omega
      by_cases hkl : k < l.length
      · have hget : (l ++ marksE 12)[k]'(by rw [List.length_append, HM.out]; exact hlt) = l[k] := List.getElem_append_left hkl
        rw [hget] at hx1
        have hxx : ∀ j u, (Ent.row l[k])[j]? = some u → wr.cell? ⟨g, k * 13 + j, none⟩ = some u := fun j u hu => (hbel.cell (p := ⟨g, k * 13 + j, none⟩) hgw).trans (hx1 j u hu)
        obtain ⟨ad, rfl, hab, hc⟩ := row_cells ent_row_len HA.out rfl hkl
        have hcc : ∀ j u, (Ent.row l[k])[j]? = some u → wr.cell? ((ad.add (k * 13)).add j) = some u := by
          intro j u hu
          have h := hc j u hu
          try simp only [Nat.mul_one] at h
          exact (hbel.cell (by rw [block_of_add, block_of_add]; exact hab)).trans h
        clear hc hget hx1
        generalize l[k] = x at hxx hcc
        have i3 : (k : Int) < (l.length : Int) := by omega
        have d2 : decide (l.length ≤ k) = false := by simp; omega
        have p0 : wr.cell? ⟨g, k * 13, none⟩ = _ := hxx 0 _ rfl
        have p1 : wr.cell? ⟨g, k * 13 + 1, none⟩ = _ := hxx 1 _ rfl
        have p2 : wr.cell? ⟨g, k * 13 + 2, none⟩ = _ := hxx 2 _ rfl
        have p3 : wr.cell? ⟨g, k * 13 + 3, none⟩ = _ := hxx 3 _ rfl
        have p4 : wr.cell? ⟨g, k * 13 + 4, none⟩ = _ := hxx 4 _ rfl
        have p5 : wr.cell? ⟨g, k * 13 + 5, none⟩ = _ := hxx 5 _ rfl
        have p6 : wr.cell? ⟨g, k * 13 + 6, none⟩ = _ := hxx 6 _ rfl
        have p7 : wr.cell? ⟨g, k * 13 + 7, none⟩ = _ := hxx 7 _ rfl
        have p8 : wr.cell? ⟨g, k * 13 + 8, none⟩ = _ := hxx 8 _ rfl
        have p9 : wr.cell? ⟨g, k * 13 + 9, none⟩ = _ := hxx 9 _ rfl
        have p10 : wr.cell? ⟨g, k * 13 + 10, none⟩ = _ := hxx 10 _ rfl
        have p11 : wr.cell? ⟨g, k * 13 + 11, none⟩ = _ := hxx 11 _ rfl
        have p12 : wr.cell? ⟨g, k * 13 + 12, none⟩ = _ := hxx 12 _ rfl
        have q0 : wr.cell? (ad.add (k * 13)) = _ := hcc 0 _ rfl
        have q1 : wr.cell? ⟨(ad.add (k * 13)).block, (ad.add (k * 13)).off + 1, none⟩ = _ := hcc 1 _ rfl
        have q2 : wr.cell? ⟨(ad.add (k * 13)).block, (ad.add (k * 13)).off + 2, none⟩ = _ := hcc 2 _ rfl
        have q3 : wr.cell? ⟨(ad.add (k * 13)).block, (ad.add (k * 13)).off + 3, none⟩ = _ := hcc 3 _ rfl
        have q4 : wr.cell? ⟨(ad.add (k * 13)).block, (ad.add (k * 13)).off + 4, none⟩ = _ := hcc 4 _ rfl
        have q5 : wr.cell? ⟨(ad.add (k * 13)).block, (ad.add (k * 13)).off + 5, none⟩ = _ := hcc 5 _ rfl
        have q6 : wr.cell? ⟨(ad.add (k * 13)).block, (ad.add (k * 13)).off + 6, none⟩ = _ := hcc 6 _ rfl
        have q7 : wr.cell? ⟨(ad.add (k * 13)).block, (ad.add (k * 13)).off + 7, none⟩ = _ := hcc 7 _ rfl
        have q8 : wr.cell? ⟨(ad.add (k * 13)).block, (ad.add (k * 13)).off + 8, none⟩ = _ := hcc 8 _ rfl
        have q9 : wr.cell? ⟨(ad.add (k * 13)).block, (ad.add (k * 13)).off + 9, none⟩ = _ := hcc 9 _ rfl
        have q10 : wr.cell? ⟨(ad.add (k * 13)).block, (ad.add (k * 13)).off + 10, none⟩ = _ := hcc 10 _ rfl
        have q11 : wr.cell? ⟨(ad.add (k * 13)).block, (ad.add (k * 13)).off + 11, none⟩ = _ := hcc 11 _ rfl
        have q12 : wr.cell? ⟨(ad.add (k * 13)).block, (ad.add (k * 13)).off + 12, none⟩ = _ := hcc 12 _ rfl
        have hqq : ∀ W, (binOp .eql 46 (.agg #[.int .i64 x.ses, .int .i64 x.r.deed, .int .i64 x.r.ten, .int .u32 x.r.gen, .int .u8 x.r.rig, .string x.r.key, .string x.r.val, .string x.r.old, .int .i64 x.r.lim, .int .i64 x.r.tenant, .int .u64 x.r.qk, .int .u64 x.r.qb, .int .u8 x.r.rights]) (.agg #[.int .i64 x.ses, .int .i64 x.r.deed, .int .i64 x.r.ten, .int .u32 x.r.gen, .int .u8 x.r.rig, .string x.r.key, .string x.r.val, .string x.r.old, .int .i64 x.r.lim, .int .i64 x.r.tenant, .int .u64 x.r.qk, .int .u64 x.r.qb, .int .u8 x.r.rights])).run Try.prog W = .ok (.bool true) W := fun W => eqlSelf x W
        have hgd := guardEnt
        clear hxx hcc
        go_wp2_with fail
        go_quiet (fail)
        go_wp2
        go_roundw
        case rel => exact ⟨k + 1, by omega, by go_num, below_drewN hbel _⟩
        case measure => simp [intOf]; omega
      · obtain ⟨j, hj⟩ : ∃ j, k = l.length + j := ⟨k - l.length, by omega⟩
        have hget : (l ++ marksE 12)[k]'(by rw [List.length_append, HM.out]; exact hlt) = (markE 1 j) := by
          subst hj
          rw [List.getElem_append_right (by omega)]
          simp [marksE]
        rw [hget] at hx1
        have i3 : (l.length : Int) ≤ (k : Int) := by omega
        have i4 : j ≤ 12 := by omega
        have d1 : decide (k < l.length) = false := by simp; omega
        have s1 : IntKind.i64.wrap ((k : Int) - (l.length : Int)) = (j : Int) := by rw [IntWalk.i64_in _ (by omega)]; omega
        clear hj hget
        obtain ⟨x, hx⟩ : ∃ x, (markE 1 j) = x := ⟨_, rfl⟩
        rw [hx] at hx1
        have HX2 := Lib.hid hx
        have hxx : ∀ j u, (Ent.row x)[j]? = some u → wr.cell? ⟨g, k * 13 + j, none⟩ = some u := fun j u hu => (hbel.cell (p := ⟨g, k * 13 + j, none⟩) hgw).trans (hx1 j u hu)
        have HC0 := Lib.hid hx1
        clear hx hx1
        have p0 : wr.cell? ⟨g, k * 13, none⟩ = _ := hxx 0 _ rfl
        have p1 : wr.cell? ⟨g, k * 13 + 1, none⟩ = _ := hxx 1 _ rfl
        have p2 : wr.cell? ⟨g, k * 13 + 2, none⟩ = _ := hxx 2 _ rfl
        have p3 : wr.cell? ⟨g, k * 13 + 3, none⟩ = _ := hxx 3 _ rfl
        have p4 : wr.cell? ⟨g, k * 13 + 4, none⟩ = _ := hxx 4 _ rfl
        have p5 : wr.cell? ⟨g, k * 13 + 5, none⟩ = _ := hxx 5 _ rfl
        have p6 : wr.cell? ⟨g, k * 13 + 6, none⟩ = _ := hxx 6 _ rfl
        have p7 : wr.cell? ⟨g, k * 13 + 7, none⟩ = _ := hxx 7 _ rfl
        have p8 : wr.cell? ⟨g, k * 13 + 8, none⟩ = _ := hxx 8 _ rfl
        have p9 : wr.cell? ⟨g, k * 13 + 9, none⟩ = _ := hxx 9 _ rfl
        have p10 : wr.cell? ⟨g, k * 13 + 10, none⟩ = _ := hxx 10 _ rfl
        have p11 : wr.cell? ⟨g, k * 13 + 11, none⟩ = _ := hxx 11 _ rfl
        have p12 : wr.cell? ⟨g, k * 13 + 12, none⟩ = _ := hxx 12 _ rfl
        have hqq : ∀ W, (binOp .eql 46 (.agg #[.int .i64 x.ses, .int .i64 x.r.deed, .int .i64 x.r.ten, .int .u32 x.r.gen, .int .u8 x.r.rig, .string x.r.key, .string x.r.val, .string x.r.old, .int .i64 x.r.lim, .int .i64 x.r.tenant, .int .u64 x.r.qk, .int .u64 x.r.qb, .int .u8 x.r.rights]) (.agg #[.int .i64 x.ses, .int .i64 x.r.deed, .int .i64 x.r.ten, .int .u32 x.r.gen, .int .u8 x.r.rig, .string x.r.key, .string x.r.val, .string x.r.old, .int .i64 x.r.lim, .int .i64 x.r.tenant, .int .u64 x.r.qk, .int .u64 x.r.qb, .int .u8 x.r.rights])).run Try.prog W = .ok (.bool true) W := fun W => eqlSelf x W
        have hgd := guardEnt
        clear hxx
        go_wp2_with fail
        have hXX : ∀ W, Below w.heap.size w W → W.cell? ⟨g, k * 13, none⟩ = some (.int .i64 x.ses) ∧ W.cell? ⟨g, k * 13 + 1, none⟩ = some (.int .i64 x.r.deed) ∧ W.cell? ⟨g, k * 13 + 2, none⟩ = some (.int .i64 x.r.ten) ∧ W.cell? ⟨g, k * 13 + 3, none⟩ = some (.int .u32 x.r.gen) ∧ W.cell? ⟨g, k * 13 + 4, none⟩ = some (.int .u8 x.r.rig) ∧ W.cell? ⟨g, k * 13 + 5, none⟩ = some (.string x.r.key) ∧ W.cell? ⟨g, k * 13 + 6, none⟩ = some (.string x.r.val) ∧ W.cell? ⟨g, k * 13 + 7, none⟩ = some (.string x.r.old) ∧ W.cell? ⟨g, k * 13 + 8, none⟩ = some (.int .i64 x.r.lim) ∧ W.cell? ⟨g, k * 13 + 9, none⟩ = some (.int .i64 x.r.tenant) ∧ W.cell? ⟨g, k * 13 + 10, none⟩ = some (.int .u64 x.r.qk) ∧ W.cell? ⟨g, k * 13 + 11, none⟩ = some (.int .u64 x.r.qb) ∧ W.cell? ⟨g, k * 13 + 12, none⟩ = some (.int .u8 x.r.rights) := by
          intro W hW
          have hk2 : ∀ j u, (Ent.row x)[j]? = some u → W.cell? ⟨g, k * 13 + j, none⟩ = some u := fun j u hu => (hW.cell (p := ⟨g, k * 13 + j, none⟩) hgw).trans (HC0.out j u hu)
          exact ⟨hk2 0 _ rfl, hk2 1 _ rfl, hk2 2 _ rfl, hk2 3 _ rfl, hk2 4 _ rfl, hk2 5 _ rfl, hk2 6 _ rfl, hk2 7 _ rfl, hk2 8 _ rfl, hk2 9 _ rfl, hk2 10 _ rfl, hk2 11 _ rfl, hk2 12 _ rfl⟩
        have HXX := Lib.hid hXX
        clear hXX
        refine wp_region_held_drew (S := (fun W => Below w.heap.size w W ∧ W.cell? ⟨g, k * 13, none⟩ = some (.int .i64 x.ses) ∧ W.cell? ⟨g, k * 13 + 1, none⟩ = some (.int .i64 x.r.deed) ∧ W.cell? ⟨g, k * 13 + 2, none⟩ = some (.int .i64 x.r.ten) ∧ W.cell? ⟨g, k * 13 + 3, none⟩ = some (.int .u32 x.r.gen) ∧ W.cell? ⟨g, k * 13 + 4, none⟩ = some (.int .u8 x.r.rig) ∧ W.cell? ⟨g, k * 13 + 5, none⟩ = some (.string x.r.key) ∧ W.cell? ⟨g, k * 13 + 6, none⟩ = some (.string x.r.val) ∧ W.cell? ⟨g, k * 13 + 7, none⟩ = some (.string x.r.old) ∧ W.cell? ⟨g, k * 13 + 8, none⟩ = some (.int .i64 x.r.lim) ∧ W.cell? ⟨g, k * 13 + 9, none⟩ = some (.int .i64 x.r.tenant) ∧ W.cell? ⟨g, k * 13 + 10, none⟩ = some (.int .u64 x.r.qk) ∧ W.cell? ⟨g, k * 13 + 11, none⟩ = some (.int .u64 x.r.qb) ∧ W.cell? ⟨g, k * 13 + 12, none⟩ = some (.int .u8 x.r.rights))) (by kernel_rfl) ?_ (fun hHeld0 => ?_)
        · exact ⟨hbel.drew, p0, p1, p2, p3, p4, p5, p6, p7, p8, p9, p10, p11, p12⟩
        refine wpAnyH_take (i := 0) (v := ?_) rfl (by kernel_rfl) (by kernel_rfl) (by kernel_rfl) (fun _ _ _ h => h) (Or.inl ⟨by rfl, ?_⟩) hHeld0 ?_
        rotate_left
        · (intro w hSw; (try dsimp only at hSw); go_simp <;> with_reducible rfl)
        try simp only [Act.put, List.setIfInBounds_toArray, List.set_cons_zero, List.set_cons_succ]
        refine wpAnyH_take (i := 1) (v := ?_) rfl (by kernel_rfl) (by kernel_rfl) (by kernel_rfl) (fun _ _ _ h => h) (Or.inl ⟨by rfl, ?_⟩) hHeld0 ?_
        rotate_left
        · (intro w hSw; (try dsimp only at hSw); go_simp <;> with_reducible rfl)
        try simp only [Act.put, List.setIfInBounds_toArray, List.set_cons_zero, List.set_cons_succ]
        refine wpAnyH_take (i := 2) (v := ?_) rfl (by kernel_rfl) (by kernel_rfl) (by kernel_rfl) (fun _ _ _ h => h) (Or.inl ⟨by rfl, ?_⟩) hHeld0 ?_
        rotate_left
        · (intro w hSw; (try dsimp only at hSw); go_simp <;> with_reducible rfl)
        try simp only [Act.put, List.setIfInBounds_toArray, List.set_cons_zero, List.set_cons_succ]
        refine wpAnyH_take (i := 3) (v := ?_) rfl (by kernel_rfl) (by kernel_rfl) (by kernel_rfl) (fun _ _ _ h => h) (Or.inl ⟨by rfl, ?_⟩) hHeld0 ?_
        rotate_left
        · (intro w hSw; (try dsimp only at hSw); go_simp <;> with_reducible rfl)
        try simp only [Act.put, List.setIfInBounds_toArray, List.set_cons_zero, List.set_cons_succ]
        refine wpAnyH_take (i := 4) (v := ?_) rfl (by kernel_rfl) (by kernel_rfl) (by kernel_rfl) (fun _ _ _ h => h) (Or.inl ⟨by rfl, ?_⟩) hHeld0 ?_
        rotate_left
        · (intro w hSw; (try dsimp only at hSw); go_simp <;> with_reducible rfl)
        try simp only [Act.put, List.setIfInBounds_toArray, List.set_cons_zero, List.set_cons_succ]
        refine wpAnyH_take (i := 5) (v := undef) rfl (by kernel_rfl) (by kernel_rfl) (by kernel_rfl) (fun _ _ _ h => h) (Or.inr ⟨by kernel_rfl, rfl⟩) hHeld0 ?_
        try simp only [Act.put, List.setIfInBounds_toArray, List.set_cons_zero, List.set_cons_succ]
        refine wpAnyH_take (i := 6) (v := undef) rfl (by kernel_rfl) (by kernel_rfl) (by kernel_rfl) (fun _ _ _ h => h) (Or.inr ⟨by kernel_rfl, rfl⟩) hHeld0 ?_
        try simp only [Act.put, List.setIfInBounds_toArray, List.set_cons_zero, List.set_cons_succ]
        refine wpAnyH_take (i := 7) (v := undef) rfl (by kernel_rfl) (by kernel_rfl) (by kernel_rfl) (fun _ _ _ h => h) (Or.inr ⟨by kernel_rfl, rfl⟩) hHeld0 ?_
        try simp only [Act.put, List.setIfInBounds_toArray, List.set_cons_zero, List.set_cons_succ]
        refine wpAnyH_take (i := 8) (v := undef) rfl (by kernel_rfl) (by kernel_rfl) (by kernel_rfl) (fun _ _ _ h => h) (Or.inr ⟨by kernel_rfl, rfl⟩) hHeld0 ?_
        try simp only [Act.put, List.setIfInBounds_toArray, List.set_cons_zero, List.set_cons_succ]
        refine wpAnyH_take (i := 9) (v := undef) rfl (by kernel_rfl) (by kernel_rfl) (by kernel_rfl) (fun _ _ _ h => h) (Or.inr ⟨by kernel_rfl, rfl⟩) hHeld0 ?_
        try simp only [Act.put, List.setIfInBounds_toArray, List.set_cons_zero, List.set_cons_succ]
        refine wpAnyH_take (i := 10) (v := undef) rfl (by kernel_rfl) (by kernel_rfl) (by kernel_rfl) (fun _ _ _ h => h) (Or.inr ⟨by kernel_rfl, rfl⟩) hHeld0 ?_
        try simp only [Act.put, List.setIfInBounds_toArray, List.set_cons_zero, List.set_cons_succ]
        refine wpAnyH_take (i := 11) (v := undef) rfl (by kernel_rfl) (by kernel_rfl) (by kernel_rfl) (fun _ _ _ h => h) (Or.inr ⟨by kernel_rfl, rfl⟩) hHeld0 ?_
        try simp only [Act.put, List.setIfInBounds_toArray, List.set_cons_zero, List.set_cons_succ]
        refine wpAnyH_take (i := 12) (v := undef) rfl (by kernel_rfl) (by kernel_rfl) (by kernel_rfl) (fun _ _ _ h => h) (Or.inr ⟨by kernel_rfl, rfl⟩) hHeld0 ?_
        try simp only [Act.put, List.setIfInBounds_toArray, List.set_cons_zero, List.set_cons_succ]
        refine wpAnyH_take (i := 13) (v := undef) rfl (by kernel_rfl) (by kernel_rfl) (by kernel_rfl) (fun _ _ _ h => h) (Or.inr ⟨by kernel_rfl, rfl⟩) hHeld0 ?_
        try simp only [Act.put, List.setIfInBounds_toArray, List.set_cons_zero, List.set_cons_succ]
        refine wpAnyH_take (i := 14) (v := undef) rfl (by kernel_rfl) (by kernel_rfl) (by kernel_rfl) (fun _ _ _ h => h) (Or.inr ⟨by kernel_rfl, rfl⟩) hHeld0 ?_
        try simp only [Act.put, List.setIfInBounds_toArray, List.set_cons_zero, List.set_cons_succ]
        refine wpAnyH_take (i := 15) (v := ?_) rfl (by kernel_rfl) (by kernel_rfl) (by kernel_rfl) (fun _ _ _ h => h) (Or.inl ⟨by rfl, ?_⟩) hHeld0 ?_
        rotate_left
        · (intro w hSw; (try dsimp only at hSw); go_simp <;> with_reducible rfl)
        try simp only [Act.put, List.setIfInBounds_toArray, List.set_cons_zero, List.set_cons_succ]
        refine wpAnyH_take (i := 16) (v := ?_) rfl (by kernel_rfl) (by kernel_rfl) (by kernel_rfl) (fun _ _ _ h => h) (Or.inl ⟨by rfl, ?_⟩) hHeld0 ?_
        rotate_left
        · (intro w hSw; (try dsimp only at hSw); go_simp <;> with_reducible rfl)
        try simp only [Act.put, List.setIfInBounds_toArray, List.set_cons_zero, List.set_cons_succ]
        refine wpAnyH_take (i := 17) (v := ?_) rfl (by kernel_rfl) (by kernel_rfl) (by kernel_rfl) (fun _ _ _ h => h) (Or.inl ⟨by kernel_rfl, ?_⟩) hHeld0 ?_
        rotate_left
        · (intro w hSw; (try dsimp only at hSw); go_simp <;> with_reducible rfl)
        try simp only [Act.put, List.setIfInBounds_toArray, List.set_cons_zero, List.set_cons_succ]
        refine wpAnyH_take (i := 18) (v := ?_) rfl (by kernel_rfl) (by kernel_rfl) (by kernel_rfl) (fun _ _ _ h => h) (Or.inl ⟨by kernel_rfl, ?_⟩) hHeld0 ?_
        rotate_left
        · (intro w hSw; (try dsimp only at hSw); go_simp <;> with_reducible rfl)
        try simp only [Act.put, List.setIfInBounds_toArray, List.set_cons_zero, List.set_cons_succ]
        refine wpAnyH_take (i := 19) (v := ?_) rfl (by kernel_rfl) (by kernel_rfl) (by kernel_rfl) (fun _ _ _ h => h) (Or.inl ⟨by kernel_rfl, ?_⟩) hHeld0 ?_
        rotate_left
        · (intro w hSw; (try dsimp only at hSw); go_simp <;> with_reducible rfl)
        try simp only [Act.put, List.setIfInBounds_toArray, List.set_cons_zero, List.set_cons_succ]
        refine wpAnyH_take (i := 20) (v := ?_) rfl (by kernel_rfl) (by kernel_rfl) (by kernel_rfl) (fun _ _ _ h => h) (Or.inl ⟨by kernel_rfl, ?_⟩) hHeld0 ?_
        rotate_left
        · (intro w hSw; (try dsimp only at hSw); go_simp <;> with_reducible rfl)
        try simp only [Act.put, List.setIfInBounds_toArray, List.set_cons_zero, List.set_cons_succ]
        refine wpAnyH_take (i := 21) (v := ?_) rfl (by kernel_rfl) (by kernel_rfl) (by kernel_rfl) (fun _ _ _ h => h) (Or.inl ⟨by kernel_rfl, ?_⟩) hHeld0 ?_
        rotate_left
        · (intro w hSw; (try dsimp only at hSw); go_simp <;> with_reducible rfl)
        try simp only [Act.put, List.setIfInBounds_toArray, List.set_cons_zero, List.set_cons_succ]
        refine wpAnyH_take (i := 22) (v := ?_) rfl (by kernel_rfl) (by kernel_rfl) (by kernel_rfl) (fun _ _ _ h => h) (Or.inl ⟨by kernel_rfl, ?_⟩) hHeld0 ?_
        rotate_left
        · (intro w hSw; (try dsimp only at hSw); go_simp <;> with_reducible rfl)
        try simp only [Act.put, List.setIfInBounds_toArray, List.set_cons_zero, List.set_cons_succ]
        refine wpAnyH_take (i := 23) (v := ?_) rfl (by kernel_rfl) (by kernel_rfl) (by kernel_rfl) (fun _ _ _ h => h) (Or.inl ⟨by kernel_rfl, ?_⟩) hHeld0 ?_
        rotate_left
        · (intro w hSw; (try dsimp only at hSw); go_simp <;> with_reducible rfl)
        try simp only [Act.put, List.setIfInBounds_toArray, List.set_cons_zero, List.set_cons_succ]
        refine wpAnyH_take (i := 24) (v := ?_) rfl (by kernel_rfl) (by kernel_rfl) (by kernel_rfl) (fun _ _ _ h => h) (Or.inl ⟨by kernel_rfl, ?_⟩) hHeld0 ?_
        rotate_left
        · (intro w hSw; (try dsimp only at hSw); go_simp <;> with_reducible rfl)
        try simp only [Act.put, List.setIfInBounds_toArray, List.set_cons_zero, List.set_cons_succ]
        refine wpAnyH_take (i := 25) (v := ?_) rfl (by kernel_rfl) (by kernel_rfl) (by kernel_rfl) (fun _ _ _ h => h) (Or.inl ⟨by kernel_rfl, ?_⟩) hHeld0 ?_
        rotate_left
        · (intro w hSw; (try dsimp only at hSw); go_simp <;> with_reducible rfl)
        try simp only [Act.put, List.setIfInBounds_toArray, List.set_cons_zero, List.set_cons_succ]
        refine wpAnyH_take (i := 26) (v := ?_) rfl (by kernel_rfl) (by kernel_rfl) (by kernel_rfl) (fun _ _ _ h => h) (Or.inl ⟨by kernel_rfl, ?_⟩) hHeld0 ?_
        rotate_left
        · (intro w hSw; (try dsimp only at hSw); go_simp <;> with_reducible rfl)
        try simp only [Act.put, List.setIfInBounds_toArray, List.set_cons_zero, List.set_cons_succ]
        refine wpAnyH_take (i := 27) (v := ?_) rfl (by kernel_rfl) (by kernel_rfl) (by kernel_rfl) (fun _ _ _ h => h) (Or.inl ⟨by kernel_rfl, ?_⟩) hHeld0 ?_
        rotate_left
        · (intro w hSw; (try dsimp only at hSw); go_simp <;> with_reducible rfl)
        try simp only [Act.put, List.setIfInBounds_toArray, List.set_cons_zero, List.set_cons_succ]
        refine wpAnyH_take (i := 28) (v := ?_) rfl (by kernel_rfl) (by kernel_rfl) (by kernel_rfl) (fun _ _ _ h => h) (Or.inl ⟨by kernel_rfl, ?_⟩) hHeld0 ?_
        rotate_left
        · (intro w hSw; (try dsimp only at hSw); go_simp <;> with_reducible rfl)
        try simp only [Act.put, List.setIfInBounds_toArray, List.set_cons_zero, List.set_cons_succ]
        refine wpAnyH_take (i := 29) (v := ?_) rfl (by kernel_rfl) (by kernel_rfl) (by kernel_rfl) (fun _ _ _ h => h) (Or.inl ⟨by kernel_rfl, ?_⟩) hHeld0 ?_
        rotate_left
        · (intro w hSw; (try dsimp only at hSw); go_simp <;> with_reducible rfl)
        try simp only [Act.put, List.setIfInBounds_toArray, List.set_cons_zero, List.set_cons_succ]
        refine wpAnyH_ready (rs := [30]) (by kernel_rfl) (by simp) ?_
        refine AllReadyH.cons rfl (fun K hK => ?_) ?_
        · go_simp
          go_at_call 54
          refine (markEntry_x j x _ HX2.out (by omega)).mono ?_
          rintro e wn ⟨rfl, hbm⟩
          have hbN := below_trans hHeld0.1 hbm
          have hcN := HXX.out _ hbN
          go_wp2_with fail
          refine hK.out _ _ ?_ (fun hHeld1 => ?_)
          · exact ⟨hbN, hcN⟩
          clear hK K hHeld0
          try simp only [Act.put, List.setIfInBounds_toArray, List.set_cons_zero, List.set_cons_succ]
          refine wpAnyH_take (i := 31) (v := ?_) rfl (by kernel_rfl) (by kernel_rfl) (by kernel_rfl) (fun _ _ _ h => h) (Or.inl ⟨by kernel_rfl, ?_⟩) hHeld1 ?_
          rotate_left
          · (intro w hSw; (try dsimp only at hSw); go_simp <;> with_reducible rfl)
          try simp only [Act.put, List.setIfInBounds_toArray, List.set_cons_zero, List.set_cons_succ]
          refine wpAnyH_take (i := 32) (v := ?_) rfl (by kernel_rfl) (by kernel_rfl) (by kernel_rfl) (fun _ _ _ h => h) (Or.inl ⟨by kernel_rfl, ?_⟩) hHeld1 ?_
          rotate_left
          · (intro w hSw; (try dsimp only at hSw); go_simp <;> with_reducible rfl)
          try simp only [Act.put, List.setIfInBounds_toArray, List.set_cons_zero, List.set_cons_succ]
          refine wpAnyH_take (i := 33) (v := ?_) rfl (by kernel_rfl) (by kernel_rfl) (by kernel_rfl) (fun _ _ _ h => h) (Or.inl ⟨by kernel_rfl, ?_⟩) hHeld1 ?_
          rotate_left
          · (intro w hSw; (try dsimp only at hSw); go_simp <;> with_reducible rfl)
          try simp only [Act.put, List.setIfInBounds_toArray, List.set_cons_zero, List.set_cons_succ]
          refine wpAnyH_take (i := 34) (v := ?_) rfl (by kernel_rfl) (by kernel_rfl) (by kernel_rfl) (fun _ _ _ h => h) (Or.inl ⟨by rfl, ?_⟩) hHeld1 ?_
          rotate_left
          · (intro w hSw; (try dsimp only at hSw); go_simp <;> with_reducible rfl)
          try simp only [Act.put, List.setIfInBounds_toArray, List.set_cons_zero, List.set_cons_succ]
          refine wpAnyH_done (by kernel_rfl) ?_ _
          go_wp2
          go_roundw
          case rel => exact ⟨k + 1, by omega, by go_num, hbN⟩
          case measure => simp [intOf]; omega
        exact AllReadyH.nil
    · obtain rfl : k = l.length + 12 := by omega
      go_wp2_with fail
      refine HK0.out _ _ ?_
      go_wp2_with fail
      go_ret
      exact ⟨rfl, hbel⟩

set_option maxHeartbeats 3200000 in
set_option maxRecDepth 100000 in
theorem same_entries (A B : Option Addr) (ca cb : Nat) (ss ts : List Ent) (W1 W2 : Nat) (w : World) (hs : ss.length ≤ 65536) (ht : ts.length ≤ 65536) (hA : Reads w W1 13 A ss.length (ss.flatMap Ent.row)) (hB : Reads w W2 13 B ts.length (ts.flatMap Ent.row)) :
    Calls Try.prog 45 #[.slice A ss.length ca, .slice B ts.length cb] w (SameEnd (decide (ss = ts)) w) := by
  have HA := Lib.hid hA
  have HB := Lib.hid hB
  clear hA hB
  by_cases hl : ss.length = ts.length
  · have hlb : ((ss.length : Int) != (ts.length : Int)) = false := by simp [hl]
    have HL := Lib.hid hl
    have hle : ss.length ≤ ts.length := by omega
    clear hl
    go_enter Try.func45, Try.ntmps45
    go_wp2_with fail
    clear hlb
    go_loopw [5] (fun i wr => ∃ (k : Nat) (n : Nat), k ≤ ss.length ∧ i = .int .i64 k ∧ Hid (wr = w.drewN n) ∧ Hid (ss.take k = ts.take k)) (fun i _ => ss.length - (intOf i).toNat)
    case atStart => exact ⟨0, 0, by omega, rfl, Lib.hid rfl, Lib.hid rfl⟩
    case round =>
      obtain ⟨k, n, hk, rfl, hw, he⟩ := hrel
      by_cases hlt : k < ss.length
      · obtain ⟨ad, rfl, hab, hc⟩ := row_cells ent_row_len HA.out rfl hlt
        obtain ⟨bd, rfl, hbb, hd⟩ := row_cells ent_row_len HB.out rfl (show k < ts.length by omega)
        have hsplit := list_split HL.out hlt he.out
        have hcc : ∀ j u, (Ent.row ss[k])[j]? = some u → wr.cell? ((ad.add (k * 13)).add j) = some u := by
          intro j u hu
          have h := hc j u hu
          rw [hw.out, World.cell?_drewN]
          simpa only [Nat.mul_one] using h
        have hdd : ∀ j u, (Ent.row (ts[k]'(by omega)))[j]? = some u → wr.cell? ((bd.add (k * 13)).add j) = some u := by
          intro j u hu
          have h := hd j u hu
          rw [hw.out, World.cell?_drewN]
          simpa only [Nat.mul_one] using h
        clear hc hd
        generalize ss[k] = x at hcc hsplit
        generalize ts[k]'(by omega) = y at hdd hsplit
        have q0 : wr.cell? (ad.add (k * 13)) = _ := hcc 0 _ rfl
        have q1 : wr.cell? ⟨(ad.add (k * 13)).block, (ad.add (k * 13)).off + 1, none⟩ = _ := hcc 1 _ rfl
        have q2 : wr.cell? ⟨(ad.add (k * 13)).block, (ad.add (k * 13)).off + 2, none⟩ = _ := hcc 2 _ rfl
        have q3 : wr.cell? ⟨(ad.add (k * 13)).block, (ad.add (k * 13)).off + 3, none⟩ = _ := hcc 3 _ rfl
        have q4 : wr.cell? ⟨(ad.add (k * 13)).block, (ad.add (k * 13)).off + 4, none⟩ = _ := hcc 4 _ rfl
        have q5 : wr.cell? ⟨(ad.add (k * 13)).block, (ad.add (k * 13)).off + 5, none⟩ = _ := hcc 5 _ rfl
        have q6 : wr.cell? ⟨(ad.add (k * 13)).block, (ad.add (k * 13)).off + 6, none⟩ = _ := hcc 6 _ rfl
        have q7 : wr.cell? ⟨(ad.add (k * 13)).block, (ad.add (k * 13)).off + 7, none⟩ = _ := hcc 7 _ rfl
        have q8 : wr.cell? ⟨(ad.add (k * 13)).block, (ad.add (k * 13)).off + 8, none⟩ = _ := hcc 8 _ rfl
        have q9 : wr.cell? ⟨(ad.add (k * 13)).block, (ad.add (k * 13)).off + 9, none⟩ = _ := hcc 9 _ rfl
        have q10 : wr.cell? ⟨(ad.add (k * 13)).block, (ad.add (k * 13)).off + 10, none⟩ = _ := hcc 10 _ rfl
        have q11 : wr.cell? ⟨(ad.add (k * 13)).block, (ad.add (k * 13)).off + 11, none⟩ = _ := hcc 11 _ rfl
        have q12 : wr.cell? ⟨(ad.add (k * 13)).block, (ad.add (k * 13)).off + 12, none⟩ = _ := hcc 12 _ rfl
        have p0 : wr.cell? (bd.add (k * 13)) = _ := hdd 0 _ rfl
        have p1 : wr.cell? ⟨(bd.add (k * 13)).block, (bd.add (k * 13)).off + 1, none⟩ = _ := hdd 1 _ rfl
        have p2 : wr.cell? ⟨(bd.add (k * 13)).block, (bd.add (k * 13)).off + 2, none⟩ = _ := hdd 2 _ rfl
        have p3 : wr.cell? ⟨(bd.add (k * 13)).block, (bd.add (k * 13)).off + 3, none⟩ = _ := hdd 3 _ rfl
        have p4 : wr.cell? ⟨(bd.add (k * 13)).block, (bd.add (k * 13)).off + 4, none⟩ = _ := hdd 4 _ rfl
        have p5 : wr.cell? ⟨(bd.add (k * 13)).block, (bd.add (k * 13)).off + 5, none⟩ = _ := hdd 5 _ rfl
        have p6 : wr.cell? ⟨(bd.add (k * 13)).block, (bd.add (k * 13)).off + 6, none⟩ = _ := hdd 6 _ rfl
        have p7 : wr.cell? ⟨(bd.add (k * 13)).block, (bd.add (k * 13)).off + 7, none⟩ = _ := hdd 7 _ rfl
        have p8 : wr.cell? ⟨(bd.add (k * 13)).block, (bd.add (k * 13)).off + 8, none⟩ = _ := hdd 8 _ rfl
        have p9 : wr.cell? ⟨(bd.add (k * 13)).block, (bd.add (k * 13)).off + 9, none⟩ = _ := hdd 9 _ rfl
        have p10 : wr.cell? ⟨(bd.add (k * 13)).block, (bd.add (k * 13)).off + 10, none⟩ = _ := hdd 10 _ rfl
        have p11 : wr.cell? ⟨(bd.add (k * 13)).block, (bd.add (k * 13)).off + 11, none⟩ = _ := hdd 11 _ rfl
        have p12 : wr.cell? ⟨(bd.add (k * 13)).block, (bd.add (k * 13)).off + 12, none⟩ = _ := hdd 12 _ rfl
        have i1 : (0 : Int) ≤ (k : Int) := by omega
        have i2 : (k : Int) < (ss.length : Int) := by omega
        have i3 : (k : Int) < (ts.length : Int) := by omega
        have HSp := Lib.hid hsplit
        clear hsplit hcc hdd
        by_cases hxy : x = y
        · have hT := HSp.out.1 hxy
          have HT := Lib.hid hT
          have hgd := guardEnt
          have hqe : ∀ W, (binOp .neq 46 (.agg #[.int .i64 x.ses, .int .i64 x.r.deed, .int .i64 x.r.ten, .int .u32 x.r.gen, .int .u8 x.r.rig, .string x.r.key, .string x.r.val, .string x.r.old, .int .i64 x.r.lim, .int .i64 x.r.tenant, .int .u64 x.r.qk, .int .u64 x.r.qb, .int .u8 x.r.rights]) (.agg #[.int .i64 y.ses, .int .i64 y.r.deed, .int .i64 y.r.ten, .int .u32 y.r.gen, .int .u8 y.r.rig, .string y.r.key, .string y.r.val, .string y.r.old, .int .i64 y.r.lim, .int .i64 y.r.tenant, .int .u64 y.r.qk, .int .u64 y.r.qb, .int .u8 y.r.rights])).run Try.prog W = .ok (.bool false) W := fun W => by rw [neqEnt, decide_eq_true hxy]; rfl
          clear hT hxy HSp
          go_wp2_with fail
          go_quiet (fail)
          go_wp2
          go_roundw
          case rel => exact ⟨k + 1, _, by omega, by go_num, Lib.hid (by rw [hw.out, World.drewN_drewN]), Lib.hid HT.out⟩
          case measure => simp [intOf]; omega
        · have hT := HSp.out.2 hxy
          have HT := Lib.hid hT
          have hgd := guardEnt
          have hqe : ∀ W, (binOp .neq 46 (.agg #[.int .i64 x.ses, .int .i64 x.r.deed, .int .i64 x.r.ten, .int .u32 x.r.gen, .int .u8 x.r.rig, .string x.r.key, .string x.r.val, .string x.r.old, .int .i64 x.r.lim, .int .i64 x.r.tenant, .int .u64 x.r.qk, .int .u64 x.r.qb, .int .u8 x.r.rights]) (.agg #[.int .i64 y.ses, .int .i64 y.r.deed, .int .i64 y.r.ten, .int .u32 y.r.gen, .int .u8 y.r.rig, .string y.r.key, .string y.r.val, .string y.r.old, .int .i64 y.r.lim, .int .i64 y.r.tenant, .int .u64 y.r.qk, .int .u64 y.r.qb, .int .u8 y.r.rights])).run Try.prog W = .ok (.bool true) W := fun W => by rw [neqEnt, decide_eq_false hxy]; rfl
          clear hT hxy HSp
          go_wp2_with fail
          go_quiet (fail)
          go_wp2
          go_ret
          exact ⟨ret_bool (by rw [decide_eq_false HT.out]), _, by rw [hw.out, World.drewN_drewN]⟩
      · obtain rfl : k = ss.length := by omega
        have hT : ss = ts := by
          have h1 := he.out
          rw [List.take_length, HL.out, List.take_length] at h1
          exact h1
        have HT := Lib.hid hT
        clear hT
        go_wp2
        go_ret
        exact ⟨ret_bool (by rw [decide_eq_true HT.out]), n, hw.out⟩
  · have hlb : ((ss.length : Int) != (ts.length : Int)) = true := by simp; omega
    have hT : ss ≠ ts := fun e => hl (by rw [e])
    have HT := Lib.hid hT
    clear hl hT
    go_enter Try.func45, Try.ntmps45
    go_wp2
    go_ret
    exact ⟨ret_bool (by rw [decide_eq_false HT.out]), 0, rfl⟩

/-- What a copy of a list comes to. -/
def CopyEntriesEnd (l : List Ent) (w : World) (e : Ending) (w' : World) : Prop := ∃ v, e = .returned v ∧ w'.ownsRow w.heap.size 46 13 v l.length (l.flatMap Ent.row) ∧ Below w.heap.size w w'
set_option maxHeartbeats 800000 in
theorem copy_entries (l : List Ent) (A : Option Addr) (c : Nat) (w : World) (hl : l.length ≤ 65536) (hA : Reads w w.heap.size 13 A l.length (l.flatMap Ent.row)) :
    Calls Try.prog 29 #[.slice A l.length c] w (CopyEntriesEnd l w) := by
  obtain ⟨i0, hi0, iz0, iz1, iz2⟩ := info_parts infoEntries
  have HA := Lib.hid hA
  clear hA
  go_enter Try.func29, Try.ntmps29
  go_wp2_with (first
    | (at_builtin
       refine wpList_append_any _ rfl (.tmp 4) (.tmp 5) _ rfl w.heap.size 46 i0 _ 13 120 Try.underlying38 hi0 iz0 iz1 iz2 rfl (by omega) (.slice none 0 0) 0 [] rfl
         ⟨rfl, Or.inl ⟨rfl, rfl⟩⟩ w.heap.size A l.length c _ rfl HA.out (flat_one ent_one l) (by unfold maxLen; omega) (by omega) (Nat.le_refl _) ?_
       intro v1 w1 hown1 hg1 hat1
       have hbel1 : Below w.heap.size w w1 := (Below.refl _ _).grown hg1 (Nat.le_refl _) (by simp [Value.ownBlock])))
  simp only [List.nil_append, Nat.zero_add] at hown1
  clear hg1 hat1
  go_ret
  exact ⟨_, rfl, hown1, hbel1⟩

theorem store13 {W : World} {g k q cap : Nat} {t : TypeId} {cs : Array Value} (h : Blk W g t cs) (hs : cs.size = cap * 13) (hk : k < q) (hq : q ≤ cap) :
    ∃ o0 o1 o2 o3 o4 o5 o6 o7 o8 o9 o10 o11 o12 : Value, (W.cell? ⟨g, k * 13, none⟩ = some o0 ∧ W.cell? ⟨g, k * 13 + 1, none⟩ = some o1 ∧ W.cell? ⟨g, k * 13 + 2, none⟩ = some o2 ∧ W.cell? ⟨g, k * 13 + 3, none⟩ = some o3 ∧ W.cell? ⟨g, k * 13 + 4, none⟩ = some o4 ∧ W.cell? ⟨g, k * 13 + 5, none⟩ = some o5 ∧ W.cell? ⟨g, k * 13 + 6, none⟩ = some o6 ∧ W.cell? ⟨g, k * 13 + 7, none⟩ = some o7 ∧ W.cell? ⟨g, k * 13 + 8, none⟩ = some o8 ∧ W.cell? ⟨g, k * 13 + 9, none⟩ = some o9 ∧ W.cell? ⟨g, k * 13 + 10, none⟩ = some o10 ∧ W.cell? ⟨g, k * 13 + 11, none⟩ = some o11 ∧ W.cell? ⟨g, k * 13 + 12, none⟩ = some o12) ∧ (W.frozen? ⟨g, k * 13, none⟩ = false ∧ W.frozen? ⟨g, k * 13 + 1, none⟩ = false ∧ W.frozen? ⟨g, k * 13 + 2, none⟩ = false ∧ W.frozen? ⟨g, k * 13 + 3, none⟩ = false ∧ W.frozen? ⟨g, k * 13 + 4, none⟩ = false ∧ W.frozen? ⟨g, k * 13 + 5, none⟩ = false ∧ W.frozen? ⟨g, k * 13 + 6, none⟩ = false ∧ W.frozen? ⟨g, k * 13 + 7, none⟩ = false ∧ W.frozen? ⟨g, k * 13 + 8, none⟩ = false ∧ W.frozen? ⟨g, k * 13 + 9, none⟩ = false ∧ W.frozen? ⟨g, k * 13 + 10, none⟩ = false ∧ W.frozen? ⟨g, k * 13 + 11, none⟩ = false ∧ W.frozen? ⟨g, k * 13 + 12, none⟩ = false) := by
  have hc : ∀ j, k * 13 + j < cs.size → ∃ u, W.cell? ⟨g, k * 13 + j, none⟩ = some u := fun j hj => ⟨cs[k * 13 + j], by rw [h.cell]; exact Array.getElem?_eq_getElem hj⟩
  obtain ⟨o0, h0⟩ := hc 0 (by omega)
  obtain ⟨o1, h1⟩ := hc 1 (by omega)
  obtain ⟨o2, h2⟩ := hc 2 (by omega)
  obtain ⟨o3, h3⟩ := hc 3 (by omega)
  obtain ⟨o4, h4⟩ := hc 4 (by omega)
  obtain ⟨o5, h5⟩ := hc 5 (by omega)
  obtain ⟨o6, h6⟩ := hc 6 (by omega)
  obtain ⟨o7, h7⟩ := hc 7 (by omega)
  obtain ⟨o8, h8⟩ := hc 8 (by omega)
  obtain ⟨o9, h9⟩ := hc 9 (by omega)
  obtain ⟨o10, h10⟩ := hc 10 (by omega)
  obtain ⟨o11, h11⟩ := hc 11 (by omega)
  obtain ⟨o12, h12⟩ := hc 12 (by omega)
  exact ⟨o0, o1, o2, o3, o4, o5, o6, o7, o8, o9, o10, o11, o12, ⟨h0, h1, h2, h3, h4, h5, h6, h7, h8, h9, h10, h11, h12⟩, ⟨h.frozen _, h.frozen _, h.frozen _, h.frozen _, h.frozen _, h.frozen _, h.frozen _, h.frozen _, h.frozen _, h.frozen _, h.frozen _, h.frozen _, h.frozen _⟩⟩


set_option maxHeartbeats 6400000 in
set_option maxRecDepth 100000 in
theorem over1_entries (g q cap : Nat) {u0 u1 u3 u4 u5 u6 u7 u8 u9 u10 u11 u12 u13 u14 u15 u16 u17 u18 u19 u20 u21 u22 : Value} (w wx : World) (hq1 : q ≤ cap) (hq2 : q ≤ 65548) (cs : Array Value) (h : Blk wx g 46 cs) (hs : cs.size = cap * 13) (hg : w.grownBy wx (some g)) :
    Code.wp Try.prog (bodyTail Try.f47 1) (bodyPost Try.prog Try.f47 (OverEnd (some g) w)) ⟨#[u0, u1, .slice (some ⟨g, 0, none⟩) q cap, u3, u4, u5, u6, u7, u8, u9, u10, u11, u12, u13, u14, u15, u16, u17, u18, u19, u20, u21, u22], []⟩ wx := by
  conv => arg 2; whnf
  go_wp2_with fail
  have HH := Lib.hid (And.intro h (And.intro hs hg))
  clear h hs hg
  go_loopw [3] (fun i wr => ∃ (k : Nat) (cs : Array Value), k ≤ q ∧ i = .int .i64 k ∧ Blk wr g 46 cs ∧ Hid (cs.size = cap * 13 ∧ w.grownBy wr (some g))) (fun i _ => q - (intOf i).toNat)
  case atStart => exact ⟨0, cs, by omega, rfl, HH.out.1, Lib.hid HH.out.2⟩
  case round =>
    clear HH
    obtain ⟨k, cs, hk, rfl, hblk, hid⟩ := hrel
    by_cases hlt : k < q
    · have hsz := hid.out.1
      have i1 : (0 : Int) ≤ (k : Int) := by omega
      have i2 : (k : Int) < (q : Int) := by omega
      have HS := Lib.hid hsz
      have HB := Lib.hid hblk
      clear hsz hblk
      go_wp2_with (go_at_call 54; refine (markEntry_2 k _ (by omega)).mono ?_; rintro e w' ⟨rfl, hbm⟩; have hb3 := HB.out.below hbm (Blk.lt HB.out); obtain ⟨o0, o1, o2, o3, o4, o5, o6, o7, o8, o9, o10, o11, o12, ⟨c0, c1, c2, c3, c4, c5, c6, c7, c8, c9, c10, c11, c12⟩, ⟨z0, z1, z2, z3, z4, z5, z6, z7, z8, z9, z10, z11, z12⟩⟩ := store13 hb3 HS.out hlt hq1)
      have hb2 := (((((((((((((hb3).set_ (k * 13) (.int .i64 (markE 2 k).ses)).set_ (k * 13 + 1) (.int .i64 (markE 2 k).r.deed)).set_ (k * 13 + 2) (.int .i64 (markE 2 k).r.ten)).set_ (k * 13 + 3) (.int .u32 (markE 2 k).r.gen)).set_ (k * 13 + 4) (.int .u8 (markE 2 k).r.rig)).set_ (k * 13 + 5) (.string (markE 2 k).r.key)).set_ (k * 13 + 6) (.string (markE 2 k).r.val)).set_ (k * 13 + 7) (.string (markE 2 k).r.old)).set_ (k * 13 + 8) (.int .i64 (markE 2 k).r.lim)).set_ (k * 13 + 9) (.int .i64 (markE 2 k).r.tenant)).set_ (k * 13 + 10) (.int .u64 (markE 2 k).r.qk)).set_ (k * 13 + 11) (.int .u64 (markE 2 k).r.qb)).set_ (k * 13 + 12) (.int .u8 (markE 2 k).r.rights)
      have hg2 := only_setCell (only_setCell (only_setCell (only_setCell (only_setCell (only_setCell (only_setCell (only_setCell (only_setCell (only_setCell (only_setCell (only_setCell (only_setCell (only_below hid.out.2 hbm) (p := ⟨g, k * 13, none⟩) (.inl rfl) (.int .i64 (markE 2 k).ses)) (p := ⟨g, k * 13 + 1, none⟩) (.inl rfl) (.int .i64 (markE 2 k).r.deed)) (p := ⟨g, k * 13 + 2, none⟩) (.inl rfl) (.int .i64 (markE 2 k).r.ten)) (p := ⟨g, k * 13 + 3, none⟩) (.inl rfl) (.int .u32 (markE 2 k).r.gen)) (p := ⟨g, k * 13 + 4, none⟩) (.inl rfl) (.int .u8 (markE 2 k).r.rig)) (p := ⟨g, k * 13 + 5, none⟩) (.inl rfl) (.string (markE 2 k).r.key)) (p := ⟨g, k * 13 + 6, none⟩) (.inl rfl) (.string (markE 2 k).r.val)) (p := ⟨g, k * 13 + 7, none⟩) (.inl rfl) (.string (markE 2 k).r.old)) (p := ⟨g, k * 13 + 8, none⟩) (.inl rfl) (.int .i64 (markE 2 k).r.lim)) (p := ⟨g, k * 13 + 9, none⟩) (.inl rfl) (.int .i64 (markE 2 k).r.tenant)) (p := ⟨g, k * 13 + 10, none⟩) (.inl rfl) (.int .u64 (markE 2 k).r.qk)) (p := ⟨g, k * 13 + 11, none⟩) (.inl rfl) (.int .u64 (markE 2 k).r.qb)) (p := ⟨g, k * 13 + 12, none⟩) (.inl rfl) (.int .u8 (markE 2 k).r.rights)
      go_roundw
      case rel => exact ⟨k + 1, _, by omega, by go_num, hb2, Lib.hid ⟨by simpa using HS.out, hg2⟩⟩
      case measure => simp [intOf]; omega
    · obtain rfl : k = q := by omega
      go_wp2
      go_end0
      exact ⟨⟨_, rfl⟩, hid.out.2⟩

set_option maxHeartbeats 1600000 in
set_option maxRecDepth 100000 in
theorem over_entries (g n cap : Nat) (cs : Array Value) (w : World) (hn : n ≤ 65536) (h : Blk w g 46 cs) (hs : cs.size = cap * 13) (hc1 : n ≤ cap) (hc2 : cap ≤ maxLen) :
    Calls Try.prog 47 #[.slice (some ⟨g, 0, none⟩) n cap] w (OverEnd (some g) w) := by
  unfold maxLen at hc2
  have hcm2 : ((cap : Nat) : Int) ≤ 9223372036854775807 := by omega
  have HB := Lib.hid h
  have HS := Lib.hid hs
  clear h hs
  have hn2 : (n : Int) ≤ 65536 := by omega
  by_cases hle : (cap : Int) ≤ (n : Int) + 12
  · go_enter Try.func47, Try.ntmps47
    refine wp_seq_k fun K0 hK => ?_
    have HK0 := Lib.hid hK
    clear hK
    go_wp2_with fail
    exact HK0.out _ _ (over1_entries g cap cap w w (Nat.le_refl _) (by omega) cs HB.out HS.out (World.grownBy.refl w _))
  · have hle2 : (n : Int) + 12 ≤ (cap : Int) := by omega
    go_enter Try.func47, Try.ntmps47
    refine wp_seq_k fun K0 hK => ?_
    have HK0 := Lib.hid hK
    clear hK
    go_wp2_with fail
    exact HK0.out _ _ (over1_entries g (n + 12) cap w w (by omega) (by omega) cs HB.out HS.out (World.grownBy.refl w _))
/-- The empty list: nothing. -/
theorem over_entries_nil (w : World) : Calls Try.prog 47 #[.slice none 0 0] w (OverEnd none w) := by
  go_enter Try.func47, Try.ntmps47
  go_wp2_with fail
  go_loop [3] (fun i => i = .int .i64 0) (fun _ => 0)
  case atStart => rfl
  case round =>
    subst hrel
    go_wp2
    go_end0
    exact ⟨⟨_, rfl⟩, World.grownBy.refl w _⟩
end Go.Proofs.Ytlmehmmdbdembaa
