/-
  Layer 7: FewEnds.
-/
import Derived.Test.YtmcpfhhggapkcaaFewE2
import Derived.Test.YtmcpfhhggapkcaaFewE3
import Derived.Test.YtmcpfhhggapkcaaFewE4
namespace Go.Proofs.Ytmcpfhhggapkcaa
open Go.RowKit Go.Shelf
set_option linter.unusedVariables false
set_option linter.unusedSimpArgs false

def kA : Kids := setK noKids 9 (some (1, 0))
def kB : Kids := setK kA 8 (some (2, 0))
def kC : Kids := setK kB 7 (some (3, 0))
theorem pA : putK 4 noKids 9 (1, 0) = (0, kA) := put_new (by decide +kernel) (by decide +kernel)
theorem pB : putK 4 kA 8 (2, 0) = (0, kB) := put_new (by decide +kernel) (by decide +kernel)
theorem pC : putK 4 kB 7 (3, 0) = (0, kC) := put_new (by decide +kernel) (by decide +kernel)
theorem two_kids : 2 ≤ (kidsF kC).length := by decide +kernel
theorem no_rest : cntK (drainF kC ((kidsF kC).take 2)) = 0 := by decide +kernel
theorem drained {pre : List Kid} (h : pre <+: kidsF kC) (h2 : pre.length = 2) : cntK (drainF kC pre) = 0 := by
  have := List.prefix_iff_eq_take.1 h
  rw [h2] at this
  rw [this]
  exact no_rest
/-- Behind three Puts. -/
def PutI (w : World) (g0 g8 gk : Nat) (f : Kids) (W : World) : Prop := FewAt W gk 4 f ∧ Blk W g8 24 #[.pointer (some ⟨gk, 0, none⟩)] ∧ Blk W g0 4 #[.bool false] ∧ Below w.heap.size w W
theorem putI_put {w W W' : World} {g0 g8 gk : Nat} {f f' : Kids} (h : PutI w g0 g8 gk f W) (hge : w.heap.size ≤ gk) (hf : FewAt W' gk 4 f') (hg : W.grownBy W' (some gk)) : PutI w g0 g8 gk f' W' := by
  obtain ⟨h1, h2, h3, h4⟩ := h
  exact ⟨hf, h2.grown hg (fun e => h1.ne_blk h2 (by decide) (by injection e with e; exact e.symm)), h3.grown hg (fun e => h1.ne_blk h3 (by decide) (by injection e with e; exact e.symm)), h4.grown hg h4.size (fun k e => by injection e with e; omega)⟩
theorem putI_alloc {w W : World} {g0 g8 gk : Nat} {f : Kids} (h : PutI w g0 g8 gk f W) (o : Obj) : PutI w g0 g8 gk f (W.alloc o) := by
  obtain ⟨h1, h2, h3, h4⟩ := h
  exact ⟨h1.below (below_box W o), h2.alloc o, h3.alloc o, h4.alloc h4.size o⟩

set_option maxHeartbeats 6400000 in
set_option maxRecDepth 100000 in
theorem FewEnds_any (w : World) : Calls Try.prog 7 #[] w (BoolEnd true w) := by
  have HAW := Lib.hid (fun V => awake_any V)
  refine (callsIn_wide (n := 10)).1 (callsIn_of_wp_marks Try.func7 rfl trivial (wpIn_wide.2 ?_) rfl)
  simp only [Try.ntmps7, List.size_toArray, List.length_cons, List.length_nil, Nat.reduceAdd, Nat.reduceSub, Array.replicate_succ, Array.replicate_zero, List.push_toArray, List.append_toArray, List.nil_append, List.cons_append]
  refine wp_seq_k fun K0 hK => ?_
  have HK0 := Lib.hid hK
  clear hK
  go_wp2_with fail
  refine HK0.out _ _ ?_
  clear HK0
  refine wp_seq_k fun K1 hK => ?_
  have HK1 := Lib.hid hK
  clear hK
  go_wp2_with fail
  refine HK1.out _ _ ?_
  clear HK1
  refine wp_seq_k fun K2 hK => ?_
  have HK2 := Lib.hid hK
  clear hK
  go_wp2_with fail
  refine HK2.out _ _ ?_
  clear HK2
  have H0 : Hid (EndsI w (w.heap.size + 3) w.heap.size (w.heap.size + 1) (w.heap.size + 2) (((w.alloc (.cells #[.bool false] 4)).alloc (.cells #[.int .i64 (-9223372036854775808), .int .i64 (-1), .int .i64 0, .int .i64 1, .int .i64 3, .int .i64 4, .int .i64 5, .int .i64 15, .int .i64 16, .int .i64 17, .int .i64 47, .int .i64 48, .int .i64 49, .int .i64 255, .int .i64 256, .int .i64 257, .int .i64 9223372036854775807] 3)).alloc (.cells #[.int .i64 (-9223372036854775808), .int .i64 (-1), .int .i64 0, .int .i64 1, .int .i64 100, .int .i64 254, .int .i64 255, .int .i64 256, .int .i64 9223372036854775807] 3))) := Lib.hid (by
    have b1 := below_box w (.cells #[.bool false] 4)
    have b2 := b1.alloc b1.size (.cells #[.int .i64 (-9223372036854775808), .int .i64 (-1), .int .i64 0, .int .i64 1, .int .i64 3, .int .i64 4, .int .i64 5, .int .i64 15, .int .i64 16, .int .i64 17, .int .i64 47, .int .i64 48, .int .i64 49, .int .i64 255, .int .i64 256, .int .i64 257, .int .i64 9223372036854775807] 3)
    have b3 := b2.alloc b2.size (.cells #[.int .i64 (-9223372036854775808), .int .i64 (-1), .int .i64 0, .int .i64 1, .int .i64 100, .int .i64 254, .int .i64 255, .int .i64 256, .int .i64 9223372036854775807] 3)
    have n1 := Blk.new (w.alloc (.cells #[.bool false] 4)) 3 #[.int .i64 (-9223372036854775808), .int .i64 (-1), .int .i64 0, .int .i64 1, .int .i64 3, .int .i64 4, .int .i64 5, .int .i64 15, .int .i64 16, .int .i64 17, .int .i64 47, .int .i64 48, .int .i64 49, .int .i64 255, .int .i64 256, .int .i64 257, .int .i64 9223372036854775807]
    rw [show (w.alloc (.cells #[.bool false] 4)).heap.size = w.heap.size + 1 by simp] at n1
    have n2 := Blk.new ((w.alloc (.cells #[.bool false] 4)).alloc (.cells #[.int .i64 (-9223372036854775808), .int .i64 (-1), .int .i64 0, .int .i64 1, .int .i64 3, .int .i64 4, .int .i64 5, .int .i64 15, .int .i64 16, .int .i64 17, .int .i64 47, .int .i64 48, .int .i64 49, .int .i64 255, .int .i64 256, .int .i64 257, .int .i64 9223372036854775807] 3)) 3 #[.int .i64 (-9223372036854775808), .int .i64 (-1), .int .i64 0, .int .i64 1, .int .i64 100, .int .i64 254, .int .i64 255, .int .i64 256, .int .i64 9223372036854775807]
    rw [show ((w.alloc (.cells #[.bool false] 4)).alloc (.cells #[.int .i64 (-9223372036854775808), .int .i64 (-1), .int .i64 0, .int .i64 1, .int .i64 3, .int .i64 4, .int .i64 5, .int .i64 15, .int .i64 16, .int .i64 17, .int .i64 47, .int .i64 48, .int .i64 49, .int .i64 255, .int .i64 256, .int .i64 257, .int .i64 9223372036854775807] 3)).heap.size = w.heap.size + 2 by simp] at n2
    exact ⟨((Blk.new w _ _).alloc _).alloc _, n1.alloc _, n2, b3, by simp⟩)
  generalize ((w.alloc (.cells #[.bool false] 4)).alloc (.cells #[.int .i64 (-9223372036854775808), .int .i64 (-1), .int .i64 0, .int .i64 1, .int .i64 3, .int .i64 4, .int .i64 5, .int .i64 15, .int .i64 16, .int .i64 17, .int .i64 47, .int .i64 48, .int .i64 49, .int .i64 255, .int .i64 256, .int .i64 257, .int .i64 9223372036854775807] 3)).alloc (.cells #[.int .i64 (-9223372036854775808), .int .i64 (-1), .int .i64 0, .int .i64 1, .int .i64 100, .int .i64 254, .int .i64 255, .int .i64 256, .int .i64 9223372036854775807] 3) = w1 at H0 ⊢
  obtain ⟨g0, hg0⟩ : ∃ g, g = w.heap.size := ⟨_, rfl⟩
  obtain ⟨g1, hg1⟩ : ∃ g, g = w.heap.size + 1 := ⟨_, rfl⟩
  obtain ⟨g2, hg2⟩ : ∃ g, g = w.heap.size + 2 := ⟨_, rfl⟩
  rw [← hg1, ← hg2] at H0
  have H0' : Hid (EndsI w (w.heap.size + 3) g0 g1 g2 w1) := by rw [hg0]; exact H0
  clear H0
  rw [← hg2, ← hg1, ← hg0]
  refine wp_seq_k fun K3 hK => ?_
  have HK3 := Lib.hid hK
  clear hK
  refine ends_loop (w.heap.size + 3) g0 g1 g2 w w1 ⟨by omega, by omega, by omega, by omega⟩ H0'.out ?_
  intros
  rename_i w2 hE
  have hs2 : w.heap.size + 3 ≤ w2.heap.size := hE.2.2.2.2
  have HE : Hid (Blk w2 g0 4 #[.bool false] ∧ Below w.heap.size w w2 ∧ w.heap.size + 3 ≤ w2.heap.size) := Lib.hid ⟨hE.1, hE.2.2.2.1, hs2⟩
  have HG0 := Lib.hid hg0
  clear hE H0' hg1 hg2 hg0 hs2
  dsimp only
  refine HK3.out _ _ ?_
  clear HK3
  refine wp_seq_k fun K4 hK => ?_
  have HK4 := Lib.hid hK
  clear hK
  go_wp2_with fail
  refine (new_4 w2).mono ?_
  rintro e w3 ⟨gk, rfl, hf, hgk, hb3⟩
  go_wp2_with fail
  refine HK4.out _ _ ?_
  clear HK4
  have hbx := below_box w3 (.cells #[.pointer (some ⟨gk, 0, none⟩)] 24)
  have hb13 := HE.out.2.1.trans (hb3.mono HE.out.2.1.size)
  have H4 : Hid (PutI w g0 w3.heap.size gk noKids (w3.alloc (.cells #[.pointer (some ⟨gk, 0, none⟩)] 24))) := Lib.hid ⟨hf.below hbx, Blk.new _ _ _, (HE.out.1.below hb3 HE.out.1.lt).alloc _, hb13.alloc hb13.size _⟩
  have hgk0 : w.heap.size ≤ gk := Nat.le_trans HE.out.2.1.size hgk
  have hz8 : w.heap.size ≤ w3.heap.size := hb13.size
  generalize w3.alloc (.cells #[.pointer (some ⟨gk, 0, none⟩)] 24) = w4 at H4 ⊢
  generalize w3.heap.size = g8 at H4 hz8 ⊢
  clear hf hgk hb3 hbx hb13 HE
  refine wp_seq_k fun K5 hK => ?_
  have HK5 := Lib.hid hK
  clear hK
  have e8 := H4.out.2.1.cell 0
  simp at e8
  have hP := put_at 4 noKids kA 9 (1, 0) 0 pA (by decide) gk w4 H4.out.1
  have HP : Hid (Calls Try.prog 10 #[.pointer (some ⟨gk, 0, none⟩), .int .u8 9, .agg #[.int .i64 1, .int .u32 0]] w4 (FewEnd (.int .i64 0) gk 4 kA w4)) := Lib.hid hP
  clear hP
  go_wp2_with fail
  refine HP.out.mono ?_
  rintro e w5 ⟨rfl, hf, hg⟩
  have H5 := Lib.hid (putI_put H4.out hgk0 hf hg)
  clear hf hg HP e8 H4
  go_wp2_with fail
  refine HK5.out _ _ ?_
  clear HK5
  refine wp_seq_k fun K6 hK => ?_
  have HK6 := Lib.hid hK
  clear hK
  have e8 := H5.out.2.1.cell 0
  simp at e8
  have hP := put_at 4 kA kB 8 (2, 0) 0 pB (by decide) gk w5 H5.out.1
  have HP : Hid (Calls Try.prog 10 #[.pointer (some ⟨gk, 0, none⟩), .int .u8 8, .agg #[.int .i64 2, .int .u32 0]] w5 (FewEnd (.int .i64 0) gk 4 kB w5)) := Lib.hid hP
  clear hP
  go_wp2_with fail
  refine HP.out.mono ?_
  rintro e w6 ⟨rfl, hf, hg⟩
  have H6 := Lib.hid (putI_put H5.out hgk0 hf hg)
  clear hf hg HP e8 H5
  go_wp2_with fail
  refine HK6.out _ _ ?_
  clear HK6
  refine wp_seq_k fun K7 hK => ?_
  have HK7 := Lib.hid hK
  clear hK
  have e8 := H6.out.2.1.cell 0
  simp at e8
  have hP := put_at 4 kB kC 7 (3, 0) 0 pC (by decide) gk w6 H6.out.1
  have HP : Hid (Calls Try.prog 10 #[.pointer (some ⟨gk, 0, none⟩), .int .u8 7, .agg #[.int .i64 3, .int .u32 0]] w6 (FewEnd (.int .i64 0) gk 4 kC w6)) := Lib.hid hP
  clear hP
  go_wp2_with fail
  refine HP.out.mono ?_
  rintro e w7 ⟨rfl, hf, hg⟩
  have H7 := Lib.hid (putI_put H6.out hgk0 hf hg)
  clear hf hg HP e8 H6
  go_wp2_with fail
  refine HK7.out _ _ ?_
  clear HK7
  refine wp_seq_k fun K8 hK => ?_
  have HK8 := Lib.hid hK
  clear hK
  go_wp2_with fail
  refine HK8.out _ _ ?_
  clear HK8
  have H8 := Lib.hid (putI_alloc H7.out (.cells #[.int .i64 0] 3))
  have hg10 := Blk.new w7 3 #[.int .i64 0]
  have hz10 : w.heap.size ≤ w7.heap.size := H7.out.2.2.2.size
  generalize w7.alloc (.cells #[.int .i64 0] 3) = w8 at H8 hg10 ⊢
  generalize w7.heap.size = g10 at hg10 hz10 ⊢
  have HG10 := Lib.hid hg10
  clear H7 hg10
  refine wp_seq_k fun K9 hK => ?_
  have HK9 := Lib.hid hK
  clear hK
  refine wp_seq_k fun K10 hK => ?_
  have HK10 := Lib.hid hK
  clear hK
  have e8 := H8.out.2.1.cell 0
  simp at e8
  go_wp2_with fail
  refine (All_any _ _).mono ?_
  rintro e w9 ⟨rfl, rfl⟩
  go_wp2_with fail
  refine HK10.out _ _ ?_
  clear HK10
  have hq := Blk.new w8 24 #[.pointer (some ⟨gk, 0, none⟩)]
  have cq : (w8.alloc (.cells #[.pointer (some ⟨gk, 0, none⟩)] 24)).cell? ⟨w8.heap.size, 0, none⟩ = some (.pointer (some ⟨gk, 0, none⟩)) := hq.cell 0
  have h9 := putI_alloc H8.out (.cells #[.pointer (some ⟨gk, 0, none⟩)] 24)
  refine break_loop g0 g8 g10 gk w8.heap.size kC w (w8.alloc (.cells #[.pointer (some ⟨gk, 0, none⟩)] 24)) cq h9.2.2.2.size ⟨h9.1, HG10.out.alloc _, h9.2.1, h9.2.2.1, h9.2.2.2, Nat.le_refl _⟩ two_kids ⟨hgk0, hz10⟩ (HG10.out.alloc _).lt ?_
  intro D0 pre w10 hD0 hpre hp2 hB hd0
  have hDw : w.heap.size ≤ D0 := Nat.le_trans h9.2.2.2.size hD0
  have h10 : Blk w10 g10 3 #[.int .i64 2] := by have := hB.2.1; rw [hp2] at this; exact this
  have HC := Lib.hid (drained hpre hp2)
  have HB : Hid (FewAt w10 gk 4 (drainF kC pre) ∧ Blk w10 g10 3 #[.int .i64 2] ∧ Blk w10 g8 24 #[.pointer (some ⟨gk, 0, none⟩)] ∧ Blk w10 g0 4 #[.bool false] ∧ Below w.heap.size w w10 ∧ w10.heap[D0]? = some (.deferred (some []))) := Lib.hid ⟨hB.1, h10, hB.2.2.1, hB.2.2.2.1, hB.2.2.2.2.1, hd0⟩
  clear hq cq h9 hD0 hpre hp2 hB hd0 h10 H8 HG10 e8 hz10 hz8
  dsimp only
  refine HK9.out _ _ ?_
  clear HK9
  refine wp_seq_k fun K11 hK => ?_
  have HK11 := Lib.hid hK
  clear hK
  go_wp2_with fail
  refine HK11.out _ _ ?_
  clear HK11
  have hzb : Blk (w10.alloc (.cells zero50.toArray 66)) w10.heap.size 66 zero50.toArray := Blk.new _ _ _
  have hzc := hzb.cell 49
  have HZ : Hid ((w10.alloc (.cells #[.int .u8 0, .int .u8 0, .int .u8 0, .int .u8 0, .int .u8 0, .int .u8 0, .int .u8 0, .int .u8 0, .int .u8 0, .int .u8 0, .int .u8 0, .int .u8 0, .int .u8 0, .int .u8 0, .int .u8 0, .int .u8 0, .int .i64 0, .int .u32 0, .int .i64 0, .int .u32 0, .int .i64 0, .int .u32 0, .int .i64 0, .int .u32 0, .int .i64 0, .int .u32 0, .int .i64 0, .int .u32 0, .int .i64 0, .int .u32 0, .int .i64 0, .int .u32 0, .int .i64 0, .int .u32 0, .int .i64 0, .int .u32 0, .int .i64 0, .int .u32 0, .int .i64 0, .int .u32 0, .int .i64 0, .int .u32 0, .int .i64 0, .int .u32 0, .int .i64 0, .int .u32 0, .int .i64 0, .int .u32 0, .int .i64 0, .int .i64 0] 66)).cell? ⟨w10.heap.size, 49, none⟩ = some (.int .i64 0)) := Lib.hid hzc
  have HG1 : Hid (w10.grownBy (w10.alloc (.cells #[.int .u8 0, .int .u8 0, .int .u8 0, .int .u8 0, .int .u8 0, .int .u8 0, .int .u8 0, .int .u8 0, .int .u8 0, .int .u8 0, .int .u8 0, .int .u8 0, .int .u8 0, .int .u8 0, .int .u8 0, .int .u8 0, .int .i64 0, .int .u32 0, .int .i64 0, .int .u32 0, .int .i64 0, .int .u32 0, .int .i64 0, .int .u32 0, .int .i64 0, .int .u32 0, .int .i64 0, .int .u32 0, .int .i64 0, .int .u32 0, .int .i64 0, .int .u32 0, .int .i64 0, .int .u32 0, .int .i64 0, .int .u32 0, .int .i64 0, .int .u32 0, .int .i64 0, .int .u32 0, .int .i64 0, .int .u32 0, .int .i64 0, .int .u32 0, .int .i64 0, .int .u32 0, .int .i64 0, .int .u32 0, .int .i64 0, .int .i64 0] 66)) none) := Lib.hid (gbelow (grefl w10) (below_box w10 _))
  have hsz : (w10.alloc (.cells #[.int .u8 0, .int .u8 0, .int .u8 0, .int .u8 0, .int .u8 0, .int .u8 0, .int .u8 0, .int .u8 0, .int .u8 0, .int .u8 0, .int .u8 0, .int .u8 0, .int .u8 0, .int .u8 0, .int .u8 0, .int .u8 0, .int .i64 0, .int .u32 0, .int .i64 0, .int .u32 0, .int .i64 0, .int .u32 0, .int .i64 0, .int .u32 0, .int .i64 0, .int .u32 0, .int .i64 0, .int .u32 0, .int .i64 0, .int .u32 0, .int .i64 0, .int .u32 0, .int .i64 0, .int .u32 0, .int .i64 0, .int .u32 0, .int .i64 0, .int .u32 0, .int .i64 0, .int .u32 0, .int .i64 0, .int .u32 0, .int .i64 0, .int .u32 0, .int .i64 0, .int .u32 0, .int .i64 0, .int .u32 0, .int .i64 0, .int .i64 0] 66)).heap.size = w10.heap.size + 1 := by simp
  clear hzb hzc
  have hgl := Blk.new (w10.alloc (.cells #[.int .u8 0, .int .u8 0, .int .u8 0, .int .u8 0, .int .u8 0, .int .u8 0, .int .u8 0, .int .u8 0, .int .u8 0, .int .u8 0, .int .u8 0, .int .u8 0, .int .u8 0, .int .u8 0, .int .u8 0, .int .u8 0, .int .i64 0, .int .u32 0, .int .i64 0, .int .u32 0, .int .i64 0, .int .u32 0, .int .i64 0, .int .u32 0, .int .i64 0, .int .u32 0, .int .i64 0, .int .u32 0, .int .i64 0, .int .u32 0, .int .i64 0, .int .u32 0, .int .i64 0, .int .u32 0, .int .i64 0, .int .u32 0, .int .i64 0, .int .u32 0, .int .i64 0, .int .u32 0, .int .i64 0, .int .u32 0, .int .i64 0, .int .u32 0, .int .i64 0, .int .u32 0, .int .i64 0, .int .u32 0, .int .i64 0, .int .i64 0] 66)) 24 #[.pointer none, .pointer (some ⟨w10.heap.size, 0, none⟩)]
  have HG2 := Lib.hid (gbelow HG1.out (below_box (w10.alloc (.cells #[.int .u8 0, .int .u8 0, .int .u8 0, .int .u8 0, .int .u8 0, .int .u8 0, .int .u8 0, .int .u8 0, .int .u8 0, .int .u8 0, .int .u8 0, .int .u8 0, .int .u8 0, .int .u8 0, .int .u8 0, .int .u8 0, .int .i64 0, .int .u32 0, .int .i64 0, .int .u32 0, .int .i64 0, .int .u32 0, .int .i64 0, .int .u32 0, .int .i64 0, .int .u32 0, .int .i64 0, .int .u32 0, .int .i64 0, .int .u32 0, .int .i64 0, .int .u32 0, .int .i64 0, .int .u32 0, .int .i64 0, .int .u32 0, .int .i64 0, .int .u32 0, .int .i64 0, .int .u32 0, .int .i64 0, .int .u32 0, .int .i64 0, .int .u32 0, .int .i64 0, .int .u32 0, .int .i64 0, .int .u32 0, .int .i64 0, .int .i64 0] 66)) (.cells #[.pointer none, .pointer (some ⟨w10.heap.size, 0, none⟩)] 24)))
  have hnr : NoRow ((w10.alloc (.cells #[.int .u8 0, .int .u8 0, .int .u8 0, .int .u8 0, .int .u8 0, .int .u8 0, .int .u8 0, .int .u8 0, .int .u8 0, .int .u8 0, .int .u8 0, .int .u8 0, .int .u8 0, .int .u8 0, .int .u8 0, .int .u8 0, .int .i64 0, .int .u32 0, .int .i64 0, .int .u32 0, .int .i64 0, .int .u32 0, .int .i64 0, .int .u32 0, .int .i64 0, .int .u32 0, .int .i64 0, .int .u32 0, .int .i64 0, .int .u32 0, .int .i64 0, .int .u32 0, .int .i64 0, .int .u32 0, .int .i64 0, .int .u32 0, .int .i64 0, .int .u32 0, .int .i64 0, .int .u32 0, .int .i64 0, .int .u32 0, .int .i64 0, .int .u32 0, .int .i64 0, .int .u32 0, .int .i64 0, .int .u32 0, .int .i64 0, .int .i64 0] 66)).alloc (.cells #[.pointer none, .pointer (some ⟨w10.heap.size, 0, none⟩)] 24)) (some ⟨w10.heap.size, 0, none⟩) := NoRow.below (.inr ⟨_, rfl, HZ.out⟩) (below_box _ _)
  rw [hsz] at hgl
  clear HZ HG1 hsz
  generalize (w10.alloc (.cells #[.int .u8 0, .int .u8 0, .int .u8 0, .int .u8 0, .int .u8 0, .int .u8 0, .int .u8 0, .int .u8 0, .int .u8 0, .int .u8 0, .int .u8 0, .int .u8 0, .int .u8 0, .int .u8 0, .int .u8 0, .int .u8 0, .int .i64 0, .int .u32 0, .int .i64 0, .int .u32 0, .int .i64 0, .int .u32 0, .int .i64 0, .int .u32 0, .int .i64 0, .int .u32 0, .int .i64 0, .int .u32 0, .int .i64 0, .int .u32 0, .int .i64 0, .int .u32 0, .int .i64 0, .int .u32 0, .int .i64 0, .int .u32 0, .int .i64 0, .int .u32 0, .int .i64 0, .int .u32 0, .int .i64 0, .int .u32 0, .int .i64 0, .int .u32 0, .int .i64 0, .int .u32 0, .int .i64 0, .int .u32 0, .int .i64 0, .int .i64 0] 66)).alloc (.cells #[.pointer none, .pointer (some ⟨w10.heap.size, 0, none⟩)] 24) = w11 at hgl HG2 hnr ⊢
  obtain ⟨gz, hgz⟩ : ∃ g, g = w10.heap.size := ⟨_, rfl⟩
  obtain ⟨gl, hgl1⟩ : ∃ g, g = w10.heap.size + 1 := ⟨_, rfl⟩
  rw [← hgl1, ← hgz] at hgl
  rw [← hgz] at hnr
  rw [← hgl1]
  have HL := Lib.hid (And.intro hgl hnr)
  clear hgl hnr hgz hgl1
  refine wp_seq_k fun K12 hK => ?_
  have HK12 := Lib.hid hK
  clear hK
  refine wp_seq_k fun K13 hK => ?_
  have HK13 := Lib.hid hK
  clear hK
  go_wp2_with fail
  refine HK13.out _ _ ?_
  clear HK13
  refine wp_block ?_
  refine wp_loop_rounds 3 ?_
  refine none_round g0 gl 0 none w11 (by decide) (HL.out.1.cell 0) (.inl rfl) (HB.out.2.2.2.1.grown HG2.out (by simp)) ?_
  intros
  rename_i D1 w12 hD1 hg12 hd1
  have HD1 := Lib.hid (And.intro hD1 (And.intro hg12 hd1))
  clear hD1 hg12 hd1
  dsimp only
  refine none_round g0 gl 1 (some ⟨gz, 0, none⟩) w12 (by decide) ((HL.out.1.grown HD1.out.2.1 (by simp)).cell 1) (HL.out.2.gr HD1.out.2.1) ((HB.out.2.2.2.1.grown HG2.out (by simp)).grown HD1.out.2.1 (by simp)) ?_
  intros
  rename_i D2 w13 hD2 hg13 hd2
  have HD2 := Lib.hid (And.intro hD2 (And.intro hg13 hd2))
  clear hD2 hg13 hd2
  dsimp only
  show Code.wp _ _ _ _ _
  go_wp2_with fail
  refine HK12.out _ _ ?_
  clear HK12
  have hG13 := gnone (gnone HG2.out HD1.out.2.1 (fun r e => by cases e)) HD2.out.2.1 (fun r e => by cases e)
  have e10 := (HB.out.2.1.grown hG13 (by simp)).cell 0
  have e8 := (HB.out.2.2.1.grown hG13 (by simp)).cell 0
  simp at e10 e8
  have hfk := HB.out.1.kept hG13 (by simp)
  have hLn := Len_k gk 4 _ w13 hfk
  rw [HC.out] at hLn
  have HLN : Hid (Calls Try.prog 13 #[.pointer (some ⟨gk, 0, none⟩)] w13 (StayEnd (.int .i64 0) w13)) := Lib.hid hLn
  have hl0 : D0 < w10.heap.size := (Array.getElem?_eq_some_iff.1 HB.out.2.2.2.2.2).1
  have hl1 : D1 < w12.heap.size := (Array.getElem?_eq_some_iff.1 HD1.out.2.2).1
  have hl2 : D2 < w13.heap.size := (Array.getElem?_eq_some_iff.1 HD2.out.2.2).1
  have hq0 : g0 < w10.heap.size := HB.out.2.2.2.1.lt
  have hs1 := HG2.out.size
  have hs2 := HD1.out.1
  have hs3 := HD2.out.1
  have hs4 := HD1.out.2.1.size
  have hs5 := HD2.out.2.1.size
  have hne0 : D0 ≠ g0 := fun e => by
    have h1 := HB.out.2.2.2.1
    have h2 := HB.out.2.2.2.2.2
    unfold Blk at h1
    rw [e, h1] at h2
    cases h2
  have H13 : Hid (Blk w13 g0 4 #[.bool false] ∧ Below w.heap.size w w13 ∧ w13.heap[D0]? = some (.deferred (some [])) ∧ w13.heap[D1]? = some (.deferred (some [])) ∧ w13.heap[D2]? = some (.deferred (some []))) := Lib.hid
    ⟨HB.out.2.2.2.1.grown hG13 (by simp), HB.out.2.2.2.2.1.grown hG13 HB.out.2.2.2.2.1.size (fun k e => by cases e), (hG13.block D0 hl0 (by simp)).trans HB.out.2.2.2.2.2, (HD2.out.2.1.block D1 hl1 (by simp)).trans HD1.out.2.2, HD2.out.2.2⟩
  have HSZ := Lib.hid (And.intro hs1 (And.intro hs2 (And.intro hs3 (And.intro hs4 (And.intro hs5 (And.intro hl0 (And.intro hl1 (And.intro hl2 (And.intro hq0 hne0)))))))))
  clear hG13 hfk hLn HL HG2 HD1 HD2 HB HC hs1 hs2 hs3 hs4 hs5 hl0 hl1 hl2 hq0 hne0
  go_wp2_with fail
  refine HLN.out.mono ?_
  rintro e w14 ⟨rfl, rfl⟩
  clear HLN
  go_wp2_with fail
  refine (HAW.out _).mono ?_
  rintro e w15 ⟨rfl, hb15⟩
  have hk0 := H13.out.1.below hb15 H13.out.1.lt
  have e0 := hk0.cell 0
  have f0 := hk0.frozen 0
  have l0 := hk0.lt
  simp at e0
  have H15 : Hid (Below w.heap.size w w15 ∧ w15.heap[D0]? = some (.deferred (some [])) ∧ w15.heap[D1]? = some (.deferred (some [])) ∧ w15.heap[D2]? = some (.deferred (some []))) := Lib.hid
    ⟨H13.out.2.1.trans (hb15.mono H13.out.2.1.size), (hb15.block D0 (Array.getElem?_eq_some_iff.1 H13.out.2.2.1).1).trans H13.out.2.2.1, (hb15.block D1 (Array.getElem?_eq_some_iff.1 H13.out.2.2.2.1).1).trans H13.out.2.2.2.1, (hb15.block D2 (Array.getElem?_eq_some_iff.1 H13.out.2.2.2.2).1).trans H13.out.2.2.2.2⟩
  clear hk0 hb15 H13 e10 e8
  go_wp2_with fail
  obtain ⟨hs1, hs2, hs3, hs4, hs5, hl0, hl1, hl2, hq0, hne0⟩ := HSZ.out
  have hg0 := HG0.out
  have hd2 : (w15.setCell ⟨g0, 0, none⟩ (.bool true)).heap[D2]? = some (.deferred (some [])) := (Below.heap_setCell _ _ _ _ (by simp; omega)).trans H15.out.2.2.2
  have hd1 : ((w15.setCell ⟨g0, 0, none⟩ (.bool true)).putObj D2 (.deferred none)).heap[D1]? = some (.deferred (some [])) := (World.putObj_heap_other (by omega)).trans ((Below.heap_setCell _ _ _ _ (by simp; omega)).trans H15.out.2.2.1)
  have hd0 : (((w15.setCell ⟨g0, 0, none⟩ (.bool true)).putObj D2 (.deferred none)).putObj D1 (.deferred none)).heap[D0]? = some (.deferred (some [])) := (World.putObj_heap_other (by omega)).trans ((World.putObj_heap_other (by omega)).trans ((Below.heap_setCell _ _ _ _ (by simp; omega)).trans H15.out.2.1))
  refine ⟨by simp, .inl ⟨_, _, rfl, run_takeDeferred hd2, ?_⟩⟩
  refine ⟨by simp, .inl ⟨_, _, rfl, run_takeDeferred hd1, ?_⟩⟩
  refine ⟨by simp, .inl ⟨_, _, rfl, run_takeDeferred hd0, ?_⟩⟩
  have hc0 : ((((w15.setCell ⟨g0, 0, none⟩ (.bool true)).putObj D2 (.deferred none)).putObj D1 (.deferred none)).putObj D0 (.deferred none)).cell? ⟨g0, 0, none⟩ = some (.bool true) :=
    (World.cell?_of_block (World.putObj_heap_other (k := g0) (by omega))).trans ((World.cell?_of_block (World.putObj_heap_other (k := g0) (by omega))).trans ((World.cell?_of_block (World.putObj_heap_other (k := g0) (by omega))).trans (World.cell?_setCell_same' _ _ _ (by rw [e0]; rfl))))
  refine ⟨.bool true, by simp [results, Try.results7, go_sem, hc0], rfl, (H15.out.1.setCell (p := ⟨g0, 0, none⟩) (by simp; omega) _).trans ⟨rfl, rfl, rfl, by simp [World.putObj], fun k hk => (World.putObj_heap_other (by omega)).trans ((World.putObj_heap_other (by omega)).trans (World.putObj_heap_other (by omega)))⟩⟩
end Go.Proofs.Ytmcpfhhggapkcaa
