/-
  Walks, layer 7: awake.
-/
import Derived.Test.YtmcpfhhggapkcaaFewW5
namespace Go.Proofs.Ytmcpfhhggapkcaa
open Go.RowKit
set_option linter.unusedVariables false
set_option linter.unusedSimpArgs false

def k1 : Kids := setK noKids 9 (some (1, 1))
def k2 : Kids := setK k1 3 (some (1, 1))
def k3 : Kids := setK k2 7 (some (1, 1))
def k4 : Kids := setK k3 1 (some (1, 1))
def k5 : Kids := setK k4 3 none
theorem put_new {room : Int} {f : Kids} {b : Nat} {r : Int × Int} (h1 : (f b).isSome = false) (h2 : (cntK f : Int) ≠ room) : putK room f b r = (0, setK f b (some r)) := by
  unfold putK; rw [h1, if_neg (by simp), if_neg h2]
theorem p1 : putK 4 noKids 9 (1, 1) = (0, k1) := put_new (by decide +kernel) (by decide +kernel)
theorem p2 : putK 4 k1 3 (1, 1) = (0, k2) := put_new (by decide +kernel) (by decide +kernel)
theorem p3 : putK 4 k2 7 (1, 1) = (0, k3) := put_new (by decide +kernel) (by decide +kernel)
theorem p4 : putK 4 k3 3 (1, 1) = (8, k3) := by unfold putK; rw [if_pos (by decide +kernel)]
theorem p5 : putK 4 k3 1 (1, 1) = (0, k4) := put_new (by decide +kernel) (by decide +kernel)
theorem p6 : putK 4 k4 2 (1, 1) = (14, k4) := by unfold putK; rw [if_neg (by decide +kernel), if_pos (by decide +kernel)]
theorem p7 : takeK k4 3 = (((1, 1), 0), k5) := by
  have h : k4 3 = some (1, 1) := by decide +kernel
  unfold takeK; rw [h]; rfl
theorem p8 : nextK k3 4 = (7, ((1, 1), true)) := by decide +kernel
theorem p9 : nextK k5 0 = (1, ((1, 1), true)) := by decide +kernel
theorem p10 : cntK k5 = 3 := by decide +kernel
theorem put_at (room : Int) (f f' : Kids) (b : Nat) (r : Int × Int) (c : Int) (hp : putK room f b r = (c, f')) (hb : b < 256) (g : Nat) (V : World) (h : FewAt V g room f) :
    Calls Try.prog 10 #[.pointer (some ⟨g, 0, none⟩), .int .u8 (b : Int), .agg #[.int .i64 r.1, .int .u32 r.2]] V (FewEnd (.int .i64 c) g room f' V) := by
  have := Put_k g room f b r V h hb
  rw [hp] at this
  exact this

set_option maxHeartbeats 3200000 in
set_option maxRecDepth 100000 in
theorem awake_any (w : World) : Calls Try.prog 8 #[] w (BoolEnd true w) := by
  go_enter Try.func8, Try.ntmps8
  refine wp_seq_k fun K0 hK => ?_
  have HK0 := Lib.hid hK
  clear hK
  go_wp2_with fail
  refine HK0.out _ _ ?_
  clear HK0 K0
  refine wp_seq_k fun K0 hK => ?_
  have HK0 := Lib.hid hK
  clear hK
  go_wp2_with fail
  refine (new_4 w).mono ?_
  rintro e w1 ⟨g, rfl, hf, hg, hb⟩
  have H0 := Lib.hid (And.intro hf hb)
  clear hf hb
  go_wp2_with fail
  refine HK0.out _ _ ?_
  clear HK0 K0
  refine wp_seq_k fun K0 hK => ?_
  have HK0 := Lib.hid hK
  clear hK
  have hx := Blk.new w1 31 #[.int .i64 1, .int .u32 1]
  have hf := H0.out.1.alloc (.cells #[.int .i64 1, .int .u32 1] 31)
  have hb := below_alloc H0.out.2 (.cells #[.int .i64 1, .int .u32 1] 31)
  have hgx : some w1.heap.size ≠ some g := by have := H0.out.1.lt; intro e; injection e with e; omega
  have H1 := Lib.hid (And.intro hf (And.intro hx hb))
  have HGX := Lib.hid hgx
  clear hf hx hb H0 hgx
  go_wp2_with fail
  refine HK0.out _ _ ?_
  clear HK0 K0
  generalize w1.alloc (.cells #[.int .i64 1, .int .u32 1] 31) = W1 at H1 ⊢
  generalize w1.heap.size = gx at *
  clear w1
  have q0 := H1.out.2.1.cell 0
  have q1 := H1.out.2.1.cell 1
  simp at q0 q1
  have P1 : Hid (∀ V, FewAt V g 4 noKids → Calls Try.prog 10 #[.pointer (some ⟨g, 0, none⟩), .int .u8 9, .agg #[.int .i64 1, .int .u32 1]] V (FewEnd (.int .i64 0) g 4 k1 V)) := Lib.hid (fun V h => put_at 4 noKids k1 9 (1, 1) 0 p1 (by decide) g V h)
  have P2 : Hid (∀ V, FewAt V g 4 k1 → Calls Try.prog 10 #[.pointer (some ⟨g, 0, none⟩), .int .u8 3, .agg #[.int .i64 1, .int .u32 1]] V (FewEnd (.int .i64 0) g 4 k2 V)) := Lib.hid (fun V h => put_at 4 k1 k2 3 (1, 1) 0 p2 (by decide) g V h)
  have P3 : Hid (∀ V, FewAt V g 4 k2 → Calls Try.prog 10 #[.pointer (some ⟨g, 0, none⟩), .int .u8 7, .agg #[.int .i64 1, .int .u32 1]] V (FewEnd (.int .i64 0) g 4 k3 V)) := Lib.hid (fun V h => put_at 4 k2 k3 7 (1, 1) 0 p3 (by decide) g V h)
  have P4 : Hid (∀ V, FewAt V g 4 k3 → Calls Try.prog 10 #[.pointer (some ⟨g, 0, none⟩), .int .u8 3, .agg #[.int .i64 1, .int .u32 1]] V (FewEnd (.int .i64 8) g 4 k3 V)) := Lib.hid (fun V h => put_at 4 k3 k3 3 (1, 1) 8 p4 (by decide) g V h)
  have P5 : Hid (∀ V, FewAt V g 4 k3 → Calls Try.prog 10 #[.pointer (some ⟨g, 0, none⟩), .int .u8 1, .agg #[.int .i64 1, .int .u32 1]] V (FewEnd (.int .i64 0) g 4 k4 V)) := Lib.hid (fun V h => put_at 4 k3 k4 1 (1, 1) 0 p5 (by decide) g V h)
  have P6 : Hid (∀ V, FewAt V g 4 k4 → Calls Try.prog 10 #[.pointer (some ⟨g, 0, none⟩), .int .u8 2, .agg #[.int .i64 1, .int .u32 1]] V (FewEnd (.int .i64 14) g 4 k4 V)) := Lib.hid (fun V h => put_at 4 k4 k4 2 (1, 1) 14 p6 (by decide) g V h)
  refine wp_seq_k fun K0 hK => ?_
  have HK0 := Lib.hid hK
  clear hK
  go_region_held3 (fun V => V.cell? ⟨gx, 0, none⟩ = some (.int .i64 1) ∧ V.cell? ⟨gx, 1, none⟩ = some (.int .u32 1))
    (first | exact ⟨q0, q1⟩ | exact ⟨q2, q3⟩ | exact ⟨q4, q5⟩ | exact ⟨q6, q7⟩)
    (first
      | (go_at_call 10; (with_reducible refine (P1.out _ H1.out.1.drew).mono ?_); rintro e wa ⟨rfl, hf1, hw1⟩; have hx1 := H1.out.2.1.drew.grown hw1 HGX.out; have q2 := hx1.cell 0; have q3 := hx1.cell 1; simp at q2 q3)
      | (go_at_call 10; (with_reducible refine (P2.out _ hf1).mono ?_); rintro e wb ⟨rfl, hf2, hw2⟩; have hx2 := hx1.grown hw2 HGX.out; have q4 := hx2.cell 0; have q5 := hx2.cell 1; simp at q4 q5)
      | (go_at_call 10; (with_reducible refine (P3.out _ hf2).mono ?_); rintro e wc ⟨rfl, hf3, hw3⟩; have hx3 := hx2.grown hw3 HGX.out; have q6 := hx3.cell 0; have q7 := hx3.cell 1; simp at q6 q7))
  refine HK0.out _ _ ?_
  clear HK0
  have hbel : Below w.heap.size w wc := ((H1.out.2.2.drew.grown hw1 (by have := H1.out.2.2.size; simpa using this) (fun k e => by cases e; exact hg)).grown hw2 (by have := H1.out.2.2.size; have := hw1.size; simp at this; omega) (fun k e => by cases e; exact hg)).grown hw3 (by have := H1.out.2.2.size; have := hw1.size; have := hw2.size; simp at *; omega) (fun k e => by cases e; exact hg)
  have H3 := Lib.hid (And.intro hf3 (And.intro hx3 hbel))
  clear q0 q1 q2 q3 q4 q5 q6 q7 hf1 hw1 hx1 hf2 hw2 hx2 hf3 hw3 hx3 hbel P1 P2 P3 H1
  refine wp_seq_k fun K0 hK => ?_
  have HK0 := Lib.hid hK
  clear hK
  have n1 := Next_k g 4 k3 4 wc H3.out.1
  rw [p8] at n1
  have N1 := Lib.hid n1
  clear n1
  go_wp2_with fail
  refine N1.out.mono ?_
  rintro e w4 ⟨rfl, hb4⟩
  have hf4 := (H3.out.1.below hb4).alloc (.cells #[.int .i64 1, .int .u32 1] 31)
  have hx4 := (H3.out.2.1.below hb4 H3.out.2.1.lt).alloc (.cells #[.int .i64 1, .int .u32 1] 31)
  have hy4 := Blk.new w4 31 #[.int .i64 1, .int .u32 1]
  have hbel := below_alloc (below_trans H3.out.2.2 hb4) (.cells #[.int .i64 1, .int .u32 1] 31)
  have hgy : some w4.heap.size ≠ some g := by have := (H3.out.1.below hb4).lt; intro e; injection e with e; omega
  have hgy2 : w4.heap.size ≠ g := fun e => hgy (by rw [e])
  have HGY := Lib.hid hgy
  have H4 := Lib.hid (And.intro hf4 (And.intro hx4 (And.intro hy4 hbel)))
  clear hf4 hx4 hy4 hbel hb4 H3 N1 hgy hgy2
  go_wp2_with fail
  refine HK0.out _ _ ?_
  clear HK0 K0
  generalize w4.alloc (.cells #[.int .i64 1, .int .u32 1] 31) = W4 at H4 ⊢
  generalize w4.heap.size = gy at *
  clear w4
  have q0 := H4.out.2.1.cell 0
  have q1 := H4.out.2.1.cell 1
  simp at q0 q1
  refine wp_seq_k fun K0 hK => ?_
  have HK0 := Lib.hid hK
  clear hK
  go_region_held3 (fun V => V.cell? ⟨gx, 0, none⟩ = some (.int .i64 1) ∧ V.cell? ⟨gx, 1, none⟩ = some (.int .u32 1))
    (first | exact ⟨q0, q1⟩ | exact ⟨q2, q3⟩ | exact ⟨q4, q5⟩ | exact ⟨q6, q7⟩)
    (first
      | (go_at_call 10; (with_reducible refine (P4.out _ H4.out.1.drew).mono ?_); rintro e wa ⟨rfl, hf1, hw1⟩; have hx1 := H4.out.2.1.drew.grown hw1 HGX.out; have q2 := hx1.cell 0; have q3 := hx1.cell 1; simp at q2 q3)
      | (go_at_call 10; (with_reducible refine (P5.out _ hf1).mono ?_); rintro e wb ⟨rfl, hf2, hw2⟩; have hx2 := hx1.grown hw2 HGX.out; have q4 := hx2.cell 0; have q5 := hx2.cell 1; simp at q4 q5)
      | (go_at_call 10; (with_reducible refine (P6.out _ hf2).mono ?_); rintro e wd ⟨rfl, hf3, hw3⟩; have hx3 := hx2.grown hw3 HGX.out; have q6 := hx3.cell 0; have q7 := hx3.cell 1; simp at q6 q7))
  refine HK0.out _ _ ?_
  clear HK0
  have hbel : Below w.heap.size w wd := ((H4.out.2.2.2.drew.grown hw1 (by have := H4.out.2.2.2.size; simpa using this) (fun k e => by cases e; exact hg)).grown hw2 (by have := H4.out.2.2.2.size; have := hw1.size; simp at this; omega) (fun k e => by cases e; exact hg)).grown hw3 (by have := H4.out.2.2.2.size; have := hw1.size; have := hw2.size; simp at *; omega) (fun k e => by cases e; exact hg)
  have hy3 := ((H4.out.2.2.1.drew.grown hw1 HGY.out).grown hw2 HGY.out).grown hw3 HGY.out
  have H5 := Lib.hid (And.intro hf3 (And.intro hx3 (And.intro hy3 hbel)))
  clear q0 q1 q2 q3 q4 q5 q6 q7 hf1 hw1 hx1 hf2 hw2 hx2 hf3 hw3 hx3 hbel hy3 P4 P5 P6 H4
  refine wp_seq_k fun K0 hK => ?_
  have HK0 := Lib.hid hK
  clear hK
  have t1 := Take_k g 4 k4 3 wd H5.out.1 (by decide)
  rw [p7] at t1
  have T1 := Lib.hid t1
  clear t1
  go_wp2_with fail
  refine T1.out.mono ?_
  rintro e w5 ⟨rfl, hf5, hw5⟩
  have hsz5 : w.heap.size ≤ wd.heap.size := H5.out.2.2.2.size
  have hg5 : g < w5.heap.size := hf5.lt
  have H6 := Lib.hid (And.intro (hf5.alloc (.cells #[.int .i64 1, .int .u32 1] 31)) (And.intro ((H5.out.2.1.grown hw5 HGX.out).alloc (.cells #[.int .i64 1, .int .u32 1] 31)) (And.intro ((H5.out.2.2.1.grown hw5 HGY.out).alloc (.cells #[.int .i64 1, .int .u32 1] 31)) (And.intro (Blk.new w5 31 #[.int .i64 1, .int .u32 1])
    (below_alloc (H5.out.2.2.2.grown hw5 hsz5 (fun k e => by cases e; exact hg)) (.cells #[.int .i64 1, .int .u32 1] 31))))))
  clear hf5 hw5 H5 T1
  go_wp2_with fail
  refine HK0.out _ _ ?_
  clear HK0 K0
  generalize w5.alloc (.cells #[.int .i64 1, .int .u32 1] 31) = W5 at H6 ⊢
  generalize w5.heap.size = gz at *
  clear w5 hg5
  refine wp_seq_k fun K0 hK => ?_
  have HK0 := Lib.hid hK
  clear hK
  have n1 := Next_k g 4 k5 0 W5 H6.out.1
  rw [p9] at n1
  have N1 := Lib.hid n1
  clear n1
  go_wp2_with fail
  refine N1.out.mono ?_
  rintro e w6 ⟨rfl, hb6⟩
  have hf6 := (H6.out.1.below hb6).alloc (.cells #[.int .i64 1, .int .u32 1] 31)
  have hx6 := (H6.out.2.1.below hb6 H6.out.2.1.lt).alloc (.cells #[.int .i64 1, .int .u32 1] 31)
  have hy6 := (H6.out.2.2.1.below hb6 H6.out.2.2.1.lt).alloc (.cells #[.int .i64 1, .int .u32 1] 31)
  have hz6 := (H6.out.2.2.2.1.below hb6 H6.out.2.2.2.1.lt).alloc (.cells #[.int .i64 1, .int .u32 1] 31)
  have hbel := below_alloc (below_trans H6.out.2.2.2.2 hb6) (.cells #[.int .i64 1, .int .u32 1] 31)
  have H7 := Lib.hid (And.intro hf6 hbel)
  clear hf6 hbel hb6 H6 N1
  go_wp2_with fail
  refine HK0.out _ _ ?_
  clear HK0 K0
  generalize w6.alloc (.cells #[.int .i64 1, .int .u32 1] 31) = W6 at H7 hx6 hy6 hz6 ⊢
  generalize w6.heap.size = gw at *
  clear w6
  have q0 := hx6.cell 0
  have q1 := hx6.cell 1
  have r0 := hy6.cell 0
  have r1 := hy6.cell 1
  have s0 := hz6.cell 0
  have s1 := hz6.cell 1
  simp at q0 q1 r0 r1 s0 s1
  clear hx6 hy6 hz6
  have l1 := Len_k g 4 k5 W6 H7.out.1
  rw [p10] at l1
  have L1 := Lib.hid l1
  clear l1
  go_wp2_with fail
  refine L1.out.mono ?_
  rintro e w7 ⟨rfl, rfl⟩
  go_wp2
  go_ret
  exact ⟨rfl, H7.out.2⟩
end Go.Proofs.Ytmcpfhhggapkcaa
