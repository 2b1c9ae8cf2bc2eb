/-
  Layer 23: Pick where nobody can go on; Ask.
-/
import Derived.Test.YtagcbihjejjmnaaWvW4
namespace Go.Proofs.Ytagcbihjejjmnaa
open Go.RowKit
set_option linter.unusedVariables false
set_option linter.unusedSimpArgs false

set_option maxHeartbeats 3200000 in
set_option maxRecDepth 100000 in
theorem Pick_no {W : World} {B p gl S : Nat} {J : List Jb} {k : Int} {vj : Value} {b : Nat → Nat} {r : Nat → Value} {x : Int} (h : WvAt W B p gl S J k vj b r) (hk0 : 0 ≤ k) (hk1 : k < 4611686018427387904) (hBW : B ≤ W.heap.size) (hno : canJ S J = []) : Calls Try.prog 11 #[.pointer (some ⟨p, 0, none⟩), .int .i64 x] W (PickNo B p gl S J k vj b r W) := by
  have hb0 := below_box W (.cells #[.int .i64 0, .int .i64 0, .bool false, .bool false] 37)
  have HZ := Lib.hid (And.intro (zero_turn W) (And.intro (h.below hb0) hb0))
  clear h hb0
  go_enter Try.func11, Try.ntmps11
  refine wp_seq_k fun K0 hK => ?_
  have HK0 := Lib.hid hK
  clear hK
  go_wp2_with fail
  refine HK0.out _ _ ?_
  clear HK0
  generalize W.alloc (.cells #[.int .i64 0, .int .i64 0, .bool false, .bool false] 37) = W1 at HZ ⊢
  obtain ⟨g4, hg4⟩ : ∃ g, W.heap.size = g := ⟨_, rfl⟩
  have HG := Lib.hid hg4
  rw [hg4] at HZ ⊢
  clear hg4
  refine wp_seq_k fun K0 hK => ?_
  have HK0 := Lib.hid hK
  clear hK
  refine wp_seq_k fun K1 hK => ?_
  have HK1 := Lib.hid hK
  clear hK
  go_wp2_with fail
  refine (made_w HZ.out.2.1).mono ?_
  rintro e w1 ⟨rfl, rfl⟩
  go_wp2_with fail
  refine HK1.out _ _ ?_
  clear HK1
  go_wp2_with fail
  refine HK0.out _ _ ?_
  clear HK0
  have c2 : _ = some (Value.int .i64 k) := HZ.out.2.1.pb.cell 2
  have f2 := HZ.out.2.1.pb.frozen 2
  have kw : IntKind.i64.wrap (k + 1) = k + 1 := IntWalk.i64_in _ (by omega)
  refine wp_seq_k fun K0 hK => ?_
  have HK0 := Lib.hid hK
  clear hK
  go_wp2_with fail
  refine HK0.out _ _ ?_
  clear HK0
  clear kw
  have H2 := Lib.hid (pick_two HZ.out.1 HZ.out.2.1 HZ.out.2.2 HG.out hBW (k + 1))
  clear c2 f2
  generalize W1.setCell ⟨p, 2, none⟩ (.int .i64 (k + 1)) = W2 at H2 ⊢
  refine wp_seq_k fun K0 hK => ?_
  have HK0 := Lib.hid hK
  clear hK
  go_wp2_with fail
  refine (Can_w H2.out.2.1).mono ?_
  rintro e W3 ⟨A, c, rfl, hown, hb3⟩
  have H3 := Lib.hid (And.intro (H2.out.1.below hb3 H2.out.1.lt) (And.intro (H2.out.2.1.below hb3) (And.intro (H2.out.2.2.trans (WKeep.of_below hb3 (Nat.le_trans hBW H2.out.2.2.below.size))) hown)))
  clear hown hb3
  go_wp2_with fail
  refine HK0.out _ _ ?_
  clear HK0
  have hl0 : (canJ S J).length = 0 := by rw [hno]; rfl
  have z0 : W3.cell? ⟨g4, 0, none⟩ = some (.int .i64 0) := H3.out.1.cell 0
  have z1 : W3.cell? ⟨g4, 1, none⟩ = some (.int .i64 0) := H3.out.1.cell 1
  have z2 : W3.cell? ⟨g4, 2, none⟩ = some (.bool false) := H3.out.1.cell 2
  have z3 : W3.cell? ⟨g4, 3, none⟩ = some (.bool false) := H3.out.1.cell 3
  have zf := fun i => H3.out.1.frozen i
  clear hl0 hno
  go_wp2_with fail
  have H8 := Lib.hid (And.intro ((((H3.out.1.set_ 0 (.int .i64 0)).set_ 1 (.int .i64 0)).set_ 2 (.bool false)).set_ 3 (.bool false)) (And.intro ((((H3.out.2.1.farT H3.out.1 0 (.int .i64 0)).farT (H3.out.1.set_ 0 (.int .i64 0)) 1 (.int .i64 0)).farT ((H3.out.1.set_ 0 (.int .i64 0)).set_ 1 (.int .i64 0)) 2 (.bool false)).farT (((H3.out.1.set_ 0 (.int .i64 0)).set_ 1 (.int .i64 0)).set_ 2 (.bool false)) 3 (.bool false))
    ((((H3.out.2.2.1.setNew (g := g4) (Nat.le_of_eq HG.out) (by rw [← HG.out]; exact hBW) 0 (.int .i64 0)).setNew (g := g4) (Nat.le_of_eq HG.out) (by rw [← HG.out]; exact hBW) 1 (.int .i64 0)).setNew (g := g4) (Nat.le_of_eq HG.out) (by rw [← HG.out]; exact hBW) 2 (.bool false)).setNew (g := g4) (Nat.le_of_eq HG.out) (by rw [← HG.out]; exact hBW) 3 (.bool false))))
  clear z0 z1 z2 z3 zf
  generalize (((W3.setCell ⟨g4, 0, none⟩ (.int .i64 0)).setCell ⟨g4, 1, none⟩ (.int .i64 0)).setCell ⟨g4, 2, none⟩ (.bool false)).setCell ⟨g4, 3, none⟩ (.bool false) = W6 at H8 ⊢
  have r0 : W6.cell? ⟨g4, 0, none⟩ = some (.int .i64 0) := H8.out.1.cell 0
  have r1 : W6.cell? ⟨g4, 1, none⟩ = some (.int .i64 0) := H8.out.1.cell 1
  have r2 : W6.cell? ⟨g4, 2, none⟩ = some (.bool false) := H8.out.1.cell 2
  have r3 : W6.cell? ⟨g4, 3, none⟩ = some (.bool false) := H8.out.1.cell 3
  refine bodyPost_ret (v := .tuple #[turnV 0 0 false false, .bool false]) (by simp [results, Try.results11, go_sem, r0, r1, r2, r3]) rfl ⟨rfl, H8.out.2.1, H8.out.2.2⟩
theorem infoPtr : (Try.prog.info? 28).map (fun i => (i.zero, i.size, i.bytes)) = some (some (.pointer none), 1, 8) := by kernel_rfl
theorem infoIntA : (Try.prog.info? 3).map (fun i => (i.zero, i.size, i.bytes)) = some (some (.int .i64 0), 1, 8) := by kernel_rfl
/-- Blocks of what asking does not write, of jobs too. -/
def AskEnd (B p gl S : Nat) (J : List Jb) (k : Int) (b : Nat → Nat) (s t g : Nat) (W : World) (e : Ending) (w' : World) : Prop :=
  e = .returned (.tuple #[.int .i64 (J.length : Nat), .int .i64 0]) ∧ (∃ vj' r', WvAt w' B p gl S (J ++ [⟨s, t, 0⟩]) k vj' (fun i => if i = J.length then g else b i) r') ∧ WKeep AskT B W w'
def AskNo (err : Int) (W : World) (e : Ending) (w' : World) : Prop := e = .returned (.tuple #[.int .i64 0, .int .i64 err]) ∧ W = w'
theorem Ask_range {W : World} {B p gl S : Nat} {J : List Jb} {k : Int} {vj : Value} {b : Nat → Nat} {r : Nat → Value} (h : WvAt W B p gl S J k vj b r) {x : Int} {v : Value} (hx : x < 0 ∨ (S : Int) ≤ x) :
    Calls Try.prog 9 #[.pointer (some ⟨p, 0, none⟩), .int .i64 x, v] W (AskNo 6 W) := by
  have hm := made_w h
  have ht := there_no h hx
  have HM := Lib.hid (And.intro hm ht)
  clear h hm ht hx
  go_enter Try.func9, Try.ntmps9
  go_wp2_with fail
  refine HM.out.1.mono ?_
  rintro e w1 ⟨rfl, rfl⟩
  go_wp2_with fail
  refine HM.out.2.mono ?_
  rintro e w1 ⟨rfl, rfl⟩
  go_wp2_with fail
  go_ret2
  exact ⟨rfl, rfl⟩
theorem Ask_full {W : World} {B p gl S : Nat} {J : List Jb} {k : Int} {vj : Value} {b : Nat → Nat} {r : Nat → Value} (h : WvAt W B p gl S J k vj b r) {s : Nat} {v : Value} (hs : s < S) (hf : 4096 ≤ J.length) :
    Calls Try.prog 9 #[.pointer (some ⟨p, 0, none⟩), .int .i64 (s : Nat), v] W (AskNo 14 W) := by
  obtain ⟨A, c, hv⟩ := h.len
  have c1 : W.cell? ⟨p, 1, none⟩ = some (Value.slice A J.length c) := by rw [← hv]; exact h.pb.cell 1
  have i1 : (J.length : Int) ≥ 4096 := by omega
  have HM := Lib.hid (And.intro (made_w h) (there_yes h hs))
  clear h hv
  go_enter Try.func9, Try.ntmps9
  go_wp2_with fail
  refine HM.out.1.mono ?_
  rintro e w1 ⟨rfl, rfl⟩
  go_wp2_with fail
  refine HM.out.2.mono ?_
  rintro e w1 ⟨rfl, rfl⟩
  go_wp2_with fail
  go_ret2
  exact ⟨rfl, rfl⟩
/-- Behind the first append: the job is listed. -/
structure AskA (B p gl S : Nat) (J : List Jb) (k : Int) (b : Nat → Nat) (g : Nat) (v2 : Value) (W W3 : World) : Prop where
  pb : Blk W3 p 55 #[.slice (some ⟨gl, 0, none⟩) S S, v2, .int .i64 k]
  j : W3.ownsRow B 28 1 v2 (J.length + 1) ((List.range J.length).map (cntV b) ++ [.pointer (some ⟨g, 0, none⟩)])
  keep : ∀ i t cs, Blk W i t cs → t ≠ 55 → t ≠ 28 → Blk W3 i t cs
  below : Below B W W3
theorem askA_mk {W W2 : World} {B p gl S : Nat} {J : List Jb} {k : Int} {vj : Value} {b : Nat → Nat} {r : Nat → Value} (h : WvAt W B p gl S J k vj b r) {g : Nat} {v2 : Value} {o : Obj} (hown : W2.ownsRow B 28 1 v2 (J.length + 1) ((List.range J.length).map (cntV b) ++ [.pointer (some ⟨g, 0, none⟩)])) (hg : (W.alloc o).grownBy W2 vj.ownBlock) :
    Blk W2 p 55 #[.slice (some ⟨gl, 0, none⟩) S S, vj, .int .i64 k] ∧ AskA B p gl S J k b g v2 W (W2.setCell ⟨p, 1, none⟩ v2) := by
  have hne : ∀ i t cs, Blk W i t cs → t ≠ 28 → Blk W2 i t cs := fun i t cs hb ht => (hb.alloc o).grown hg (fun e => by
    obtain ⟨cs', hb'⟩ := own_blkT h.j e.symm
    exact blk_apart hb hb' ht rfl)
  have hp2 := hne _ _ _ h.pb (by decide)
  have hpl := h.pb.lt
  have hB := h.ge.1
  refine ⟨hp2, hp2.set_ 1 v2, own_same2 hown (fun g' hg' => Below.heap_setCell _ _ _ g' (fun e => ?_)), fun i t cs hb h1 h2 => (hne i t cs hb h2).far (p := ⟨p, 1, none⟩) (blk_apart hb h.pb h1) _, ?_⟩
  · obtain ⟨cs', hb'⟩ := own_blkT hown hg'
    exact blk_apart hb' hp2 (by decide) e
  · have hb1 : Below B W (W.alloc o) := (below_box W o).mono (by omega)
    exact (hb1.grown hg (by simp; omega) (fun i hi => (h.j.lt i hi).1)).setCell (p := ⟨p, 1, none⟩) hB v2
/-- Behind the second: it stands in its session's list. -/
theorem WvAt.ask {W W3 W3' W4 : World} {B p gl S : Nat} {J : List Jb} {k : Int} {vj : Value} {b : Nat → Nat} {r : Nat → Value} (h : WvAt W B p gl S J k vj b r) {s t g : Nat} (hs : s < S) (hf : J.length < 4096) (ht1 : 1 ≤ t) (ht2 : t ≤ 9223372036854775807) (hg : Blk W g 33 #[.int .i64 (t : Nat), .int .i64 0]) (hgB : B ≤ g) (hgn : ∀ i, i < J.length → b i ≠ g) {v2 v4 : Value}
    (hA : AskA B p gl S J k b g v2 W W3) (h3 : Below W3.heap.size W3 W3') (hoff : Off W4 B 3 v4 ((pendJ J s).map numV ++ [numV J.length])) (hg4 : W3'.grownBy W4 (r s).ownBlock) (hv4 : v4.ownBlock = (r s).ownBlock ∨ ∃ g', v4.ownBlock = some g' ∧ W3'.heap.size ≤ g') :
    (∃ cs, Blk W4 gl 58 cs ∧ cs.size = S * 2 ∧ Blk W4 p 55 #[.slice (some ⟨gl, 0, none⟩) S S, v2, .int .i64 k]) ∧ WvAt (W4.setCell ⟨gl, s * 2, none⟩ v4) B p gl S (J ++ [⟨s, t, 0⟩]) k v2 (fun i => if i = J.length then g else b i) (fun s' => if s' = s then v4 else r s') ∧ WKeep AskT B W (W4.setCell ⟨gl, s * 2, none⟩ v4) := by
  obtain ⟨cs, hl, hl1, hl2⟩ := h.l
  have k3 : ∀ i t cs', Blk W3 i t cs' → Blk W3' i t cs' := fun i t cs' hb => hb.below h3 hb.lt
  have k4 : ∀ i t cs', Blk W3' i t cs' → t ≠ 3 → Blk W4 i t cs' := fun i t cs' hb hti => hb.grown hg4 (fun e => by
    obtain ⟨_, _, cs2, hb2⟩ := (h.q s hs).lt e.symm
    exact blk_apart hb (k3 _ _ _ (hA.keep _ _ _ hb2 (by decide) (by decide))) hti rfl)
  have kk : ∀ i t cs', Blk W i t cs' → t ≠ 55 → t ≠ 28 → t ≠ 3 → Blk W4 i t cs' := fun i t cs' hb h1 h2 h3' => k4 _ _ _ (k3 _ _ _ (hA.keep _ _ _ hb h1 h2)) h3'
  have hgl4 := kk _ _ _ hl (by decide) (by decide) (by decide)
  have k5 : ∀ i t cs', Blk W4 i t cs' → t ≠ 58 → Blk (W4.setCell ⟨gl, s * 2, none⟩ v4) i t cs' := fun i t cs' hb hti => hb.far (p := ⟨gl, s * 2, none⟩) (blk_apart hb hgl4 hti) _
  have hnew : ∀ i, (fun i => if i = J.length then g else b i) i = if i = J.length then g else b i := fun _ => rfl
  have hB := h.ge
  have hj4 : (W4.setCell ⟨gl, s * 2, none⟩ v4).ownsRow B 28 1 v2 (J.length + 1) ((List.range J.length).map (cntV b) ++ [.pointer (some ⟨g, 0, none⟩)]) := own_same2 hA.j fun g' hg' => by
    obtain ⟨cs', hb'⟩ := own_blkT hA.j hg'
    exact (k5 _ _ _ (k4 _ _ _ (k3 _ _ _ hb') (by decide)) (by decide)).trans hb'.symm
  refine ⟨⟨cs, hgl4, hl1, k4 _ _ _ (k3 _ _ _ hA.pb) (by decide)⟩, ⟨k5 _ _ _ (k4 _ _ _ (k3 _ _ _ hA.pb) (by decide)) (by decide), ?_, ?_, ?_, ?_, ?_, ?_, ?_, h.ok.ask s t ht1, h.S1, ?_, ?_, ?_⟩, ?_⟩
  · refine ⟨_, hgl4.set_ (s * 2) v4, by simpa using hl1, fun s' hs' => ⟨?_, ?_⟩⟩
    · dsimp only
      by_cases e : s' = s
      · subst e
        rw [Array.getElem?_setIfInBounds_self, if_pos (by omega), if_pos rfl]
      · rw [Array.getElem?_setIfInBounds_ne (by omega), if_neg e]
        exact (hl2 s' hs').1
    · rw [Array.getElem?_setIfInBounds_ne (by omega), beg_ask s' s t ht1]
      exact (hl2 s' hs').2
  · rw [List.length_append, List.length_singleton, List.range_succ, List.map_append, List.map_singleton]
    have e1 : (List.range J.length).map (cntV (fun i => if i = J.length then g else b i)) = (List.range J.length).map (cntV b) := List.map_congr_left fun i hi => by
      have : i ≠ J.length := by have := List.mem_range.1 hi; omega
      unfold cntV
      try dsimp only
      rw [if_neg this]
    have e2 : cntV (fun i => if i = J.length then g else b i) J.length = .pointer (some ⟨g, 0, none⟩) := by
      unfold cntV
      try dsimp only
      rw [if_pos rfl]
    rw [e1, e2]
    exact hj4
  · intro i x hx
    by_cases hi : i < J.length
    · rw [List.getElem?_append_left hi] at hx
      try dsimp only
      rw [if_neg (by omega)]
      exact k5 _ _ _ (kk _ _ _ (h.c i x hx) (by decide) (by decide) (by decide)) (by decide)
    · rw [List.getElem?_append_right (by omega)] at hx
      have h0 : i - J.length = 0 := by have := (List.getElem?_eq_some_iff.1 hx).1; simpa using this
      rw [h0] at hx
      obtain rfl := Option.some.inj hx
      try dsimp only
      rw [if_pos (by omega)]
      exact k5 _ _ _ (kk _ _ _ hg (by decide) (by decide) (by decide)) (by decide)
  · intro s' hs'
    try dsimp only
    rw [pend_ask J s' s t ht1]
    by_cases e : s' = s
    · subst e
      rw [if_pos rfl, if_pos rfl, List.map_append]
      exact hoff.same fun g' hg' => by
        obtain ⟨_, _, cs', hb'⟩ := hoff.lt hg'
        exact (k5 _ _ _ hb' (by decide)).trans hb'.symm
    · rw [if_neg e, if_neg (fun e2 => e e2.symm)]
      exact (h.q s' hs').same fun g' hg' => by
        obtain ⟨_, _, cs', hb'⟩ := (h.q s' hs').lt hg'
        have b3 := k3 _ _ _ (hA.keep _ _ _ hb' (by decide) (by decide))
        exact (k5 _ _ _ (b3.grown hg4 (fun e2 => h.ra s' s g' hs' hs e hg' e2.symm)) (by decide)).trans hb'.symm
  · have hold : ∀ s' g', s' < S → (r s').ownBlock = some g' → g' < W3'.heap.size := fun s' g' hs' hg' => by
      obtain ⟨_, _, cs', hb'⟩ := (h.q s' hs').lt hg'
      exact (k3 _ _ _ (hA.keep _ _ _ hb' (by decide) (by decide))).lt
    intro s1 s2 g' a1 a2 a3 a4
    try dsimp only at a4 ⊢
    by_cases e1 : s1 = s
    · rw [if_pos e1] at a4
      have e2 : ¬ s2 = s := fun e => a3 (e1.trans e.symm)
      rw [if_neg e2]
      rcases hv4 with e | ⟨g2, q1, q2⟩
      · rw [e] at a4
        exact h.ra s s2 g' hs a2 (fun e3 => e2 e3.symm) a4
      · rw [q1] at a4
        injection a4 with a4
        subst a4
        exact fun e3 => by have := hold s2 g2 a2 e3; omega
    · rw [if_neg e1] at a4
      by_cases e2 : s2 = s
      · rw [if_pos e2]
        rcases hv4 with e | ⟨g2, q1, q2⟩
        · rw [e]
          exact h.ra s1 s g' a1 hs e1 a4
        · rw [q1]
          intro e3
          injection e3 with e3
          subst e3
          have := hold s1 g2 a1 a4
          omega
      · rw [if_neg e2]
        exact h.ra s1 s2 g' a1 a2 a3 a4
  · intro i i' a1 a2 a3
    rw [List.length_append, List.length_singleton] at a1 a2
    try dsimp only at a3
    by_cases e1 : i = J.length
    · by_cases e2 : i' = J.length
      · omega
      · rw [if_pos e1, if_neg e2] at a3
        exact absurd a3.symm (hgn i' (by omega))
    · by_cases e2 : i' = J.length
      · rw [if_neg e1, if_pos e2] at a3
        exact absurd a3 (hgn i (by omega))
      · rw [if_neg e1, if_neg e2] at a3
        exact h.ba i i' (by omega) (by omega) a3
  · refine ⟨hB.1, hB.2.1, fun i hi => ?_⟩
    rw [List.length_append, List.length_singleton] at hi
    try dsimp only
    by_cases e1 : i = J.length
    · rw [if_pos e1]
      exact hgB
    · rw [if_neg e1]
      exact hB.2.2 i (by omega)
  · rw [List.length_append, List.length_singleton]
    omega
  · intro x hx
    rcases List.mem_append.1 hx with hx | hx
    · exact h.tl x hx
    · obtain rfl := List.mem_singleton.1 hx
      exact ht2
  · intro x hx
    rcases List.mem_append.1 hx with hx | hx
    · exact h.sl x hx
    · obtain rfl := List.mem_singleton.1 hx
      exact hs
  · have hs3 : B ≤ W3.heap.size := by have := hA.pb.lt; omega
    have b1 : Below B W W3' := hA.below.trans (h3.mono hs3)
    have b2 : Below B W W4 := b1.grown hg4 (Nat.le_trans hs3 h3.size) (fun i hi => ((h.q s hs).lt hi).1)
    exact ⟨b2.setCell (p := ⟨gl, s * 2, none⟩) hB.2.1 _, fun i t' cs' hb hT => k5 _ _ _ (kk _ _ _ hb (fun e => hT (.inl e)) (fun e => hT (.inr (.inr (.inl e)))) (fun e => hT (.inr (.inr (.inr e))))) (fun e => hT (.inr (.inl e)))⟩
set_option maxHeartbeats 3200000 in
set_option maxRecDepth 100000 in
theorem Ask_yes {W : World} {B p gl S : Nat} {J : List Jb} {k : Int} {vj : Value} {b : Nat → Nat} {r : Nat → Value} (h : WvAt W B p gl S J k vj b r) {s t g : Nat} (hs : s < S) (hf : J.length < 4096) (ht1 : 1 ≤ t) (ht2 : t ≤ 9223372036854775807) (hg : Blk W g 33 #[.int .i64 (t : Nat), .int .i64 0]) (hgB : B ≤ g) (hgn : ∀ i, i < J.length → b i ≠ g) :
    Calls Try.prog 9 #[.pointer (some ⟨p, 0, none⟩), .int .i64 (s : Nat), .pointer (some ⟨g, 0, none⟩)] W (AskEnd B p gl S J k b s t g W) := by
  obtain ⟨A, c, hv⟩ := h.len
  have c1 : W.cell? ⟨p, 1, none⟩ = some (Value.slice A J.length c) := by rw [← hv]; exact h.pb.cell 1
  have f1 := h.pb.frozen 1
  have i1 : ¬ (J.length : Int) ≥ 4096 := by omega
  have hpl := h.pb.lt
  obtain ⟨i0, hi0, iz0, iz1, iz2⟩ := info_parts infoPtr
  obtain ⟨j0, hj0, jz0, jz1, jz2⟩ := info_parts infoIntA
  have HM := Lib.hid (And.intro (made_w h) (there_yes h hs))
  have HH := Lib.hid (And.intro h (And.intro hg (And.intro hgB (And.intro hgn hv))))
  clear h hg hgB hgn
  subst hv
  go_enter Try.func9, Try.ntmps9
  refine wp_seq_k fun K0 hK => ?_
  have HK0 := Lib.hid hK
  clear hK
  go_wp2_with fail
  refine HK0.out _ _ ?_
  clear HK0
  refine wp_seq_k fun K0 hK => ?_
  have HK0 := Lib.hid hK
  clear hK
  go_wp2_with fail
  refine HM.out.1.mono ?_
  rintro e w1 ⟨rfl, rfl⟩
  go_wp2_with fail
  refine HM.out.2.mono ?_
  rintro e w1 ⟨rfl, rfl⟩
  go_wp2_with fail
  refine HK0.out _ _ ?_
  clear HK0
  refine wp_seq_k fun K0 hK => ?_
  have HK0 := Lib.hid hK
  clear hK
  go_wp2_with fail
  refine HK0.out _ _ ?_
  clear HK0
  refine wp_seq_k fun K0 hK => ?_
  have HK0 := Lib.hid hK
  clear hK
  go_wp2_with (first
    | (at_builtin
       refine wpList_append_own _ rfl _ _ 53 rfl B 28 i0 (.pointer none) 1 8 Try.underlying53 hi0 iz0 iz1 iz2 rfl (by decide) _ _ _ rfl (HH.out.1.j.alloc _) ⟨W.heap.size, 0, none⟩ 1 1 [.pointer (some ⟨g, 0, none⟩)] rfl rfl (cell_one_new _ _ _) (by simp [Value.oneCell']) (by unfold maxLen; omega) (by omega) (by have := HH.out.1.pb.lt; have := HH.out.1.ge; simp; omega) ?_
       intro v2 w2 hown2 hg2 _
       obtain ⟨hp2, hA⟩ := askA_mk HH.out.1 hown2 hg2
       obtain ⟨g2, cap2, rfl⟩ := ownsRow_succ hown2
       have HA := Lib.hid hA
       have hc2 : w2.cell? ⟨p, 1, none⟩ = some (Value.slice A J.length c) := hp2.cell 1
       have hf2 := hp2.frozen 1
       have hl2 := hp2.lt
       clear hp2 hA hown2 hg2))
  refine HK0.out _ _ ?_
  clear HK0
  generalize (w2.setCell ⟨p, 1, none⟩ (.slice (some ⟨g2, 0, none⟩) (J.length + 1) cap2)) = W3 at HA ⊢
  clear hc2 hf2 hl2 c1 f1
  obtain ⟨csR, hR0, hR1, hR2⟩ := HH.out.1.l
  obtain ⟨As, cs, hvs, _, _, _⟩ := (HH.out.1.q s hs).form
  rw [List.length_map] at hvs
  have HV := Lib.hid hvs
  have c0 : W3.cell? ⟨p, 0, none⟩ = some (Value.slice (some ⟨gl, 0, none⟩) S S) := HA.out.pb.cell 0
  have cR : W3.cell? ⟨gl, s * 2, none⟩ = some (Value.slice As (pendJ J s).length cs) := by rw [← hvs, (HA.out.keep _ _ _ hR0 (by decide) (by decide)).cell]; exact (hR2 s hs).1
  have fR := (HA.out.keep _ _ _ hR0 (by decide) (by decide)).frozen (s * 2)
  have hoff : Off W3 B 3 (.slice As (pendJ J s).length cs) ((pendJ J s).map numV) := by
    rw [← hvs]
    exact (HH.out.1.q s hs).same fun g' hg' => by
      obtain ⟨_, _, cs', hb'⟩ := (HH.out.1.q s hs).lt hg'
      exact (HA.out.keep _ _ _ hb' (by decide) (by decide)).trans hb'.symm
  have HO := Lib.hid hoff
  have hgl3 := (HA.out.keep _ _ _ hR0 (by decide) (by decide)).lt
  have hp3 := HA.out.pb.lt
  have hpn := pend_len J s
  have hs3 : B ≤ W3.heap.size := by have := HA.out.pb.lt; have := HH.out.1.ge; omega
  have jj0 : (0 : Int) ≤ (s : Int) := by omega
  have jj1 : (s : Int) < (S : Int) := by omega
  clear hvs hR0 hR1 hR2 hoff
  refine wp_seq_k fun K0 hK => ?_
  have HK0 := Lib.hid hK
  clear hK
  have hbd := below_box W3 (.cells #[.int .i64 (J.length : Nat)] 3)
  have h3d : Below W3.heap.size W3 ((W3.alloc (.cells #[.int .i64 (J.length : Nat)] 3)).drew) := ⟨hbd.os, hbd.tape, hbd.output, hbd.size, hbd.block⟩
  have hod : Off ((W3.alloc (.cells #[.int .i64 (J.length : Nat)] 3)).drew) B 3 (.slice As (pendJ J s).length cs) ((pendJ J s).map numV) := HO.out.below h3d
  have hnd : ((W3.alloc (.cells #[.int .i64 (J.length : Nat)] 3)).drew).cell? ⟨W3.heap.size, 0, none⟩ = some (numV J.length) := (Blk.new W3 3 #[.int .i64 (J.length : Nat)]).cell 0
  have HOD := Lib.hid (And.intro hod (And.intro hnd h3d))
  clear hod hnd h3d hbd
  go_region_law ((refine step_append_off rfl _ _ 22 rfl B 3 j0 (.int .i64 0) 8 Try.underlying22 hj0 jz0 jz1 jz2 rfl (.slice As (pendJ J s).length cs) ((pendJ J s).map numV) rfl HOD.out.1 _ 1 (numV J.length) rfl HOD.out.2.1 (by simp [numV, Value.oneCell']) (by rw [List.length_map]; unfold maxLen; omega) (by rw [List.length_map]; omega) (by have := HOD.out.2.2.size; omega) ?_; intro v4 W4 ho4 hg4 hv4; obtain ⟨A4, n4, c4, rfl⟩ := ho4.formL; have HX := Lib.hid (HH.out.1.ask hs hf ht1 ht2 HH.out.2.1 HH.out.2.2.1 HH.out.2.2.2.1 HA.out HOD.out.2.2 ho4 (by rw [HV.out]; exact hg4) (by rw [HV.out]; exact hv4)); clear ho4 hg4 hv4; obtain ⟨cs4, hb4, hz4, hp4⟩ := HX.out.1; have qp : W4.cell? ⟨p, 0, none⟩ = some (Value.slice (some ⟨gl, 0, none⟩) S S) := hp4.cell 0; have q0 := (hb4.cell (s * 2)).trans (Array.getElem?_eq_getElem (by omega)); have qf := hb4.frozen (s * 2); clear hb4 hp4))
  all_goals
    refine HK0.out _ _ ?_
    clear HK0
    try simp only [Act.put, List.getElem_toArray, List.getElem_cons_succ, List.getElem_cons_zero, List.setIfInBounds_toArray, List.set_cons_zero, List.set_cons_succ]
    go_wp2_with fail
    go_ret2
    exact ⟨rfl, ⟨_, _, HX.out.2.1⟩, HX.out.2.2⟩
end Go.Proofs.Ytagcbihjejjmnaa
