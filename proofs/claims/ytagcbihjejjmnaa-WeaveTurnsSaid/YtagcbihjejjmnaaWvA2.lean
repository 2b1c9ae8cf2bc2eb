/-
  Layer 23: awake.
-/
import Derived.Test.YtagcbihjejjmnaaWvA1
namespace Go.Proofs.Ytagcbihjejjmnaa
open Go.RowKit
set_option linter.unusedVariables false
set_option linter.unusedSimpArgs false

/-- A new block is no job's. -/
theorem WvAt.fresh {W : World} {B p gl S : Nat} {J : List Jb} {k : Int} {vj : Value} {b : Nat → Nat} {r : Nat → Value} (h : WvAt W B p gl S J k vj b r) {g : Nat} (hg : W.heap.size ≤ g) : ∀ i, i < J.length → b i ≠ g := fun i hi => by
  have := (h.c i _ (List.getElem?_eq_getElem hi)).lt
  omega
/-- Asking for a new job. -/
theorem ask_new {W : World} {B p gl S : Nat} {J : List Jb} {k : Int} {vj : Value} {b : Nat → Nat} {r : Nat → Value} (h : WvAt W B p gl S J k vj b r) {s t : Nat} (hs : s < S) (hf : J.length < 4096) (ht1 : 1 ≤ t) (ht2 : t ≤ 9223372036854775807) :
    Calls Try.prog 9 #[.pointer (some ⟨p, 0, none⟩), .int .i64 (s : Nat), .pointer (some ⟨W.heap.size, 0, none⟩)] (W.alloc (.cells #[.int .i64 (t : Nat), .int .i64 0] 33)) (fun e w' => e = .returned (.tuple #[.int .i64 (J.length : Nat), .int .i64 0]) ∧ (∃ vj' b' r', WvAt w' B p gl S (J ++ [⟨s, t, 0⟩]) k vj' b' r') ∧ WKeep AskT B W w') := by
  have hb := below_box W (.cells #[.int .i64 (t : Nat), .int .i64 0] 33)
  have hB : B ≤ W.heap.size := by have := h.pb.lt; have := h.ge.1; omega
  refine (Ask_yes (h.below hb) hs hf ht1 ht2 (Blk.new W _ _) hB (h.fresh (Nat.le_refl _))).mono ?_
  rintro e w' ⟨he, ⟨vj', r', hw⟩, hk⟩
  exact ⟨he, ⟨vj', _, r', hw⟩, (WKeep.of_below hb hB).trans hk⟩
/-! The example. -/
def aJ : Nat → List Jb
  | 0 => [⟨0, 2, 0⟩, ⟨2, 2, 0⟩, ⟨2, 2, 0⟩]
  | 1 => [⟨0, 2, 1⟩, ⟨2, 2, 0⟩, ⟨2, 2, 0⟩]
  | 2 => [⟨0, 2, 1⟩, ⟨2, 2, 1⟩, ⟨2, 2, 0⟩]
  | 3 => [⟨0, 2, 1⟩, ⟨2, 2, 2⟩, ⟨2, 2, 0⟩]
  | 4 => [⟨0, 2, 1⟩, ⟨2, 2, 2⟩, ⟨2, 2, 1⟩]
  | _ => [⟨0, 2, 1⟩, ⟨2, 2, 2⟩, ⟨2, 2, 2⟩]
def aX : Nat → Int
  | 0 => 0
  | 4 => -1
  | _ => 1
def aS : Nat → Nat
  | 0 => 0
  | _ => 2
def aM : Nat → Nat
  | 0 => 0
  | 1 => 1
  | 2 => 1
  | _ => 2
def aL : Nat → List Nat
  | 1 => [2]
  | 2 => [2]
  | _ => []
def aT : Nat → Jb
  | 0 => ⟨0, 2, 0⟩
  | 1 => ⟨2, 2, 0⟩
  | 2 => ⟨2, 2, 1⟩
  | 3 => ⟨2, 2, 0⟩
  | _ => ⟨2, 2, 1⟩
def aB : Nat → Bool
  | 0 => true
  | 1 => true
  | 3 => true
  | _ => false
def aE : Nat → Bool
  | 2 => true
  | 4 => true
  | _ => false
/-- The turns' cells. -/
def aC (k : Nat) : List Value := [.int .i64 (aM k : Nat), .int .i64 (aS k : Nat), .bool (aB k), .bool (aE k)]
theorem a_facts (k : Nat) (hk : k < 5) : (canJ 3 (aJ k))[(aX k % ((canJ 3 (aJ k)).length : Int)).toNat]? = some (aS k) ∧ pendJ (aJ k) (aS k) = aM k :: aL k ∧ (aJ k)[aM k]? = some (aT k) ∧ hadJ (aJ k) (aM k) = aJ (k + 1) ∧ begJ (aJ k) (aS k) = !aB k ∧ decide ((aT k).t ≤ (aT k).h + 1) = aE k := by
  have h5 : k = 0 ∨ k = 1 ∨ k = 2 ∨ k = 3 ∨ k = 4 := by omega
  rcases h5 with rfl | rfl | rfl | rfl | rfl <;> exact ⟨rfl, rfl, rfl, rfl, rfl, rfl⟩
theorem a_can : canJ 3 (aJ 5) = [0] := rfl
/-- A pick of the example. -/
theorem a_pick {W : World} {B p gl : Nat} {vj : Value} {b : Nat → Nat} {r : Nat → Value} {k : Nat} (h : WvAt W B p gl 3 (aJ k) (k : Nat) vj b r) (hk : k < 5) :
    Calls Try.prog 11 #[.pointer (some ⟨p, 0, none⟩), .int .i64 (aX k)] W (fun e w' => e = .returned (.tuple #[.agg #[.int .i64 (aM k : Nat), .int .i64 (aS k : Nat), .bool (aB k), .bool (aE k)], .bool true]) ∧ (∃ r', WvAt w' B p gl 3 (aJ (k + 1)) ((k + 1 : Nat) : Int) vj b r') ∧ WKeep PickT B W w') := by
  obtain ⟨f1, f2, f3, f4, f5, f6⟩ := a_facts k hk
  have hB : B ≤ W.heap.size := by have := h.pb.lt; have := h.ge.1; omega
  refine (Pick_yes h (by omega) (by omega) hB f1 f2 f3).mono ?_
  rintro e w' ⟨rfl, r', hw, hkp, _⟩
  rw [f4] at hw
  refine ⟨?_, ⟨r', by have e1 : ((k : Nat) : Int) + 1 = ((k + 1 : Nat) : Int) := by omega
                      rw [e1] at hw
                      exact hw⟩, hkp⟩
  rw [f5, f6, Bool.not_not]
theorem infoTurn : (Try.prog.info? 37).map (fun i => (i.zero, i.size, i.bytes)) = some (some (.agg #[.int .i64 0, .int .i64 0, .bool false, .bool false]), 4, 24) := by kernel_rfl
theorem a_x (k : Nat) (hk : k < 5) : (#[.int .i64 0, .int .i64 1, .int .i64 1, .int .i64 1, .int .i64 (-1)] : Array Value)[k]? = some (.int .i64 (aX k)) := by
  have h5 : k = 0 ∨ k = 1 ∨ k = 2 ∨ k = 3 ∨ k = 4 := by omega
  rcases h5 with rfl | rfl | rfl | rfl | rfl <;> rfl
/-- A cell of a row of one's own. -/
theorem own_cellT {W : World} {B size n g c : Nat} {e : TypeId} {xs : List Value} (h : W.ownsRow B e size (.slice (some ⟨g, 0, none⟩) n c) n xs) {j : Nat} {u : Value} (hj : xs[j]? = some u) : W.cell? ⟨g, j, none⟩ = some u := by
  have := h.cells (g := g) rfl j u hj
  rw [show (⟨g, 0, none⟩ : Addr).add j = ⟨g, j, none⟩ by unfold Addr.add; split <;> simp_all] at this
  exact this
/-- A row of one's own, of a type that is not written. -/
theorem own_keepT {W W' : World} {T : TypeId → Prop} {B0 B size n : Nat} {e : TypeId} {v : Value} {xs : List Value} (h : W.ownsRow B e size v n xs) (hk : WKeep T B0 W W') (hT : ¬ T e) : W'.ownsRow B e size v n xs := own_same2 h fun g hg => by
  obtain ⟨cs, hb⟩ := own_blkT h hg
  exact (hk.same _ _ _ hb hT).trans hb.symm
/-- awake's world between two picks. -/
structure AwI (W : World) (p gl g5 L : Nat) (vj : Value) (b : Nat → Nat) (k : Nat) (v : Value) (wr : World) : Prop where
  w : ∃ r, WvAt wr W.heap.size p gl 3 (aJ k) ((k : Nat) : Int) vj b r
  x : Blk wr g5 3 #[.int .i64 0, .int .i64 1, .int .i64 1, .int .i64 1, .int .i64 (-1)]
  o : wr.ownsRow L 37 4 v k ((List.range k).flatMap aC)
  bel : Below W.heap.size W wr
  L1 : W.heap.size ≤ L
  L2 : L ≤ wr.heap.size
  L3 : g5 < L ∧ p < L ∧ gl < L ∧ ∀ i, i < 3 → b i < L
theorem aJ_len (k : Nat) : (aJ k).length = 3 := by
  match k with
  | 0 => rfl
  | 1 => rfl
  | 2 => rfl
  | 3 => rfl
  | 4 => rfl
  | k + 5 => rfl
/-- Behind the append of a turn. -/
theorem aw_app {W w7 w8 : World} {p gl g5 L k : Nat} {vj v v8 : Value} {b : Nat → Nat} {r : Nat → Value} {o : Obj} (hw : WvAt w7 W.heap.size p gl 3 (aJ (k + 1)) ((k + 1 : Nat) : Int) vj b r) (hx : Blk w7 g5 3 #[.int .i64 0, .int .i64 1, .int .i64 1, .int .i64 1, .int .i64 (-1)]) (ho : w7.ownsRow L 37 4 v k ((List.range k).flatMap aC)) (hb : Below W.heap.size W w7) (h1 : W.heap.size ≤ L) (h2 : L ≤ w7.heap.size) (h3 : g5 < L ∧ p < L ∧ gl < L ∧ ∀ i, i < 3 → b i < L)
    (hown : w8.ownsRow L 37 4 v8 (k + 1) ((List.range k).flatMap aC ++ aC k)) (hg : (w7.alloc o).grownBy w8 v.ownBlock) : AwI W p gl g5 L vj b (k + 1) v8 w8 := by
  have hne : ∀ i t cs, Blk w7 i t cs → t ≠ 37 → Blk w8 i t cs := fun i t cs hb ht => (hb.alloc o).grown hg (fun e => by
    obtain ⟨cs', hb'⟩ := own_blkT ho e.symm
    exact blk_apart hb hb' ht rfl)
  refine ⟨⟨r, hw.keepT fun i t cs hb ht => hne i t cs hb (by rcases ht with rfl | rfl | rfl | rfl | rfl <;> decide)⟩, hne _ _ _ hx (by decide), ?_, ?_, h1, Nat.le_trans h2 (by have := hg.size; simp at this; omega), h3⟩
  · rw [List.range_succ, List.flatMap_append, List.flatMap_singleton]
    exact hown
  · have hb1 : Below W.heap.size W (w7.alloc o) := below_alloc hb o
    exact hb1.grown hg (by have := hb.size; simp; omega) (fun i hi => by have := (ho.lt i hi).1; omega)
theorem reads_one1 (w : World) : Reads (w.alloc (.cells #[.int .i64 0] 3)) (w.heap.size + 1) 1 (some ⟨w.heap.size, 0, none⟩) [0].length ([0].map numV) := by
  refine ⟨rfl, fun _ => ⟨_, rfl, Nat.lt_succ_self _, fun j u hu => ?_⟩⟩
  have hj : j = 0 := by have := (List.getElem?_eq_some_iff.1 hu).1; simpa using this
  subst hj
  rw [show (⟨w.heap.size, 0, none⟩ : Addr).add 0 = ⟨w.heap.size, 0, none⟩ by unfold Addr.add; simp]
  exact ((Blk.new w 3 #[.int .i64 0]).cell 0).trans hu
def AwakeEnd (w : World) (e : Ending) (w' : World) : Prop := e = .returned (.bool true) ∧ Below w.heap.size w w'
set_option maxHeartbeats 3200000 in
set_option maxRecDepth 100000 in
theorem awake_any (W : World) : Calls Try.prog 6 #[] W (AwakeEnd W) := by
  go_enter Try.func6, Try.ntmps6
  refine wp_seq_k fun K0 hK => ?_
  have HK0 := Lib.hid hK
  clear hK
  go_wp2_with fail
  refine HK0.out _ _ ?_
  clear HK0
  refine wp_seq_k fun K0 hK => ?_
  have HK0 := Lib.hid hK
  clear hK
  go_wp2_with fail
  refine (New_yes W 3 (by decide) (by decide)).mono ?_
  rintro e w1 ⟨p, gl, b0, r0, rfl, hw1, hb1⟩
  have H1 := Lib.hid (And.intro hw1 hb1)
  clear hw1 hb1
  go_wp2_with fail
  refine HK0.out _ _ ?_
  clear HK0
  refine wp_seq_k fun K0 hK => ?_
  have HK0 := Lib.hid hK
  clear hK
  go_wp2_with fail
  refine (ask_new (s := 0) (t := 2) H1.out.1 (by decide) (by decide) (by decide) (by decide)).mono ?_
  rintro e w2 ⟨rfl, ⟨vj2, b2, r2, hw2⟩, hk2⟩
  have H2 := Lib.hid (And.intro hw2 (H1.out.2.trans hk2.below))
  clear hw2 hk2 H1
  go_wp2_with fail
  refine HK0.out _ _ ?_
  clear HK0
  refine wp_seq_k fun K0 hK => ?_
  have HK0 := Lib.hid hK
  clear hK
  go_wp2_with fail
  refine (ask_new (s := 2) (t := 2) H2.out.1 (by decide) (by decide) (by decide) (by decide)).mono ?_
  rintro e w3 ⟨rfl, ⟨vj3, b3, r3, hw3⟩, hk3⟩
  have H3 := Lib.hid (And.intro hw3 (H2.out.2.trans hk3.below))
  clear hw3 hk3 H2
  go_wp2_with fail
  refine HK0.out _ _ ?_
  clear HK0
  refine wp_seq_k fun K0 hK => ?_
  have HK0 := Lib.hid hK
  clear hK
  go_wp2_with fail
  refine (ask_new (s := 2) (t := 2) H3.out.1 (by decide) (by decide) (by decide) (by decide)).mono ?_
  rintro e w4 ⟨rfl, ⟨vj4, b4, r4, hw4⟩, hk4⟩
  have H4 := Lib.hid (And.intro (show WvAt w4 W.heap.size p gl 3 (aJ 0) ((0 : Nat) : Int) vj4 b4 r4 from hw4) (H3.out.2.trans hk4.below))
  clear hw4 hk4 H3
  go_wp2_with fail
  refine HK0.out _ _ ?_
  clear HK0
  have hb5 := below_box w4 (.cells #[.int .i64 0, .int .i64 1, .int .i64 1, .int .i64 1, .int .i64 (-1)] 3)
  have hq5 := Blk.new w4 3 #[.int .i64 0, .int .i64 1, .int .i64 1, .int .i64 1, .int .i64 (-1)]
  have H5 := Lib.hid (show AwI W p gl w4.heap.size (w4.heap.size + 1) vj4 b4 0 (.slice none 0 0) (w4.alloc (.cells #[.int .i64 0, .int .i64 1, .int .i64 1, .int .i64 1, .int .i64 (-1)] 3)) from
    ⟨⟨r4, H4.out.1.below hb5⟩, hq5, World.ownsRow_nil _ _ _ _, below_trans H4.out.2 hb5, by have := H4.out.2.size; omega, by simp, by have := H4.out.1.pb.lt; have := H4.out.1.l.lt; exact ⟨by omega, by omega, by omega, fun i hi => by have := (H4.out.1.c i _ (List.getElem?_eq_getElem (by rw [aJ_len]; exact hi))).lt; omega⟩⟩)
  clear hb5 hq5
  refine wp_seq_k fun K0 hK => ?_
  have HK0 := Lib.hid hK
  clear hK
  go_wp2_with fail
  refine HK0.out _ _ ?_
  clear HK0
  generalize w4.alloc (.cells #[.int .i64 0, .int .i64 1, .int .i64 1, .int .i64 1, .int .i64 (-1)] 3) = w5 at H5 ⊢
  obtain ⟨g5, hg5⟩ : ∃ g, w4.heap.size = g := ⟨_, rfl⟩
  obtain ⟨L, hL⟩ : ∃ L, w4.heap.size + 1 = L := ⟨_, rfl⟩
  rw [hL, hg5] at H5
  rw [hg5]
  clear hg5 hL H4
  refine wp_seq_k fun K0 hK => ?_
  have HK0 := Lib.hid hK
  clear hK
  go_wp2_with fail
  refine HK0.out _ _ ?_
  clear HK0
  refine wp_seq_k fun K0 hK => ?_
  have HK0 := Lib.hid hK
  clear hK
  go_wp2_with fail
  obtain ⟨i0, hi, hz0, hz1, hz2⟩ := info_parts infoTurn
  go_loopw [4, 5] (fun v i wr => ∃ k : Nat, k ≤ 5 ∧ i = .int .i64 (k : Nat) ∧ Hid (AwI W p gl g5 L vj4 b4 k v wr)) (fun _ i _ => 5 - (intOf i).toNat)
  case atStart => exact ⟨0, Nat.zero_le _, rfl, H5⟩
  case round =>
    obtain ⟨k, hk, rfl, HJ⟩ := hrel
    have i1 : (0 : Int) ≤ (k : Int) := by omega
    by_cases hlt : k < 5
    · have i2 : (k : Int) < 5 := by omega
      have ci : wr.cell? ⟨g5, k, none⟩ = some (.int .i64 (aX k)) := (HJ.out.x.cell k).trans (a_x k hlt)
      obtain ⟨r5, hw5⟩ := HJ.out.w
      have HW5 := Lib.hid hw5
      clear hw5
      refine wp_seq_k fun K0 hK => ?_
      have HK0 := Lib.hid hK
      clear hK
      go_wp2_with fail
      refine HK0.out _ _ ?_
      clear HK0
      refine wp_seq_k fun K0 hK => ?_
      have HK0 := Lib.hid hK
      clear hK
      refine wp_block ?_
      refine wp_seq_k fun K1 hK => ?_
      have HK1 := Lib.hid hK
      clear hK
      go_wp2_with fail
      refine (a_pick HW5.out hlt).mono ?_
      rintro e w6 ⟨rfl, ⟨r6, hw6⟩, hk6⟩
      have hb7 := below_box w6 (.cells #[.int .i64 (aM k : Nat), .int .i64 (aS k : Nat), .bool (aB k), .bool (aE k)] 37)
      have hq7 := Blk.new w6 37 #[.int .i64 (aM k : Nat), .int .i64 (aS k : Nat), .bool (aB k), .bool (aE k)]
      have hs6 : L ≤ w6.heap.size := Nat.le_trans HJ.out.L2 hk6.below.size
      have HX := Lib.hid (And.intro (hw6.below hb7) (And.intro ((hk6.same _ _ _ HJ.out.x (by unfold PickT; decide)).below hb7 (hk6.same _ _ _ HJ.out.x (by unfold PickT; decide)).lt) (And.intro ((own_keepT HJ.out.o hk6 (by unfold PickT; decide)).alloc (.cells #[.int .i64 (aM k : Nat), .int .i64 (aS k : Nat), .bool (aB k), .bool (aE k)] 37)) (And.intro ((HJ.out.bel.trans hk6.below).trans (hb7.mono (by have := HJ.out.L1; omega))) (And.intro hq7 hb7.size)))))
      clear hw6 hk6 hb7 hq7
      go_wp2_with fail
      refine HK1.out _ _ ?_
      clear HK1
      generalize w6.alloc (.cells #[.int .i64 (aM k : Nat), .int .i64 (aS k : Nat), .bool (aB k), .bool (aE k)] 37) = w7 at HX ⊢
      have c0 : w7.cell? ⟨w6.heap.size, 0, none⟩ = some (.int .i64 (aM k : Nat)) := HX.out.2.2.2.2.1.cell 0
      have c1 : w7.cell? ⟨w6.heap.size, 1, none⟩ = some (.int .i64 (aS k : Nat)) := HX.out.2.2.2.2.1.cell 1
      have c2 : w7.cell? ⟨w6.heap.size, 2, none⟩ = some (.bool (aB k)) := HX.out.2.2.2.2.1.cell 2
      have c3 : w7.cell? ⟨w6.heap.size, 3, none⟩ = some (.bool (aE k)) := HX.out.2.2.2.2.1.cell 3
      clear ci
      go_wp2_with (first
        | (at_builtin
           refine wpList_append_own _ rfl _ _ 48 rfl L 37 i0 (.agg #[.int .i64 0, .int .i64 0, .bool false, .bool false]) 4 24 Try.underlying48 hi hz0 hz1 hz2 rfl (by decide) _ _ _ rfl (HX.out.2.2.1.alloc _) ⟨w7.heap.size, 0, none⟩ 1 1 (aC k) rfl rfl (World.news_of_block (heap_alloc_new w7 _)) (by simp [aC, Value.oneCell']) (by unfold maxLen; omega) (by omega) (by have := HX.out.2.2.2.2.2; simp; omega) ?_
           intro v8 w8 hown8 hg8 _
           have H8 := Lib.hid (aw_app HX.out.1 HX.out.2.1 HX.out.2.2.1 HX.out.2.2.2.1 HJ.out.L1 (Nat.le_trans hs6 HX.out.2.2.2.2.2) HJ.out.L3 hown8 hg8)
           clear hown8 hg8))
      refine HK0.out _ _ ?_
      clear HK0
      clear c0 c1 c2 c3
      go_wp2_with fail
      go_roundw
      case rel => exact ⟨k + 1, by omega, by go_num, H8⟩
      case measure => simp [intOf]; omega
    · obtain rfl : k = 5 := by omega
      go_wp2_with fail
      refine HK0.out _ _ ?_
      clear HK0
      obtain ⟨r5, hw5⟩ := HJ.out.w
      have ho := HJ.out.o
      obtain ⟨gT, cT, hvT⟩ : ∃ g c, u4 = .slice (some ⟨g, 0, none⟩) 5 c := by
        rcases ho.2 with ⟨_, h0⟩ | ⟨g, c, cur, hv, _⟩
        · omega
        · exact ⟨g, c, hv⟩
      subst hvT
      have HO := Lib.hid ho
      have HW5 := Lib.hid hw5
      clear ho hw5
      have q0 : wr.cell? ⟨gT, 0, none⟩ = some (.int .i64 0) := own_cellT HO.out (j := 0) rfl
      have q1 : wr.cell? ⟨gT, 1, none⟩ = some (.int .i64 0) := own_cellT HO.out (j := 1) rfl
      have q2 : wr.cell? ⟨gT, 2, none⟩ = some (.bool true) := own_cellT HO.out (j := 2) rfl
      have q3 : wr.cell? ⟨gT, 3, none⟩ = some (.bool false) := own_cellT HO.out (j := 3) rfl
      have q4 : wr.cell? ⟨gT, 4, none⟩ = some (.int .i64 1) := own_cellT HO.out (j := 4) rfl
      have q5 : wr.cell? ⟨gT, 5, none⟩ = some (.int .i64 2) := own_cellT HO.out (j := 5) rfl
      have q6 : wr.cell? ⟨gT, 6, none⟩ = some (.bool true) := own_cellT HO.out (j := 6) rfl
      have q7 : wr.cell? ⟨gT, 7, none⟩ = some (.bool false) := own_cellT HO.out (j := 7) rfl
      have q8 : wr.cell? ⟨gT, 8, none⟩ = some (.int .i64 1) := own_cellT HO.out (j := 8) rfl
      have q9 : wr.cell? ⟨gT, 9, none⟩ = some (.int .i64 2) := own_cellT HO.out (j := 9) rfl
      have q10 : wr.cell? ⟨gT, 10, none⟩ = some (.bool false) := own_cellT HO.out (j := 10) rfl
      have q11 : wr.cell? ⟨gT, 11, none⟩ = some (.bool true) := own_cellT HO.out (j := 11) rfl
      have q12 : wr.cell? ⟨gT, 12, none⟩ = some (.int .i64 2) := own_cellT HO.out (j := 12) rfl
      have q13 : wr.cell? ⟨gT, 13, none⟩ = some (.int .i64 2) := own_cellT HO.out (j := 13) rfl
      have q14 : wr.cell? ⟨gT, 14, none⟩ = some (.bool true) := own_cellT HO.out (j := 14) rfl
      have q15 : wr.cell? ⟨gT, 15, none⟩ = some (.bool false) := own_cellT HO.out (j := 15) rfl
      have q16 : wr.cell? ⟨gT, 16, none⟩ = some (.int .i64 2) := own_cellT HO.out (j := 16) rfl
      have q17 : wr.cell? ⟨gT, 17, none⟩ = some (.int .i64 2) := own_cellT HO.out (j := 17) rfl
      have q18 : wr.cell? ⟨gT, 18, none⟩ = some (.bool false) := own_cellT HO.out (j := 18) rfl
      have q19 : wr.cell? ⟨gT, 19, none⟩ = some (.bool true) := own_cellT HO.out (j := 19) rfl
      go_wp2_with fail
      refine (Can_w HW5.out).mono ?_
      rintro e w6 ⟨A6, c6, rfl, ho6, hb6⟩
      have hb7 := below_box w6 (.cells #[.int .i64 0] 3)
      have hr6 := (Reads.of_own ho6).below hb7
      have hr7 : Reads (w6.alloc (.cells #[.int .i64 0] 3)) (w6.heap.size + 1) 1 (some ⟨w6.heap.size, 0, none⟩) [0].length ([0].map numV) := reads_one1 w6
      have H9 := Lib.hid (And.intro (show Reads (w6.alloc (.cells #[.int .i64 0] 3)) _ 1 A6 [0].length ([0].map numV) from hr6) (And.intro hr7 (below_trans (below_trans HJ.out.bel hb6) hb7)))
      clear ho6 hb6 hb7 hr6 hr7
      have hcl : (canJ 3 (aJ 5)).length = 1 := rfl
      rw [hcl]
      clear hcl
      go_wp2_with fail
      refine (same_ints (l := [0]) (H9.out.1.more (by simp)) (H9.out.2.1.more (by simp)) (by decide)).mono ?_
      rintro e w8 ⟨rfl, n8, rfl⟩
      go_wp2_with fail
      go_ret
      exact ⟨rfl, below_trans H9.out.2.2 (below_drewn _ _)⟩
end Go.Proofs.Ytagcbihjejjmnaa
