/-
  Layer 23: Pick.
-/
import Derived.Test.YtagcbihjejjmnaaWvM2
import Derived.Test.YtagcbihjejjmnaaWvC3
namespace Go.Proofs.Ytagcbihjejjmnaa
open Go.RowKit
set_option linter.unusedVariables false
set_option linter.unusedSimpArgs false

theorem cnt_na (g : Nat) (W : World) : (nilAhead 308 28 (.pointer (some ⟨g, 0, none⟩)) "Pick").run Try.prog W = .ok (some false) W := by kernel_rfl
theorem cnt_me (g : Nat) (W : World) : (method 308 28 (.pointer (some ⟨g, 0, none⟩)) "Pick").run Try.prog W = .ok (92, .pointer (some ⟨g, 0, none⟩)) W := by kernel_rfl
/-- The cell of a new list. -/
theorem newInts_cell {W : World} {B : Nat} {l : List Nat} {A : Option Addr} {c i s : Nat} (h : W.ownsRow B 3 1 (.slice A l.length c) l.length (l.map numV)) (hi : l[i]? = some s) : ∃ g, A = some ⟨g, 0, none⟩ ∧ W.cell? ⟨g, i, none⟩ = some (.int .i64 (s : Nat)) ∧ B ≤ g := by
  rcases h.2 with ⟨_, h0⟩ | ⟨g, cap, cur, hv, hb, hh, hn, hc, hs, ht⟩
  · have := (List.getElem?_eq_some_iff.1 hi).1
    omega
  · injection hv with e1 e2 e3
    refine ⟨g, e1, ?_, hb⟩
    have hil := (List.getElem?_eq_some_iff.1 hi).1
    have hx : (l.map numV)[i]? = some (numV s) := by rw [List.getElem?_map, hi]; rfl
    rw [← ht, Nat.mul_one, List.getElem?_take_of_lt hil, Array.getElem?_toList] at hx
    exact (cell_of_row W g i cur _ (0, 0) hh).trans hx
/-- The index that a pick comes to. -/
theorem pick_idx (x : Int) (n : Nat) (hn : 0 < n) : ∃ q : Int, x.tmod (n : Int) = q ∧ -(n : Int) < q ∧ q < n ∧ (q + n) % (n : Int) = ((x % (n : Int)).toNat : Nat) ∧ (x % (n : Int)).toNat < n := by
  have h0 : (0 : Int) < n := by omega
  have e1 := Int.emod_nonneg x (show (n : Int) ≠ 0 by omega)
  have e2 := Int.emod_lt_of_pos x h0
  have e3 : x.tmod (n : Int) = x % (n : Int) ∨ (x.tmod (n : Int) = x % (n : Int) - n ∧ x % (n : Int) ≠ 0) := by
    rw [Int.tmod_eq_emod]
    by_cases hc : 0 ≤ x ∨ (n : Int) ∣ x
    · rw [if_pos hc]
      exact .inl (by omega)
    · rw [if_neg hc]
      exact .inr ⟨by simp, fun e => hc (.inr (Int.dvd_of_emod_eq_zero e))⟩
  refine ⟨_, rfl, ?_, ?_, ?_, by omega⟩
  · rcases e3 with h | ⟨h, h2⟩ <;> omega
  · rcases e3 with h | ⟨h, h2⟩ <;> omega
  · rw [Int.add_emod_right, Int.toNat_of_nonneg e1]
    rcases e3 with h | ⟨h, h2⟩
    · rw [h, Int.emod_emod]
    · rw [h, ← Int.add_emod_right, show x % (n : Int) - n + n = x % (n : Int) by omega, Int.emod_emod]
def PickNo (B p gl S : Nat) (J : List Jb) (k : Int) (vj : Value) (b : Nat → Nat) (r : Nat → Value) (W : World) (e : Ending) (w' : World) : Prop :=
  e = .returned (.tuple #[turnV 0 0 false false, .bool false]) ∧ WvAt w' B p gl S J (k + 1) vj b r ∧ WKeep PickT B W w'
def PickYes (B p gl S : Nat) (J : List Jb) (k : Int) (vj : Value) (b : Nat → Nat) (r : Nat → Value) (m s : Nat) (j : Jb) (W : World) (e : Ending) (w' : World) : Prop :=
  e = .returned (.tuple #[turnV m s (!begJ J s) (decide (j.t ≤ j.h + 1)), .bool true]) ∧ ∃ r', WvAt w' B p gl S (hadJ J m) (k + 1) vj b r' ∧ WKeep PickT B W w' ∧ ∀ s', (r' s').ownBlock = (r s').ownBlock
theorem zero_turn (W : World) : Blk (W.alloc (.cells #[.int .i64 0, .int .i64 0, .bool false, .bool false] 37)) W.heap.size 37 #[.int .i64 0, .int .i64 0, .bool false, .bool false] := Blk.new _ _ _
theorem pick_two {W W1 : World} {B p gl S g4 : Nat} {J : List Jb} {k : Int} {vj : Value} {b : Nat → Nat} {r : Nat → Value} (hz : Blk W1 g4 37 #[.int .i64 0, .int .i64 0, .bool false, .bool false]) (h : WvAt W1 B p gl S J k vj b r) (hb : Below g4 W W1) (hg : W.heap.size = g4) (hB : B ≤ W.heap.size) (k' : Int) :
    Blk (W1.setCell ⟨p, 2, none⟩ (.int .i64 k')) g4 37 #[.int .i64 0, .int .i64 0, .bool false, .bool false] ∧ WvAt (W1.setCell ⟨p, 2, none⟩ (.int .i64 k')) B p gl S J k' vj b r ∧ WKeep PickT B W (W1.setCell ⟨p, 2, none⟩ (.int .i64 k')) := by
  subst hg
  refine ⟨hz.far (p := ⟨p, 2, none⟩) (blk_apart hz h.pb (by decide)) _, h.setP k', (WKeep.of_below hb hB).trans (WKeep.of_grown (grown_set W1 p 2 _) h.pb (.inl rfl) h.ge.1 (Nat.le_trans hB hb.size))⟩
/-- turn, at whatever end. -/
theorem turn_all {W : World} {p gl S s n m g o c : Nat} {b e : Bool} {v : Value} {cs : Array Value} (hp : W.cell? ⟨p, 0, none⟩ = some (.slice (some ⟨gl, 0, none⟩) S S)) (hs : s < S) (hS : S ≤ 64) (hcs : Blk W gl 58 cs) (h0 : cs[s * 2]? = some (.slice (some ⟨g, o, none⟩) (m + 1) c)) (h1 : cs[s * 2 + 1]? = some (.bool b))
    (hn : W.cell? ⟨g, o, none⟩ = some (.int .i64 (n : Nat))) (hv : (c = 1 ∧ m = 0 ∧ v = .slice (some ⟨g, o, none⟩) 0 0) ∨ (1 < c ∧ m + 1 ≤ c ∧ c ≤ 9223372036854775807 ∧ v = .slice (some ⟨g, o + 1, none⟩) m (c - 1))) :
    Calls Try.prog 21 #[.pointer (some ⟨p, 0, none⟩), .int .i64 (s : Nat), .bool e] W (TurnEnd n s b gl e v W) := by
  cases e with
  | false => exact (turn_on hp hs hS hcs h0 h1 hn).mono fun e w' h => ⟨h.1, h.2.1, fun cs hb => by simpa [turnC] using h.2.2 cs hb⟩
  | true =>
    rcases hv with ⟨rfl, rfl, rfl⟩ | ⟨h2, h3, h4, rfl⟩
    · exact turn_off1 hp hs hS hcs h0 h1 hn
    · exact turn_off2 hp hs hS hcs h0 h1 hn h2 h3 h4
/-- What is left of a session's list behind its first job. -/
def tailV (g o m c : Nat) : Value := if c = 1 then .slice (some ⟨g, o, none⟩) 0 0 else .slice (some ⟨g, o + 1, none⟩) m (c - 1)
theorem tail_off {W : World} {B g o m c : Nat} {x : Value} {xs : List Value} (h : Off W B 3 (.slice (some ⟨g, o, none⟩) (m + 1) c) (x :: xs)) (hm : xs.length = m) : Off W B 3 (tailV g o m c) xs ∧ (tailV g o m c).ownBlock = some g ∧
    ((c = 1 ∧ m = 0 ∧ tailV g o m c = .slice (some ⟨g, o, none⟩) 0 0) ∨ (1 < c ∧ m + 1 ≤ c ∧ c ≤ 9223372036854775807 ∧ tailV g o m c = .slice (some ⟨g, o + 1, none⟩) m (c - 1))) := by
  obtain ⟨A, c', hv, _, hle, hmax⟩ := h.form
  injection hv with e1 e2 e3
  subst e3
  simp only [List.length_cons] at hle
  unfold tailV
  by_cases hc : c = 1
  · subst hc
    rw [if_pos rfl]
    obtain ⟨q1, q2, q3⟩ := h.tail1
    exact ⟨q1, rfl, .inl ⟨rfl, by omega, rfl⟩⟩
  · rw [if_neg hc]
    obtain ⟨q1, q2, q3⟩ := h.tail
    rw [hm] at q1
    exact ⟨q1, rfl, .inr ⟨by omega, by omega, by unfold maxLen at hmax; omega, rfl⟩⟩
theorem pk_four {W W4 : World} {B p gl S g4 : Nat} {J : List Jb} {k : Int} {vj : Value} {b : Nat → Nat} {r : Nat → Value} {cs : Array Value} {s m g o cc n4 : Nat} {l : List Nat} {j : Jb} (h : WvAt W B p gl S J k vj b r) (hR : Blk W gl 58 cs) (hR2 : cs[s * 2]? = some (r s) ∧ cs[s * 2 + 1]? = some (.bool (begJ J s))) (hv : r s = .slice (some ⟨g, o, none⟩) (l.length + 1) cc) (hcn : W.cell? ⟨g, o, none⟩ = some (.int .i64 (m : Nat)))
    (hz : Blk W g4 37 #[.int .i64 0, .int .i64 0, .bool false, .bool false]) (hp : pendJ J s = m :: l) (hj : J[m]? = some j) (hW : W4 = (W.setCell ⟨b m, 1, none⟩ (.int .i64 ((j.h : Int) + 1))).drewN n4) (hs : s < S) :
    W4.cell? ⟨p, 0, none⟩ = some (.slice (some ⟨gl, 0, none⟩) S S) ∧ Blk W4 gl 58 cs ∧ cs[s * 2]? = some (.slice (some ⟨g, o, none⟩) (l.length + 1) cc) ∧ cs[s * 2 + 1]? = some (.bool (begJ J s)) ∧ W4.cell? ⟨g, o, none⟩ = some (.int .i64 (m : Nat)) ∧ Blk W4 g4 37 #[.int .i64 0, .int .i64 0, .bool false, .bool false] ∧
    (cc = 1 ∧ l.length = 0 ∧ tailV g o l.length cc = .slice (some ⟨g, o, none⟩) 0 0 ∨ 1 < cc ∧ l.length + 1 ≤ cc ∧ cc ≤ 9223372036854775807 ∧ tailV g o l.length cc = .slice (some ⟨g, o + 1, none⟩) l.length (cc - 1)) := by
  have hc := h.c m j hj
  have hq := h.q s hs
  rw [hv, hp] at hq
  have k1 : ∀ i t cs', Blk W i t cs' → t ≠ 33 → Blk W4 i t cs' := fun i t cs' hb ht => by
    rw [hW]
    exact hb.far (p := ⟨b m, 1, none⟩) (blk_apart hb hc ht) _
  obtain ⟨_, _, csI, hbI⟩ := hq.lt (g := g) rfl
  refine ⟨(k1 _ _ _ h.pb (by decide)).cell 0, k1 _ _ _ hR (by decide), by rw [← hv]; exact hR2.1, hR2.2, ?_, k1 _ _ _ hz (by decide), (tail_off hq (by simp)).2.2⟩
  rw [(k1 _ _ _ hbI (by decide)).cell, ← hbI.cell]
  exact hcn
theorem pk_fin {W0 W W4 W5 : World} {B p gl S g4 : Nat} {J : List Jb} {k : Int} {vj : Value} {b : Nat → Nat} {r : Nat → Value} {s m g o cc n4 : Nat} {l : List Nat} {j : Jb} (h : WvAt W B p gl S J k vj b r) (hs : s < S) (hp : pendJ J s = m :: l) (hj : J[m]? = some j) (hW : W4 = (W.setCell ⟨b m, 1, none⟩ (.int .i64 ((j.h : Int) + 1))).drewN n4)
    (hz : Blk W5 g4 37 #[.int .i64 0, .int .i64 0, .bool false, .bool false]) (hg5 : W4.grownBy W5 (some gl)) (hr5 : ∀ cs, Blk W4 gl 58 cs → Blk W5 gl 58 (turnC s (decide ((j.t : Int) ≤ (j.h : Int) + 1)) (tailV g o l.length cc) cs)) (hv : r s = .slice (some ⟨g, o, none⟩) (l.length + 1) cc)
    (hk : WKeep PickT B W0 W) (hg : W0.heap.size = g4) (hB : B ≤ W0.heap.size) :
    Blk ((((W5.setCell ⟨g4, 0, none⟩ (.int .i64 (m : Nat))).setCell ⟨g4, 1, none⟩ (.int .i64 (s : Nat))).setCell ⟨g4, 2, none⟩ (.bool (!begJ J s))).setCell ⟨g4, 3, none⟩ (.bool (decide ((j.t : Int) ≤ (j.h : Int) + 1)))) g4 37 #[.int .i64 (m : Nat), .int .i64 (s : Nat), .bool (!begJ J s), .bool (decide ((j.t : Int) ≤ (j.h : Int) + 1))] ∧
    WvAt ((((W5.setCell ⟨g4, 0, none⟩ (.int .i64 (m : Nat))).setCell ⟨g4, 1, none⟩ (.int .i64 (s : Nat))).setCell ⟨g4, 2, none⟩ (.bool (!begJ J s))).setCell ⟨g4, 3, none⟩ (.bool (decide ((j.t : Int) ≤ (j.h : Int) + 1)))) B p gl S (hadJ J m) k vj b (fun s' => if s' = s ∧ j.t ≤ j.h + 1 then tailV g o l.length cc else r s') ∧
    WKeep PickT B W0 ((((W5.setCell ⟨g4, 0, none⟩ (.int .i64 (m : Nat))).setCell ⟨g4, 1, none⟩ (.int .i64 (s : Nat))).setCell ⟨g4, 2, none⟩ (.bool (!begJ J s))).setCell ⟨g4, 3, none⟩ (.bool (decide ((j.t : Int) ≤ (j.h : Int) + 1)))) ∧
    ∀ s', (if s' = s ∧ j.t ≤ j.h + 1 then tailV g o l.length cc else r s').ownBlock = (r s').ownBlock := by
  have hq := h.q s hs
  rw [hv, hp] at hq
  have ht := tail_off (m := l.length) hq (by simp)
  have e1 : decide ((j.t : Int) ≤ (j.h : Int) + 1) = decide (j.t ≤ j.h + 1) := by
    by_cases hd : j.t ≤ j.h + 1
    · rw [decide_eq_true hd, decide_eq_true (by omega)]
    · rw [decide_eq_false hd, decide_eq_false (by omega)]
  obtain ⟨hw, hk2⟩ := h.pick hs hp hj hW hg5 (by rw [← e1]; exact hr5) (fun _ => ⟨ht.1, by rw [ht.2.1, hv]; rfl⟩)
  have q1 := hz.set_ 0 (.int .i64 (m : Nat))
  have q2 := q1.set_ 1 (.int .i64 (s : Nat))
  have q3 := q2.set_ 2 (.bool (!begJ J s))
  refine ⟨q3.set_ 3 _, (((hw.farT hz 0 _).farT q1 1 _).farT q2 2 _).farT q3 3 _, ?_, fun s' => ?_⟩
  rotate_left
  · by_cases e : s' = s ∧ j.t ≤ j.h + 1
    · rw [if_pos e, e.1, ht.2.1, hv]
      rfl
    · rw [if_neg e]
  have hkk := hk.trans hk2
  subst hg
  exact (((hkk.setNew (Nat.le_refl _) hB 0 _).setNew (Nat.le_refl _) hB 1 _).setNew (Nat.le_refl _) hB 2 _).setNew (Nat.le_refl _) hB 3 _
set_option maxHeartbeats 3200000 in
set_option maxRecDepth 100000 in
theorem Pick_yes {W : World} {B p gl S : Nat} {J : List Jb} {k : Int} {vj : Value} {b : Nat → Nat} {r : Nat → Value} {x : Int} (h : WvAt W B p gl S J k vj b r) (hk0 : 0 ≤ k) (hk1 : k < 4611686018427387904) (hBW : B ≤ W.heap.size) {s m : Nat} {l : List Nat} {j : Jb} (hs : (canJ S J)[(x % ((canJ S J).length : Int)).toNat]? = some s) (hp : pendJ J s = m :: l) (hj : J[m]? = some j) :
    Calls Try.prog 11 #[.pointer (some ⟨p, 0, none⟩), .int .i64 x] W (PickYes B p gl S J k vj b r m s j W) := by
  have hb0 := below_box W (.cells #[.int .i64 0, .int .i64 0, .bool false, .bool false] 37)
  have HZ := Lib.hid (And.intro (zero_turn W) (And.intro (h.below hb0) hb0))
  clear h hb0
  go_enter Try.func11, Try.ntmps11
  refine wp_seq_k fun K0 hK => ?_
  have HK0 := Lib.hid hK
  clear hK
  go_wp2_with fail
  refine HK0.out _ _ ?_
  clear HK0
  generalize W.alloc (.cells #[.int .i64 0, .int .i64 0, .bool false, .bool false] 37) = W1 at HZ ⊢
  obtain ⟨g4, hg4⟩ : ∃ g, W.heap.size = g := ⟨_, rfl⟩
  have HG := Lib.hid hg4
  rw [hg4] at HZ ⊢
  clear hg4
  refine wp_seq_k fun K0 hK => ?_
  have HK0 := Lib.hid hK
  clear hK
  refine wp_seq_k fun K1 hK => ?_
  have HK1 := Lib.hid hK
  clear hK
  go_wp2_with fail
  refine (made_w HZ.out.2.1).mono ?_
  rintro e w1 ⟨rfl, rfl⟩
  go_wp2_with fail
  refine HK1.out _ _ ?_
  clear HK1
  go_wp2_with fail
  refine HK0.out _ _ ?_
  clear HK0
  have c2 : _ = some (Value.int .i64 k) := HZ.out.2.1.pb.cell 2
  have f2 := HZ.out.2.1.pb.frozen 2
  have kw : IntKind.i64.wrap (k + 1) = k + 1 := IntWalk.i64_in _ (by omega)
  refine wp_seq_k fun K0 hK => ?_
  have HK0 := Lib.hid hK
  clear hK
  go_wp2_with fail
  refine HK0.out _ _ ?_
  clear HK0
  clear kw
  have H2 := Lib.hid (pick_two HZ.out.1 HZ.out.2.1 HZ.out.2.2 HG.out hBW (k + 1))
  clear c2 f2
  generalize W1.setCell ⟨p, 2, none⟩ (.int .i64 (k + 1)) = W2 at H2 ⊢
  refine wp_seq_k fun K0 hK => ?_
  have HK0 := Lib.hid hK
  clear hK
  go_wp2_with fail
  refine (Can_w H2.out.2.1).mono ?_
  rintro e W3 ⟨A, c, rfl, hown, hb3⟩
  have H3 := Lib.hid (And.intro (H2.out.1.below hb3 H2.out.1.lt) (And.intro (H2.out.2.1.below hb3) (And.intro (H2.out.2.2.trans (WKeep.of_below hb3 (Nat.le_trans hBW H2.out.2.2.below.size))) hown)))
  clear hown hb3
  go_wp2_with fail
  refine HK0.out _ _ ?_
  clear HK0
  have hlen : 0 < (canJ S J).length := by have := (List.getElem?_eq_some_iff.1 hs).1; omega
  have hl64 : (canJ S J).length ≤ 64 := by have := can_len S J; have := H3.out.2.1.S1; omega
  obtain ⟨q, hq, hq1, hq2, hq3, hq4⟩ := pick_idx x (canJ S J).length hlen
  obtain ⟨gA, rfl, hcA, hgA⟩ := newInts_cell H3.out.2.2.2 hs
  have hsS : s < S := (can_mem.1 (List.mem_of_getElem? hs)).1
  generalize (x % ((canJ S J).length : Int)).toNat = i at hs hq3 hq4 hcA
  generalize (canJ S J).length = N at hlen hl64 hq hq1 hq2 hq3 hq4 ⊢
  have n0 : ((N : Int) == 0) = false := by simp; omega
  have n1 : (0 : Int) < (N : Int) := by omega
  have n2 : (N : Int) ≤ 64 := by omega
  have w1 : IntKind.i64.wrap q = q := IntWalk.i64_in _ (by omega)
  have w2 : IntKind.i64.wrap (q + (N : Int)) = q + (N : Int) := IntWalk.i64_in _ (by omega)
  have q5 : (0 : Int) ≤ q + (N : Int) := by omega
  have q6 : (i : Int) < (N : Int) := by omega
  have q7 : (0 : Int) ≤ (i : Int) := by omega
  refine wp_seq_k fun K0 hK => ?_
  have HK0 := Lib.hid hK
  clear hK
  go_wp2_with fail
  refine HK0.out _ _ ?_
  clear HK0
  refine wp_seq_k fun K0 hK => ?_
  have HK0 := Lib.hid hK
  clear hK
  go_wp2_with fail
  refine HK0.out _ _ ?_
  clear HK0
  have H4 := Lib.hid (And.intro hs (And.intro hp (And.intro hj hsS)))
  clear n0 n1 n2 w1 w2 q5 q6 q7 hq hq1 hq2 hq3 hq4 hcA hgA hlen hl64 hs hp hj
  obtain ⟨g, o, cc, hv, hgg, hcn⟩ := H3.out.2.1.first H4.out.2.2.2 H4.out.2.1
  obtain ⟨gj, cj, hvj, hgj, hcj⟩ := H3.out.2.1.job (pend_lt (show m ∈ pendJ J s by rw [H4.out.2.1]; simp))
  have c0 : W3.cell? ⟨p, 0, none⟩ = some (Value.slice (some ⟨gl, 0, none⟩) S S) := H3.out.2.1.pb.cell 0
  have c1 : W3.cell? ⟨p, 1, none⟩ = some (Value.slice (some ⟨gj, 0, none⟩) J.length cj) := by rw [← hvj]; exact H3.out.2.1.pb.cell 1
  have cs : W3.cell? ⟨gl, s * 2, none⟩ = some (Value.slice (some ⟨g, o, none⟩) (l.length + 1) cc) := by rw [← hv]; exact (H3.out.2.1.l.at_ H4.out.2.2.2).1
  have i0 : (0 : Int) ≤ (s : Int) := by omega
  have i1 : (s : Int) < (S : Int) := by omega
  have i2 : (0 : Int) < ((l.length + 1 : Nat) : Int) := by omega
  have i3 : (0 : Int) ≤ (m : Int) := by omega
  have i4 : (m : Int) < (J.length : Int) := by have := pend_lt (show m ∈ pendJ J s by rw [H4.out.2.1]; simp); omega
  have na := fun W => cnt_na (b m) W
  have me := fun W => cnt_me (b m) W
  have HV := Lib.hid (And.intro hv hvj)
  clear hv hvj
  refine wp_seq_k fun K0 hK => ?_
  have HK0 := Lib.hid hK
  clear hK
  clear c0 c1 cs
  have hjm := pend_lt (show m ∈ pendJ J s by rw [H4.out.2.1]; simp)
  have hjx := H4.out.2.2.1
  have hwd : WvAt W3.drew B p gl S J (k + 1) vj b r := H3.out.2.1.below ⟨rfl, rfl, rfl, Nat.le_refl _, fun _ _ => rfl⟩
  obtain ⟨csR, hR0, hR1, hR2⟩ := hwd.l
  have hjt : j.h < 9223372036854775807 := by
    have a1 := hwd.tl j (List.mem_of_getElem? hjx)
    obtain ⟨j', q1, q2, q3⟩ := pend_mem.1 (show m ∈ pendJ J s by rw [H4.out.2.1]; simp)
    rw [hjx] at q1
    obtain rfl := Option.some.inj q1
    omega
  have HC := Lib.hid (And.intro (hwd.c m j hjx) hjt)
  have HD := Lib.hid (And.intro hwd (And.intro hR0 (And.intro (hR2 s H4.out.2.2.2) (And.intro hcn hgg))))
  clear hjx hwd hR0 hR1 hR2 hjt hcn hgg
  have c0 : W3.cell? ⟨p, 0, none⟩ = some (Value.slice (some ⟨gl, 0, none⟩) S S) := H3.out.2.1.pb.cell 0
  have c1 : W3.cell? ⟨p, 1, none⟩ = some (Value.slice (some ⟨gj, 0, none⟩) J.length cj) := by rw [← HV.out.2]; exact H3.out.2.1.pb.cell 1
  have cs : W3.cell? ⟨gl, s * 2, none⟩ = some (Value.slice (some ⟨g, o, none⟩) (l.length + 1) cc) := by rw [← HV.out.1]; exact (H3.out.2.1.l.at_ H4.out.2.2.2).1
  have ci : W3.cell? ⟨g, o, none⟩ = some (.int .i64 (m : Nat)) := HD.out.2.2.2.1
  go_region_with ((first
    | ((with_reducible refine (count_pick HC.out.1 HC.out.2).mono ?_); rintro e W4 ⟨rfl, n4, hW4⟩; have H5 := Lib.hid (pk_four HD.out.1 HD.out.2.1 HD.out.2.2.1 HV.out.1 HD.out.2.2.2.1 (H3.out.1.drew) H4.out.2.1 H4.out.2.2.1 hW4 H4.out.2.2.2); have H6 := Lib.hid hW4; clear hW4)
    | ((with_reducible refine (turn_all H5.out.1 H4.out.2.2.2 HD.out.1.S1.2 H5.out.2.1 H5.out.2.2.1 H5.out.2.2.2.1 H5.out.2.2.2.2.1 (H5.out.2.2.2.2.2.2 )).mono ?_); rintro e W5 ⟨rfl, hg5, hr5⟩; have hz5 := H5.out.2.2.2.2.2.1.grown hg5 (fun e => blk_apart H5.out.2.2.2.2.2.1 H5.out.2.1 (by decide) (by injection e)); have z0 : W5.cell? ⟨g4, 0, none⟩ = some (.int .i64 0) := hz5.cell 0; have z1 : W5.cell? ⟨g4, 1, none⟩ = some (.int .i64 0) := hz5.cell 1; have z2 : W5.cell? ⟨g4, 2, none⟩ = some (.bool false) := hz5.cell 2; have z3 : W5.cell? ⟨g4, 3, none⟩ = some (.bool false) := hz5.cell 3; have zf := fun i => hz5.frozen i; have H7 := Lib.hid (And.intro hz5 (And.intro hg5 hr5)); clear hz5 hg5 hr5)))
  all_goals
    refine HK0.out _ _ ?_
    clear HK0
    simp only [Act.put, List.getElem_toArray, List.getElem_cons_succ, List.getElem_cons_zero, List.setIfInBounds_toArray, List.set_cons_zero, List.set_cons_succ]
    clear z0 z1 z2 z3 zf
    have H8 := Lib.hid (pk_fin HD.out.1 H4.out.2.2.2 H4.out.2.1 H4.out.2.2.1 H6.out H7.out.1 H7.out.2.1 H7.out.2.2 HV.out.1 (H3.out.2.2.1.trans (WKeep.of_below ⟨rfl, rfl, rfl, Nat.le_refl _, fun _ _ => rfl⟩ (Nat.le_trans hBW H3.out.2.2.1.below.size))) HG.out hBW)
    generalize (((W5.setCell ⟨g4, 0, none⟩ (.int .i64 (m : Nat))).setCell ⟨g4, 1, none⟩ (.int .i64 (s : Nat))).setCell ⟨g4, 2, none⟩ (.bool (!begJ J s))).setCell ⟨g4, 3, none⟩ (.bool (decide ((j.t : Int) ≤ (j.h : Int) + 1))) = W6 at H8 ⊢
    have r0 : W6.cell? ⟨g4, 0, none⟩ = some (.int .i64 (m : Nat)) := H8.out.1.cell 0
    have r1 : W6.cell? ⟨g4, 1, none⟩ = some (.int .i64 (s : Nat)) := H8.out.1.cell 1
    have r2 : W6.cell? ⟨g4, 2, none⟩ = some (.bool (!begJ J s)) := H8.out.1.cell 2
    have r3 : W6.cell? ⟨g4, 3, none⟩ = some (.bool (decide ((j.t : Int) ≤ (j.h : Int) + 1))) := H8.out.1.cell 3
    have r4 : decide ((j.t : Int) ≤ (j.h : Int) + 1) = decide (j.t ≤ j.h + 1) := by
      by_cases hd : j.t ≤ j.h + 1
      · rw [decide_eq_true hd, decide_eq_true (by omega)]
      · rw [decide_eq_false hd, decide_eq_false (by omega)]
    rw [r4] at r3
    clear r4
    go_wp2_with fail
    refine bodyPost_ret (v := .tuple #[turnV m s (!begJ J s) (decide (j.t ≤ j.h + 1)), .bool true]) (by simp [results, Try.results11, go_sem, r0, r1, r2, r3]) rfl ⟨rfl, _, H8.out.2.1, H8.out.2.2.1, H8.out.2.2.2⟩
end Go.Proofs.Ytagcbihjejjmnaa
