/-
  Layer 23: the iterator over the sessions that can go on, as a contract of the kit's form ('SeqStopsK').
-/
import Derived.Test.YtagcbihjejjmnaaWvW1
import Derived.RangeFuncNested
import Derived.RangeFuncBound
import Derived.RangeFuncCalls
import Derived.RangeFuncLeaves
import Derived.Shelf.Abstract
import Derived.Shelf.RegionOpen
import Derived.OwnWalkIn
import Derived.TacticsInMore
import Derived.LoopNIn
import Derived.LoopIn
namespace Go.Proofs.Ytagcbihjejjmnaa
open Go.RowKit Go.Shelf
set_option linter.unusedVariables false
set_option linter.unusedSimpArgs false
attribute [local go_sem] Oper.semAt_some

theorem can_succ (k : Nat) (J : List Jb) : canJ (k + 1) J = canJ k J ++ (if pendJ J k = [] then [] else [k]) := by
  unfold canJ
  rw [List.range_succ, List.filter_append, List.filter_cons]
  by_cases h : pendJ J k = [] <;> simp [h]
theorem can_pre (k n : Nat) (J : List Jb) (h : k ≤ n) : canJ k J <+: canJ n J := by
  obtain ⟨d, rfl⟩ : ∃ d, n = k + d := ⟨n - k, by omega⟩
  clear h
  induction d with
  | zero => exact List.prefix_refl _
  | succ d ih =>
    rw [show k + (d + 1) = (k + d) + 1 by omega, can_succ]
    exact ih.trans (List.prefix_append _ _)
abbrev encS (s : Nat) : Array Value := #[.int .i64 (s : Nat)]
/-- All blocks below B are as they were. -/
structure KpB (B : Nat) (W W' : World) : Prop where
  size : W.heap.size ≤ W'.heap.size
  same : ∀ k, k < B → W'.heap[k]? = W.heap[k]?
theorem KpB.refl (B : Nat) (W : World) : KpB B W W := ⟨Nat.le_refl _, fun _ _ => rfl⟩
theorem KpB.trans {B : Nat} {W1 W2 W3 : World} (h : KpB B W1 W2) (k : KpB B W2 W3) : KpB B W1 W3 := ⟨Nat.le_trans h.size k.size, fun i hi => (k.same i hi).trans (h.same i hi)⟩
theorem KpB.of_below {B : Nat} {W W' : World} (h : Below W.heap.size W W') (hB : B ≤ W.heap.size) : KpB B W W' := ⟨h.size, fun i hi => h.block i (by omega)⟩
theorem KpB.of_below2 {B : Nat} {W W' : World} (h : Below B W W') : KpB B W W' := ⟨h.size, fun i hi => h.block i hi⟩
theorem KpB.put {B : Nat} (W : World) (l : Nat) (o : Obj) (h : B ≤ l) : KpB B W (W.putObj l o) := ⟨by simp, fun k hk => World.putObj_heap_other (by omega)⟩
theorem KpB.cell {B : Nat} {W W' : World} (h : KpB B W W') {a : Addr} (ha : a.block < B) : W'.cell? a = W.cell? a := by
  unfold World.cell?
  rw [h.same _ ha]
theorem KpB.rows {B gl S : Nat} {W W' : World} {r : Nat → Value} {f : Nat → Bool} (h : KpB B W W') (hr : RowsIn W gl S r f) (hg : gl < B) : RowsIn W' gl S r f := hr.same (h.same gl hg)
theorem KpB.blk {B g : Nat} {W W' : World} {t : TypeId} {cs : Array Value} (h : KpB B W W') (hb : Blk W g t cs) (hg : g < B) : Blk W' g t cs := (h.same g hg).trans hb

theorem can_any (a : Option Addr) (w : World) : Calls Try.prog 20 #[.pointer a] w fun e w' => e = .returned (.func (.func 29) #[] #[.pointer (some ⟨w.heap.size, 0, none⟩)]) ∧ w.alloc (.cells #[.pointer a] 75) = w' := by
  go_enter Try.func20, Try.ntmps20
  go_wp2
  go_ret
  exact ⟨rfl, rfl⟩
/-- What the iterator reads. -/
structure CanI (W : World) (Bs p gl S : Nat) (J : List Jb) (r : Nat → Value) : Prop where
  x : W.cell? ⟨Bs, 0, none⟩ = some (.pointer (some ⟨p, 0, none⟩))
  p : W.cell? ⟨p, 0, none⟩ = some (.slice (some ⟨gl, 0, none⟩) S S)
  l : ∀ s, s < S → ∃ A c, W.cell? ⟨gl, s * 2, none⟩ = some (.slice A (pendJ J s).length c)
theorem CanI.keep {W W' : World} {B Bs p gl S : Nat} {J : List Jb} {r : Nat → Value} (h : CanI W Bs p gl S J r) (hk : KpB B W W') (hlt : Bs < B ∧ p < B ∧ gl < B) : CanI W' Bs p gl S J r :=
  ⟨(hk.cell (a := ⟨Bs, 0, none⟩) hlt.1).trans h.x, (hk.cell (a := ⟨p, 0, none⟩) hlt.2.1).trans h.p, fun s hs => by
    obtain ⟨A, c, h1⟩ := h.l s hs
    exact ⟨A, c, (hk.cell (a := ⟨gl, s * 2, none⟩) hlt.2.2).trans h1⟩⟩
theorem WvAt.canI {W : World} {B p gl S : Nat} {J : List Jb} {k : Int} {vj : Value} {b : Nat → Nat} {r : Nat → Value} (h : WvAt W B p gl S J k vj b r) {Bs : Nat} (hx : W.cell? ⟨Bs, 0, none⟩ = some (.pointer (some ⟨p, 0, none⟩))) : CanI W Bs p gl S J r :=
  ⟨hx, h.pb.cell 0, fun s hs => by
    obtain ⟨A, c, hv, _⟩ := (h.q s hs).form
    rw [List.length_map] at hv
    exact ⟨A, c, by rw [← hv]; exact (h.l.at_ hs).1⟩⟩
set_option maxHeartbeats 3200000 in
set_option maxRecDepth 100000 in
theorem can_stops (Bs n B p gl S : Nat) (J : List Jb) (r : Nat → Value) (w : World) (hB : B ≤ w.heap.size) (hn : 2 ≤ n) (hI : CanI w Bs p gl S J r) (hlt : Bs < B ∧ p < B ∧ gl < B) (hS : S ≤ 64) :
    SeqStopsK Fence.wide n Try.prog 29 #[.pointer (some ⟨Bs, 0, none⟩)] encS (KpB B) (fun ys => ys = canJ S J) (fun pre => pre <+: canJ S J) 64 w := fun l Jv Jx W hW hJ hJx hY h0 => by
  have hI1 : CanI W Bs p gl S J r := hI.keep (KpB.of_below hW hB) hlt
  have c0 := hI1.x
  have c1 := hI1.p
  have HJ := Lib.hid (And.intro hJ (And.intro hJx (And.intro hY h0)))
  have HI := Lib.hid hI1
  clear hJ hJx hY h0 hI hI1
  have n1 : 1 ≤ n := by omega
  refine callsIn_of_wp Try.func29 rfl trivial ?_ rfl
  simp only [Try.ntmps29, List.size_toArray, List.length_cons, List.length_nil, Nat.reduceAdd, Nat.reduceSub, Array.replicate_succ, Array.replicate_zero, List.push_toArray, List.append_toArray, List.nil_append, List.cons_append]
  gi_wp2
  gi_loopw [9] (fun i wr => ∃ k : Nat, k ≤ S ∧ i = .int .i64 (k : Nat) ∧ Hid (Jv (canJ k J) wr ∧ KpB B W wr)) (fun i _ => S - (intOf i).toNat)
  case atStart => exact ⟨0, Nat.zero_le _, rfl, Lib.hid ⟨HJ.out.2.2.2, KpB.refl _ _⟩⟩
  case round =>
    obtain ⟨k, hk, rfl, HW⟩ := hrel
    have i0 : (0 : Int) ≤ (k : Int) := by omega
    by_cases hlk : k < S
    · have i1 : (k : Int) < (S : Int) := by omega
      have hIr := HI.out.keep HW.out.2 hlt
      have e0 := hIr.x
      have e1 := hIr.p
      obtain ⟨A, c, e2⟩ := hIr.l k hlk
      clear hIr
      have HC := Lib.hid (can_succ k J)
      cases hp : pendJ J k with
      | nil =>
        rw [hp] at e2
        simp only [List.length_nil] at e2
        have HP := Lib.hid hp
        clear hp
        gi_wp2
        refine ⟨(fun f h => by cases h), ?_⟩
        gi_wp2
        go_roundw
        case rel =>
          refine ⟨k + 1, by omega, by go_num, Lib.hid ⟨?_, HW.out.2⟩⟩
          rw [HC.out, if_pos HP.out, List.append_nil]
          exact HW.out.1
        case measure => simp [intOf]; omega
      | cons m q =>
        rw [hp] at e2
        simp only [List.length_cons] at e2
        have hcl : (canJ k J).length < 64 := by have := can_len k J; omega
        have HP := Lib.hid (show ¬ pendJ J k = [] by rw [hp]; simp)
        clear hp
        have i2 : (0 : Int) < ((q.length + 1 : Nat) : Int) := by omega
        have i3 : 0 < q.length + 1 := by omega
        have hYd : YieldAt Fence.wide (n - 1) Try.prog l (encS k) wr (fun e W' => ∃ b : Bool, e = .returned (.bool b) ∧ Hid ((b = true → Jv (canJ k J ++ [k]) W' ∧ KpB B wr W') ∧ (b = false → Jx (canJ k J ++ [k]) W'))) :=
          (HJ.out.2.2.1 _ k wr HW.out.1 hcl).mono (fun e W' h => by
            rcases h with ⟨rfl, h1, h2⟩ | ⟨rfl, h1⟩
            · exact ⟨true, rfl, Lib.hid ⟨fun _ => ⟨h1, h2⟩, fun e => by cases e⟩⟩
            · exact ⟨false, rfl, Lib.hid ⟨fun e => by (cases e), fun _ => h1⟩⟩)
        obtain ⟨fn, tmps, assign, body, hy, hR⟩ := hYd
        dsimp only [encS] at hy
        clear hcl
        gi_wp2
        refine hR.mono ?_
        rintro e W3 ⟨b, rfl, hP⟩
        cases b with
        | true =>
          obtain ⟨hJ3, hk3⟩ := hP.out.1 rfl
          have HN := Lib.hid (And.intro hJ3 (HW.out.2.trans hk3))
          clear hJ3 hk3 hP hR hy
          gi_wp2
          go_roundw
          case rel =>
            refine ⟨k + 1, by omega, by go_num, Lib.hid ⟨?_, HN.out.2⟩⟩
            rw [HC.out, if_neg HP.out]
            exact HN.out.1
          case measure => simp [intOf]; omega
        | false =>
          have hx3 := hP.out.2 rfl
          have HN := Lib.hid hx3
          clear hx3 hP hR hy
          gi_wp2
          refine bodyPost_ret (results_none rfl _ _ _) rfl ?_
          refine ⟨⟨_, rfl⟩, .inr ⟨canJ k J ++ [k], ?_, HN.out⟩⟩
          have ht : canJ (k + 1) J = canJ k J ++ [k] := by rw [HC.out, if_neg HP.out]
          rw [← ht]
          exact can_pre _ _ _ (by omega)
    · obtain rfl : k = S := by omega
      have HF := Lib.hid HW.out.1
      gi_wp2
      go_end0
      exact ⟨⟨_, rfl⟩, .inl ⟨_, rfl, HF.out⟩⟩
end Go.Proofs.Ytagcbihjejjmnaa
