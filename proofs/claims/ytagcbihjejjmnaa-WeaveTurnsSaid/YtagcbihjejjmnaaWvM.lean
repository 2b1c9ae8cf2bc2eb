/-
  Layer 23: a weave in memory.
-/
import Derived.Test.YtagcbihjejjmnaaWvP
import Derived.Test.YtagcbihjejjmnaaWvO
import Derived.Test.YtagcbihjejjmnaaFewM
import Derived.Test.YtagcbihjejjmnaaTail
namespace Go.Proofs.Ytagcbihjejjmnaa
open Go.RowKit
set_option linter.unusedVariables false
set_option linter.unusedSimpArgs false

def numV (n : Nat) : Value := .int .i64 (n : Nat)
def cntV (b : Nat → Nat) (i : Nat) : Value := .pointer (some ⟨b i, 0, none⟩)
/-- The sessions' rows. -/
def RowsIn (W : World) (gl S : Nat) (r : Nat → Value) (f : Nat → Bool) : Prop := ∃ cs : Array Value, Blk W gl 58 cs ∧ cs.size = S * 2 ∧ ∀ s, s < S → cs[s * 2]? = some (r s) ∧ cs[s * 2 + 1]? = some (.bool (f s))
/-- A weave in memory: its block p, the rows' block gl; S sessions, jobs J, k picks; vj lists the jobs, which lie in blocks b; r are the sessions' lists. -/
structure WvAt (W : World) (B p gl S : Nat) (J : List Jb) (k : Int) (vj : Value) (b : Nat → Nat) (r : Nat → Value) : Prop where
  pb : Blk W p 55 #[.slice (some ⟨gl, 0, none⟩) S S, vj, .int .i64 k]
  l : RowsIn W gl S r (begJ J)
  j : W.ownsRow B 28 1 vj J.length ((List.range J.length).map (cntV b))
  c : ∀ i x, J[i]? = some x → Blk W (b i) 33 #[.int .i64 (x.t : Nat), .int .i64 (x.h : Nat)]
  q : ∀ s, s < S → Off W B 3 (r s) ((pendJ J s).map numV)
  ra : ∀ s s' g, s < S → s' < S → s ≠ s' → (r s).ownBlock = some g → (r s').ownBlock ≠ some g
  ba : ∀ i i', i < J.length → i' < J.length → b i = b i' → i = i'
  ge : B ≤ p ∧ B ≤ gl ∧ ∀ i, i < J.length → B ≤ b i
  ok : JbOk J
  S1 : 1 ≤ S ∧ S ≤ 64
  Jl : J.length ≤ 4096
  tl : ∀ x ∈ J, x.t ≤ 9223372036854775807
  sl : ∀ x ∈ J, x.s < S
theorem below_alloc {W w1 : World} (h : Below W.heap.size W w1) (o : Obj) : Below W.heap.size W (w1.alloc o) := h.alloc h.size o
theorem below_box (w : World) (o : Obj) : Below w.heap.size w (w.alloc o) := (Below.refl _ _).alloc (Nat.le_refl _) _
theorem own_same2 {W W' : World} {base size n : Nat} {e : TypeId} {v : Value} {xs : List Value} (h : W.ownsRow base e size v n xs) (hb : ∀ g, v.ownBlock = some g → W'.heap[g]? = W.heap[g]?) : W'.ownsRow base e size v n xs := by
  refine ⟨h.1, ?_⟩
  rcases h.2 with h0 | ⟨g', cap, cur, hv, hb', hh, rest⟩
  · exact Or.inl h0
  · exact Or.inr ⟨g', cap, cur, hv, hb', (hb g' (by rw [hv]; rfl)).trans hh, rest⟩
section
variable {W W' : World} {B p gl S : Nat} {J : List Jb} {k : Int} {vj : Value} {b : Nat → Nat} {r : Nat → Value} {f : Nat → Bool}
theorem RowsIn.below (h : RowsIn W gl S r f) (hb : Below W.heap.size W W') : RowsIn W' gl S r f := by
  obtain ⟨cs, h0, h1⟩ := h
  exact ⟨cs, h0.below hb h0.lt, h1⟩
theorem RowsIn.same (h : RowsIn W gl S r f) (hb : W'.heap[gl]? = W.heap[gl]?) : RowsIn W' gl S r f := by
  obtain ⟨cs, h0, h1⟩ := h
  exact ⟨cs, hb.trans h0, h1⟩
theorem RowsIn.lt (h : RowsIn W gl S r f) : gl < W.heap.size := by
  obtain ⟨cs, h0, h1⟩ := h
  exact h0.lt
theorem RowsIn.at_ (h : RowsIn W gl S r f) {s : Nat} (hs : s < S) : W.cell? ⟨gl, s * 2, none⟩ = some (r s) ∧ W.cell? ⟨gl, s * 2 + 1, none⟩ = some (.bool (f s)) ∧ W.frozen? ⟨gl, s * 2, none⟩ = false ∧ W.frozen? ⟨gl, s * 2 + 1, none⟩ = false := by
  obtain ⟨cs, h0, h1, h2⟩ := h
  exact ⟨(h0.cell _).trans (h2 s hs).1, (h0.cell _).trans (h2 s hs).2, h0.frozen _, h0.frozen _⟩
/-- A row's list is another. -/
theorem RowsIn.setR (h : RowsIn W gl S r f) {s : Nat} (hs : s < S) (v : Value) : RowsIn (W.setCell ⟨gl, s * 2, none⟩ v) gl S (fun s' => if s' = s then v else r s') f := by
  obtain ⟨cs, h0, h1, h2⟩ := h
  refine ⟨_, h0.set_ (s * 2) v, by simpa using h1, fun s' hs' => ⟨?_, ?_⟩⟩
  · dsimp only
    by_cases e : s' = s
    · subst e
      rw [Array.getElem?_setIfInBounds_self, if_pos (by omega), if_pos rfl]
    · rw [Array.getElem?_setIfInBounds_ne (by omega), if_neg e]
      exact (h2 s' hs').1
  · rw [Array.getElem?_setIfInBounds_ne (by omega)]
    exact (h2 s' hs').2
/-- Whether a row's first job has begun is another. -/
theorem RowsIn.setB (h : RowsIn W gl S r f) {s : Nat} (hs : s < S) (v : Bool) : RowsIn (W.setCell ⟨gl, s * 2 + 1, none⟩ (.bool v)) gl S r (fun s' => if s' = s then v else f s') := by
  obtain ⟨cs, h0, h1, h2⟩ := h
  refine ⟨_, h0.set_ (s * 2 + 1) (.bool v), by simpa using h1, fun s' hs' => ⟨?_, ?_⟩⟩
  · rw [Array.getElem?_setIfInBounds_ne (by omega)]
    exact (h2 s' hs').1
  · dsimp only
    by_cases e : s' = s
    · subst e
      rw [Array.getElem?_setIfInBounds_self, if_pos (by omega), if_pos rfl]
    · rw [Array.getElem?_setIfInBounds_ne (by omega), if_neg e]
      exact (h2 s' hs').2
theorem RowsIn.congr {r' : Nat → Value} {f' : Nat → Bool} (h : RowsIn W gl S r f) (hr : ∀ s, s < S → r s = r' s) (hf : ∀ s, s < S → f s = f' s) : RowsIn W gl S r' f' := by
  obtain ⟨cs, h0, h1, h2⟩ := h
  exact ⟨cs, h0, h1, fun s hs => by rw [← hr s hs, ← hf s hs]; exact h2 s hs⟩
theorem WvAt.below (h : WvAt W B p gl S J k vj b r) (hb : Below W.heap.size W W') : WvAt W' B p gl S J k vj b r :=
  ⟨h.pb.below hb h.pb.lt, h.l.below hb, own_same2 h.j fun g hg => hb.block g (h.j.lt g hg).2, fun i x hx => (h.c i x hx).below hb (h.c i x hx).lt, fun s hs => (h.q s hs).below hb, h.ra, h.ba, h.ge, h.ok, h.S1, h.Jl, h.tl, h.sl⟩
theorem WvAt.drewN (h : WvAt W B p gl S J k vj b r) (n : Nat) : WvAt (W.drewN n) B p gl S J k vj b r := h.below ⟨rfl, rfl, rfl, Nat.le_refl _, fun _ _ => rfl⟩
/-- The job of a number. -/
theorem WvAt.job (h : WvAt W B p gl S J k vj b r) {i : Nat} (hi : i < J.length) : ∃ g c, vj = .slice (some ⟨g, 0, none⟩) J.length c ∧ g < W.heap.size ∧ W.cell? ⟨g, i, none⟩ = some (.pointer (some ⟨b i, 0, none⟩)) := by
  rcases h.j.2 with ⟨_, h0⟩ | ⟨g, c, cur, hv, hb, hh, hn, hc, hs, ht⟩
  · omega
  · refine ⟨g, c, hv, (Array.getElem?_eq_some_iff.1 hh).1, ?_⟩
    have hx : ((List.range J.length).map (cntV b))[i]? = some (cntV b i) := by
      rw [List.getElem?_map, List.getElem?_range hi]
      rfl
    rw [← ht, Nat.mul_one, List.getElem?_take_of_lt hi, Array.getElem?_toList] at hx
    exact (cell_of_row W g i cur _ (0, 0) hh).trans hx
/-- The first job of a session. -/
theorem WvAt.first (h : WvAt W B p gl S J k vj b r) {s n : Nat} {l : List Nat} (hs : s < S) (hp : pendJ J s = n :: l) : ∃ g o c, r s = .slice (some ⟨g, o, none⟩) (l.length + 1) c ∧ g < W.heap.size ∧ W.cell? ⟨g, o, none⟩ = some (.int .i64 (n : Nat)) := by
  have hq := h.q s hs
  obtain ⟨A, c, hv, _⟩ := hq.form
  rw [hp] at hq hv
  rw [hv] at hq
  obtain ⟨g, o, hA, hg, hn, hc⟩ := hq.cell (j := 0) rfl
  subst hA
  refine ⟨g, o, c, ?_, hg, ?_⟩
  · rw [hv]
    simp
  · simpa [numV] using hc
theorem WvAt.emp (h : WvAt W B p gl S J k vj b r) {s : Nat} (hs : s < S) (hp : pendJ J s = []) : ∃ A c, r s = .slice A 0 c := by
  obtain ⟨A, c, hv, _⟩ := (h.q s hs).form
  rw [hp] at hv
  exact ⟨A, c, hv⟩
theorem WvAt.len (h : WvAt W B p gl S J k vj b r) : ∃ A c, vj = .slice A J.length c := by
  obtain ⟨A, c, hv, _⟩ := (Off.of_own h.j).form
  simp at hv
  exact ⟨A, c, hv⟩
end
end Go.Proofs.Ytagcbihjejjmnaa
