/-
  Layer 23: turn.
-/
import Derived.Test.YtagcbihjejjmnaaWvW2
namespace Go.Proofs.Ytagcbihjejjmnaa
open Go.RowKit
set_option linter.unusedVariables false
set_option linter.unusedSimpArgs false

/-- What turn does to the rows. -/
def turnC (s : Nat) (ended : Bool) (v : Value) (cs : Array Value) : Array Value := if ended = true then (cs.setIfInBounds (s * 2 + 1) (.bool false)).setIfInBounds (s * 2) v else cs.setIfInBounds (s * 2 + 1) (.bool true)
def TurnEnd (n s : Nat) (b : Bool) (gl : Nat) (ended : Bool) (v : Value) (W : World) (e : Ending) (w' : World) : Prop :=
  e = .returned (turnV n s (!b) ended) ∧ W.grownBy w' (some gl) ∧ ∀ cs, Blk W gl 58 cs → Blk w' gl 58 (turnC s ended v cs)
/-- Within turn: the rows hold cs, the result's block and the turn's block lie next to each other. -/
structure TuV (W : World) (gl s : Nat) (cs : Array Value) (n : Nat) (b e : Bool) (V : World) : Prop where
  rb : Blk V gl 58 cs
  zb : Blk V W.heap.size 37 #[.int .i64 0, .int .i64 0, .bool false, .bool false]
  tb : Blk V (W.heap.size + 1) 37 #[.int .i64 (n : Nat), .int .i64 (s : Nat), .bool b, .bool e]
  gr : W.grownBy V (some gl)
  lt : gl < W.heap.size
theorem TuV.set {W V : World} {gl s n : Nat} {cs : Array Value} {b e : Bool} (h : TuV W gl s cs n b e V) (i : Nat) (v : Value) : TuV W gl s (cs.setIfInBounds i v) n b e (V.setCell ⟨gl, i, none⟩ v) :=
  ⟨h.rb.set_ i v, h.zb.far (p := ⟨gl, i, none⟩) (by have := h.lt; show W.heap.size ≠ gl; omega) v, h.tb.far (p := ⟨gl, i, none⟩) (by have := h.lt; show W.heap.size + 1 ≠ gl; omega) v,
   ⟨h.gr.os, h.gr.tape, h.gr.output, by simpa [World.setCell] using h.gr.size, fun k hk hne => (Below.heap_setCell V _ v k (fun e => hne (by rw [show k = gl from e]))).trans (h.gr.block k hk hne)⟩, h.lt⟩
theorem TuV.set1 {W V : World} {gl s n : Nat} {cs : Array Value} {b e : Bool} (h : TuV W gl s cs n b e V) (v : Value) : TuV W gl s (cs.setIfInBounds (s * 2 + 1) v) n b e (V.setCell ⟨gl, s * 2 + 1, none⟩ v) := h.set _ v
theorem tuV_mk {W : World} {gl : Nat} {cs : Array Value} (h : Blk W gl 58 cs) (n s : Nat) (b e : Bool) : TuV W gl s cs n b e (((W.alloc (.cells #[.int .i64 0, .int .i64 0, .bool false, .bool false] 37)).alloc (.cells #[.int .i64 (n : Nat), .int .i64 (s : Nat), .bool b, .bool e] 37)).drew) := by
  have hb := below_alloc (below_box W (.cells #[.int .i64 0, .int .i64 0, .bool false, .bool false] 37)) (.cells #[.int .i64 (n : Nat), .int .i64 (s : Nat), .bool b, .bool e] 37)
  have q := Blk.new (W.alloc (.cells #[.int .i64 0, .int .i64 0, .bool false, .bool false] 37)) 37 #[.int .i64 (n : Nat), .int .i64 (s : Nat), .bool b, .bool e]
  rw [show (W.alloc (.cells #[.int .i64 0, .int .i64 0, .bool false, .bool false] 37)).heap.size = W.heap.size + 1 by simp] at q
  have q0 := h.below hb h.lt
  have q1 := (Blk.new W 37 #[.int .i64 0, .int .i64 0, .bool false, .bool false]).alloc (.cells #[.int .i64 (n : Nat), .int .i64 (s : Nat), .bool b, .bool e] 37)
  exact ⟨q0, q1, q, ⟨hb.os, hb.tape, hb.output, hb.size, fun k hk _ => hb.block k hk⟩, h.lt⟩
/-- The turn is copied into the result's block. -/
theorem TuV.fin {W V : World} {gl s n : Nat} {cs : Array Value} {b e : Bool} (h : TuV W gl s cs n b e V) :
    Blk ((((V.setCell ⟨W.heap.size, 0, none⟩ (.int .i64 (n : Nat))).setCell ⟨W.heap.size, 1, none⟩ (.int .i64 (s : Nat))).setCell ⟨W.heap.size, 2, none⟩ (.bool b)).setCell ⟨W.heap.size, 3, none⟩ (.bool e)) W.heap.size 37 #[.int .i64 (n : Nat), .int .i64 (s : Nat), .bool b, .bool e] ∧
    Blk ((((V.setCell ⟨W.heap.size, 0, none⟩ (.int .i64 (n : Nat))).setCell ⟨W.heap.size, 1, none⟩ (.int .i64 (s : Nat))).setCell ⟨W.heap.size, 2, none⟩ (.bool b)).setCell ⟨W.heap.size, 3, none⟩ (.bool e)) gl 58 cs ∧
    W.grownBy ((((V.setCell ⟨W.heap.size, 0, none⟩ (.int .i64 (n : Nat))).setCell ⟨W.heap.size, 1, none⟩ (.int .i64 (s : Nat))).setCell ⟨W.heap.size, 2, none⟩ (.bool b)).setCell ⟨W.heap.size, 3, none⟩ (.bool e)) (some gl) := by
  have hne : gl ≠ W.heap.size := by have := h.lt; omega
  refine ⟨(((h.zb.set_ 0 _).set_ 1 _).set_ 2 _).set_ 3 _, (((h.rb.far (p := ⟨W.heap.size, 0, none⟩) hne _).far (p := ⟨W.heap.size, 1, none⟩) hne _).far (p := ⟨W.heap.size, 2, none⟩) hne _).far (p := ⟨W.heap.size, 3, none⟩) hne _, ?_⟩
  have step : ∀ (U : World) (i : Nat) (v : Value), W.grownBy U (some gl) → W.grownBy (U.setCell ⟨W.heap.size, i, none⟩ v) (some gl) := fun U i v hU =>
    ⟨hU.os, hU.tape, hU.output, by simpa [World.setCell] using hU.size, fun k hk hne => (Below.heap_setCell U _ v k (fun e => by have e' : k = W.heap.size := e; omega)).trans (hU.block k hk hne)⟩
  exact step _ _ _ (step _ _ _ (step _ _ _ (step _ _ _ h.gr)))
theorem blk_uniq {W : World} {g : Nat} {t : TypeId} {cs cs' : Array Value} (h : Blk W g t cs) (h' : Blk W g t cs') : cs = cs' := by
  unfold Blk at h h'
  rw [h] at h'
  injection h' with h'
  injection h'
set_option maxHeartbeats 1600000 in
theorem turn_on {W : World} {p gl S s n m g o c : Nat} {b : Bool} {cs : Array Value} (hp : W.cell? ⟨p, 0, none⟩ = some (.slice (some ⟨gl, 0, none⟩) S S)) (hs : s < S) (hS : S ≤ 64) (hcs : Blk W gl 58 cs) (h0 : cs[s * 2]? = some (.slice (some ⟨g, o, none⟩) (m + 1) c)) (h1 : cs[s * 2 + 1]? = some (.bool b))
    (hn : W.cell? ⟨g, o, none⟩ = some (.int .i64 (n : Nat))) : Calls Try.prog 21 #[.pointer (some ⟨p, 0, none⟩), .int .i64 (s : Nat), .bool false] W (TurnEnd n s b gl false (.slice none 0 0) W) := by
  have c0 := (hcs.cell (s * 2)).trans h0
  have c1 := (hcs.cell (s * 2 + 1)).trans h1
  have f0 := hcs.frozen (s * 2)
  have f1 := hcs.frozen (s * 2 + 1)
  have hgl := hcs.lt
  have hgg := World.block_lt_of_cell? W _ hn
  have hgp := World.block_lt_of_cell? W _ hp
  have HC := Lib.hid hcs
  have HB := Lib.hid h1
  have i0 : (0 : Int) ≤ (s : Int) := by omega
  have i1 : (s : Int) < (S : Int) := by omega
  have i2 : (0 : Int) < ((m + 1 : Nat) : Int) := by omega
  clear hcs h0 h1 hS
  go_enter Try.func21, Try.ntmps21
  refine wp_seq_k fun K0 hK => ?_
  have HK0 := Lib.hid hK
  clear hK
  go_wp2_with fail
  refine HK0.out _ _ ?_
  clear HK0
  refine wp_seq_k fun K0 hK => ?_
  have HK0 := Lib.hid hK
  clear hK
  go_wp2_with fail
  refine HK0.out _ _ ?_
  clear HK0
  refine wp_seq_k fun K0 hK => ?_
  have HK0 := Lib.hid hK
  clear hK
  go_region
  refine HK0.out _ _ ?_
  clear HK0
  have hV : TuV W gl s cs n (!b) false (((W.alloc (.cells #[.int .i64 0, .int .i64 0, .bool false, .bool false] 37)).alloc (.cells #[.int .i64 (n : Nat), .int .i64 (s : Nat), .bool (!b), .bool false] 37)).drew) := tuV_mk HC.out _ _ _ _
  generalize (((W.alloc (.cells #[.int .i64 0, .int .i64 0, .bool false, .bool false] 37)).alloc (.cells #[.int .i64 (n : Nat), .int .i64 (s : Nat), .bool (!b), .bool false] 37)).drew) = V at hV ⊢
  have g1 : V.cell? ⟨gl, s * 2 + 1, none⟩ = some (.bool b) := (hV.rb.cell _).trans HB.out
  have gf := hV.rb.frozen (s * 2 + 1)
  have HV := Lib.hid hV
  clear hV
  refine wp_seq_k fun K0 hK => ?_
  have HK0 := Lib.hid hK
  clear hK
  go_wp2_with fail
  refine HK0.out _ _ ?_
  clear HK0
  refine wp_seq_k fun K0 hK => ?_
  have HK0 := Lib.hid hK
  clear hK
  go_wp2_with fail
  refine HK0.out _ _ ?_
  clear HK0
  have hV2 := HV.out.set1 (.bool true)
  generalize (V.setCell ⟨gl, s * 2 + 1, none⟩ (.bool true)) = V2 at hV2 ⊢
  have z0 : V2.cell? ⟨W.heap.size, 0, none⟩ = some (.int .i64 0) := hV2.zb.cell 0
  have z1 : V2.cell? ⟨W.heap.size, 1, none⟩ = some (.int .i64 0) := hV2.zb.cell 1
  have z2 : V2.cell? ⟨W.heap.size, 2, none⟩ = some (.bool false) := hV2.zb.cell 2
  have z3 : V2.cell? ⟨W.heap.size, 3, none⟩ = some (.bool false) := hV2.zb.cell 3
  have zf := fun i => hV2.zb.frozen i
  have t0 : V2.cell? ⟨W.heap.size + 1, 0, none⟩ = some (.int .i64 (n : Nat)) := hV2.tb.cell 0
  have t1 : V2.cell? ⟨W.heap.size + 1, 1, none⟩ = some (.int .i64 (s : Nat)) := hV2.tb.cell 1
  have t2 : V2.cell? ⟨W.heap.size + 1, 2, none⟩ = some (.bool (!b)) := hV2.tb.cell 2
  have t3 : V2.cell? ⟨W.heap.size + 1, 3, none⟩ = some (.bool false) := hV2.tb.cell 3
  have H2 := Lib.hid hV2
  clear hV2
  go_wp2_with fail
  obtain ⟨q6, ql, qg⟩ := H2.out.fin
  generalize ((((V2.setCell ⟨W.heap.size, 0, none⟩ (.int .i64 (n : Nat))).setCell ⟨W.heap.size, 1, none⟩ (.int .i64 (s : Nat))).setCell ⟨W.heap.size, 2, none⟩ (.bool (!b))).setCell ⟨W.heap.size, 3, none⟩ (.bool false)) = V3 at q6 ql qg ⊢
  have r0 : V3.cell? ⟨W.heap.size, 0, none⟩ = some (.int .i64 (n : Nat)) := q6.cell 0
  have r1 : V3.cell? ⟨W.heap.size, 1, none⟩ = some (.int .i64 (s : Nat)) := q6.cell 1
  have r2 : V3.cell? ⟨W.heap.size, 2, none⟩ = some (.bool (!b)) := q6.cell 2
  have r3 : V3.cell? ⟨W.heap.size, 3, none⟩ = some (.bool false) := q6.cell 3
  refine bodyPost_ret (v := turnV n s (!b) false) (by simp [results, Try.results21, go_sem, r0, r1, r2, r3, turnV]) rfl ⟨rfl, qg, fun cs' h => ?_⟩
  rw [blk_uniq h HC.out]
  exact ql
set_option maxHeartbeats 1600000 in
theorem turn_off1 {W : World} {p gl S s n g o : Nat} {b : Bool} {cs : Array Value} (hp : W.cell? ⟨p, 0, none⟩ = some (.slice (some ⟨gl, 0, none⟩) S S)) (hs : s < S) (hS : S ≤ 64) (hcs : Blk W gl 58 cs) (h0 : cs[s * 2]? = some (.slice (some ⟨g, o, none⟩) 1 1)) (h1 : cs[s * 2 + 1]? = some (.bool b))
    (hn : W.cell? ⟨g, o, none⟩ = some (.int .i64 (n : Nat))) : Calls Try.prog 21 #[.pointer (some ⟨p, 0, none⟩), .int .i64 (s : Nat), .bool true] W (TurnEnd n s b gl true (.slice (some ⟨g, o, none⟩) 0 0) W) := by
  have c0 := (hcs.cell (s * 2)).trans h0
  have c1 := (hcs.cell (s * 2 + 1)).trans h1
  have f0 := hcs.frozen (s * 2)
  have f1 := hcs.frozen (s * 2 + 1)
  have hgl := hcs.lt
  have hgg := World.block_lt_of_cell? W _ hn
  have hgp := World.block_lt_of_cell? W _ hp
  have HC := Lib.hid hcs
  have HB := Lib.hid h1
  have H0 := Lib.hid h0
  have i0 : (0 : Int) ≤ (s : Int) := by omega
  have i1 : (s : Int) < (S : Int) := by omega
  clear hcs h0 h1 hS
  go_enter Try.func21, Try.ntmps21
  refine wp_seq_k fun K0 hK => ?_
  have HK0 := Lib.hid hK
  clear hK
  go_wp2_with fail
  refine HK0.out _ _ ?_
  clear HK0
  refine wp_seq_k fun K0 hK => ?_
  have HK0 := Lib.hid hK
  clear hK
  go_wp2_with fail
  refine HK0.out _ _ ?_
  clear HK0
  refine wp_seq_k fun K0 hK => ?_
  have HK0 := Lib.hid hK
  clear hK
  go_region
  refine HK0.out _ _ ?_
  clear HK0
  have hV : TuV W gl s cs n (!b) true (((W.alloc (.cells #[.int .i64 0, .int .i64 0, .bool false, .bool false] 37)).alloc (.cells #[.int .i64 (n : Nat), .int .i64 (s : Nat), .bool (!b), .bool true] 37)).drew) := tuV_mk HC.out _ _ _ _
  generalize (((W.alloc (.cells #[.int .i64 0, .int .i64 0, .bool false, .bool false] 37)).alloc (.cells #[.int .i64 (n : Nat), .int .i64 (s : Nat), .bool (!b), .bool true] 37)).drew) = V at hV ⊢
  have g1 : V.cell? ⟨gl, s * 2 + 1, none⟩ = some (.bool b) := (hV.rb.cell _).trans HB.out
  have gf := hV.rb.frozen (s * 2 + 1)
  have HV := Lib.hid hV
  clear hV
  refine wp_seq_k fun K0 hK => ?_
  have HK0 := Lib.hid hK
  clear hK
  go_wp2_with fail
  refine HK0.out _ _ ?_
  clear HK0
  have hV1 := HV.out.set1 (.bool false)
  generalize (V.setCell ⟨gl, s * 2 + 1, none⟩ (.bool false)) = V1 at hV1 ⊢
  have e0 : V1.cell? ⟨gl, s * 2, none⟩ = some (.slice (some ⟨g, o, none⟩) 1 1) := (hV1.rb.cell _).trans (by rw [Array.getElem?_setIfInBounds_ne (by omega)]; exact H0.out)
  have e1 := hV1.rb.frozen (s * 2)
  have HV1 := Lib.hid hV1
  clear hV1
  refine wp_seq_k fun K0 hK => ?_
  have HK0 := Lib.hid hK
  clear hK
  go_wp2_with fail
  refine HK0.out _ _ ?_
  clear HK0
  have hV2 := HV1.out.set (s * 2) (.slice (some ⟨g, o, none⟩) 0 0)
  generalize (V1.setCell ⟨gl, s * 2, none⟩ (.slice (some ⟨g, o, none⟩) 0 0)) = V2 at hV2 ⊢
  have z0 : V2.cell? ⟨W.heap.size, 0, none⟩ = some (.int .i64 0) := hV2.zb.cell 0
  have z1 : V2.cell? ⟨W.heap.size, 1, none⟩ = some (.int .i64 0) := hV2.zb.cell 1
  have z2 : V2.cell? ⟨W.heap.size, 2, none⟩ = some (.bool false) := hV2.zb.cell 2
  have z3 : V2.cell? ⟨W.heap.size, 3, none⟩ = some (.bool false) := hV2.zb.cell 3
  have zf := fun i => hV2.zb.frozen i
  have t0 : V2.cell? ⟨W.heap.size + 1, 0, none⟩ = some (.int .i64 (n : Nat)) := hV2.tb.cell 0
  have t1 : V2.cell? ⟨W.heap.size + 1, 1, none⟩ = some (.int .i64 (s : Nat)) := hV2.tb.cell 1
  have t2 : V2.cell? ⟨W.heap.size + 1, 2, none⟩ = some (.bool (!b)) := hV2.tb.cell 2
  have t3 : V2.cell? ⟨W.heap.size + 1, 3, none⟩ = some (.bool true) := hV2.tb.cell 3
  have H2 := Lib.hid hV2
  clear hV2
  go_wp2_with fail
  obtain ⟨q6, ql, qg⟩ := H2.out.fin
  generalize ((((V2.setCell ⟨W.heap.size, 0, none⟩ (.int .i64 (n : Nat))).setCell ⟨W.heap.size, 1, none⟩ (.int .i64 (s : Nat))).setCell ⟨W.heap.size, 2, none⟩ (.bool (!b))).setCell ⟨W.heap.size, 3, none⟩ (.bool true)) = V3 at q6 ql qg ⊢
  have r0 : V3.cell? ⟨W.heap.size, 0, none⟩ = some (.int .i64 (n : Nat)) := q6.cell 0
  have r1 : V3.cell? ⟨W.heap.size, 1, none⟩ = some (.int .i64 (s : Nat)) := q6.cell 1
  have r2 : V3.cell? ⟨W.heap.size, 2, none⟩ = some (.bool (!b)) := q6.cell 2
  have r3 : V3.cell? ⟨W.heap.size, 3, none⟩ = some (.bool true) := q6.cell 3
  refine bodyPost_ret (v := turnV n s (!b) true) (by simp [results, Try.results21, go_sem, r0, r1, r2, r3, turnV]) rfl ⟨rfl, qg, fun cs' h => ?_⟩
  rw [blk_uniq h HC.out]
  exact ql
set_option maxHeartbeats 1600000 in
theorem turn_off2 {W : World} {p gl S s n m g o c : Nat} {b : Bool} {cs : Array Value} (hp : W.cell? ⟨p, 0, none⟩ = some (.slice (some ⟨gl, 0, none⟩) S S)) (hs : s < S) (hS : S ≤ 64) (hcs : Blk W gl 58 cs) (h0 : cs[s * 2]? = some (.slice (some ⟨g, o, none⟩) (m + 1) c)) (h1 : cs[s * 2 + 1]? = some (.bool b))
    (hn : W.cell? ⟨g, o, none⟩ = some (.int .i64 (n : Nat))) (hc : 1 < c) (hmc : m + 1 ≤ c) (hcm : c ≤ 9223372036854775807) : Calls Try.prog 21 #[.pointer (some ⟨p, 0, none⟩), .int .i64 (s : Nat), .bool true] W (TurnEnd n s b gl true (.slice (some ⟨g, o + 1, none⟩) m (c - 1)) W) := by
  have c0 := (hcs.cell (s * 2)).trans h0
  have c1 := (hcs.cell (s * 2 + 1)).trans h1
  have f0 := hcs.frozen (s * 2)
  have f1 := hcs.frozen (s * 2 + 1)
  have hgl := hcs.lt
  have hgg := World.block_lt_of_cell? W _ hn
  have hgp := World.block_lt_of_cell? W _ hp
  have HC := Lib.hid hcs
  have HB := Lib.hid h1
  have H0 := Lib.hid h0
  have i0 : (0 : Int) ≤ (s : Int) := by omega
  have i1 : (s : Int) < (S : Int) := by omega
  have i2 : (0 : Int) < ((m + 1 : Nat) : Int) := by omega
  have i3 : (1 : Int) ≤ ((m + 1 : Nat) : Int) := by omega
  have i4 : ¬ c = 1 := by omega
  have i5 : 1 ≤ c := by omega
  clear hcs h0 h1 hS
  go_enter Try.func21, Try.ntmps21
  refine wp_seq_k fun K0 hK => ?_
  have HK0 := Lib.hid hK
  clear hK
  go_wp2_with fail
  refine HK0.out _ _ ?_
  clear HK0
  refine wp_seq_k fun K0 hK => ?_
  have HK0 := Lib.hid hK
  clear hK
  go_wp2_with fail
  refine HK0.out _ _ ?_
  clear HK0
  refine wp_seq_k fun K0 hK => ?_
  have HK0 := Lib.hid hK
  clear hK
  go_region
  refine HK0.out _ _ ?_
  clear HK0
  have hV : TuV W gl s cs n (!b) true (((W.alloc (.cells #[.int .i64 0, .int .i64 0, .bool false, .bool false] 37)).alloc (.cells #[.int .i64 (n : Nat), .int .i64 (s : Nat), .bool (!b), .bool true] 37)).drew) := tuV_mk HC.out _ _ _ _
  generalize (((W.alloc (.cells #[.int .i64 0, .int .i64 0, .bool false, .bool false] 37)).alloc (.cells #[.int .i64 (n : Nat), .int .i64 (s : Nat), .bool (!b), .bool true] 37)).drew) = V at hV ⊢
  have g1 : V.cell? ⟨gl, s * 2 + 1, none⟩ = some (.bool b) := (hV.rb.cell _).trans HB.out
  have gf := hV.rb.frozen (s * 2 + 1)
  have HV := Lib.hid hV
  clear hV
  refine wp_seq_k fun K0 hK => ?_
  have HK0 := Lib.hid hK
  clear hK
  go_wp2_with fail
  refine HK0.out _ _ ?_
  clear HK0
  have hV1 := HV.out.set1 (.bool false)
  generalize (V.setCell ⟨gl, s * 2 + 1, none⟩ (.bool false)) = V1 at hV1 ⊢
  have e0 : V1.cell? ⟨gl, s * 2, none⟩ = some (.slice (some ⟨g, o, none⟩) (m + 1) c) := (hV1.rb.cell _).trans (by rw [Array.getElem?_setIfInBounds_ne (by omega)]; exact H0.out)
  have e1 := hV1.rb.frozen (s * 2)
  have HV1 := Lib.hid hV1
  clear hV1
  refine wp_seq_k fun K0 hK => ?_
  have HK0 := Lib.hid hK
  clear hK
  go_wp2_with fail
  refine HK0.out _ _ ?_
  clear HK0
  have hV2 := HV1.out.set (s * 2) (.slice (some ⟨g, o + 1, none⟩) m (c - 1))
  generalize (V1.setCell ⟨gl, s * 2, none⟩ (.slice (some ⟨g, o + 1, none⟩) m (c - 1))) = V2 at hV2 ⊢
  have z0 : V2.cell? ⟨W.heap.size, 0, none⟩ = some (.int .i64 0) := hV2.zb.cell 0
  have z1 : V2.cell? ⟨W.heap.size, 1, none⟩ = some (.int .i64 0) := hV2.zb.cell 1
  have z2 : V2.cell? ⟨W.heap.size, 2, none⟩ = some (.bool false) := hV2.zb.cell 2
  have z3 : V2.cell? ⟨W.heap.size, 3, none⟩ = some (.bool false) := hV2.zb.cell 3
  have zf := fun i => hV2.zb.frozen i
  have t0 : V2.cell? ⟨W.heap.size + 1, 0, none⟩ = some (.int .i64 (n : Nat)) := hV2.tb.cell 0
  have t1 : V2.cell? ⟨W.heap.size + 1, 1, none⟩ = some (.int .i64 (s : Nat)) := hV2.tb.cell 1
  have t2 : V2.cell? ⟨W.heap.size + 1, 2, none⟩ = some (.bool (!b)) := hV2.tb.cell 2
  have t3 : V2.cell? ⟨W.heap.size + 1, 3, none⟩ = some (.bool true) := hV2.tb.cell 3
  have H2 := Lib.hid hV2
  clear hV2
  go_wp2_with fail
  obtain ⟨q6, ql, qg⟩ := H2.out.fin
  generalize ((((V2.setCell ⟨W.heap.size, 0, none⟩ (.int .i64 (n : Nat))).setCell ⟨W.heap.size, 1, none⟩ (.int .i64 (s : Nat))).setCell ⟨W.heap.size, 2, none⟩ (.bool (!b))).setCell ⟨W.heap.size, 3, none⟩ (.bool true)) = V3 at q6 ql qg ⊢
  have r0 : V3.cell? ⟨W.heap.size, 0, none⟩ = some (.int .i64 (n : Nat)) := q6.cell 0
  have r1 : V3.cell? ⟨W.heap.size, 1, none⟩ = some (.int .i64 (s : Nat)) := q6.cell 1
  have r2 : V3.cell? ⟨W.heap.size, 2, none⟩ = some (.bool (!b)) := q6.cell 2
  have r3 : V3.cell? ⟨W.heap.size, 3, none⟩ = some (.bool true) := q6.cell 3
  refine bodyPost_ret (v := turnV n s (!b) true) (by simp [results, Try.results21, go_sem, r0, r1, r2, r3, turnV]) rfl ⟨rfl, qg, fun cs' h => ?_⟩
  rw [blk_uniq h HC.out]
  exact ql
end Go.Proofs.Ytagcbihjejjmnaa
