/-
  Layer 23: New; a job's Pick; turn.
-/
import Derived.Test.YtagcbihjejjmnaaWvW1
import Derived.Laws.MakeOwn
namespace Go.Proofs.Ytagcbihjejjmnaa
open Go.RowKit
set_option linter.unusedVariables false
set_option linter.unusedSimpArgs false

theorem run_make_rowN {P : Program} (t e : TypeId) (i : TypeInfo) (z : Value) (ht : P.underlying t = some (.slice e)) (hi : P.info? e = some i) (hz : i.zero = some z)
    (kl kc : IntKind) (n c : Nat) (hnc : n ≤ c) (hbytes : i.bytes * c ≤ 281474976710656) (h63 : c ≤ 9223372036854775807) (w : World) :
    (Instr.makeSlice t (.int kl (n : Int)) (.int kc (c : Int))).run P w = .ok (.slice (some ⟨w.heap.size, 0, none⟩) n c) (w.alloc (.cells (madeCells z.cells (c * i.size)) e)) := by
  have hb : (i.bytes : Int) * (c : Int) ≤ 281474976710656 := by
    have h : ((i.bytes * c : Nat) : Int) ≤ 281474976710656 := by omega
    rwa [Int.natCast_mul] at h
  have hr := run_make (P := P) w t e i z ht hi hz kl kc n c (by omega) (by omega) hb (by omega)
  simp only [Int.toNat_natCast] at hr
  exact hr
theorem infoRow : (Try.prog.info? 58).map (fun i => (i.zero, i.size, i.bytes)) = some (some (.agg #[.slice none 0 0, .bool false]), 2, 32) := by kernel_rfl
theorem made_at (n s : Nat) (hs : s < n) : (madeCells #[.slice none 0 0, .bool false] (n * 2))[s * 2]? = some (.slice none 0 0) ∧ (madeCells #[.slice none 0 0, .bool false] (n * 2))[s * 2 + 1]? = some (.bool false) := by
  unfold madeCells
  constructor
  · rw [Array.getElem?_map, Array.getElem?_range, if_pos (by omega)]
    have h : s * 2 % 2 = 0 := by omega
    simp [h]
  · rw [Array.getElem?_map, Array.getElem?_range, if_pos (by omega)]
    have h : (s * 2 + 1) % 2 = 1 := by omega
    simp [h]
def NewEnd (n : Nat) (w : World) (e : Ending) (w' : World) : Prop := ∃ p gl b r, e = .returned (.tuple #[.pointer (some ⟨p, 0, none⟩), .int .i64 0]) ∧ WvAt w' w.heap.size p gl n [] 0 (.slice none 0 0) b r ∧ Below w.heap.size w w'
theorem new_at (W : World) (n : Nat) (h1 : 1 ≤ n) (h2 : n ≤ 64) : WvAt ((W.alloc (.cells (madeCells #[.slice none 0 0, .bool false] (n * 2)) 58)).alloc (.cells #[.slice (some ⟨W.heap.size, 0, none⟩) n n, .slice none 0 0, .int .i64 0] 55)) W.heap.size (W.heap.size + 1) W.heap.size n [] 0 (.slice none 0 0) (fun _ => 0) (fun _ => .slice none 0 0) := by
  have q1 := (Blk.new W 58 (madeCells #[.slice none 0 0, .bool false] (n * 2))).alloc (.cells #[.slice (some ⟨W.heap.size, 0, none⟩) n n, .slice none 0 0, .int .i64 0] 55)
  have q2 := Blk.new (W.alloc (.cells (madeCells #[.slice none 0 0, .bool false] (n * 2)) 58)) 55 #[.slice (some ⟨W.heap.size, 0, none⟩) n n, .slice none 0 0, .int .i64 0]
  rw [show (W.alloc (.cells (madeCells #[.slice none 0 0, .bool false] (n * 2)) 58)).heap.size = W.heap.size + 1 by simp] at q2
  refine ⟨q2, ⟨_, q1, by rw [size_madeCells], (fun s hs => made_at n s hs)⟩, World.ownsRow_nil _ _ _ _, (fun i x hx => by simp at hx), (fun s _ => Off.nil_ _ _ _), (fun s s' g _ _ _ h => by cases h), (fun i i' h => by simp at h), ⟨by omega, Nat.le_refl _, (fun i h => by simp at h)⟩, jbOk_nil, ⟨h1, h2⟩, by simp, (fun x hx => by simp at hx), (fun x hx => by simp at hx)⟩
theorem New_yes (W : World) (n : Nat) (h1 : 1 ≤ n) (h2 : n ≤ 64) : Calls Try.prog 7 #[.int .i64 (n : Nat)] W (NewEnd n W) := by
  obtain ⟨i0, hi0, iz0, iz1, iz2⟩ := info_parts infoRow
  have hmk := fun w : World => run_make_rowN (P := Try.prog) 50 58 i0 _ Try.underlying50 hi0 iz0 .i64 .i64 n n (Nat.le_refl _) (by rw [iz2]; omega) (by omega) w
  rw [iz1] at hmk
  have HF := Lib.hid (new_at W n h1 h2)
  have i1 : (1 : Int) ≤ (n : Int) := by omega
  have i2 : (n : Int) ≤ 64 := by omega
  have i3 : ¬ (n : Int) < 1 := by omega
  have i4 : ¬ (n : Int) > 64 := by omega
  go_enter Try.func7, Try.ntmps7
  go_wp2_with fail
  go_ret2
  exact ⟨_, _, _, _, rfl, HF.out, below_alloc (below_box _ _) _⟩
theorem New_no (W : World) (n : Int) (h : n < 1 ∨ 64 < n) : Calls Try.prog 7 #[.int .i64 n] W (StayW (.tuple #[.pointer none, .int .i64 2]) W) := by
  by_cases h1 : n < 1
  · go_enter Try.func7, Try.ntmps7
    go_wp2_with fail
    go_ret2
    exact ⟨rfl, rfl⟩
  · have h2 : n > 64 := by omega
    go_enter Try.func7, Try.ntmps7
    go_wp2_with fail
    go_ret2
    exact ⟨rfl, rfl⟩
/-- A job has had one pick more. -/
def HadEnd (g t h : Nat) (W : World) (e : Ending) (w' : World) : Prop := e = .returned (.bool (decide ((t : Int) ≤ (h : Int) + 1))) ∧ ∃ n, w' = (W.setCell ⟨g, 1, none⟩ (.int .i64 ((h : Int) + 1))).drewN n
theorem count_pick {W : World} {g : Nat} {t h : Nat} (hb : Blk W g 33 #[.int .i64 (t : Nat), .int .i64 (h : Nat)]) (hh : h < 9223372036854775807) :
    Calls Try.prog 92 #[.pointer (some ⟨g, 0, none⟩)] W (HadEnd g t h W) := by
  have c0 : _ = some (Value.int .i64 (t : Nat)) := hb.cell 0
  have c1 : _ = some (Value.int .i64 (h : Nat)) := hb.cell 1
  have f1 := hb.frozen 1
  have hq := hb.set_ 1 (.int .i64 ((h : Int) + 1))
  have d0 : (W.setCell ⟨g, 1, none⟩ (.int .i64 ((h : Int) + 1))).cell? ⟨g, 0, none⟩ = some (.int .i64 (t : Nat)) := hq.cell 0
  have d1 : (W.setCell ⟨g, 1, none⟩ (.int .i64 ((h : Int) + 1))).cell? ⟨g, 1, none⟩ = some (.int .i64 ((h : Int) + 1)) := hq.cell 1
  have i0 : (0 : Int) ≤ (h : Int) := by omega
  have i1 : (h : Int) < 9223372036854775807 := by omega
  clear hb hq
  go_enter Try.func92, Try.ntmps92
  go_wp2_with fail
  go_quiet (fail)
  go_wp2_with fail
  go_ret
  exact ⟨rfl, _, rfl⟩
/-- What a pick has come to. -/
abbrev turnV (n s : Nat) (b e : Bool) : Value := .agg #[.int .i64 (n : Nat), .int .i64 (s : Nat), .bool b, .bool e]
end Go.Proofs.Ytagcbihjejjmnaa
