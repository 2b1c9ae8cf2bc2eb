/-
  Layer 7: the reference row: Next, New.
-/
import Derived.Test.YtmcpfhhggapkcaaFewR1
namespace Go.Proofs.Ytmcpfhhggapkcaa
open Go.RowKit Go.Shelf
set_option linter.unusedVariables false
set_option linter.unusedSimpArgs false

theorem next_high {f : Kids} {from_ : Int} {k : Nat} (h : highK f (clampK from_) = highK f k) {r : Int × Int} (hk : k < 256) (hf : f k = some r) : nextK f from_ = ((k : Int), (r, true)) := by
  unfold nextK
  rw [h, high_succ f k hk, hf]
  rfl
theorem next_none {f : Kids} {from_ : Int} (h : highK f (clampK from_) = highK f 256) : nextK f from_ = (0, ((0, 0), false)) := by
  unfold nextK
  rw [h]
  rfl
set_option maxHeartbeats 1600000 in
set_option maxRecDepth 100000 in
theorem rnext (g : Nat) (room : Int) (f : Kids) (from_ : Int) (w : World) (h : RefAt w g room f) :
    Calls Try.prog 51 #[.pointer (some ⟨g, 0, none⟩), .int .i64 from_] w (ThreeEnd (.int .u8 (nextK f from_).1) (refV (nextK f from_).2.1) (.bool (nextK f from_).2.2) w) := by
  obtain ⟨rs, hg, hrs⟩ := h
  have hl := hg.lt
  have hg1 := hg.alloc (.cells #[.int .i64 0, .int .u32 0] 31)
  have HC : Hid (∀ b : Nat, b < 256 → (w.alloc (.cells #[.int .i64 0, .int .u32 0] 31)).cell? ⟨g, 1 + b, none⟩ = some (.bool (f b).isSome) ∧ (w.alloc (.cells #[.int .i64 0, .int .u32 0] 31)).cell? ⟨g, 257 + b * 2, none⟩ = some (.int .i64 (rs b).1) ∧ (w.alloc (.cells #[.int .i64 0, .int .u32 0] 31)).cell? ⟨g, 257 + b * 2 + 1, none⟩ = some (.int .u32 (rs b).2)) := Lib.hid (fun b hb =>
    ⟨(hg1.cell _).trans (by rw [List.getElem?_toArray]; exact refCells_is room f rs hb), (hg1.cell _).trans (by rw [List.getElem?_toArray]; exact (refCells_rs room f rs hb).1), (hg1.cell _).trans (by rw [List.getElem?_toArray]; exact (refCells_rs room f rs hb).2)⟩)
  have HRS := Lib.hid hrs
  have hbx := below_box w (.cells #[.int .i64 0, .int .u32 0] 31)
  have hr := Blk.new w 31 #[.int .i64 0, .int .u32 0]
  have H0 := Lib.hid (And.intro hr hbx)
  clear hrs hg hg1 hr hbx
  by_cases hneg : from_ < 0
  · go_enter Try.func51, Try.ntmps51
    go_wp2_with fail
    go_loopw [7] (fun i wr => ∃ k : Nat, i = .int .i64 k ∧ Hid (highK f (clampK from_) = highK f (min k 256)) ∧ wr = w.alloc (.cells #[.int .i64 0, .int .u32 0] 31)) (fun i _ => 256 - (intOf i).toNat)
    case atStart => exact ⟨0, rfl, Lib.hid (by congr 1; unfold clampK; split <;> (try split) <;> omega), rfl⟩
    case round =>
      obtain ⟨k, rfl, hhi, rfl⟩ := hrel
      by_cases hlt : k < 256
      · obtain ⟨c1, c2, c3⟩ := HC.out k hlt
        have i1 : (0 : Int) ≤ (k : Int) := by omega
        have i2 : (k : Int) < 256 := by omega
        have i3 : (k : Int) ≤ 255 := by omega
        have sw : IntKind.u8.wrap (k : Int) = (k : Int) := IntWalk.u8_in _ (by omega)
        cases hfk : f k with
        | none =>
          rw [hfk] at c1
          simp only [Option.isSome_none] at c1
          have HN := Lib.hid (show highK f (clampK from_) = highK f (min (k + 1) 256) by rw [hhi.out, show min k 256 = k by omega, show min (k + 1) 256 = k + 1 by omega, high_succ f k hlt, hfk]; rfl)
          clear hfk
          go_wp2
          go_roundw
          case rel => exact ⟨k + 1, by go_num, HN, by first | rfl | trivial⟩
          case measure => simp [intOf]; omega
        | some r =>
          rw [hfk] at c1
          simp only [Option.isSome_some] at c1
          have hr := HRS.out k r hlt hfk
          rw [hr] at c2 c3
          have HE := Lib.hid (next_high (by rw [hhi.out, show min k 256 = k by omega]) hlt hfk)
          clear hr hfk
          have hrn := (H0.out.1.set_ 0 (.int .i64 r.1)).set_ 1 (.int .u32 r.2)
          have hBn := (H0.out.2.setCell (p := ⟨w.heap.size, 0, none⟩) (Nat.le_refl _) (.int .i64 r.1)).setCell (p := ⟨w.heap.size, 1, none⟩) (Nat.le_refl _) (.int .u32 r.2)
          have HN := Lib.hid hBn
          have q0 := hrn.cell 0
          have q1 := hrn.cell 1
          simp at q0 q1
          clear hrn hBn
          go_wp2_with fail
          go_region
          all_goals
            go_wp2
            refine bodyPost_ret (v := .tuple #[.int .u8 (k : Int), refV r, .bool true]) (by simp [results, Try.results51, go_sem, *]) rfl ⟨by rw [HE.out], (below_box w _).drew⟩
      · have HE := Lib.hid (next_none (by rw [hhi.out, show min k 256 = 256 by omega]))
        have i2 : ¬ ((k : Int) < 256) := by omega
        have hrn := (H0.out.1.set_ 0 (.int .i64 0)).set_ 1 (.int .u32 0)
        have hBn := (H0.out.2.setCell (p := ⟨w.heap.size, 0, none⟩) (Nat.le_refl _) (.int .i64 0)).setCell (p := ⟨w.heap.size, 1, none⟩) (Nat.le_refl _) (.int .u32 0)
        have HN := Lib.hid hBn
        have q0 := hrn.cell 0
        have q1 := hrn.cell 1
        simp at q0 q1
        clear hrn hBn
        go_wp2_with fail
        refine bodyPost_ret (v := .tuple #[.int .u8 0, refV (0, 0), .bool false]) (by simp [results, Try.results51, go_sem, *]) rfl ⟨by rw [HE.out], below_box w _⟩
  · obtain ⟨m, rfl⟩ : ∃ m : Nat, from_ = (m : Int) := ⟨from_.toNat, by omega⟩
    go_enter Try.func51, Try.ntmps51
    go_wp2_with fail
    go_loopw [7] (fun i wr => ∃ k : Nat, i = .int .i64 k ∧ Hid (highK f (clampK (m : Int)) = highK f (min k 256)) ∧ wr = w.alloc (.cells #[.int .i64 0, .int .u32 0] 31)) (fun i _ => 256 - (intOf i).toNat)
    case atStart => exact ⟨m, rfl, Lib.hid (by congr 1; unfold clampK; split <;> (try split) <;> omega), rfl⟩
    case round =>
      obtain ⟨k, rfl, hhi, rfl⟩ := hrel
      by_cases hlt : k < 256
      · obtain ⟨c1, c2, c3⟩ := HC.out k hlt
        have i1 : (0 : Int) ≤ (k : Int) := by omega
        have i2 : (k : Int) < 256 := by omega
        have i3 : (k : Int) ≤ 255 := by omega
        have sw : IntKind.u8.wrap (k : Int) = (k : Int) := IntWalk.u8_in _ (by omega)
        cases hfk : f k with
        | none =>
          rw [hfk] at c1
          simp only [Option.isSome_none] at c1
          have HN := Lib.hid (show highK f (clampK (m : Int)) = highK f (min (k + 1) 256) by rw [hhi.out, show min k 256 = k by omega, show min (k + 1) 256 = k + 1 by omega, high_succ f k hlt, hfk]; rfl)
          clear hfk
          go_wp2
          go_roundw
          case rel => exact ⟨k + 1, by go_num, HN, by first | rfl | trivial⟩
          case measure => simp [intOf]; omega
        | some r =>
          rw [hfk] at c1
          simp only [Option.isSome_some] at c1
          have hr := HRS.out k r hlt hfk
          rw [hr] at c2 c3
          have HE := Lib.hid (next_high (by rw [hhi.out, show min k 256 = k by omega]) hlt hfk)
          clear hr hfk
          have hrn := (H0.out.1.set_ 0 (.int .i64 r.1)).set_ 1 (.int .u32 r.2)
          have hBn := (H0.out.2.setCell (p := ⟨w.heap.size, 0, none⟩) (Nat.le_refl _) (.int .i64 r.1)).setCell (p := ⟨w.heap.size, 1, none⟩) (Nat.le_refl _) (.int .u32 r.2)
          have HN := Lib.hid hBn
          have q0 := hrn.cell 0
          have q1 := hrn.cell 1
          simp at q0 q1
          clear hrn hBn
          go_wp2_with fail
          go_region
          all_goals
            go_wp2
            refine bodyPost_ret (v := .tuple #[.int .u8 (k : Int), refV r, .bool true]) (by simp [results, Try.results51, go_sem, *]) rfl ⟨by rw [HE.out], (below_box w _).drew⟩
      · have HE := Lib.hid (next_none (by rw [hhi.out, show min k 256 = 256 by omega]))
        have i2 : ¬ ((k : Int) < 256) := by omega
        have hrn := (H0.out.1.set_ 0 (.int .i64 0)).set_ 1 (.int .u32 0)
        have hBn := (H0.out.2.setCell (p := ⟨w.heap.size, 0, none⟩) (Nat.le_refl _) (.int .i64 0)).setCell (p := ⟨w.heap.size, 1, none⟩) (Nat.le_refl _) (.int .u32 0)
        have HN := Lib.hid hBn
        have q0 := hrn.cell 0
        have q1 := hrn.cell 1
        simp at q0 q1
        clear hrn hBn
        go_wp2_with fail
        refine bodyPost_ret (v := .tuple #[.int .u8 0, refV (0, 0), .bool false]) (by simp [results, Try.results51, go_sem, *]) rfl ⟨by rw [HE.out], below_box w _⟩
end Go.Proofs.Ytmcpfhhggapkcaa
