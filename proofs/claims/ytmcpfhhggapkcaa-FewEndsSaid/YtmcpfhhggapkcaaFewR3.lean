/-
  Layer 7: the reference row: New.
-/
import Derived.Test.YtmcpfhhggapkcaaFewR1
namespace Go.Proofs.Ytmcpfhhggapkcaa
open Go.RowKit Go.Shelf
set_option linter.unusedVariables false
set_option linter.unusedSimpArgs false

theorem infoRefRow : (Try.prog.info? 97).map (fun i => (i.zero, i.size)) = some (some (.agg (refCells 0 noKids (fun _ => (0, 0))).toArray), 769) := by kernel_rfl
theorem zeroRefRow (V : World) : (zeroValue 97).run Try.prog V = .ok (.agg (refCells 0 noKids (fun _ => (0, 0))).toArray) V := by
  have h := infoRefRow
  cases hq : Try.prog.info? 97 with
  | none => simp [hq] at h
  | some i =>
    rw [hq] at h
    simp only [Option.map_some, Option.some.injEq, Prod.mk.injEq] at h
    simp [zeroValue, typeInfo, hq, h.1]
def RNewEnd (room : Int) (b : Bool) (w : World) (e : Ending) (w' : World) : Prop := ∃ g, e = .returned (.tuple #[.pointer (some ⟨g, 0, none⟩), .bool b]) ∧ RefAt w' g room noKids ∧ w.heap.size ≤ g ∧ Below w.heap.size w w'
set_option maxHeartbeats 1600000 in
set_option maxRecDepth 100000 in
theorem rnew (room : Int) (w : World) : Calls Try.prog 25 #[.int .i64 room] w (RNewEnd room (room == 4 || room == 16) w) := by
  have hz := zeroRefRow
  obtain ⟨Z, hZ⟩ : ∃ Z : List Value, Z = refCells 0 noKids (fun _ => (0, 0)) := ⟨_, rfl⟩
  obtain ⟨Y, hY⟩ : ∃ Y : List Value, Y = refCells room noKids (fun _ => (0, 0)) := ⟨_, rfl⟩
  have hne : (Z.toArray = #[]) = False := by rw [hZ]; simp [refCells]
  have hset : Z.toArray.setIfInBounds 0 (.int .i64 room) = Y.toArray := by rw [hZ, hY, List.setIfInBounds_toArray]; rfl
  rw [← hZ] at hz
  have HR : Hid (RefAt (w.alloc (.cells Y.toArray 97)) w.heap.size room noKids) := Lib.hid ⟨fun _ => (0, 0), by rw [hY]; exact Blk.new _ _ _, fun b r _ h => by cases h⟩
  clear hZ hY
  cases h4 : (room == 4) with
  | true =>
    simp only [Bool.true_or]
    go_enter Try.func25, Try.ntmps25
    go_wp2_with fail
    go_ret2
    exact ⟨w.heap.size, rfl, HR.out, Nat.le_refl _, below_box w _⟩
  | false =>
    simp only [Bool.false_or]
    generalize h16 : (room == 16) = b
    go_enter Try.func25, Try.ntmps25
    go_wp2_with fail
    go_ret2
    exact ⟨w.heap.size, rfl, HR.out, Nat.le_refl _, below_box w _⟩
end Go.Proofs.Ytmcpfhhggapkcaa
