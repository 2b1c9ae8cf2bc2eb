/-
  Walks: HideOwners.
-/
import Derived.Test.YtlmehmmdbdembaaAwakeW
namespace Go.Proofs.Ytlmehmmdbdembaa
open Go.RowKit
set_option linter.unusedVariables false

def BoolEnd (b : Bool) (w : World) (e : Ending) (w' : World) : Prop := e = .returned (.bool b) ∧ Below w.heap.size w w'
set_option maxHeartbeats 3200000 in
theorem owners_law (r : Req) (w : World) : Calls Try.prog 3 #[r.v] w (BoolEnd true w) := by
  go_enter Try.func3, Try.ntmps3
  go_wp2_with fail
  have hblk0 := req_box r w 31
  generalize hW : (w.alloc (Obj.cells _ 31)) = W at hblk0 ⊢
  have hbel : Below w.heap.size w W := by rw [← hW]; exact below_box w _
  clear hW
  obtain ⟨h0, h1, h2, h3, h4, h5, h6, h7, h8, h9, h10, h11⟩ := req_cells hblk0
  go_region_held3 (fun w' => Blk w' w.heap.size 31 r.row.toArray ∧ Below w.heap.size w w' ∧ w'.cell? ⟨w.heap.size, 0, none⟩ = some (.int .i64 r.deed) ∧ w'.cell? ⟨w.heap.size, 1, none⟩ = some (.int .i64 r.ten) ∧ w'.cell? ⟨w.heap.size, 2, none⟩ = some (.int .u32 r.gen) ∧ w'.cell? ⟨w.heap.size, 3, none⟩ = some (.int .u8 r.rig) ∧ w'.cell? ⟨w.heap.size, 4, none⟩ = some (.string r.key) ∧ w'.cell? ⟨w.heap.size, 5, none⟩ = some (.string r.val) ∧ w'.cell? ⟨w.heap.size, 6, none⟩ = some (.string r.old) ∧ w'.cell? ⟨w.heap.size, 7, none⟩ = some (.int .i64 r.lim) ∧ w'.cell? ⟨w.heap.size, 8, none⟩ = some (.int .i64 r.tenant) ∧ w'.cell? ⟨w.heap.size, 9, none⟩ = some (.int .u64 r.qk) ∧ w'.cell? ⟨w.heap.size, 10, none⟩ = some (.int .u64 r.qb) ∧ w'.cell? ⟨w.heap.size, 11, none⟩ = some (.int .u8 r.rights)) ((refine ⟨?_, ?_, ?_⟩ <;> first | assumption | (refine Blk.drew ?_; assumption) | (refine Below.drew ?_; assumption) | go_keep))
      (first | (go_at_call 8; refine (owner_any r _).mono ?_; rintro e wn ⟨rfl, hb⟩; have hH := ‹Blk _ w.heap.size _ _ ∧ Below w.heap.size _ _ ∧ _›; have hkN := Blk.below hH.1 hb (Blk.lt hH.1); have hBN := below_trans hH.2.1 hb; obtain ⟨q0, q1, q2, q3, q4, q5, q6, q7, q8, q9, q10, q11⟩ := req_cells hkN) | (go_at_call 9; refine (rowner_any r _).mono ?_; rintro e wn ⟨rfl, hb⟩; have hH := ‹Blk _ w.heap.size _ _ ∧ Below w.heap.size _ _ ∧ _›; have hkN := Blk.below hH.1 hb (Blk.lt hH.1); have hBN := below_trans hH.2.1 hb; obtain ⟨q0, q1, q2, q3, q4, q5, q6, q7, q8, q9, q10, q11⟩ := req_cells hkN) | (go_at_call 10; refine (awake_any _).mono ?_; rintro e wn ⟨rfl, hb⟩; have hH := ‹Blk _ w.heap.size _ _ ∧ Below w.heap.size _ _ ∧ _›; have hkN := Blk.below hH.1 hb (Blk.lt hH.1); have hBN := below_trans hH.2.1 hb; obtain ⟨q0, q1, q2, q3, q4, q5, q6, q7, q8, q9, q10, q11⟩ := req_cells hkN))
  rename_i hH
  go_wp2
  go_ret
  exact ⟨rfl, hH.2.1⟩
end Go.Proofs.Ytlmehmmdbdembaa
