/-
  Walks: LiveFairs.
-/
import Derived.Test.YtocmmcbhonhgnaaLiveAwakeW
import Derived.Test.YtocmmcbhonhgnaaRefLiveW
namespace Go.Proofs.Ytocmmcbhonhgnaa
open Go.RowKit
set_option linter.unusedVariables false

set_option maxHeartbeats 6400000 in
theorem fairs_law (r : Req) (p t k m : Int) (w : World) : Calls Try.prog 4 #[r.v, effV p t k m] w (BoolEnd true w) := by
  go_enter Try.func4, Try.ntmps4
  go_wp2_with fail
  have hblk0 := (req_box r w 31).alloc (.cells #[.int .i64 p, .int .i64 t, .int .i64 k, .int .i64 m] 35)
  have hble0 := Blk.new (w.alloc (.cells #[.int .i64 r.deed, .int .i64 r.ten, .int .u32 r.gen, .int .u8 r.rig, .string r.key, .string r.val, .string r.old, .int .i64 r.lim, .int .i64 r.tenant, .int .u64 r.qk, .int .u64 r.qb, .int .u8 r.rights] 31)) 35 #[.int .i64 p, .int .i64 t, .int .i64 k, .int .i64 m]
  generalize hW : ((w.alloc (Obj.cells _ 31)).alloc (Obj.cells _ 35)) = W at hblk0 hble0 ⊢
  have hbel : Below w.heap.size w W := by rw [← hW]; exact below_alloc (below_box w _) _
  clear hW
  simp at hble0
  obtain ⟨h0, h1, h2, h3, h4, h5, h6, h7, h8, h9, h10, h11⟩ := req_cells hblk0
  have e0 := hble0.cell 0
  have e1 := hble0.cell 1
  have e2 := hble0.cell 2
  have e3 := hble0.cell 3
  simp at e0 e1 e2 e3
  go_region_held3 (fun w' => Blk w' w.heap.size 31 r.row.toArray ∧ Below w.heap.size w w' ∧ Blk w' (w.heap.size + 1) 35 #[.int .i64 p, .int .i64 t, .int .i64 k, .int .i64 m] ∧ w'.cell? ⟨w.heap.size + 1, 0, none⟩ = some (.int .i64 p) ∧ w'.cell? ⟨w.heap.size + 1, 1, none⟩ = some (.int .i64 t) ∧ w'.cell? ⟨w.heap.size + 1, 2, none⟩ = some (.int .i64 k) ∧ w'.cell? ⟨w.heap.size + 1, 3, none⟩ = some (.int .i64 m) ∧ w'.cell? ⟨w.heap.size, 0, none⟩ = some (.int .i64 r.deed) ∧ w'.cell? ⟨w.heap.size, 1, none⟩ = some (.int .i64 r.ten) ∧ w'.cell? ⟨w.heap.size, 2, none⟩ = some (.int .u32 r.gen) ∧ w'.cell? ⟨w.heap.size, 3, none⟩ = some (.int .u8 r.rig) ∧ w'.cell? ⟨w.heap.size, 4, none⟩ = some (.string r.key) ∧ w'.cell? ⟨w.heap.size, 5, none⟩ = some (.string r.val) ∧ w'.cell? ⟨w.heap.size, 6, none⟩ = some (.string r.old) ∧ w'.cell? ⟨w.heap.size, 7, none⟩ = some (.int .i64 r.lim) ∧ w'.cell? ⟨w.heap.size, 8, none⟩ = some (.int .i64 r.tenant) ∧ w'.cell? ⟨w.heap.size, 9, none⟩ = some (.int .u64 r.qk) ∧ w'.cell? ⟨w.heap.size, 10, none⟩ = some (.int .u64 r.qb) ∧ w'.cell? ⟨w.heap.size, 11, none⟩ = some (.int .u8 r.rights)) ((refine ⟨?_, ?_, ?_, ?_⟩ <;> first | assumption | (refine Blk.drew ?_; assumption) | (refine Below.drew ?_; assumption) | go_keep))
      (first | (go_at_call 9; refine (fair_any r p t k m _).mono ?_; rintro e wn ⟨rfl, hb⟩; have hH := ‹Blk _ w.heap.size _ _ ∧ Below w.heap.size _ _ ∧ _›; have hkN := Blk.below hH.1 hb (Blk.lt hH.1); have hkE := Blk.below hH.2.2.1 hb (Blk.lt hH.2.2.1); have hBN := below_trans hH.2.1 hb; obtain ⟨q0, q1, q2, q3, q4, q5, q6, q7, q8, q9, q10, q11⟩ := req_cells hkN; have q12 := hkE.cell 0; have q13 := hkE.cell 1; have q14 := hkE.cell 2; have q15 := hkE.cell 3; simp at q12 q13 q14 q15) | (go_at_call 10; refine (rfair_any r p t k m _).mono ?_; rintro e wn ⟨rfl, hb⟩; have hH := ‹Blk _ w.heap.size _ _ ∧ Below w.heap.size _ _ ∧ _›; have hkN := Blk.below hH.1 hb (Blk.lt hH.1); have hkE := Blk.below hH.2.2.1 hb (Blk.lt hH.2.2.1); have hBN := below_trans hH.2.1 hb; obtain ⟨q0, q1, q2, q3, q4, q5, q6, q7, q8, q9, q10, q11⟩ := req_cells hkN; have q12 := hkE.cell 0; have q13 := hkE.cell 1; have q14 := hkE.cell 2; have q15 := hkE.cell 3; simp at q12 q13 q14 q15) | (go_at_call 8; refine (awake_any _).mono ?_; rintro e wn ⟨rfl, hb⟩; have hH := ‹Blk _ w.heap.size _ _ ∧ Below w.heap.size _ _ ∧ _›; have hkN := Blk.below hH.1 hb (Blk.lt hH.1); have hkE := Blk.below hH.2.2.1 hb (Blk.lt hH.2.2.1); have hBN := below_trans hH.2.1 hb; obtain ⟨q0, q1, q2, q3, q4, q5, q6, q7, q8, q9, q10, q11⟩ := req_cells hkN; have q12 := hkE.cell 0; have q13 := hkE.cell 1; have q14 := hkE.cell 2; have q15 := hkE.cell 3; simp at q12 q13 q14 q15))
  rename_i hH
  go_wp2
  go_ret
  exact ⟨rfl, hH.2.1⟩
end Go.Proofs.Ytocmmcbhonhgnaa
