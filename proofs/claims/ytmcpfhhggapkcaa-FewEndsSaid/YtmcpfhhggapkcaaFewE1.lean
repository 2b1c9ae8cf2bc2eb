/-
  Layer 7: the methods of a row that does not exist.
-/
import Derived.Test.YtmcpfhhggapkcaaFewR4
namespace Go.Proofs.Ytmcpfhhggapkcaa
open Go.RowKit Go.Shelf
set_option linter.unusedVariables false
set_option linter.unusedSimpArgs false

/-- No row: nil, or one without room. -/
def NoRow (W : World) (p : Option Addr) : Prop := p = none ∨ ∃ g, p = some ⟨g, 0, none⟩ ∧ W.cell? ⟨g, 49, none⟩ = some (.int .i64 0)
theorem NoRow.below {W W' : World} {p : Option Addr} (h : NoRow W p) (hb : Below W.heap.size W W') : NoRow W' p := by
  rcases h with h | ⟨g, h1, h2⟩
  · exact .inl h
  · exact .inr ⟨g, h1, (hb.cell (p := ⟨g, 49, none⟩) (World.block_lt_of_cell? W _ h2)).trans h2⟩
theorem no_there (p : Option Addr) (w : World) (h : NoRow w p) : Calls Try.prog 31 #[.pointer p] w (StayEnd (.bool false) w) := by
  rcases h with rfl | ⟨g, rfl, h⟩
  · exact there_nil w
  · have := there_some g 0 w h
    simpa using this
set_option maxRecDepth 100000 in
theorem no_take (p : Option Addr) (w : World) (h : NoRow w p) (b : Nat) : Calls Try.prog 11 #[.pointer p, .int .u8 (b : Int)] w (TwoEnd (refV (0, 0)) (.int .i64 1) w) := by
  have hbx := below_box w (.cells #[.int .i64 0, .int .u32 0] 31)
  have hr := Blk.new w 31 #[.int .i64 0, .int .u32 0]
  have hT := no_there p _ (h.below hbx)
  have HT := Lib.hid hT
  have HR := Lib.hid (And.intro hr hbx)
  clear hT hr hbx h
  go_enter Try.func11, Try.ntmps11
  go_wp2_with fail
  refine HT.out.mono ?_
  rintro e w1 ⟨rfl, rfl⟩
  have e0 := HR.out.1.cell 0
  have e1 := HR.out.1.cell 1
  have g0 := HR.out.1.frozen 0
  have g1 := HR.out.1.frozen 1
  have l0 := HR.out.1.lt
  simp at e0 e1
  have hrn := (HR.out.1.set_ 0 (.int .i64 0)).set_ 1 (.int .u32 0)
  have q0 := hrn.cell 0
  have q1 := hrn.cell 1
  simp at q0 q1
  clear hrn
  go_wp2_with fail
  refine bodyPost_ret (v := .tuple #[refV (0, 0), .int .i64 1]) (by simp [results, Try.results11, go_sem, *]) rfl ⟨rfl, below_box w _⟩
set_option maxRecDepth 100000 in
theorem no_find (p : Option Addr) (w : World) (h : NoRow w p) (b : Nat) : Calls Try.prog 16 #[.pointer p, .int .u8 (b : Int)] w (TwoEnd (refV (0, 0)) (.bool false) w) := by
  have hbx := below_box w (.cells #[.int .i64 0, .int .u32 0] 31)
  have hr := Blk.new w 31 #[.int .i64 0, .int .u32 0]
  have hT := no_there p _ (h.below hbx)
  have HT := Lib.hid hT
  have HR := Lib.hid (And.intro hr hbx)
  clear hT hr hbx h
  go_enter Try.func16, Try.ntmps16
  go_wp2_with fail
  refine HT.out.mono ?_
  rintro e w1 ⟨rfl, rfl⟩
  have e0 := HR.out.1.cell 0
  have e1 := HR.out.1.cell 1
  have g0 := HR.out.1.frozen 0
  have g1 := HR.out.1.frozen 1
  have l0 := HR.out.1.lt
  simp at e0 e1
  have hrn := (HR.out.1.set_ 0 (.int .i64 0)).set_ 1 (.int .u32 0)
  have q0 := hrn.cell 0
  have q1 := hrn.cell 1
  simp at q0 q1
  clear hrn
  go_wp2_with fail
  refine bodyPost_ret (v := .tuple #[refV (0, 0), .bool false]) (by simp [results, Try.results16, go_sem, *]) rfl ⟨rfl, below_box w _⟩
set_option maxRecDepth 100000 in
theorem no_next (p : Option Addr) (w : World) (h : NoRow w p) (k : Int) : Calls Try.prog 15 #[.pointer p, .int .i64 k] w (ThreeEnd (.int .u8 0) (refV (0, 0)) (.bool false) w) := by
  have hbx := below_box (w.alloc (.cells #[.int .i64 k] 3)) (.cells #[.int .i64 0, .int .u32 0] 31)
  have hr := Blk.new (w.alloc (.cells #[.int .i64 k] 3)) 31 #[.int .i64 0, .int .u32 0]
  have hT := no_there p _ ((h.below (below_box w (.cells #[.int .i64 k] 3))).below hbx)
  have HBX := Lib.hid ((below_box w (.cells #[.int .i64 k] 3)).trans (hbx.mono (by simp)))
  rw [show (w.alloc (.cells #[.int .i64 k] 3)).heap.size = w.heap.size + 1 by simp] at hr
  have HT := Lib.hid hT
  have HR := Lib.hid (And.intro hr hbx)
  clear hT hr hbx h
  go_enter Try.func15, Try.ntmps15
  go_wp2_with fail
  refine HT.out.mono ?_
  rintro e w1 ⟨rfl, rfl⟩
  have e0 := HR.out.1.cell 0
  have e1 := HR.out.1.cell 1
  have g0 := HR.out.1.frozen 0
  have g1 := HR.out.1.frozen 1
  have l0 := HR.out.1.lt
  simp at e0 e1
  have hrn := (HR.out.1.set_ 0 (.int .i64 0)).set_ 1 (.int .u32 0)
  have q0 := hrn.cell 0
  have q1 := hrn.cell 1
  simp at q0 q1
  clear hrn
  go_wp2_with fail
  refine bodyPost_ret (v := .tuple #[.int .u8 0, refV (0, 0), .bool false]) (by simp [results, Try.results15, go_sem, *]) rfl ⟨rfl, HBX.out⟩
set_option maxRecDepth 100000 in
theorem no_len (p : Option Addr) (w : World) (h : NoRow w p) : Calls Try.prog 13 #[.pointer p] w (StayEnd (.int .i64 0) w) := by
  have HT := Lib.hid (no_there p w h)
  clear h
  go_enter Try.func13, Try.ntmps13
  go_wp2_with fail
  refine HT.out.mono ?_
  rintro e w1 ⟨rfl, rfl⟩
  go_wp2
  go_ret
  exact ⟨rfl, rfl⟩
set_option maxRecDepth 100000 in
theorem no_room (p : Option Addr) (w : World) (h : NoRow w p) : Calls Try.prog 29 #[.pointer p] w (StayEnd (.int .i64 0) w) := by
  have HT := Lib.hid (no_there p w h)
  clear h
  go_enter Try.func29, Try.ntmps29
  go_wp2_with fail
  refine HT.out.mono ?_
  rintro e w1 ⟨rfl, rfl⟩
  go_wp2
  go_ret
  exact ⟨rfl, rfl⟩
set_option maxRecDepth 100000 in
theorem no_copy (p : Option Addr) (w : World) (h : NoRow w p) : Calls Try.prog 30 #[.pointer p] w (StayEnd (.pointer none) w) := by
  have HT := Lib.hid (no_there p w h)
  clear h
  go_enter Try.func30, Try.ntmps30
  go_wp2_with fail
  refine HT.out.mono ?_
  rintro e w1 ⟨rfl, rfl⟩
  go_wp2
  go_ret
  exact ⟨rfl, rfl⟩
set_option maxRecDepth 100000 in
theorem no_put (p : Option Addr) (w : World) (h : NoRow w p) (b : Nat) (r : Int × Int) : Calls Try.prog 10 #[.pointer p, .int .u8 (b : Int), refV r] w (fun e w' => e = .returned (.int .i64 1) ∧ Below w.heap.size w w') := by
  have HT := Lib.hid (fun V (hb : Below w.heap.size w V) => no_there p V (h.below hb))
  clear h
  go_enter Try.func10, Try.ntmps10
  go_wp2_with fail
  refine (HT.out _ (below_box w _)).mono ?_
  rintro e w1 ⟨rfl, rfl⟩
  go_wp2
  go_ret
  exact ⟨rfl, below_box w _⟩
set_option maxRecDepth 100000 in
theorem no_turn (p : Option Addr) (w : World) (h : NoRow w p) (b : Nat) (r : Int × Int) : Calls Try.prog 28 #[.pointer p, .int .u8 (b : Int), refV r] w (fun e w' => e = .returned (.int .i64 1) ∧ Below w.heap.size w w') := by
  have HT := Lib.hid (fun V (hb : Below w.heap.size w V) => no_there p V (h.below hb))
  clear h
  go_enter Try.func28, Try.ntmps28
  go_wp2_with fail
  refine (HT.out _ (below_box w _)).mono ?_
  rintro e w1 ⟨rfl, rfl⟩
  go_wp2
  go_ret
  exact ⟨rfl, below_box w _⟩
set_option maxRecDepth 100000 in
theorem all_none (Bs n B : Nat) (p : Option Addr) (w : World) (hB : B ≤ w.heap.size) (hn : 2 ≤ n) (hc : w.cell? ⟨Bs, 0, none⟩ = some (.pointer p)) (hp : NoRow w p) :
    SeqStopsK Fence.wide n Try.prog 35 #[.pointer (some ⟨Bs, 0, none⟩)] encK (KeepsB B) (fun ys => ys = []) (fun pre => False) 16 w := fun l J Jx W hW hJ hJx hY h0 => by
  have hBs : Bs < w.heap.size := World.block_lt_of_cell? w _ hc
  have hc1 := (hW.cell (p := ⟨Bs, 0, none⟩) hBs).trans hc
  have HT := Lib.hid (no_there p W (hp.below hW))
  have HJ := Lib.hid h0
  clear hJ hJx hY h0 hp hc
  refine callsIn_of_wp Try.func35 rfl trivial ?_ rfl
  simp only [Try.ntmps35, List.size_toArray, List.length_cons, List.length_nil, Nat.reduceAdd, Nat.reduceSub, Array.replicate_succ, Array.replicate_zero, List.push_toArray, List.append_toArray, List.nil_append, List.cons_append]
  refine wpIn_wide.2 ?_
  go_wp2_with fail
  refine HT.out.mono ?_
  rintro e w1 ⟨rfl, rfl⟩
  go_wp2
  refine bodyPost_ret (results_none rfl _ _ _) rfl ?_
  exact ⟨⟨_, rfl⟩, .inl ⟨_, rfl, HJ.out⟩⟩
end Go.Proofs.Ytmcpfhhggapkcaa
