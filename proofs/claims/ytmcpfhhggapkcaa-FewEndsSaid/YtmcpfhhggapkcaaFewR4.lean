/-
  Layer 7: Copy.
-/
import Derived.Test.YtmcpfhhggapkcaaFewOA
namespace Go.Proofs.Ytmcpfhhggapkcaa
open Go.RowKit Go.Shelf
set_option linter.unusedVariables false
set_option linter.unusedSimpArgs false

theorem infoFew50 : (Try.prog.info? 66).map (·.size) = some 50 := by kernel_rfl
def CopyEnd (room : Int) (f : Kids) (w : World) (e : Ending) (w' : World) : Prop := ∃ c, e = .returned (.pointer (some ⟨c, 0, none⟩)) ∧ FewAt w' c room f ∧ w.heap.size ≤ c ∧ Below w.heap.size w w'
theorem cells_range {o : FewO} {W : World} {g : Nat} {t : TypeId} (h : Blk W g t o.cells.toArray) : W.rangeAt g 0 o.cells := by
  intro j v hv
  rw [Nat.zero_add]
  exact (h.cell j).trans (by rw [List.getElem?_toArray]; exact hv)
def zero50 : List Value := (emptyO 0).cells
set_option maxHeartbeats 1600000 in
set_option maxRecDepth 100000 in
theorem Copy_k (g : Nat) (room : Int) (f : Kids) (w : World) (h : FewAt w g room f) : Calls Try.prog 30 #[.pointer (some ⟨g, 0, none⟩)] w (CopyEnd room f w) := by
  obtain ⟨o, ho, hr, rfl, hg⟩ := h
  obtain ⟨n0, n1⟩ := few_cells ho.1 hg
  have ht := there_some g o.room w n1
  rw [decide_eq_true ho.2.1] at ht
  have HT := Lib.hid ht
  have hl := hg.lt
  have HO := Lib.hid (And.intro ho (And.intro hr hg))
  have hzb : Blk (w.alloc (.cells zero50.toArray 66)) w.heap.size 66 zero50.toArray := Blk.new _ _ _
  clear ho hr hg n0 n1 ht
  go_enter Try.func30, Try.ntmps30
  go_wp2_with fail
  refine HT.out.mono ?_
  rintro e w1 ⟨rfl, rfl⟩
  clear HT
  have HZ := Lib.hid (show Blk (w1.alloc (.cells #[.int .u8 0, .int .u8 0, .int .u8 0, .int .u8 0, .int .u8 0, .int .u8 0, .int .u8 0, .int .u8 0, .int .u8 0, .int .u8 0, .int .u8 0, .int .u8 0, .int .u8 0, .int .u8 0, .int .u8 0, .int .u8 0, .int .i64 0, .int .u32 0, .int .i64 0, .int .u32 0, .int .i64 0, .int .u32 0, .int .i64 0, .int .u32 0, .int .i64 0, .int .u32 0, .int .i64 0, .int .u32 0, .int .i64 0, .int .u32 0, .int .i64 0, .int .u32 0, .int .i64 0, .int .u32 0, .int .i64 0, .int .u32 0, .int .i64 0, .int .u32 0, .int .i64 0, .int .u32 0, .int .i64 0, .int .u32 0, .int .i64 0, .int .u32 0, .int .i64 0, .int .u32 0, .int .i64 0, .int .u32 0, .int .i64 0, .int .i64 0] 66)) w1.heap.size 66 zero50.toArray from hzb)
  clear hzb
  go_wp2_with (first
    | (refine wpList_load_mid rfl 66 (.tmp 8) rfl g 0 rfl o.cells _ (cells_range HO.out.2.2) Try.underlying66 rfl (by rw [FewO.len HO.out.1.1]; exact infoFew50) ?_)
    | (refine wpList_store_row rfl 66 (.tmp 3) (.tmp 9) rfl w1.heap.size o.cells zero50 66 rfl rfl HZ.out (by rw [FewO.len HO.out.1.1]; rfl) (by rw [FewO.len HO.out.1.1]; exact infoFew50) (cells_one o) ?_
       intro w2 h2
       have hbW : Below w1.heap.size w1 w2 := (below_box w1 _).grown h2.out.2 (by simp) (fun k e => by cases e; exact Nat.le_refl _)
       have HB2 := Lib.hid (And.intro h2.out.1 hbW)
       clear h2 hbW))
  go_ret
  exact ⟨w1.heap.size, rfl, ⟨o, HO.out.1, HO.out.2.1, rfl, HB2.out.1⟩, Nat.le_refl _, HB2.out.2⟩
end Go.Proofs.Ytmcpfhhggapkcaa
