/-
  Walks, layer 7: at, Len, Room, Find, Next.
-/
import Derived.Test.YtmcpfhhggapkcaaFewW1
namespace Go.Proofs.Ytmcpfhhggapkcaa
open Go.RowKit
set_option linter.unusedVariables false
set_option linter.unusedSimpArgs false

/-- Two results. -/
def TwoEnd (x y : Value) (w : World) (e : Ending) (w' : World) : Prop := e = .returned (.tuple #[x, y]) ∧ Below w.heap.size w w'
def ThreeEnd (x y z : Value) (w : World) (e : Ending) (w' : World) : Prop := e = .returned (.tuple #[x, y, z]) ∧ Below w.heap.size w w'
abbrev refV (r : Int × Int) : Value := .agg #[.int .i64 r.1, .int .u32 r.2]
theorem few_cells {o : FewO} {W : World} {g : Nat} {t : TypeId} (ho : o.ok) (h : Blk W g t o.cells.toArray) : W.cell? ⟨g, 48, none⟩ = some (.int .i64 o.n) ∧ W.cell? ⟨g, 49, none⟩ = some (.int .i64 o.room) :=
  ⟨(h.cell 48).trans (by rw [List.getElem?_toArray]; exact FewO.atN ho), (h.cell 49).trans (by rw [List.getElem?_toArray]; exact FewO.atRoom ho)⟩
/-- The byte and the Ref at a place below the number. -/
theorem few_at {o : FewO} {W : World} {g k : Nat} {t : TypeId} (ho : o.ok) (h : Blk W g t o.cells.toArray) (hk : k < o.n) :
    ∃ (x : Int) (r : Int × Int), o.bs[k]? = some x ∧ (0 ≤ x ∧ x ≤ 255) ∧ o.rs[k]? = some r ∧ W.cell? ⟨g, k, none⟩ = some (.int .u8 x) ∧ W.cell? ⟨g, 16 + k * 2, none⟩ = some (.int .i64 r.1) ∧ W.cell? ⟨g, 16 + k * 2 + 1, none⟩ = some (.int .u32 r.2) := by
  have hl := ho.ln
  have hx : o.bs[k]? = some (o.bs[k]'(by rw [ho.lb]; omega)) := List.getElem?_eq_getElem _
  have hr : o.rs[k]? = some (o.rs[k]'(by rw [ho.lr]; omega)) := List.getElem?_eq_getElem _
  refine ⟨_, _, hx, ho.bb _ (List.getElem_mem _), hr, ?_, ?_, ?_⟩
  · exact (h.cell k).trans (by rw [List.getElem?_toArray]; exact FewO.atB ho hx)
  · exact (h.cell _).trans (by rw [List.getElem?_toArray]; exact (FewO.atR ho hr).1)
  · exact (h.cell _).trans (by rw [List.getElem?_toArray]; exact (FewO.atR ho hr).2)

set_option maxHeartbeats 800000 in
set_option maxRecDepth 100000 in
theorem at_any (o : FewO) (b : Int) (g : Nat) (w : World) (ho : o.ok) (hg : Blk w g 66 o.cells.toArray) (hb : 0 ≤ b ∧ b ≤ 255) :
    Calls Try.prog 32 #[.pointer (some ⟨g, 0, none⟩), .int .u8 b] w (TwoEnd (.int .i64 (o.idx b)) (.bool (o.has b)) w) := by
  have HO := Lib.hid ho
  have hbel := below_box w (.cells #[.int .u8 b] 5)
  have hgb := Blk.new w 5 #[.int .u8 b]
  have hcall := of_at o b g w.heap.size _ ho (hg.alloc (.cells #[.int .u8 b] 5)) (hgb.cell 0)
  have HC := Lib.hid hcall
  have HG := Lib.hid (And.intro (hg.alloc (.cells #[.int .u8 b] 5)) (And.intro hgb hbel))
  have hle := FewO.idx_le ho b
  have hln := ho.ln
  have i1 : (0 : Int) ≤ (o.idx b : Int) := by omega
  clear hbel hgb hcall ho hg
  by_cases hlt : o.idx b < o.n
  · have hh : o.has b = (o.bs.getD (o.idx b) 0 == b) := by unfold FewO.has; simp [hlt]
    have i2 : (o.idx b : Int) < (o.n : Int) := by omega
    have i3 : (o.idx b : Int) < 16 := by omega
    obtain ⟨d, hd⟩ : ∃ d, o.has b = d := ⟨_, rfl⟩
    have HH := Lib.hid (And.intro hh hd)
    clear hh hd
    go_enter Try.func32, Try.ntmps32
    go_wp2_with fail
    refine HC.out.mono ?_
    rintro e w1 ⟨rfl, hb1⟩
    obtain ⟨hg1, hgb1, hbel⟩ := HG.out
    have hg1 := hg1.below hb1 hg1.lt
    have hgb1 := hgb1.below hb1 hgb1.lt
    have HB := Lib.hid (below_trans hbel hb1)
    obtain ⟨x, r, hx, hxb, hr, c0, c1, c2⟩ := few_at HO.out hg1 hlt
    obtain ⟨n0, n1⟩ := few_cells HO.out hg1
    have v0 := hgb1.cell 0
    simp at v0
    have hd2 : (x == b) = d := by
      have h1 := HH.out.1
      rw [HH.out.2, List.getD_eq_getElem?_getD, hx] at h1
      exact h1.symm
    have HD := Lib.hid HH.out.2
    clear hx hr hg1 hgb1 hbel hb1 HH HG HC c1 c2 n1
    go_wp2_with fail
    go_quiet (fail)
    go_wp2
    go_ret2
    exact ⟨by rw [HD.out]; rfl, below_drewN HB.out _⟩
  · have hh : o.has b = false := by unfold FewO.has; simp [hlt]
    have hlt2 : decide ((o.idx b : Int) < (o.n : Int)) = false := decide_eq_false (by omega)
    have HH := Lib.hid hh
    clear hh
    go_enter Try.func32, Try.ntmps32
    go_wp2_with fail
    refine HC.out.mono ?_
    rintro e w1 ⟨rfl, hb1⟩
    obtain ⟨hg1, hgb1, hbel⟩ := HG.out
    have hg1 := hg1.below hb1 hg1.lt
    have HB := Lib.hid (below_trans hbel hb1)
    obtain ⟨n0, n1⟩ := few_cells HO.out hg1
    clear hg1 hgb1 hbel hb1 HG HC n1
    go_wp2_with fail
    go_quiet (fail)
    go_wp2
    go_ret2
    exact ⟨by rw [HH.out]; rfl, below_drewN HB.out _⟩

theorem len_any (o : FewO) (g : Nat) (w : World) (ho : o.ok) (hr : 0 < o.room) (hg : Blk w g 66 o.cells.toArray) : Calls Try.prog 13 #[.pointer (some ⟨g, 0, none⟩)] w (StayEnd (.int .i64 o.n) w) := by
  obtain ⟨n0, n1⟩ := few_cells ho hg
  have ht := there_some g o.room w n1
  rw [decide_eq_true hr] at ht
  have HT := Lib.hid ht
  clear ht hg ho n1
  go_enter Try.func13, Try.ntmps13
  go_wp2_with fail
  refine HT.out.mono ?_
  rintro e w1 ⟨rfl, rfl⟩
  go_wp2
  go_ret
  exact ⟨rfl, rfl⟩

/-- What Find finds. -/
def FewO.find (o : FewO) (b : Int) : Option (Int × Int) := if o.has b = true then o.rs[o.idx b]? else none
def optV (x : Option (Int × Int)) : Value := refV (x.getD (0, 0))
theorem FewO.has_lt {o : FewO} {b : Int} (h : o.has b = true) : o.idx b < o.n := by
  unfold FewO.has at h
  simp only [Bool.and_eq_true, decide_eq_true_eq] at h
  exact h.1

set_option maxHeartbeats 800000 in
set_option maxRecDepth 100000 in
theorem find_any (o : FewO) (b : Int) (g : Nat) (w : World) (ho : o.ok) (hr : 0 < o.room) (hg : Blk w g 66 o.cells.toArray) (hb : 0 ≤ b ∧ b ≤ 255) :
    Calls Try.prog 16 #[.pointer (some ⟨g, 0, none⟩), .int .u8 b] w (TwoEnd (optV (o.find b)) (.bool (o.find b).isSome) w) := by
  have hbel := below_box w (.cells #[.int .i64 0, .int .u32 0] 31)
  have hgr := Blk.new w 31 #[.int .i64 0, .int .u32 0]
  have hg1 := hg.alloc (.cells #[.int .i64 0, .int .u32 0] 31)
  have hlg := hg.lt
  generalize hW : w.alloc (.cells #[.int .i64 0, .int .u32 0] 31) = W at hbel hgr hg1
  obtain ⟨n0, n1⟩ := few_cells ho hg1
  have ht := there_some g o.room W n1
  rw [decide_eq_true hr] at ht
  have HA := Lib.hid (at_any o b g W ho hg1 hb)
  have HT := Lib.hid ht
  have HO := Lib.hid ho
  have HG := Lib.hid (And.intro hg1 (And.intro hgr hbel))
  have HW := Lib.hid hW
  have hle := FewO.idx_le ho b
  have hln := ho.ln
  clear ht hg hg1 hgr hbel ho hW n0 n1
  obtain ⟨d, hd⟩ : ∃ d, o.has b = d := ⟨_, rfl⟩
  rw [hd] at HA
  have HD := Lib.hid hd
  clear hd
  go_enter Try.func16, Try.ntmps16
  go_wp2_with fail
  rw [HW.out]
  refine HT.out.mono ?_
  rintro e w1 ⟨rfl, rfl⟩
  clear HT HW
  go_wp2_with fail
  refine HA.out.mono ?_
  rintro e w1 ⟨rfl, hb1⟩
  clear HA
  obtain ⟨hg1, hgr, hbel⟩ := HG.out
  have hg1 := hg1.below hb1 hg1.lt
  have hgr := hgr.below hb1 hgr.lt
  have hbel := below_trans hbel hb1
  have v0 := hgr.cell 0
  have v1 := hgr.cell 1
  have f0 := hgr.frozen 0
  have f1 := hgr.frozen 1
  simp at v0 v1
  clear hb1 HG
  cases d with
  | true =>
    have hlt := FewO.has_lt HD.out
    obtain ⟨x, r, hx, hxb, hr2, c0, c1, c2⟩ := few_at HO.out hg1 hlt
    have hfin : o.find b = some r := by unfold FewO.find; rw [if_pos HD.out, hr2]
    have HFin := Lib.hid hfin
    have i1 : (0 : Int) ≤ (o.idx b : Int) := by omega
    have i2 : (o.idx b : Int) < 16 := by omega
    have hgn := (hgr.set_ 0 (.int .i64 r.1)).set_ 1 (.int .u32 r.2)
    have z0 := hgn.cell 0
    have z1 := hgn.cell 1
    simp at z0 z1
    have HF := Lib.hid ((hbel.setCell (p := ⟨w.heap.size, 0, none⟩) (Nat.le_refl _) (.int .i64 r.1)).setCell (p := ⟨w.heap.size, 1, none⟩) (Nat.le_refl _) (.int .u32 r.2))
    clear hx hr2 hfin hgn hg1 hgr hbel HD
    go_wp2_with fail
    refine bodyPost_ret (v := .tuple #[refV r, .bool true]) (by simp [results, Try.results16, go_sem, *]) rfl ⟨by rw [HFin.out]; rfl, HF.out⟩
  | false =>
    have hfin : o.find b = none := by unfold FewO.find; rw [if_neg (by rw [HD.out]; simp)]
    have HFin := Lib.hid hfin
    have hgn := (hgr.set_ 0 (.int .i64 0)).set_ 1 (.int .u32 0)
    have z0 := hgn.cell 0
    have z1 := hgn.cell 1
    simp at z0 z1
    have HF := Lib.hid ((hbel.setCell (p := ⟨w.heap.size, 0, none⟩) (Nat.le_refl _) (.int .i64 0)).setCell (p := ⟨w.heap.size, 1, none⟩) (Nat.le_refl _) (.int .u32 0))
    clear hfin hgn hg1 hgr hbel HD
    go_wp2_with fail
    refine bodyPost_ret (v := .tuple #[refV (0, 0), .bool false]) (by simp [results, Try.results16, go_sem, *]) rfl ⟨by rw [HFin.out]; rfl, HF.out⟩

/-- What Next finds. -/
def FewO.next (o : FewO) (k : Int) : Int × ((Int × Int) × Bool) := if o.idx k < o.n then (o.bs.getD (o.idx k) 0, (o.rs.getD (o.idx k) (0, 0), true)) else (0, ((0, 0), false))
set_option maxHeartbeats 800000 in
set_option maxRecDepth 100000 in
theorem next_any (o : FewO) (b : Int) (g : Nat) (w : World) (ho : o.ok) (hr : 0 < o.room) (hg : Blk w g 66 o.cells.toArray) :
    Calls Try.prog 15 #[.pointer (some ⟨g, 0, none⟩), .int .i64 b] w (ThreeEnd (.int .u8 (o.next b).1) (refV (o.next b).2.1) (.bool (o.next b).2.2) w) := by
  have hbel : Below w.heap.size w ((w.alloc (.cells #[.int .i64 b] 3)).alloc (.cells #[.int .i64 0, .int .u32 0] 31)) := below_alloc (below_box w _) _
  have hgb := (Blk.new w 3 #[.int .i64 b]).alloc (.cells #[.int .i64 0, .int .u32 0] 31)
  have hgr : Blk ((w.alloc (.cells #[.int .i64 b] 3)).alloc (.cells #[.int .i64 0, .int .u32 0] 31)) (w.heap.size + 1) 31 #[.int .i64 0, .int .u32 0] := by
    have := Blk.new (w.alloc (.cells #[.int .i64 b] 3)) 31 #[.int .i64 0, .int .u32 0]
    simpa using this
  have hg1 := (hg.alloc (.cells #[.int .i64 b] 3)).alloc (.cells #[.int .i64 0, .int .u32 0] 31)
  have hlg := hg.lt
  generalize hW : (w.alloc (.cells #[.int .i64 b] 3)).alloc (.cells #[.int .i64 0, .int .u32 0] 31) = W at hbel hgr hg1 hgb
  obtain ⟨n0, n1⟩ := few_cells ho hg1
  have ht := there_some g o.room W n1
  rw [decide_eq_true hr] at ht
  have HA := Lib.hid (of_nx o b g w.heap.size W ho hg1 (hgb.cell 0))
  have HT := Lib.hid ht
  have HO := Lib.hid ho
  have HG := Lib.hid (And.intro hg1 (And.intro hgr hbel))
  have HW := Lib.hid hW
  have hle := FewO.idx_le ho b
  have hln := ho.ln
  clear ht hg hg1 hgr hgb hbel ho hW n0 n1
  go_enter Try.func15, Try.ntmps15
  go_wp2_with fail
  rw [HW.out]
  refine HT.out.mono ?_
  rintro e w1 ⟨rfl, rfl⟩
  clear HT HW
  go_wp2_with fail
  refine HA.out.mono ?_
  rintro e w1 ⟨rfl, hb1⟩
  clear HA
  obtain ⟨hg1, hgr, hbel⟩ := HG.out
  have hg1 := hg1.below hb1 hg1.lt
  have hgr := hgr.below hb1 hgr.lt
  have hbel := below_trans hbel hb1
  have v0 := hgr.cell 0
  have v1 := hgr.cell 1
  have f0 := hgr.frozen 0
  have f1 := hgr.frozen 1
  obtain ⟨n0, n1⟩ := few_cells HO.out hg1
  simp at v0 v1
  clear hb1 HG n1
  have i0 : (0 : Int) ≤ (o.idx b : Int) := by omega
  by_cases hlt : o.idx b < o.n
  · obtain ⟨x, r, hx, hxb, hr2, c0, c1, c2⟩ := few_at HO.out hg1 hlt
    have hfin : o.next b = (x, (r, true)) := by unfold FewO.next; rw [if_pos hlt, List.getD_eq_getElem?_getD, hx, List.getD_eq_getElem?_getD, hr2]; rfl
    have HFin := Lib.hid hfin
    have i1 : (o.idx b : Int) < (o.n : Int) := by omega
    have i2 : (o.idx b : Int) < 16 := by omega
    have hgn := (hgr.set_ 0 (.int .i64 r.1)).set_ 1 (.int .u32 r.2)
    have z0 := hgn.cell 0
    have z1 := hgn.cell 1
    simp at z0 z1
    have HF := Lib.hid ((hbel.setCell (p := ⟨w.heap.size + 1, 0, none⟩) (by simp) (.int .i64 r.1)).setCell (p := ⟨w.heap.size + 1, 1, none⟩) (by simp) (.int .u32 r.2))
    have hne : w.heap.size + 1 ≠ g := by omega
    clear hx hr2 hfin hgn hg1 hgr hbel
    go_wp2_with fail
    go_region
    all_goals
      go_wp2_with fail
      refine bodyPost_ret (v := .tuple #[.int .u8 x, refV r, .bool true]) (by simp [results, Try.results15, go_sem, *]) rfl ⟨by rw [HFin.out], HF.out.drew⟩
  · have hlt2 : ¬ ((o.idx b : Int) < (o.n : Int)) := by omega
    have hfin : o.next b = (0, ((0, 0), false)) := by unfold FewO.next; rw [if_neg hlt]
    have HFin := Lib.hid hfin
    have hgn := (hgr.set_ 0 (.int .i64 0)).set_ 1 (.int .u32 0)
    have z0 := hgn.cell 0
    have z1 := hgn.cell 1
    simp at z0 z1
    have HF := Lib.hid ((hbel.setCell (p := ⟨w.heap.size + 1, 0, none⟩) (by simp) (.int .i64 0)).setCell (p := ⟨w.heap.size + 1, 1, none⟩) (by simp) (.int .u32 0))
    clear hfin hgn hg1 hgr hbel
    go_wp2_with fail
    refine bodyPost_ret (v := .tuple #[.int .u8 0, refV (0, 0), .bool false]) (by simp [results, Try.results15, go_sem, *]) rfl ⟨by rw [HFin.out], HF.out⟩
end Go.Proofs.Ytmcpfhhggapkcaa
