/-
  Layer 7: the iterator that All returns, as a contract of the kit's form ('SeqStopsK').
-/
import Derived.Test.YtmcpfhhggapkcaaFewW6
import Derived.RangeFuncNested
import Derived.RangeFuncBound
import Derived.RangeFuncCalls
import Derived.RangeFuncLeaves
import Derived.Shelf.Abstract
import Derived.Shelf.RegionOpen
import Derived.OwnWalkIn
import Derived.TacticsInMore
import Derived.LoopNIn
import Derived.LoopIn
import Derived.Deep.MidRow
namespace Go.Proofs.Ytmcpfhhggapkcaa
open Go.RowKit Go.Shelf
set_option linter.unusedVariables false
set_option linter.unusedSimpArgs false
attribute [local go_sem] Oper.semAt_some

/-- A kid: its byte and its Ref. -/
abbrev Kid := Fin 256 × (Int × Int)
def kidsF (f : Kids) : List Kid := (List.finRange 256).filterMap fun b => (f b.val).map fun r => (b, r)
theorem fin_range (n : Nat) : (List.finRange n).map (·.val) = List.range n := by
  apply List.ext_getElem
  · simp
  · intro i h1 h2
    simp
theorem kidsF_map (f : Kids) : (kidsF f).map (fun x => (x.1.val, x.2)) = kidsOf f := by
  have h : ∀ l : List (Fin 256), (l.filterMap fun b => (f b.val).map fun r => (b, r)).map (fun x : Kid => (x.1.val, x.2)) = kidsIn f (l.map (·.val)) := by
    intro l
    induction l with
    | nil => rfl
    | cons b l ih =>
      unfold kidsIn at ih ⊢
      rw [List.filterMap_cons, List.map_cons, List.filterMap_cons]
      cases hf : f b.val with
      | none => simpa [hf] using ih
      | some r => simpa [hf] using ih
  unfold kidsF kidsOf
  rw [h, fin_range]
theorem kidsF_len (f : Kids) : (kidsF f).length = (kidsOf f).length := by rw [← kidsF_map f, List.length_map]
abbrev encK (x : Kid) : Array Value := #[.int .u8 (x.1.val : Int), refV x.2]

/-- A round keeps the rows ('few.row') that lay at or beyond block B. -/
structure KeepsB (B : Nat) (W W' : World) : Prop where
  size : W.heap.size ≤ W'.heap.size
  same : ∀ (k : Nat) (cs : Array Value), B ≤ k → Blk W k 64 cs → Blk W' k 64 cs
theorem KeepsB.refl (B : Nat) (W : World) : KeepsB B W W := ⟨Nat.le_refl _, fun _ _ _ h => h⟩
theorem KeepsB.trans {B : Nat} {W1 W2 W3 : World} (h : KeepsB B W1 W2) (k : KeepsB B W2 W3) : KeepsB B W1 W3 := ⟨Nat.le_trans h.size k.size, fun i o hi h1 => k.same i o hi (h.same i o hi h1)⟩
theorem KeepsB.book {B : Nat} (W : World) (l : Nat) (o o' : Obj) (h : W.heap[l]? = some o) (hc : o.isCells = false) : KeepsB B W (W.putObj l o') :=
  ⟨by simp, fun k o2 hk h2 => by
    by_cases e : k = l
    · subst e; unfold Blk at h2; rw [h] at h2; injection h2 with h2; subst h2; cases hc
    · exact (World.putObj_heap_other e).trans h2⟩
theorem KeepsB.blk {B : Nat} {W W' : World} (h : KeepsB B W W') {g : Nat} {cs : Array Value} (hb : Blk W g 64 cs) (hg : B ≤ g) : Blk W' g 64 cs := h.same g _ hg hb
theorem KeepsB.of_below {B : Nat} {W W' : World} (h : Below W.heap.size W W') : KeepsB B W W' := ⟨h.size, fun k o _ h1 => (h.block k (Array.getElem?_eq_some_iff.1 h1).1).trans h1⟩
theorem KeepsB.of_grown {B : Nat} {W W' : World} {g : Nat} (h : W.grownBy W' (some g)) (hg : g < B) : KeepsB B W W' := ⟨h.size, fun k o hk h1 => (h.block k (Array.getElem?_eq_some_iff.1 h1).1 (fun e => by injection e with e; omega)).trans h1⟩
/-- .. where what is written is no such row. -/
theorem KeepsB.of_other {B : Nat} {W W' : World} {row : Option Nat} (h : W.grownBy W' row) (hg : ∀ g, row = some g → ∃ t cs, Blk W g t cs ∧ t ≠ 64) : KeepsB B W W' := ⟨h.size, fun k o hk h1 => (h.block k (Array.getElem?_eq_some_iff.1 h1).1 (fun e => by
  obtain ⟨t, cs, h2, h3⟩ := hg k e.symm
  unfold Blk at h1 h2
  rw [h1] at h2
  injection h2 with h2
  injection h2 with h4 h5
  exact h3 h5.symm)).trans h1⟩
theorem KeepsB.setCell {B : Nat} (W : World) (a : Addr) (v : Value) (h : a.block < B) : KeepsB B W (W.setCell a v) := ⟨by simp [World.setCell], fun k o hk h1 => (Below.heap_setCell W a v k (by omega)).trans h1⟩

section
variable {P : Program}
theorem wpList_store_row {ops : Array Oper} {rest : List Oper} {op : Oper} {a : Act} {w : World} {Q : Exit → Act → World → Prop} (hgd : op.guard = none) (ty : TypeId) (x y : Operand) (ho : op.op = .store ty x y)
    (g : Nat) (cells cur : List Value) (t : TypeId) (hx : a.eval x = .pointer (some ⟨g, 0, none⟩)) (hy : a.eval y = .agg cells.toArray) (hg : Blk w g t cur.toArray) (hs : cur.length = cells.length)
    (hi : (P.info? ty).map (·.size) = some cells.length) (h1 : ∀ v ∈ cells, v.oneCell' = true)
    (h : ∀ w', Hid (Blk w' g t cells.toArray ∧ w.grownBy w' (some g)) → wpList P ops Q rest (a.put op.dst undef) w') : wpList P ops Q (op :: rest) a w :=
  wpList_plain hgd fun K hK => by
    have hst := run_storeCells_at P g 0 t cells 0 cur.toArray w hg (by simp [hs]) h1
    have hst2 : (storeCells ⟨g, 0, none⟩ cells 0).run P w = .ok () (w.setRow g cells.toArray) := by
      rw [hst]
      congr 2
      simp [hs]
    cases hq : P.info? ty with
    | none => simp [hq] at hi
    | some i =>
      have hsz : cells.length = i.size := by simp [hq] at hi; omega
      unfold Oper.wp execOp
      simp [ho, hx, hy, Instr.storeAt, Instr.sureAddr, storeVar, sizeOf, typeInfo, hq, Value.cells, hsz, hst2]
      have hb := setRow_heap w g cur.toArray cells.toArray t (0, 0) hg
      exact hK _ _ (h _ (Lib.hid ⟨hb, grown_setRow w g _⟩))
end
def FewO.row (o : FewO) : List Value := o.cells.take 49
theorem FewO.row_len {o : FewO} (h : o.ok) : o.row.length = 49 := by unfold FewO.row; rw [List.length_take, FewO.len h]; rfl
theorem FewO.row_at {o : FewO} {k : Nat} (hk : k < 49) : o.row[k]? = o.cells[k]? := by unfold FewO.row; rw [List.getElem?_take, if_pos hk]
theorem cells_one (o : FewO) : ∀ v ∈ o.cells, v.oneCell' = true := by
  intro v hv
  unfold FewO.cells at hv
  rw [List.mem_append, List.mem_append] at hv
  rcases hv with hv | hv | hv
  · exact u8_one _ v hv
  · exact ref_one _ v hv
  · simp at hv
    rcases hv with rfl | rfl <;> rfl
theorem row_one (o : FewO) : ∀ v ∈ o.row, v.oneCell' = true := fun v hv => cells_one o v (List.mem_of_mem_take hv)
theorem row_range {o : FewO} {W : World} {g : Nat} {t : TypeId} (ho : o.ok) (h : Blk W g t o.cells.toArray) : W.rangeAt g 0 o.row := by
  intro j v hv
  have hj : j < 49 := by have := (List.getElem?_eq_some_iff.1 hv).1; rw [FewO.row_len ho] at this; exact this
  rw [FewO.row_at hj] at hv
  rw [Nat.zero_add]
  exact (h.cell j).trans (by rw [List.getElem?_toArray]; exact hv)
theorem kid_at {o : FewO} {f : Kids} (h : o.rep f) {k : Nat} (hk : k < o.n) {x : Kid} (hx : (kidsF f)[k]? = some x) : o.bs[k]? = some (x.1.val : Int) ∧ o.rs[k]? = some x.2 := by
  have h1 : (kidsOf f)[k]? = some (x.1.val, x.2) := by rw [← kidsF_map, List.getElem?_map, hx]; rfl
  have hb := h.bs
  have hr := h.rs
  constructor
  · have : (o.bs.take o.n)[k]? = some (x.1.val : Int) := by rw [hb, List.getElem?_map, h1]; rfl
    rwa [List.getElem?_take, if_pos hk] at this
  · have : (o.rs.take o.n)[k]? = some x.2 := by rw [hr, List.getElem?_map, h1]; rfl
    rwa [List.getElem?_take, if_pos hk] at this
theorem World.grownBy_of_below {w w' : World} (h : Below w.heap.size w w') : w.grownBy w' none := ⟨h.os, h.tape, h.output, h.size, fun i hi _ => h.block i hi⟩
def zero49 : List Value := (emptyO 0).row
theorem infoRow : (Try.prog.info? 64).map (·.size) = some 49 := by kernel_rfl

/-- All's value: a closure over a box. -/
theorem All_any (p : Option Addr) (w : World) : Calls Try.prog 14 #[.pointer p] w fun e w' => e = .returned (.func (.func 35) #[] #[.pointer (some ⟨w.heap.size, 0, none⟩)]) ∧ w' = w.alloc (.cells #[.pointer p] 24) := by
  go_enter Try.func14, Try.ntmps14
  go_wp2
  go_ret
  exact ⟨rfl, rfl⟩

set_option maxHeartbeats 3200000 in
set_option maxRecDepth 100000 in
theorem all_stops (Bs g n B : Nat) (room : Int) (f : Kids) (w : World) (hB : B ≤ w.heap.size) (hn : 2 ≤ n) (hc : w.cell? ⟨Bs, 0, none⟩ = some (.pointer (some ⟨g, 0, none⟩))) (hf : FewAt w g room f) :
    SeqStopsK Fence.wide n Try.prog 35 #[.pointer (some ⟨Bs, 0, none⟩)] encK (KeepsB B) (fun ys => ys = kidsF f) (fun pre => pre <+: kidsF f) 16 w := fun l J Jx W hW hJ hJx hY h0 => by
  have hBs : Bs < w.heap.size := World.block_lt_of_cell? w _ hc
  have hc1 := (hW.cell (p := ⟨Bs, 0, none⟩) hBs).trans hc
  have hf1 := hf.below hW
  obtain ⟨o, ho, hr, rfl, hg⟩ := hf1
  obtain ⟨n0, n1⟩ := few_cells ho.1 hg
  have ht := there_some g o.room W n1
  rw [decide_eq_true ho.2.1] at ht
  have HT := Lib.hid ht
  have HJ := Lib.hid (And.intro hJ (And.intro hJx (And.intro hY h0)))
  have HO := Lib.hid (And.intro ho (And.intro hr hg))
  clear ht hJ hJx hY h0 hg ho hr hf hc n0 n1
  refine callsIn_of_wp Try.func35 rfl trivial ?_ rfl
  simp only [Try.ntmps35, List.size_toArray, List.length_cons, List.length_nil, Nat.reduceAdd, Nat.reduceSub, Array.replicate_succ, Array.replicate_zero, List.push_toArray, List.append_toArray, List.nil_append, List.cons_append]
  refine wpIn_wide.2 ?_
  go_wp2_with fail
  refine HT.out.mono ?_
  rintro e w1 ⟨rfl, rfl⟩
  clear HT
  have hgl := HO.out.2.2.lt
  have hzb : Blk (w1.alloc (.cells zero49.toArray 64)) w1.heap.size 64 zero49.toArray := Blk.new _ _ _
  have HZ := Lib.hid (show Blk (w1.alloc (.cells #[.int .u8 0, .int .u8 0, .int .u8 0, .int .u8 0, .int .u8 0, .int .u8 0, .int .u8 0, .int .u8 0, .int .u8 0, .int .u8 0, .int .u8 0, .int .u8 0, .int .u8 0, .int .u8 0, .int .u8 0, .int .u8 0, .int .i64 0, .int .u32 0, .int .i64 0, .int .u32 0, .int .i64 0, .int .u32 0, .int .i64 0, .int .u32 0, .int .i64 0, .int .u32 0, .int .i64 0, .int .u32 0, .int .i64 0, .int .u32 0, .int .i64 0, .int .u32 0, .int .i64 0, .int .u32 0, .int .i64 0, .int .u32 0, .int .i64 0, .int .u32 0, .int .i64 0, .int .u32 0, .int .i64 0, .int .u32 0, .int .i64 0, .int .u32 0, .int .i64 0, .int .u32 0, .int .i64 0, .int .u32 0, .int .i64 0] 64)) w1.heap.size 64 zero49.toArray from hzb)
  clear hzb
  go_wp2_with (first
    | (refine wpList_load_mid rfl 64 (.tmp 10) rfl g 0 rfl o.row _ (row_range HO.out.1.1 HO.out.2.2) Try.underlying64 rfl (by rw [FewO.row_len HO.out.1.1]; exact infoRow) ?_)
    | (refine wpList_store_row rfl 64 (.tmp 3) (.tmp 11) rfl w1.heap.size o.row zero49 64 rfl rfl HZ.out (by rw [FewO.row_len HO.out.1.1]; rfl) (by rw [FewO.row_len HO.out.1.1]; exact infoRow) (row_one o) ?_
       intro w2 h2
       have c48 : w2.cell? ⟨w1.heap.size, 48, none⟩ = some (.int .i64 o.n) := (h2.out.1.cell 48).trans (by rw [List.getElem?_toArray, FewO.row_at (by decide)]; exact FewO.atN HO.out.1.1)
       have hbW : Below w1.heap.size w1 w2 := (below_box w1 _).grown h2.out.2 (by simp) (fun k e => by cases e; exact Nat.le_refl _)
       have HB2 := Lib.hid (And.intro h2.out.1 hbW)
       have hJ0 := HJ.out.1 _ _ _ none HJ.out.2.2.2 (World.grownBy_of_below hbW) (fun r e => by cases e)
       clear h2 hbW))
  clear c48
  have hBw : B ≤ w1.heap.size := Nat.le_trans hB hW.size
  refine (wpIn_wide (n := n)).1 ?_
  gi_loopw [14] (fun i wr => ∃ k : Nat, k ≤ o.n ∧ i = .int .i64 k ∧ Hid (J ((kidsF f).take k) wr ∧ Blk wr w1.heap.size 64 o.row.toArray)) (fun i _ => o.n - (intOf i).toNat)
  case atStart => exact ⟨0, Nat.zero_le _, rfl, Lib.hid ⟨hJ0, HB2.out.1⟩⟩
  case round =>
    obtain ⟨k, hk, rfl, HW⟩ := hrel
    by_cases hlt : k < o.n
    · have hkl : k < (kidsF f).length := by rw [kidsF_len, ← HO.out.2.1.n]; exact hlt
      obtain ⟨x, hx⟩ : ∃ x, (kidsF f)[k]? = some x := ⟨_, List.getElem?_eq_getElem hkl⟩
      obtain ⟨hxb, hxr⟩ := kid_at HO.out.2.1 hlt hx
      have hln := HO.out.1.1.ln
      have d0 : wr.cell? ⟨w1.heap.size, k, none⟩ = some (.int .u8 (x.1.val : Int)) := (HW.out.2.cell k).trans (by rw [List.getElem?_toArray, FewO.row_at (by omega)]; exact FewO.atB HO.out.1.1 hxb)
      have d1 : wr.cell? ⟨w1.heap.size, 16 + k * 2, none⟩ = some (.int .i64 x.2.1) := (HW.out.2.cell _).trans (by rw [List.getElem?_toArray, FewO.row_at (by omega)]; exact (FewO.atR HO.out.1.1 hxr).1)
      have d2 : wr.cell? ⟨w1.heap.size, 16 + k * 2 + 1, none⟩ = some (.int .u32 x.2.2) := (HW.out.2.cell _).trans (by rw [List.getElem?_toArray, FewO.row_at (by omega)]; exact (FewO.atR HO.out.1.1 hxr).2)
      have i1 : (0 : Int) ≤ (k : Int) := by omega
      have i2 : (k : Int) < (o.n : Int) := by omega
      have i3 : (k : Int) < 16 := by omega
      have hJd : J ((kidsF f).take k) wr.drew := HJ.out.1 _ _ _ none HW.out.1 ⟨rfl, rfl, rfl, Nat.le_refl _, fun _ _ _ => rfl⟩ (fun r e => by cases e)
      have hYd : YieldAt Fence.wide (n - 1) Try.prog l (encK x) wr.drew (fun e W' => ∃ b : Bool, e = .returned (.bool b) ∧ Hid ((b = true → J ((kidsF f).take k ++ [x]) W' ∧ KeepsB B wr.drew W') ∧ (b = false → Jx ((kidsF f).take k ++ [x]) W'))) :=
        (HJ.out.2.2.1 _ x wr.drew hJd (by rw [List.length_take]; omega)).mono (fun e W' h => by
          rcases h with ⟨rfl, h1, h2⟩ | ⟨rfl, h1⟩
          · exact ⟨true, rfl, Lib.hid ⟨fun _ => ⟨h1, h2⟩, fun e => by cases e⟩⟩
          · exact ⟨false, rfl, Lib.hid ⟨fun e => by (cases e), fun _ => h1⟩⟩)
      obtain ⟨fn, tmps, assign, body, hy, hR⟩ := hYd
      dsimp only [encK] at hy
      clear hJd
      have hmix : Try.prog.follows .mixedOrders = true := by kernel_rfl
      gi_wp2_with (fail)
      have hn1 : 1 ≤ n := by omega
      have HX := Lib.hid hx
      clear hx hxb hxr hln
      gi_region_with_o ((refine hR.mono ?_; rintro e W3 ⟨b, rfl, hP⟩))
      all_goals
        cases b with
        | true =>
          obtain ⟨hJ3, hk3⟩ := hP.out.1 rfl
          have HN := Lib.hid (And.intro hJ3 (hk3.blk (g := w1.heap.size) (cs := o.row.toArray) HW.out.2 hBw))
          clear hJ3 hk3 hP hR hy
          gi_wp2
          go_roundw
          case rel =>
            refine ⟨k + 1, by omega, by go_num, Lib.hid ⟨?_, HN.out.2⟩⟩
            have ht : (kidsF f).take (k + 1) = (kidsF f).take k ++ [x] := by rw [List.take_add_one, HX.out]; rfl
            rw [ht]
            exact HN.out.1
          case measure => simp [intOf]; omega
        | false =>
          have hx3 := hP.out.2 rfl
          have HN := Lib.hid hx3
          clear hx3 hP hR hy
          gi_wp2
          refine bodyPost_ret (results_none rfl _ _ _) rfl ?_
          refine ⟨⟨_, rfl⟩, .inr ⟨(kidsF f).take k ++ [x], ?_, HN.out⟩⟩
          have ht : (kidsF f).take (k + 1) = (kidsF f).take k ++ [x] := by rw [List.take_add_one, HX.out]; rfl
          rw [← ht]
          exact List.take_prefix _ _
    · obtain rfl : k = o.n := by omega
      have hfin := HW.out.1
      rw [List.take_of_length_le (by rw [kidsF_len, ← HO.out.2.1.n]; exact Nat.le_refl _)] at hfin
      have HF := Lib.hid hfin
      clear hfin
      gi_wp2
      go_end0
      exact ⟨⟨_, rfl⟩, .inl ⟨_, rfl, HF.out⟩⟩
end Go.Proofs.Ytmcpfhhggapkcaa
