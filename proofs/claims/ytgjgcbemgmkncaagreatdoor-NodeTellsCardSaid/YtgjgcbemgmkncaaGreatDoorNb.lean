/-
  Walks, layer 7: New, Pick, row.
  Walks, layer 7: awake.
  Layer 7: the iterator that All returns, as a contract of the kit's form ('SeqStopsK').
  Layer 7: the kid at hand is the next one behind those that were seen; '!=' of two Refs.
  Layer 7: what a row of at most 16 bytes holds (no program in sight).
  Layer 7: FewOrder's plain law (no program in sight).
  Layer 7: the reference row.
  Layer 8: a row of many kids: its three blocks (no program in sight but the types' numbers).
  Layer 8: walks of the inner methods.
  Layer 8: lay and lift.
  Layer 8: the methods of a row of many kids, told by its kids.
  Layer 8: Put, Take, Find, Room.
  Layer 8: Take, Find, Room.
  Layer 8: New.
  A range over an iterator that itself ranges over an iterator: the iterator's contract may rely on it that the caller's invariants abide every turn of a block that is no cells and lies at or beyond the heap's end. Over any program.
-/
import Derived.Test.YtgjgcbemgmkncaaGreatDoorNa
import Derived.RangeFuncNested
import Derived.RangeFuncBound
import Derived.RangeFuncCalls
import Derived.RangeFuncLeaves
import Derived.Shelf.Abstract
import Derived.Shelf.RegionOpen
import Derived.OwnWalkIn
import Derived.TacticsInMore
import Derived.LoopNIn
import Derived.LoopIn
import Derived.Deep.MidRow
import Derived.BigRegion
import Derived.Laws.MakeOwn
namespace Go.Proofs.YtgjgcbemgmkncaaGreatDoor
open Go.RowKit
set_option linter.unusedVariables false
set_option linter.unusedSimpArgs false

theorem FewAt.drewN {W : World} {g : Nat} {room : Int} {f : Kids} (h : FewAt W g room f) (n : Nat) : FewAt (W.drewN n) g room f := h
theorem FewAt.drew {W : World} {g : Nat} {room : Int} {f : Kids} (h : FewAt W g room f) : FewAt W.drew g room f := h
theorem FewAt.alloc {W : World} {g : Nat} {room : Int} {f : Kids} (h : FewAt W g room f) (o : Obj) : FewAt (W.alloc o) g room f := h.below (below_box W o)
def noKids : Kids := fun _ => none
def emptyO (room : Int) : FewO := ⟨List.replicate 16 0, List.replicate 16 (0, 0), 0, room⟩
theorem empty_ok (room : Int) (h0 : 0 < room) (h1 : room ≤ 16) : (emptyO room).fits := by
  refine ⟨⟨by simp [emptyO], by simp [emptyO], by simp [emptyO], ?_⟩, h0, h1, by simp [emptyO]; omega⟩
  intro b hb
  simp [emptyO] at hb
  omega
theorem kids_no : kidsOf noKids = [] := by
  have : ∀ l : List Nat, kidsIn noKids l = [] := by
    intro l
    induction l with
    | nil => rfl
    | cons x l ih => unfold kidsIn at ih ⊢; rw [List.filterMap_cons]; simp [noKids]
  exact this _
theorem empty_rep (room : Int) : (emptyO room).rep noKids := ⟨by rw [kids_no]; rfl, by rw [kids_no]; rfl, by rw [kids_no]; rfl⟩
/-- What New comes to: a new row without kids. -/
def NewEnd (room : Int) (w : World) (e : Ending) (w' : World) : Prop := ∃ g, e = .returned (.tuple #[.pointer (some ⟨g, 0, none⟩), .int .i64 0]) ∧ FewAt w' g room noKids ∧ w.heap.size ≤ g ∧ Below w.heap.size w w'
theorem new_cells (room : Int) (w : World) : FewAt (w.alloc (.cells (emptyO room).cells.toArray 106)) w.heap.size room noKids ↔ (0 < room ∧ room ≤ 16) ∨ FewAt (w.alloc (.cells (emptyO room).cells.toArray 106)) w.heap.size room noKids := by
  constructor
  · exact fun h => .inr h
  · rintro (⟨h0, h1⟩ | h)
    · exact ⟨emptyO room, empty_ok room h0 h1, empty_rep room, rfl, Blk.new _ _ _⟩
    · exact h
theorem new_4 (w : World) : Calls Tryz.prog 72 #[.int .i64 4] w (NewEnd 4 w) := by
  have h := (new_cells 4 w).2 (.inl ⟨by decide, by decide⟩)
  have hb := below_box w (.cells (emptyO 4).cells.toArray 106)
  have H := Lib.hid (And.intro h hb)
  clear h hb
  go_enter Tryz.func72, Tryz.ntmps72
  go_wp2
  go_ret2
  exact ⟨w.heap.size, rfl, H.out.1, Nat.le_refl _, H.out.2⟩
theorem new_16 (w : World) : Calls Tryz.prog 72 #[.int .i64 16] w (NewEnd 16 w) := by
  have h := (new_cells 16 w).2 (.inl ⟨by decide, by decide⟩)
  have hb := below_box w (.cells (emptyO 16).cells.toArray 106)
  have H := Lib.hid (And.intro h hb)
  clear h hb
  go_enter Tryz.func72, Tryz.ntmps72
  go_wp2
  go_ret2
  exact ⟨w.heap.size, rfl, H.out.1, Nat.le_refl _, H.out.2⟩
theorem new_no (room : Int) (w : World) (h4 : room ≠ 4) (h16 : room ≠ 16) : Calls Tryz.prog 72 #[.int .i64 room] w (StayEnd (.tuple #[.pointer none, .int .i64 2]) w) := by
  have b4 : (room != 4) = true := by rw [bne_iff_ne]; exact h4
  have b16 : (room != 16) = true := by rw [bne_iff_ne]; exact h16
  clear h4 h16
  go_enter Tryz.func72, Tryz.ntmps72
  go_wp2
  go_ret2
  exact ⟨rfl, rfl⟩

def pickM (n : Int) (len : Int) : Int := if len < 1 then 0 else if n.tmod len < 0 then n.tmod len + len else n.tmod len
theorem pick_in {n len : Int} (h : 1 ≤ len) : 0 ≤ pickM n len ∧ pickM n len < len := by
  unfold pickM
  rw [if_neg (by omega)]
  have h1 := Int.tmod_lt_of_pos n (show 0 < len by omega)
  have h2 : -len < n.tmod len := by
    have := Int.lt_tmod_of_pos n (show 0 < len by omega)
    simpa using this
  split <;> omega
def nrow (b : Nat) : List Value := [.int .u8 (b : Int)]
theorem nrow_len (b : Nat) : (nrow b).length = 1 := rfl
/-- A slice of bytes: a byte at an index. -/
theorem byte_at {w : World} {B k : Nat} {A : Option Addr} {l : List Nat} (h : Reads w B 1 A l.length (l.flatMap nrow)) (hk : k < l.length) : ∃ ad, A = some ad ∧ ad.block < B ∧ w.cell? (ad.add k) = some (.int .u8 (l[k] : Int)) := by
  obtain ⟨ad, u, h1, h2, h3, h4⟩ := h.at_ hk
  have hu : (l.flatMap nrow)[k]? = some (.int .u8 (l[k] : Int)) := by
    have : l.flatMap nrow = l.map (fun (b : Nat) => Value.int .u8 (b : Int)) := by
      clear h h3 hk
      induction l with
      | nil => rfl
      | cons x l ih => simp [nrow, ih]
    rw [this, List.getElem?_map, List.getElem?_eq_getElem hk]; rfl
  rw [hu] at h3
  injection h3 with h3
  exact ⟨ad, h1, h2, by rw [h3]; exact h4⟩
/-- row's kids and errors. -/
def rowStep (s : Kids × Nat) (b : Nat) : Kids × Nat := ((putK 16 s.1 b ((b : Int), 1)).2, if (putK 16 s.1 b ((b : Int), 1)).1 = 0 then s.2 else s.2 + 1)
def rowK (l : List Nat) : Kids × Nat := l.foldl rowStep (noKids, 0)
theorem rowK_snoc (l : List Nat) (b : Nat) : rowK (l ++ [b]) = rowStep (rowK l) b := by unfold rowK; rw [List.foldl_append]; rfl
theorem rowK_bad : ∀ (l : List Nat), (rowK l).2 ≤ l.length := by
  intro l
  have : ∀ (l : List Nat) (s : Kids × Nat), (l.foldl rowStep s).2 ≤ s.2 + l.length := by
    intro l
    induction l with
    | nil => intro s; simp
    | cons x l ih =>
      intro s
      have h := ih (rowStep s x)
      have h2 : (rowStep s x).2 ≤ s.2 + 1 := by unfold rowStep; dsimp only; split <;> omega
      simp only [List.foldl_cons, List.length_cons]
      omega
  have h := this l (noKids, 0)
  simpa [rowK] using h
def RowEnd (l : List Nat) (w : World) (e : Ending) (w' : World) : Prop := ∃ g, e = .returned (.tuple #[.pointer (some ⟨g, 0, none⟩), .int .i64 ((rowK l).2 : Int)]) ∧ FewAt w' g 16 (rowK l).1 ∧ w.heap.size ≤ g ∧ Below w.heap.size w w'
end Go.Proofs.YtgjgcbemgmkncaaGreatDoor
namespace Go.Proofs.YtgjgcbemgmkncaaGreatDoor
open Go.RowKit
set_option linter.unusedVariables false
set_option linter.unusedSimpArgs false

def k1 : Kids := setK noKids 9 (some (1, 1))
def k2 : Kids := setK k1 3 (some (1, 1))
def k3 : Kids := setK k2 7 (some (1, 1))
def k4 : Kids := setK k3 1 (some (1, 1))
def k5 : Kids := setK k4 3 none
theorem put_new {room : Int} {f : Kids} {b : Nat} {r : Int × Int} (h1 : (f b).isSome = false) (h2 : (cntK f : Int) ≠ room) : putK room f b r = (0, setK f b (some r)) := by
  unfold putK; rw [h1, if_neg (by simp), if_neg h2]
theorem p1 : putK 4 noKids 9 (1, 1) = (0, k1) := put_new (by decide +kernel) (by decide +kernel)
theorem p2 : putK 4 k1 3 (1, 1) = (0, k2) := put_new (by decide +kernel) (by decide +kernel)
theorem p3 : putK 4 k2 7 (1, 1) = (0, k3) := put_new (by decide +kernel) (by decide +kernel)
theorem p4 : putK 4 k3 3 (1, 1) = (8, k3) := by unfold putK; rw [if_pos (by decide +kernel)]
theorem p5 : putK 4 k3 1 (1, 1) = (0, k4) := put_new (by decide +kernel) (by decide +kernel)
theorem p6 : putK 4 k4 2 (1, 1) = (14, k4) := by unfold putK; rw [if_neg (by decide +kernel), if_pos (by decide +kernel)]
theorem p7 : takeK k4 3 = (((1, 1), 0), k5) := by
  have h : k4 3 = some (1, 1) := by decide +kernel
  unfold takeK; rw [h]; rfl
theorem p8 : nextK k3 4 = (7, ((1, 1), true)) := by decide +kernel
theorem p9 : nextK k5 0 = (1, ((1, 1), true)) := by decide +kernel
theorem p10 : cntK k5 = 3 := by decide +kernel
theorem put_at (room : Int) (f f' : Kids) (b : Nat) (r : Int × Int) (c : Int) (hp : putK room f b r = (c, f')) (hb : b < 256) (g : Nat) (V : World) (h : FewAt V g room f) :
    Calls Tryz.prog 112 #[.pointer (some ⟨g, 0, none⟩), .int .u8 (b : Int), .agg #[.int .i64 r.1, .int .u32 r.2]] V (FewEnd (.int .i64 c) g room f' V) := by
  have := Put_k g room f b r V h hb
  rw [hp] at this
  exact this

end Go.Proofs.YtgjgcbemgmkncaaGreatDoor
namespace Go.Proofs.YtgjgcbemgmkncaaGreatDoor
open Go.RowKit Go.Shelf
set_option linter.unusedVariables false
set_option linter.unusedSimpArgs false
attribute [local go_sem] Oper.semAt_some

/-- A kid: its byte and its Ref. -/
abbrev Kid := Fin 256 × (Int × Int)
def kidsF (f : Kids) : List Kid := (List.finRange 256).filterMap fun b => (f b.val).map fun r => (b, r)
theorem fin_range (n : Nat) : (List.finRange n).map (·.val) = List.range n := by
  apply List.ext_getElem
  · simp
  · intro i h1 h2
    simp
theorem kidsF_map (f : Kids) : (kidsF f).map (fun x => (x.1.val, x.2)) = kidsOf f := by
  have h : ∀ l : List (Fin 256), (l.filterMap fun b => (f b.val).map fun r => (b, r)).map (fun x : Kid => (x.1.val, x.2)) = kidsIn f (l.map (·.val)) := by
    intro l
    induction l with
    | nil => rfl
    | cons b l ih =>
      unfold kidsIn at ih ⊢
      rw [List.filterMap_cons, List.map_cons, List.filterMap_cons]
      cases hf : f b.val with
      | none => simpa [hf] using ih
      | some r => simpa [hf] using ih
  unfold kidsF kidsOf
  rw [h, fin_range]
theorem kidsF_len (f : Kids) : (kidsF f).length = (kidsOf f).length := by rw [← kidsF_map f, List.length_map]
abbrev encK (x : Kid) : Array Value := #[.int .u8 (x.1.val : Int), refV x.2]

/-- A round keeps the rows ('few.row') that lay at or beyond block B. -/
structure KeepsB (B : Nat) (W W' : World) : Prop where
  size : W.heap.size ≤ W'.heap.size
  same : ∀ (k : Nat) (cs : Array Value), B ≤ k → Blk W k 104 cs → Blk W' k 104 cs
theorem KeepsB.refl (B : Nat) (W : World) : KeepsB B W W := ⟨Nat.le_refl _, fun _ _ _ h => h⟩
theorem KeepsB.trans {B : Nat} {W1 W2 W3 : World} (h : KeepsB B W1 W2) (k : KeepsB B W2 W3) : KeepsB B W1 W3 := ⟨Nat.le_trans h.size k.size, fun i o hi h1 => k.same i o hi (h.same i o hi h1)⟩
theorem KeepsB.book {B : Nat} (W : World) (l : Nat) (o o' : Obj) (h : W.heap[l]? = some o) (hc : o.isCells = false) : KeepsB B W (W.putObj l o') :=
  ⟨by simp, fun k o2 hk h2 => by
    by_cases e : k = l
    · subst e; unfold Blk at h2; rw [h] at h2; injection h2 with h2; subst h2; cases hc
    · exact (World.putObj_heap_other e).trans h2⟩
theorem KeepsB.blk {B : Nat} {W W' : World} (h : KeepsB B W W') {g : Nat} {cs : Array Value} (hb : Blk W g 104 cs) (hg : B ≤ g) : Blk W' g 104 cs := h.same g _ hg hb
theorem KeepsB.of_below {B : Nat} {W W' : World} (h : Below W.heap.size W W') : KeepsB B W W' := ⟨h.size, fun k o _ h1 => (h.block k (Array.getElem?_eq_some_iff.1 h1).1).trans h1⟩
theorem KeepsB.of_grown {B : Nat} {W W' : World} {g : Nat} (h : W.grownBy W' (some g)) (hg : g < B) : KeepsB B W W' := ⟨h.size, fun k o hk h1 => (h.block k (Array.getElem?_eq_some_iff.1 h1).1 (fun e => by injection e with e; omega)).trans h1⟩
/-- .. where what is written is no such row. -/
theorem KeepsB.of_other {B : Nat} {W W' : World} {row : Option Nat} (h : W.grownBy W' row) (hg : ∀ g, row = some g → ∃ t cs, Blk W g t cs ∧ t ≠ 104) : KeepsB B W W' := ⟨h.size, fun k o hk h1 => (h.block k (Array.getElem?_eq_some_iff.1 h1).1 (fun e => by
  obtain ⟨t, cs, h2, h3⟩ := hg k e.symm
  unfold Blk at h1 h2
  rw [h1] at h2
  injection h2 with h2
  injection h2 with h4 h5
  exact h3 h5.symm)).trans h1⟩
theorem KeepsB.setCell {B : Nat} (W : World) (a : Addr) (v : Value) (h : a.block < B) : KeepsB B W (W.setCell a v) := ⟨by simp [World.setCell], fun k o hk h1 => (Below.heap_setCell W a v k (by omega)).trans h1⟩

section
variable {P : Program}
theorem wpList_store_row {ops : Array Oper} {rest : List Oper} {op : Oper} {a : Act} {w : World} {Q : Exit → Act → World → Prop} (hgd : op.guard = none) (ty : TypeId) (x y : Operand) (ho : op.op = .store ty x y)
    (g : Nat) (cells cur : List Value) (t : TypeId) (hx : a.eval x = .pointer (some ⟨g, 0, none⟩)) (hy : a.eval y = .agg cells.toArray) (hg : Blk w g t cur.toArray) (hs : cur.length = cells.length)
    (hi : (P.info? ty).map (·.size) = some cells.length) (h1 : ∀ v ∈ cells, v.oneCell' = true)
    (h : ∀ w', Hid (Blk w' g t cells.toArray ∧ w.grownBy w' (some g)) → wpList P ops Q rest (a.put op.dst undef) w') : wpList P ops Q (op :: rest) a w :=
  wpList_plain hgd fun K hK => by
    have hst := run_storeCells_at P g 0 t cells 0 cur.toArray w hg (by simp [hs]) h1
    have hst2 : (storeCells ⟨g, 0, none⟩ cells 0).run P w = .ok () (w.setRow g cells.toArray) := by
      rw [hst]
      congr 2
      simp [hs]
    cases hq : P.info? ty with
    | none => simp [hq] at hi
    | some i =>
      have hsz : cells.length = i.size := by simp [hq] at hi; omega
      unfold Oper.wp execOp
      simp [ho, hx, hy, Instr.storeAt, Instr.sureAddr, storeVar, sizeOf, typeInfo, hq, Value.cells, hsz, hst2]
      have hb := setRow_heap w g cur.toArray cells.toArray t (0, 0) hg
      exact hK _ _ (h _ (Lib.hid ⟨hb, grown_setRow w g _⟩))
end
def FewO.row (o : FewO) : List Value := o.cells.take 49
theorem FewO.row_len {o : FewO} (h : o.ok) : o.row.length = 49 := by unfold FewO.row; rw [List.length_take, FewO.len h]; rfl
theorem FewO.row_at {o : FewO} {k : Nat} (hk : k < 49) : o.row[k]? = o.cells[k]? := by unfold FewO.row; rw [List.getElem?_take, if_pos hk]
theorem cells_one (o : FewO) : ∀ v ∈ o.cells, v.oneCell' = true := by
  intro v hv
  unfold FewO.cells at hv
  rw [List.mem_append, List.mem_append] at hv
  rcases hv with hv | hv | hv
  · exact u8_one _ v hv
  · exact ref_one _ v hv
  · simp at hv
    rcases hv with rfl | rfl <;> rfl
theorem row_one (o : FewO) : ∀ v ∈ o.row, v.oneCell' = true := fun v hv => cells_one o v (List.mem_of_mem_take hv)
theorem row_range {o : FewO} {W : World} {g : Nat} {t : TypeId} (ho : o.ok) (h : Blk W g t o.cells.toArray) : W.rangeAt g 0 o.row := by
  intro j v hv
  have hj : j < 49 := by have := (List.getElem?_eq_some_iff.1 hv).1; rw [FewO.row_len ho] at this; exact this
  rw [FewO.row_at hj] at hv
  rw [Nat.zero_add]
  exact (h.cell j).trans (by rw [List.getElem?_toArray]; exact hv)
theorem kid_at {o : FewO} {f : Kids} (h : o.rep f) {k : Nat} (hk : k < o.n) {x : Kid} (hx : (kidsF f)[k]? = some x) : o.bs[k]? = some (x.1.val : Int) ∧ o.rs[k]? = some x.2 := by
  have h1 : (kidsOf f)[k]? = some (x.1.val, x.2) := by rw [← kidsF_map, List.getElem?_map, hx]; rfl
  have hb := h.bs
  have hr := h.rs
  constructor
  · have : (o.bs.take o.n)[k]? = some (x.1.val : Int) := by rw [hb, List.getElem?_map, h1]; rfl
    rwa [List.getElem?_take, if_pos hk] at this
  · have : (o.rs.take o.n)[k]? = some x.2 := by rw [hr, List.getElem?_map, h1]; rfl
    rwa [List.getElem?_take, if_pos hk] at this
theorem World.grownBy_of_below {w w' : World} (h : Below w.heap.size w w') : w.grownBy w' none := ⟨h.os, h.tape, h.output, h.size, fun i hi _ => h.block i hi⟩
def zero49 : List Value := (emptyO 0).row
theorem infoRow : (Tryz.prog.info? 104).map (·.size) = some 49 := by kernel_rfl

/-- All's value: a closure over a box. -/
theorem All_any (p : Option Addr) (w : World) : Calls Tryz.prog 108 #[.pointer p] w fun e w' => e = .returned (.func (.func 115) #[] #[.pointer (some ⟨w.heap.size, 0, none⟩)]) ∧ w' = w.alloc (.cells #[.pointer p] 88) := by
  go_enter Tryz.func108, Tryz.ntmps108
  go_wp2
  go_ret
  exact ⟨rfl, rfl⟩

set_option maxHeartbeats 3200000 in
set_option maxRecDepth 100000 in
theorem all_stops (Bs g n B : Nat) (room : Int) (f : Kids) (w : World) (hB : B ≤ w.heap.size) (hn : 2 ≤ n) (hc : w.cell? ⟨Bs, 0, none⟩ = some (.pointer (some ⟨g, 0, none⟩))) (hf : FewAt w g room f) :
    SeqStopsK Fence.wide n Tryz.prog 115 #[.pointer (some ⟨Bs, 0, none⟩)] encK (KeepsB B) (fun ys => ys = kidsF f) (fun pre => pre <+: kidsF f) 16 w := fun l J Jx W hW hJ hJx hY h0 => by
  have hBs : Bs < w.heap.size := World.block_lt_of_cell? w _ hc
  have hc1 := (hW.cell (p := ⟨Bs, 0, none⟩) hBs).trans hc
  have hf1 := hf.below hW
  obtain ⟨o, ho, hr, rfl, hg⟩ := hf1
  obtain ⟨n0, n1⟩ := few_cells ho.1 hg
  have ht := there_some g o.room W n1
  rw [decide_eq_true ho.2.1] at ht
  have HT := Lib.hid ht
  have HJ := Lib.hid (And.intro hJ (And.intro hJx (And.intro hY h0)))
  have HO := Lib.hid (And.intro ho (And.intro hr hg))
  clear ht hJ hJx hY h0 hg ho hr hf hc n0 n1
  refine callsIn_of_wp Tryz.func115 rfl trivial ?_ rfl
  simp only [Tryz.ntmps115, List.size_toArray, List.length_cons, List.length_nil, Nat.reduceAdd, Nat.reduceSub, Array.replicate_succ, Array.replicate_zero, List.push_toArray, List.append_toArray, List.nil_append, List.cons_append]
  refine wpIn_wide.2 ?_
  go_wp2_with fail
  refine HT.out.mono ?_
  rintro e w1 ⟨rfl, rfl⟩
  clear HT
  have hgl := HO.out.2.2.lt
  have hzb : Blk (w1.alloc (.cells zero49.toArray 104)) w1.heap.size 104 zero49.toArray := Blk.new _ _ _
  have HZ := Lib.hid (show Blk (w1.alloc (.cells #[.int .u8 0, .int .u8 0, .int .u8 0, .int .u8 0, .int .u8 0, .int .u8 0, .int .u8 0, .int .u8 0, .int .u8 0, .int .u8 0, .int .u8 0, .int .u8 0, .int .u8 0, .int .u8 0, .int .u8 0, .int .u8 0, .int .i64 0, .int .u32 0, .int .i64 0, .int .u32 0, .int .i64 0, .int .u32 0, .int .i64 0, .int .u32 0, .int .i64 0, .int .u32 0, .int .i64 0, .int .u32 0, .int .i64 0, .int .u32 0, .int .i64 0, .int .u32 0, .int .i64 0, .int .u32 0, .int .i64 0, .int .u32 0, .int .i64 0, .int .u32 0, .int .i64 0, .int .u32 0, .int .i64 0, .int .u32 0, .int .i64 0, .int .u32 0, .int .i64 0, .int .u32 0, .int .i64 0, .int .u32 0, .int .i64 0] 104)) w1.heap.size 104 zero49.toArray from hzb)
  clear hzb
  go_wp2_with (first
    | (refine wpList_load_mid rfl 104 (.tmp 10) rfl g 0 rfl o.row _ (row_range HO.out.1.1 HO.out.2.2) Tryz.underlying104 rfl (by rw [FewO.row_len HO.out.1.1]; exact infoRow) ?_)
    | (refine wpList_store_row rfl 104 (.tmp 3) (.tmp 11) rfl w1.heap.size o.row zero49 104 rfl rfl HZ.out (by rw [FewO.row_len HO.out.1.1]; rfl) (by rw [FewO.row_len HO.out.1.1]; exact infoRow) (row_one o) ?_
       intro w2 h2
       have c48 : w2.cell? ⟨w1.heap.size, 48, none⟩ = some (.int .i64 o.n) := (h2.out.1.cell 48).trans (by rw [List.getElem?_toArray, FewO.row_at (by decide)]; exact FewO.atN HO.out.1.1)
       have hbW : Below w1.heap.size w1 w2 := (below_box w1 _).grown h2.out.2 (by simp) (fun k e => by cases e; exact Nat.le_refl _)
       have HB2 := Lib.hid (And.intro h2.out.1 hbW)
       have hJ0 := HJ.out.1 _ _ _ none HJ.out.2.2.2 (World.grownBy_of_below hbW) (fun r e => by cases e)
       clear h2 hbW))
  clear c48
  have hBw : B ≤ w1.heap.size := Nat.le_trans hB hW.size
  refine (wpIn_wide (n := n)).1 ?_
  gi_loopw [14] (fun i wr => ∃ k : Nat, k ≤ o.n ∧ i = .int .i64 k ∧ Hid (J ((kidsF f).take k) wr ∧ Blk wr w1.heap.size 104 o.row.toArray)) (fun i _ => o.n - (intOf i).toNat)
  case atStart => exact ⟨0, Nat.zero_le _, rfl, Lib.hid ⟨hJ0, HB2.out.1⟩⟩
  case round =>
    obtain ⟨k, hk, rfl, HW⟩ := hrel
    by_cases hlt : k < o.n
    · have hkl : k < (kidsF f).length := by rw [kidsF_len, ← HO.out.2.1.n]; exact hlt
      obtain ⟨x, hx⟩ : ∃ x, (kidsF f)[k]? = some x := ⟨_, List.getElem?_eq_getElem hkl⟩
      obtain ⟨hxb, hxr⟩ := kid_at HO.out.2.1 hlt hx
      have hln := HO.out.1.1.ln
      have d0 : wr.cell? ⟨w1.heap.size, k, none⟩ = some (.int .u8 (x.1.val : Int)) := (HW.out.2.cell k).trans (by rw [List.getElem?_toArray, FewO.row_at (by omega)]; exact FewO.atB HO.out.1.1 hxb)
      have d1 : wr.cell? ⟨w1.heap.size, 16 + k * 2, none⟩ = some (.int .i64 x.2.1) := (HW.out.2.cell _).trans (by rw [List.getElem?_toArray, FewO.row_at (by omega)]; exact (FewO.atR HO.out.1.1 hxr).1)
      have d2 : wr.cell? ⟨w1.heap.size, 16 + k * 2 + 1, none⟩ = some (.int .u32 x.2.2) := (HW.out.2.cell _).trans (by rw [List.getElem?_toArray, FewO.row_at (by omega)]; exact (FewO.atR HO.out.1.1 hxr).2)
      have i1 : (0 : Int) ≤ (k : Int) := by omega
      have i2 : (k : Int) < (o.n : Int) := by omega
      have i3 : (k : Int) < 16 := by omega
      have hJd : J ((kidsF f).take k) wr.drew := HJ.out.1 _ _ _ none HW.out.1 ⟨rfl, rfl, rfl, Nat.le_refl _, fun _ _ _ => rfl⟩ (fun r e => by cases e)
      have hYd : YieldAt Fence.wide (n - 1) Tryz.prog l (encK x) wr.drew (fun e W' => ∃ b : Bool, e = .returned (.bool b) ∧ Hid ((b = true → J ((kidsF f).take k ++ [x]) W' ∧ KeepsB B wr.drew W') ∧ (b = false → Jx ((kidsF f).take k ++ [x]) W'))) :=
        (HJ.out.2.2.1 _ x wr.drew hJd (by rw [List.length_take]; omega)).mono (fun e W' h => by
          rcases h with ⟨rfl, h1, h2⟩ | ⟨rfl, h1⟩
          · exact ⟨true, rfl, Lib.hid ⟨fun _ => ⟨h1, h2⟩, fun e => by cases e⟩⟩
          · exact ⟨false, rfl, Lib.hid ⟨fun e => by (cases e), fun _ => h1⟩⟩)
      obtain ⟨fn, tmps, assign, body, hy, hR⟩ := hYd
      dsimp only [encK] at hy
      clear hJd
      have hmix : Tryz.prog.follows .mixedOrders = true := by kernel_rfl
      gi_wp2_with (fail)
      have hn1 : 1 ≤ n := by omega
      have HX := Lib.hid hx
      clear hx hxb hxr hln
      gi_region_with_o ((refine hR.mono ?_; rintro e W3 ⟨b, rfl, hP⟩))
      all_goals
        cases b with
        | true =>
          obtain ⟨hJ3, hk3⟩ := hP.out.1 rfl
          have HN := Lib.hid (And.intro hJ3 (hk3.blk (g := w1.heap.size) (cs := o.row.toArray) HW.out.2 hBw))
          clear hJ3 hk3 hP hR hy
          gi_wp2
          go_roundw
          case rel =>
            refine ⟨k + 1, by omega, by go_num, Lib.hid ⟨?_, HN.out.2⟩⟩
            have ht : (kidsF f).take (k + 1) = (kidsF f).take k ++ [x] := by rw [List.take_add_one, HX.out]; rfl
            rw [ht]
            exact HN.out.1
          case measure => simp [intOf]; omega
        | false =>
          have hx3 := hP.out.2 rfl
          have HN := Lib.hid hx3
          clear hx3 hP hR hy
          gi_wp2
          refine bodyPost_ret (results_none rfl _ _ _) rfl ?_
          refine ⟨⟨_, rfl⟩, .inr ⟨(kidsF f).take k ++ [x], ?_, HN.out⟩⟩
          have ht : (kidsF f).take (k + 1) = (kidsF f).take k ++ [x] := by rw [List.take_add_one, HX.out]; rfl
          rw [← ht]
          exact List.take_prefix _ _
    · obtain rfl : k = o.n := by omega
      have hfin := HW.out.1
      rw [List.take_of_length_le (by rw [kidsF_len, ← HO.out.2.1.n]; exact Nat.le_refl _)] at hfin
      have HF := Lib.hid hfin
      clear hfin
      gi_wp2
      go_end0
      exact ⟨⟨_, rfl⟩, .inl ⟨_, rfl, HF.out⟩⟩
end Go.Proofs.YtgjgcbemgmkncaaGreatDoor
namespace Go.Proofs.YtgjgcbemgmkncaaGreatDoor
open Go.RowKit Go.Shelf
set_option linter.unusedVariables false
set_option linter.unusedSimpArgs false

/-- Behind the last of these kids. -/
def fromOf (pre : List Kid) : Nat := match pre.getLast? with
  | some x => x.1.val + 1
  | none => 0
theorem fromOf_snoc (pre : List Kid) (x : Kid) : fromOf (pre ++ [x]) = x.1.val + 1 := by unfold fromOf; rw [List.getLast?_concat]
theorem kids_sorted (f : Kids) : (kidsOf f).Pairwise (fun a b => a.1 < b.1) := by
  unfold kidsOf kidsIn
  refine List.Pairwise.filterMap _ ?_ List.pairwise_lt_range
  intro a a' h b hb b' hb'
  simp only [Option.mem_def, Option.map_eq_some_iff] at hb hb'
  obtain ⟨r, _, rfl⟩ := hb
  obtain ⟨r', _, rfl⟩ := hb'
  exact h
theorem kidsF_sorted (f : Kids) : (kidsF f).Pairwise (fun a b => a.1.val < b.1.val) := by
  have h := kids_sorted f
  rw [← kidsF_map f, List.pairwise_map] at h
  exact h
theorem fromOf_le (pre : List Kid) : fromOf pre ≤ 256 := by
  rcases List.eq_nil_or_concat pre with rfl | ⟨p, y, rfl⟩
  · decide
  · rw [List.concat_eq_append, fromOf_snoc]; have := y.1.isLt; omega
theorem fromOf_gt {pre : List Kid} (h : pre.Pairwise (fun a b => a.1.val < b.1.val)) {y : Kid} (hy : y ∈ pre) : y.1.val < fromOf pre := by
  rcases List.eq_nil_or_concat pre with rfl | ⟨p, z, rfl⟩
  · cases hy
  · rw [List.concat_eq_append] at h hy ⊢
    rw [fromOf_snoc]
    rcases List.mem_append.1 hy with hp | hz
    · have := (List.pairwise_append.1 h).2.2 y hp z (by simp)
      omega
    · have : y = z := by simpa using hz
      subst this; omega
theorem low_lt {f : Kids} {b : Nat} {a : Nat × (Int × Int)} (h : a ∈ lowK f b) : a.1 < b := List.mem_range.1 (mem_kidsIn.1 h).1
theorem high_ge {f : Kids} {b : Nat} {a : Nat × (Int × Int)} (h : a ∈ highK f b) : b ≤ a.1 := by
  obtain ⟨i, hi⟩ := List.mem_iff_getElem?.1 (mem_kidsIn.1 h).1
  rw [List.getElem?_drop] at hi
  obtain ⟨hlt, he⟩ := List.getElem?_eq_some_iff.1 hi
  rw [List.getElem_range] at he
  omega
theorem split_same {α : Type} {p : α → Bool} {a b c d : List α} (h : a ++ b = c ++ d) (ha : ∀ x ∈ a, p x = false) (hb : ∀ x ∈ b, p x = true) (hc : ∀ x ∈ c, p x = false) (hd : ∀ x ∈ d, p x = true) : b = d := by
  have h2 := congrArg (List.filter p) h
  have e1 : a.filter p = [] := List.filter_eq_nil_iff.2 (fun x hx => by rw [ha x hx]; decide)
  have e2 : c.filter p = [] := List.filter_eq_nil_iff.2 (fun x hx => by rw [hc x hx]; decide)
  rw [List.filter_append, List.filter_append, e1, e2, List.filter_eq_self.2 hb, List.filter_eq_self.2 hd] at h2
  simpa using h2
/-- The kids at and beyond the mark are those that were not seen. -/
theorem high_rest {f : Kids} {pre rest : List Kid} (h : kidsF f = pre ++ rest) : highK f (fromOf pre) = rest.map (fun x => (x.1.val, x.2)) := by
  have hs := kidsF_sorted f
  rw [h] at hs
  obtain ⟨hs1, hs2, hs3⟩ := List.pairwise_append.1 hs
  have hk := kids_split f (fromOf pre) (fromOf_le pre)
  rw [← kidsF_map f, h, List.map_append] at hk
  refine split_same (p := fun a => decide (fromOf pre ≤ a.1)) hk.symm ?_ ?_ ?_ ?_
  · intro a ha; exact decide_eq_false (by have := low_lt ha; omega)
  · intro a ha; exact decide_eq_true (high_ge ha)
  · intro a ha
    obtain ⟨y, hy, rfl⟩ := List.mem_map.1 ha
    exact decide_eq_false (by have := fromOf_gt hs1 hy; simp only; omega)
  · intro a ha
    obtain ⟨y, hy, rfl⟩ := List.mem_map.1 ha
    refine decide_eq_true ?_
    rcases List.eq_nil_or_concat pre with rfl | ⟨p, z, rfl⟩
    · exact Nat.zero_le _
    · rw [List.concat_eq_append] at hs3 ⊢
      rw [fromOf_snoc]
      exact hs3 z (by simp) y hy
theorem next_at {f : Kids} {pre : List Kid} {x : Kid} (hp : (pre ++ [x]) <+: kidsF f) : nextK f (fromOf pre : Int) = ((x.1.val : Int), (x.2, true)) ∧ fromOf pre ≤ x.1.val := by
  obtain ⟨t, ht⟩ := hp
  have h := high_rest (f := f) (pre := pre) (rest := x :: t) (by rw [← ht]; simp)
  refine ⟨?_, ?_⟩
  · unfold nextK
    rw [clampK_nat (fromOf_le pre), h]
    rfl
  · exact high_ge (f := f) (a := (x.1.val, x.2)) (by rw [h]; simp)
/-- Behind the last kid there is none. -/
theorem next_end (f : Kids) : nextK f (fromOf (kidsF f) : Int) = (0, ((0, 0), false)) := by
  have h := high_rest (f := f) (pre := kidsF f) (rest := []) (by simp)
  unfold nextK
  rw [clampK_nat (fromOf_le _), h]
  rfl
theorem neqRef (x y : Int × Int) (W : World) : (binOp .neq 29 (.agg #[.int .i64 x.1, .int .u32 x.2]) (.agg #[.int .i64 y.1, .int .u32 y.2])).run Tryz.prog W = .ok (.bool (!(decide (x = y)))) W := by
  have u0 := Tryz.underlying3
  have a0 := Tryz.isAgg3
  have z0 := Tryz.sizeOf3
  have u1 := Tryz.underlying27
  have a1 := Tryz.isAgg27
  have z1 := Tryz.sizeOf27
  have hS : Tryz.prog.underlying 29 = some (.struct (Tryz.prog.fieldsOf 29)) := by kernel_rfl
  have hp : Tryz.prog.stoodInHeld 29 = false := by kernel_rfl
  rw [run_neq_struct, show (10000 : Nat) = 9999 + 1 from rfl, run_equalIn_agg W 9999 29 _ _ hS hp]
  clear hS
  simp only [Program.fieldsOf, Tryz.underlying29]
  go_simp
  obtain ⟨a, b⟩ := x
  obtain ⟨c, d⟩ := y
  by_cases h0 : a = c <;> by_cases h1 : b = d <;> simp [h0, h1]
theorem eqlRef (x y : Int × Int) (W : World) : (binOp .eql 29 (.agg #[.int .i64 x.1, .int .u32 x.2]) (.agg #[.int .i64 y.1, .int .u32 y.2])).run Tryz.prog W = .ok (.bool (decide (x = y))) W := by
  have u0 := Tryz.underlying3
  have a0 := Tryz.isAgg3
  have z0 := Tryz.sizeOf3
  have u1 := Tryz.underlying27
  have a1 := Tryz.isAgg27
  have z1 := Tryz.sizeOf27
  have hS : Tryz.prog.underlying 29 = some (.struct (Tryz.prog.fieldsOf 29)) := by kernel_rfl
  have hp : Tryz.prog.stoodInHeld 29 = false := by kernel_rfl
  rw [run_eql_struct, show (10000 : Nat) = 9999 + 1 from rfl, run_equalIn_agg W 9999 29 _ _ hS hp]
  clear hS
  simp only [Program.fieldsOf, Tryz.underlying29]
  go_simp
  obtain ⟨a, b⟩ := x
  obtain ⟨c, d⟩ := y
  by_cases h0 : a = c <;> by_cases h1 : b = d <;> simp [h0, h1]

end Go.Proofs.YtgjgcbemgmkncaaGreatDoor
namespace Go.Proofs.YtgjgcbemgmkncaaGreatDoor
open Go.RowKit Go.Shelf
set_option linter.unusedVariables false
set_option linter.unusedSimpArgs false

theorem cnt_set_some {f : Kids} {b : Nat} (r : Int × Int) (hb : b < 256) (h : f b = none) : cntK (setK f b (some r)) = cntK f + 1 := by
  unfold cntK
  rw [kids_set f b _ hb, kids_at f b hb, h]
  simp
  omega
theorem cnt_set_none {f : Kids} {b : Nat} {r : Int × Int} (hb : b < 256) (h : f b = some r) : cntK (setK f b none) + 1 = cntK f := by
  unfold cntK
  rw [kids_set f b _ hb, kids_at f b hb, h]
  simp
  omega
theorem noKids_cnt : cntK noKids = 0 := by decide
/-- The row's kids are the bytes of the list. -/
theorem rowK_law_n (n : Nat) : ∀ l : List Nat, l.length = n → l.length ≤ 16 → (∀ b ∈ l, b < 256) → (∀ b, ((rowK l).1 b).isSome = decide (b ∈ l)) ∧ cntK (rowK l).1 ≤ l.length := by
  induction n with
  | zero => intro l h0 _ _; rw [List.eq_nil_of_length_eq_zero h0]; exact ⟨fun b => by simp [rowK, noKids], by rw [show (rowK []).1 = noKids from rfl, noKids_cnt]; exact Nat.zero_le _⟩
  | succ n ih =>
    intro l0 hn hlen hb
    rcases List.eq_nil_or_concat l0 with rfl | ⟨l, x, rfl⟩
    · cases hn
    rw [List.concat_eq_append] at hn hlen hb ⊢
    rw [List.length_append] at hlen hn
    have hlx : l.length + 1 ≤ 16 := hlen
    obtain ⟨h1, h2⟩ := ih l (by simpa using hn) (by omega) (fun b h => hb b (by simp [h]))
    have hx : x < 256 := hb x (by simp)
    rw [rowK_snoc]
    unfold rowStep putK
    generalize hf : (rowK l).1 = f at h1 h2 ⊢
    by_cases hs : (f x).isSome = true
    · rw [if_pos hs]
      refine ⟨fun b => ?_, by simp; omega⟩
      have hm : x ∈ l := by have := h1 x; rw [hs] at this; exact of_decide_eq_true this.symm
      rw [h1 b]
      by_cases hbl : b ∈ l
      · simp [hbl]
      · have : b ≠ x := fun e => hbl (e ▸ hm)
        simp [hbl, this]
    · have hn : f x = none := by simpa using hs
      rw [if_neg hs, if_neg (by omega)]
      refine ⟨fun b => ?_, by dsimp only; rw [cnt_set_some _ hx hn, List.length_append]; simp; omega⟩
      dsimp only [setK]
      by_cases hbx : b = x
      · simp [hbx]
      · rw [if_neg hbx, h1 b]
        simp [hbx]
theorem rowK_law (l : List Nat) (h : l.length ≤ 16) (hb : ∀ b ∈ l, b < 256) : (∀ b, ((rowK l).1 b).isSome = decide (b ∈ l)) ∧ cntK (rowK l).1 ≤ l.length := rowK_law_n _ l rfl h hb
/-- What Take leaves. -/
theorem take_law (f : Kids) {b : Nat} (hb : b < 256) : (((takeK f b).1.2 == 0) = (f b).isSome) ∧ (takeK f b).1.1 = (f b).getD (0, 0) ∧ ((takeK f b).2 b).isSome = false ∧ (decide (cntK (takeK f b).2 = cntK f) = !(f b).isSome) := by
  unfold takeK
  rcases h : f b with _ | r
  · refine ⟨rfl, rfl, by simp [h], by simp⟩
  · have := cnt_set_none hb h
    refine ⟨rfl, rfl, by simp [setK], ?_⟩
    simp; omega
end Go.Proofs.YtgjgcbemgmkncaaGreatDoor
namespace Go.Proofs.YtgjgcbemgmkncaaGreatDoor
open Go.RowKit Go.Shelf
set_option linter.unusedVariables false
set_option linter.unusedSimpArgs false

theorem rowK_val_n (n : Nat) : ∀ l : List Nat, l.length = n → l.length ≤ 16 → (∀ b ∈ l, b < 256) → (rowK l).1 = (fun b => if b ∈ l then some ((b : Int), 1) else none) ∧ (rowK l).2 + cntK (rowK l).1 = l.length := by
  induction n with
  | zero => intro l h0 _ _; rw [List.eq_nil_of_length_eq_zero h0]; exact ⟨by funext b; simp [rowK, noKids], by rw [show (rowK []).1 = noKids from rfl, noKids_cnt]; rfl⟩
  | succ n ih =>
    intro l0 hn hlen hb
    rcases List.eq_nil_or_concat l0 with rfl | ⟨l, x, rfl⟩
    · cases hn
    rw [List.concat_eq_append] at hn hlen hb ⊢
    rw [List.length_append] at hlen hn
    have hlx : l.length + 1 ≤ 16 := hlen
    obtain ⟨h1, h2⟩ := ih l (by simpa using hn) (by omega) (fun b h => hb b (by simp [h]))
    have hx : x < 256 := hb x (by simp)
    rw [rowK_snoc]
    unfold rowStep putK
    rw [h1] at h2 ⊢
    dsimp only
    by_cases hs : x ∈ l
    · simp only [hs, if_true, Option.isSome_some]
      refine ⟨?_, by simp; omega⟩
      funext b
      by_cases hbx : b = x
      · subst hbx; simp [hs]
      · simp [hbx]
    · simp only [hs, if_false, Option.isSome_none]
      have hc : cntK (fun b => if b ∈ l then some ((b : Int), 1) else none) ≤ l.length := by omega
      rw [if_neg (by simp), if_neg (by omega)]
      refine ⟨?_, ?_⟩
      · funext b
        dsimp only [setK]
        by_cases hbx : b = x
        · simp [hbx]
        · simp [hbx]
      · dsimp only
        rw [cnt_set_some _ hx (by simp [hs])]
        simp; omega
theorem rowK_val (l : List Nat) (h : l.length ≤ 16) (hb : ∀ b ∈ l, b < 256) : (rowK l).1 = (fun b => if b ∈ l then some ((b : Int), 1) else none) ∧ (rowK l).2 + cntK (rowK l).1 = l.length := rowK_val_n _ l rfl h hb

/-- The list from another start on. -/
def rotL (p : Nat) (l : List Nat) : List Nat := (List.range l.length).map fun i => l.getD ((i + p) % l.length) 0
theorem rotL_len (p : Nat) (l : List Nat) : (rotL p l).length = l.length := by simp [rotL]
theorem rotL_succ {p k : Nat} {l : List Nat} (hk : k < l.length) (hm : (k + p) % l.length < l.length) : (rotL p l).take (k + 1) = (rotL p l).take k ++ [l[(k + p) % l.length]] := by
  have hk2 : k < (rotL p l).length := by rw [rotL_len]; exact hk
  rw [List.take_succ_eq_append_getElem hk2]
  congr 1
  simp [rotL, hm]
theorem rotL_mem {p : Nat} {l : List Nat} (hp : p < l.length) (b : Nat) : b ∈ rotL p l ↔ b ∈ l := by
  unfold rotL
  rw [List.mem_map]
  constructor
  · rintro ⟨i, hi, rfl⟩
    have hm : (i + p) % l.length < l.length := Nat.mod_lt _ (by omega)
    rw [List.getD_eq_getElem?_getD, List.getElem?_eq_getElem hm]
    exact List.getElem_mem hm
  · intro hb
    obtain ⟨j, hj, rfl⟩ := List.getElem_of_mem hb
    by_cases h : p ≤ j
    · refine ⟨j - p, List.mem_range.2 (by omega), ?_⟩
      rw [Nat.sub_add_cancel h, Nat.mod_eq_of_lt hj, List.getD_eq_getElem?_getD, List.getElem?_eq_getElem hj]; rfl
    · refine ⟨j + l.length - p, List.mem_range.2 (by omega), ?_⟩
      rw [Nat.sub_add_cancel (by omega), Nat.add_mod_right, Nat.mod_eq_of_lt hj, List.getD_eq_getElem?_getD, List.getElem?_eq_getElem hj]; rfl
theorem row_rot {p : Nat} {l : List Nat} (hp : p < l.length ∨ l.length = 0) (h : l.length ≤ 16) (hb : ∀ b ∈ l, b < 256) : rowK (rotL p l) = rowK l := by
  rcases hp with hp | h0
  · have hb2 : ∀ b ∈ rotL p l, b < 256 := fun b hm => hb b ((rotL_mem hp b).1 hm)
    obtain ⟨a1, a2⟩ := rowK_val l h hb
    obtain ⟨b1, b2⟩ := rowK_val (rotL p l) (by rw [rotL_len]; exact h) hb2
    have e : (rowK (rotL p l)).1 = (rowK l).1 := by
      rw [a1, b1]
      funext b
      simp only [rotL_mem hp]
    rw [e, rotL_len] at b2
    exact Prod.ext e (by omega)
  · rw [List.eq_nil_of_length_eq_zero h0]; rfl
theorem put_law (f : Kids) {b : Nat} (r : Int × Int) (hb : b < 256) : ((putK 16 f b r).1 = 0 → cntK (putK 16 f b r).2 = cntK f + 1) ∧ ((putK 16 f b r).1 ≠ 0 → (putK 16 f b r).2 = f) ∧ (∀ x, ((putK 16 f b r).2 x).isSome = true → (f x).isSome = true ∨ x = b) := by
  unfold putK
  by_cases hs : (f b).isSome = true
  · rw [if_pos hs]; exact ⟨fun h => by (cases h), fun _ => rfl, fun x h => .inl h⟩
  · rw [if_neg hs]
    by_cases hc : (cntK f : Int) = 16
    · rw [if_pos hc]; exact ⟨fun h => by (cases h), fun _ => rfl, fun x h => .inl h⟩
    · rw [if_neg hc]
      refine ⟨fun _ => cnt_set_some r hb (by simpa using hs), fun h => absurd rfl h, fun x h => ?_⟩
      dsimp only [setK] at h
      by_cases hx : x = b
      · exact .inr hx
      · rw [if_neg hx] at h; exact .inl h
theorem take_law2 (f : Kids) {b : Nat} (hb : b < 256) : ((takeK f b).1.2 = 0 → cntK (takeK f b).2 + 1 = cntK f) ∧ ((takeK f b).1.2 ≠ 0 → (takeK f b).2 = f) ∧ (∀ x, ((takeK f b).2 x).isSome = true → (f x).isSome = true ∧ x ≠ b) := by
  unfold takeK
  rcases h : f b with _ | r
  · refine ⟨fun h => by (cases h), fun _ => rfl, fun x hx => ⟨hx, fun e => ?_⟩⟩
    subst e; dsimp only at hx; rw [h] at hx; cases hx
  · refine ⟨fun _ => cnt_set_none hb h, fun h => absurd rfl h, fun x hx => ?_⟩
    dsimp only [setK] at hx
    by_cases hxb : x = b
    · subst hxb; rw [if_pos rfl] at hx; cases hx
    · rw [if_neg hxb] at hx; exact ⟨hx, hxb⟩
theorem no_kids {f : Kids} (h : ∀ x, (f x).isSome = true → False) : f = noKids := by
  funext x
  cases hx : f x with
  | none => rfl
  | some r => exact (h x (by rw [hx]; rfl)).elim
theorem cnt_256 (f : Kids) : cntK f ≤ 256 := by
  unfold cntK kidsOf kidsIn
  exact Nat.le_trans (List.length_filterMap_le _ _) (by simp)
theorem kidsF_mem {f : Kids} {x : Kid} (h : x ∈ kidsF f) : f x.1.val = some x.2 := by
  unfold kidsF at h
  obtain ⟨b, _, hb⟩ := List.mem_filterMap.1 h
  cases hf : f b.val with
  | none => rw [hf] at hb; cases hb
  | some r => rw [hf] at hb; simp at hb; rw [← hb]; exact hf
theorem rowK_slot {l : List Nat} (h : l.length ≤ 16) (hb : ∀ b ∈ l, b < 256) {x : Kid} (hx : x ∈ kidsF (rowK l).1) : x.2.1 = (x.1.val : Int) := by
  have h1 := kidsF_mem hx
  rw [(rowK_val l h hb).1] at h1
  dsimp only at h1
  split at h1
  · injection h1 with h1; rw [← h1]
  · cases h1
theorem next_ge (f : Kids) (k : Int) : 0 ≤ (nextK f k).1 ∧ (nextK f k).1 ≤ 255 ∧ ((nextK f k).2.2 = true → k ≤ (nextK f k).1) := by
  unfold nextK
  rcases hh : highK f (clampK k) with _ | ⟨x, l⟩
  · exact ⟨by decide, by decide, fun h => by (cases h)⟩
  · have h1 : x ∈ highK f (clampK k) := by rw [hh]; simp
    have h2 := high_ge h1
    have h3 : x.1 < 256 := by
      have := List.mem_of_mem_drop (mem_kidsIn.1 h1).1
      exact List.mem_range.1 this
    exact ⟨by dsimp only; omega, by dsimp only; omega, fun _ => (clampK_iff h3).2 h2⟩
end Go.Proofs.YtgjgcbemgmkncaaGreatDoor
namespace Go.Proofs.YtgjgcbemgmkncaaGreatDoor
open Go.RowKit Go.Shelf
set_option linter.unusedVariables false
set_option linter.unusedSimpArgs false

def refIs (f : Kids) : List Value := (List.range 256).map fun b => .bool (f b).isSome
def refRs (rs : Nat → Int × Int) : List Value := ((List.range 256).map rs).flatMap rrow
def refCells (room : Int) (f : Kids) (rs : Nat → Int × Int) : List Value := .int .i64 room :: (refIs f ++ refRs rs)
theorem refIs_len (f : Kids) : (refIs f).length = 256 := by simp [refIs]
theorem refCells_is (room : Int) (f : Kids) (rs : Nat → Int × Int) {b : Nat} (hb : b < 256) : (refCells room f rs)[1 + b]? = some (.bool (f b).isSome) := by
  unfold refCells
  rw [Nat.add_comm 1 b, List.getElem?_cons_succ, List.getElem?_append_left (by rw [refIs_len]; exact hb)]
  simp [refIs, hb]
theorem refCells_rs (room : Int) (f : Kids) (rs : Nat → Int × Int) {b : Nat} (hb : b < 256) : (refCells room f rs)[257 + b * 2]? = some (.int .i64 (rs b).1) ∧ (refCells room f rs)[257 + b * 2 + 1]? = some (.int .u32 (rs b).2) := by
  obtain ⟨h1, h2⟩ := flatR_at ((List.range 256).map rs) b (rs b) (by simp [hb])
  unfold refCells
  constructor
  · rw [show 257 + b * 2 = (256 + b * 2) + 1 by omega, List.getElem?_cons_succ, List.getElem?_append_right (by rw [refIs_len]; omega), refIs_len, Nat.add_sub_cancel_left]
    exact h1
  · rw [show 257 + b * 2 + 1 = (256 + (b * 2 + 1)) + 1 by omega, List.getElem?_cons_succ, List.getElem?_append_right (by rw [refIs_len]; omega), refIs_len, Nat.add_sub_cancel_left]
    exact h2
theorem refCells_room (room : Int) (f : Kids) (rs : Nat → Int × Int) : (refCells room f rs)[0]? = some (.int .i64 room) := rfl
def setR (rs : Nat → Int × Int) (b : Nat) (r : Int × Int) : Nat → Int × Int := fun x => if x = b then r else rs x
theorem map_set_range {α : Type} (n : Nat) (f : Nat → α) (b : Nat) (v : α) : ((List.range n).map f).set b v = (List.range n).map fun x => if x = b then v else f x := by
  apply List.ext_getElem?
  intro i
  rw [List.getElem?_set]
  by_cases hi : i < n
  · by_cases h : b = i
    · subst h; simp [hi]
    · simp [h, hi, Ne.symm h]
  · by_cases h : b = i
    · subst h; simp [hi]
    · simp [h, hi]
theorem set_is {room : Int} {f f' : Kids} {rs : Nat → Int × Int} {b : Nat} {v : Bool} (hb : b < 256) (h : ∀ x, (f' x).isSome = if x = b then v else (f x).isSome) : (refCells room f rs).set (1 + b) (.bool v) = refCells room f' rs := by
  unfold refCells
  rw [Nat.add_comm 1 b, List.set_cons_succ, List.set_append_left _ _ (by rw [refIs_len]; exact hb)]
  congr 2
  unfold refIs
  rw [map_set_range]
  refine List.map_congr_left fun x _ => ?_
  rw [h x]
  split <;> rfl
theorem flatRset2 : ∀ (l : List (Int × Int)) (b : Nat) (r : Int × Int), ((l.flatMap rrow).set (b * 2) (.int .i64 r.1)).set (b * 2 + 1) (.int .u32 r.2) = (l.set b r).flatMap rrow
  | [], b, r => by simp
  | x :: l, 0, r => by simp [rrow]
  | x :: l, b + 1, r => by
    have ih := flatRset2 l b r
    rw [List.set_cons_succ, List.flatMap_cons, List.flatMap_cons, ← ih, show (b + 1) * 2 = (rrow x).length + b * 2 by simp [rrow]; omega, set_behind, Nat.add_assoc, set_behind]
theorem set_rs {room : Int} {f : Kids} {rs : Nat → Int × Int} {b : Nat} (r : Int × Int) (hb : b < 256) : ((refCells room f rs).set (257 + b * 2) (.int .i64 r.1)).set (257 + b * 2 + 1) (.int .u32 r.2) = refCells room f (setR rs b r) := by
  have h := flatRset2 ((List.range 256).map rs) b r
  rw [map_set_range] at h
  unfold refCells
  rw [show 257 + b * 2 = (256 + b * 2) + 1 by omega, List.set_cons_succ, List.set_cons_succ, show 256 + b * 2 = (refIs f).length + b * 2 by rw [refIs_len], set_behind, Nat.add_assoc, set_behind]
  unfold refRs
  rw [h]
  rfl

theorem low_succ (f : Kids) (k : Nat) : (lowK f (k + 1)).length = (lowK f k).length + (if (f k).isSome = true then 1 else 0) := by
  unfold lowK kidsIn
  rw [List.range_succ, List.filterMap_append, List.length_append]
  cases h : f k <;> simp [h]
theorem low_le (f : Kids) (k : Nat) : (lowK f k).length ≤ k := by
  unfold lowK kidsIn
  exact Nat.le_trans (List.length_filterMap_le _ _) (by simp)
theorem low_all (f : Kids) : (lowK f 256).length = cntK f := rfl
theorem refIs_congr {room : Int} {f f' : Kids} {rs : Nat → Int × Int} (h : ∀ x, x < 256 → (f x).isSome = (f' x).isSome) : refCells room f rs = refCells room f' rs := by
  unfold refCells refIs
  congr 2
  refine List.map_congr_left fun x hx => ?_
  rw [h x (List.mem_range.1 hx)]
theorem setR_law {f : Kids} {rs : Nat → Int × Int} (h : ∀ b r, b < 256 → f b = some r → rs b = r) (b : Nat) (r : Int × Int) : ∀ x q, x < 256 → setK f b (some r) x = some q → setR rs b r x = q := by
  intro x q hx hq
  unfold setK at hq
  unfold setR
  by_cases hxb : x = b
  · rw [if_pos hxb] at hq ⊢; injection hq
  · rw [if_neg hxb] at hq ⊢; exact h x q hx hq
theorem grown_refl (w : World) (g : Nat) : w.grownBy w (some g) := ⟨rfl, rfl, rfl, Nat.le_refl _, fun _ _ _ => rfl⟩
end Go.Proofs.YtgjgcbemgmkncaaGreatDoor
namespace Go.Proofs.YtgjgcbemgmkncaaGreatDoor
open Go.RowKit Go.Shelf
set_option linter.unusedVariables false
set_option linter.unusedSimpArgs false

/-- The position of each byte's Ref, from 1; the Refs; which positions are used. -/
structure ManyO where
  at_ : Nat → Nat
  refs : Nat → Int × Int
  used : Nat → Bool
def mcells (o : ManyO) (gr gu room : Nat) : List Value := (List.range 256).map (fun b => .int .u16 (o.at_ b : Int)) ++ [.slice (some ⟨gr, 0, none⟩) room room, .slice (some ⟨gu, 0, none⟩) room room]
def rcells (o : ManyO) (room : Nat) : List Value := ((List.range room).map o.refs).flatMap rrow
def ucells (o : ManyO) (room : Nat) : List Value := (List.range room).map fun p => .bool (o.used p)
theorem mcells_at (o : ManyO) (gr gu room : Nat) {b : Nat} (hb : b < 256) : (mcells o gr gu room)[b]? = some (.int .u16 (o.at_ b : Int)) := by
  unfold mcells
  rw [List.getElem?_append_left (by simpa using hb)]
  simp [hb]
theorem mcells_sl (o : ManyO) (gr gu room : Nat) : (mcells o gr gu room)[256]? = some (.slice (some ⟨gr, 0, none⟩) room room) ∧ (mcells o gr gu room)[257]? = some (.slice (some ⟨gu, 0, none⟩) room room) := by
  unfold mcells
  constructor
  · rw [List.getElem?_append_right (by simp)]; simp
  · rw [List.getElem?_append_right (by simp)]; simp
theorem rcells_at (o : ManyO) (room : Nat) {p : Nat} (hp : p < room) : (rcells o room)[p * 2]? = some (.int .i64 (o.refs p).1) ∧ (rcells o room)[p * 2 + 1]? = some (.int .u32 (o.refs p).2) :=
  flatR_at ((List.range room).map o.refs) p (o.refs p) (by simp [hp])
theorem ucells_at (o : ManyO) (room : Nat) {p : Nat} (hp : p < room) : (ucells o room)[p]? = some (.bool (o.used p)) := by simp [ucells, hp]
/-- Written. -/
def ManyO.setAt (o : ManyO) (b n : Nat) : ManyO := ⟨fun x => if x = b then n else o.at_ x, o.refs, o.used⟩
def ManyO.setRef (o : ManyO) (p : Nat) (r : Int × Int) : ManyO := ⟨o.at_, setR o.refs p r, o.used⟩
def ManyO.setUsed (o : ManyO) (p : Nat) (v : Bool) : ManyO := ⟨o.at_, o.refs, fun x => if x = p then v else o.used x⟩
theorem mcells_set (o : ManyO) (gr gu room : Nat) {b : Nat} (n : Nat) (hb : b < 256) : (mcells o gr gu room).set b (.int .u16 (n : Int)) = mcells (o.setAt b n) gr gu room := by
  unfold mcells
  rw [List.set_append_left _ _ (by simpa using hb), map_set_range]
  congr 1
  refine List.map_congr_left fun x _ => ?_
  dsimp only [ManyO.setAt]
  split <;> rfl
theorem ucells_set (o : ManyO) (room : Nat) (p : Nat) (v : Bool) : (ucells o room).set p (.bool v) = ucells (o.setUsed p v) room := by
  unfold ucells
  rw [map_set_range]
  refine List.map_congr_left fun x _ => ?_
  dsimp only [ManyO.setUsed]
  split <;> rfl
theorem rcells_set (o : ManyO) (room : Nat) (p : Nat) (r : Int × Int) (hp : p < room) : ((rcells o room).set (p * 2) (.int .i64 r.1)).set (p * 2 + 1) (.int .u32 r.2) = rcells (o.setRef p r) room := by
  have h := flatRset2 ((List.range room).map o.refs) p r
  rw [map_set_range] at h
  unfold rcells
  exact h

/-- The row's kids are those of f. -/
structure ManyO.rep (o : ManyO) (room : Nat) (f : Kids) : Prop where
  some_ : ∀ b r, b < 256 → f b = some r → ∃ p, p < room ∧ o.at_ b = p + 1 ∧ o.used p = true ∧ o.refs p = r
  none_ : ∀ b, b < 256 → f b = none → o.at_ b = 0
  inj : ∀ b b', b < 256 → b' < 256 → o.at_ b = o.at_ b' → o.at_ b ≠ 0 → b = b'
  onto : ∀ p, p < room → o.used p = true → ∃ b, b < 256 ∧ o.at_ b = p + 1
theorem ManyO.rep.has {o : ManyO} {room : Nat} {f : Kids} (h : o.rep room f) {b : Nat} (hb : b < 256) : decide (0 < o.at_ b) = (f b).isSome := by
  cases hf : f b with
  | none => rw [h.none_ b hb hf]; rfl
  | some r =>
    obtain ⟨p, _, h2, _⟩ := h.some_ b r hb hf
    rw [h2]; simp
/-- The first free position. -/
def ManyO.free (o : ManyO) (room : Nat) : Nat := (List.range room).findIdx (fun p => !(o.used p))
theorem ManyO.free_le (o : ManyO) (room : Nat) : o.free room ≤ room := by
  have := List.findIdx_le_length (xs := List.range room) (p := fun p => !(o.used p))
  simpa [ManyO.free] using this
theorem ManyO.free_spec (o : ManyO) (room : Nat) (h : o.free room < room) : o.used (o.free room) = false := by
  have := List.findIdx_getElem (xs := List.range room) (p := fun p => !(o.used p)) (w := by simpa [ManyO.free] using h)
  simpa [ManyO.free] using this
theorem ManyO.free_all (o : ManyO) (room : Nat) (h : o.free room = room) : ∀ p, p < room → o.used p = true := by
  intro p hp
  have := List.not_of_lt_findIdx (xs := List.range room) (p := fun p => !(o.used p)) (i := p) (by unfold ManyO.free at h; omega)
  simpa using this
/-- lay, lift. -/
theorem rep_lay {o : ManyO} {room : Nat} {f : Kids} (h : o.rep room f) {b p : Nat} (hb : b < 256) (hf : f b = none) (hp : p < room) (hu : o.used p = false) (r : Int × Int) : (((o.setUsed p true).setRef p r).setAt b (p + 1)).rep room (setK f b (some r)) := by
  have hfree : ∀ x, x < 256 → o.at_ x ≠ p + 1 := by
    intro x hx e
    cases hfx : f x with
    | none => have := h.none_ x hx hfx; omega
    | some q =>
      obtain ⟨p', _, h2, h3, _⟩ := h.some_ x q hx hfx
      have : p' = p := by omega
      subst this; rw [hu] at h3; cases h3
  refine ⟨?_, ?_, ?_, ?_⟩
  · intro x q hx hq
    dsimp only [ManyO.setAt, ManyO.setRef, ManyO.setUsed, setR, setK] at hq ⊢
    by_cases hxb : x = b
    · rw [if_pos hxb] at hq ⊢
      exact ⟨p, hp, rfl, by simp, by simp; injection hq⟩
    · rw [if_neg hxb] at hq ⊢
      obtain ⟨p', h1, h2, h3, h4⟩ := h.some_ x q hx hq
      have hne : p' ≠ p := fun e => by subst e; rw [hu] at h3; cases h3
      exact ⟨p', h1, h2, by rw [if_neg hne]; exact h3, by rw [if_neg hne]; exact h4⟩
  · intro x hx hq
    dsimp only [ManyO.setAt, ManyO.setRef, ManyO.setUsed, setK] at hq ⊢
    by_cases hxb : x = b
    · rw [if_pos hxb] at hq; cases hq
    · rw [if_neg hxb] at hq ⊢; exact h.none_ x hx hq
  · intro x y hx hy e hne
    dsimp only [ManyO.setAt, ManyO.setRef, ManyO.setUsed] at e hne
    by_cases hxb : x = b <;> by_cases hyb : y = b
    · rw [hxb, hyb]
    · rw [if_pos hxb, if_neg hyb] at e; exact absurd e.symm (hfree y hy)
    · rw [if_neg hxb, if_pos hyb] at e; exact absurd e (hfree x hx)
    · rw [if_neg hxb, if_neg hyb] at e; rw [if_neg hxb] at hne; exact h.inj x y hx hy e hne
  · intro q hq hqu
    dsimp only [ManyO.setAt, ManyO.setRef, ManyO.setUsed] at hqu ⊢
    by_cases hqp : q = p
    · exact ⟨b, hb, by rw [if_pos rfl, hqp]⟩
    · rw [if_neg hqp] at hqu
      obtain ⟨x, hx, hx2⟩ := h.onto q hq hqu
      refine ⟨x, hx, ?_⟩
      rw [if_neg (fun e => by subst e; have := h.none_ x hx hf; omega)]
      exact hx2
theorem rep_lift {o : ManyO} {room : Nat} {f : Kids} (h : o.rep room f) {b p : Nat} (hb : b < 256) (hp : p < room) (hat : o.at_ b = p + 1) : (((o.setUsed p false).setRef p (0, 0)).setAt b 0).rep room (setK f b none) := by
  have hoth : ∀ x, x < 256 → x ≠ b → o.at_ x ≠ p + 1 := fun x hx hne e => hne (h.inj x b hx hb (by rw [e, hat]) (by omega))
  refine ⟨?_, ?_, ?_, ?_⟩
  · intro x q hx hq
    dsimp only [ManyO.setAt, ManyO.setRef, ManyO.setUsed, setR, setK] at hq ⊢
    by_cases hxb : x = b
    · rw [if_pos hxb] at hq; cases hq
    · rw [if_neg hxb] at hq ⊢
      obtain ⟨p', h1, h2, h3, h4⟩ := h.some_ x q hx hq
      have hne : p' ≠ p := fun e => hoth x hx hxb (by rw [h2, e])
      exact ⟨p', h1, h2, by rw [if_neg hne]; exact h3, by rw [if_neg hne]; exact h4⟩
  · intro x hx hq
    dsimp only [ManyO.setAt, ManyO.setRef, ManyO.setUsed, setK] at hq ⊢
    by_cases hxb : x = b
    · rw [if_pos hxb]
    · rw [if_neg hxb] at hq ⊢; exact h.none_ x hx hq
  · intro x y hx hy e hne
    dsimp only [ManyO.setAt, ManyO.setRef, ManyO.setUsed] at e hne
    by_cases hxb : x = b
    · rw [if_pos hxb] at hne; exact absurd rfl hne
    · rw [if_neg hxb] at e hne
      by_cases hyb : y = b
      · rw [if_pos hyb] at e; exact absurd e hne
      · rw [if_neg hyb] at e; exact h.inj x y hx hy e hne
  · intro q hq hqu
    dsimp only [ManyO.setAt, ManyO.setRef, ManyO.setUsed] at hqu ⊢
    by_cases hqp : q = p
    · rw [if_pos hqp] at hqu; cases hqu
    · rw [if_neg hqp] at hqu
      obtain ⟨x, hx, hx2⟩ := h.onto q hq hqu
      refine ⟨x, hx, ?_⟩
      rw [if_neg (fun e => by subst e; omega)]
      exact hx2
theorem rep_turn {o : ManyO} {room : Nat} {f : Kids} (h : o.rep room f) {b p : Nat} (hb : b < 256) (hp : p < room) (hat : o.at_ b = p + 1) (hu : o.used p = true) (r : Int × Int) : (o.setRef p r).rep room (setK f b (some r)) := by
  have hoth : ∀ x, x < 256 → x ≠ b → o.at_ x ≠ p + 1 := fun x hx hne e => hne (h.inj x b hx hb (by rw [e, hat]) (by omega))
  refine ⟨?_, ?_, h.inj, h.onto⟩
  · intro x q hx hq
    dsimp only [ManyO.setRef, setR, setK] at hq ⊢
    by_cases hxb : x = b
    · rw [if_pos hxb] at hq
      exact ⟨p, hp, by rw [hxb, hat], hu, by simp; injection hq⟩
    · rw [if_neg hxb] at hq
      obtain ⟨p', h1, h2, h3, h4⟩ := h.some_ x q hx hq
      have hne : p' ≠ p := fun e => hoth x hx hxb (by rw [h2, e])
      exact ⟨p', h1, h2, h3, by rw [if_neg hne]; exact h4⟩
  · intro x hx hq
    dsimp only [ManyO.setRef, setK] at hq ⊢
    by_cases hxb : x = b
    · rw [if_pos hxb] at hq; cases hq
    · rw [if_neg hxb] at hq; exact h.none_ x hx hq
theorem rep_new (room : Nat) : ManyO.rep ⟨fun _ => 0, fun _ => (0, 0), fun _ => false⟩ room noKids :=
  ⟨fun b r _ h => by (cases h), fun _ _ _ => rfl, fun _ _ _ _ _ h => absurd rfl h, fun _ _ h => by (cases h)⟩
end Go.Proofs.YtgjgcbemgmkncaaGreatDoor
namespace Go.Proofs.YtgjgcbemgmkncaaGreatDoor
open Go.RowKit Go.Shelf
set_option linter.unusedVariables false
set_option linter.unusedSimpArgs false

/-- The row in its three blocks. -/
def MBlk (W : World) (g gr gu room : Nat) (o : ManyO) : Prop := Blk W g 113 (mcells o gr gu room).toArray ∧ Blk W gr 29 (rcells o room).toArray ∧ Blk W gu 4 (ucells o room).toArray
theorem MBlk.below {W W' : World} {g gr gu room : Nat} {o : ManyO} (h : MBlk W g gr gu room o) (hb : Below W.heap.size W W') : MBlk W' g gr gu room o := ⟨h.1.below hb h.1.lt, h.2.1.below hb h.2.1.lt, h.2.2.below hb h.2.2.lt⟩
theorem MBlk.drew {W : World} {g gr gu room : Nat} {o : ManyO} (h : MBlk W g gr gu room o) : MBlk W.drew g gr gu room o := ⟨h.1.drew, h.2.1.drew, h.2.2.drew⟩
theorem MBlk.drewN {W : World} {g gr gu room : Nat} {o : ManyO} (h : MBlk W g gr gu room o) (k : Nat) : MBlk (W.drewN k) g gr gu room o := ⟨h.1.drewN k, h.2.1.drewN k, h.2.2.drewN k⟩
theorem MBlk.alloc {W : World} {g gr gu room : Nat} {o : ManyO} (h : MBlk W g gr gu room o) (x : Obj) : MBlk (W.alloc x) g gr gu room o := ⟨h.1.alloc x, h.2.1.alloc x, h.2.2.alloc x⟩
theorem MBlk.at_ {W : World} {g gr gu room : Nat} {o : ManyO} (h : MBlk W g gr gu room o) {b : Nat} (hb : b < 256) : W.cell? ⟨g, b, none⟩ = some (.int .u16 (o.at_ b : Int)) := (h.1.cell b).trans (by rw [List.getElem?_toArray]; exact mcells_at o gr gu room hb)
theorem MBlk.sl {W : World} {g gr gu room : Nat} {o : ManyO} (h : MBlk W g gr gu room o) : W.cell? ⟨g, 256, none⟩ = some (.slice (some ⟨gr, 0, none⟩) room room) ∧ W.cell? ⟨g, 257, none⟩ = some (.slice (some ⟨gu, 0, none⟩) room room) :=
  ⟨(h.1.cell 256).trans (by rw [List.getElem?_toArray]; exact (mcells_sl o gr gu room).1), (h.1.cell 257).trans (by rw [List.getElem?_toArray]; exact (mcells_sl o gr gu room).2)⟩
theorem MBlk.ref {W : World} {g gr gu room : Nat} {o : ManyO} (h : MBlk W g gr gu room o) {p : Nat} (hp : p < room) : W.cell? ⟨gr, p * 2, none⟩ = some (.int .i64 (o.refs p).1) ∧ W.cell? ⟨gr, p * 2 + 1, none⟩ = some (.int .u32 (o.refs p).2) :=
  ⟨(h.2.1.cell _).trans (by rw [List.getElem?_toArray]; exact (rcells_at o room hp).1), (h.2.1.cell _).trans (by rw [List.getElem?_toArray]; exact (rcells_at o room hp).2)⟩
theorem MBlk.us {W : World} {g gr gu room : Nat} {o : ManyO} (h : MBlk W g gr gu room o) {p : Nat} (hp : p < room) : W.cell? ⟨gu, p, none⟩ = some (.bool (o.used p)) := (h.2.2.cell _).trans (by rw [List.getElem?_toArray]; exact ucells_at o room hp)

theorem mthere (g gr gu room : Nat) (o : ManyO) (w : World) (h : MBlk w g gr gu room o) (hr : 0 < room) : Calls Tryz.prog 136 #[.pointer (some ⟨g, 0, none⟩)] w (StayEnd (.bool true) w) := by
  obtain ⟨c1, c2⟩ := h.sl
  have i1 : (0 : Int) < (room : Int) := by omega
  go_enter Tryz.func136, Tryz.ntmps136
  go_wp2
  go_ret
  exact ⟨rfl, rfl⟩
theorem mhas (g gr gu room : Nat) (o : ManyO) (b : Nat) (w : World) (h : MBlk w g gr gu room o) (hb : b < 256) : Calls Tryz.prog 134 #[.pointer (some ⟨g, 0, none⟩), .int .i64 (b : Int)] w (StayEnd (.bool (decide (0 < o.at_ b))) w) := by
  have c1 := h.at_ hb
  have i1 : (0 : Int) ≤ (b : Int) := by omega
  have i2 : (b : Int) < 256 := by omega
  generalize o.at_ b = n at c1
  clear h
  by_cases hn : 0 < n
  · have i3 : (0 : Int) < (n : Int) := by omega
    go_enter Tryz.func134, Tryz.ntmps134
    go_wp2
    go_ret
    exact ⟨by simp [hn], rfl⟩
  · have i3 : ¬ ((0 : Int) < (n : Int)) := by omega
    go_enter Tryz.func134, Tryz.ntmps134
    go_wp2
    go_ret
    exact ⟨by simp [hn], rfl⟩
theorem mref (g gr gu room : Nat) (o : ManyO) (b p : Nat) (w : World) (h : MBlk w g gr gu room o) (hb : b < 256) (hp : p < room) (hroom : room ≤ 256) (hat : o.at_ b = p + 1) : Calls Tryz.prog 135 #[.pointer (some ⟨g, 0, none⟩), .int .i64 (b : Int)] w (fun e w' => e = .returned (.pointer (some ⟨gr, p * 2, none⟩)) ∧ ∃ k, w' = w.drewN k) := by
  have c1 := h.at_ hb
  rw [hat] at c1
  have c1' : w.cell? ⟨g, b, none⟩ = some (.int .u16 ((p : Int) + 1)) := by rw [c1]; simp
  obtain ⟨c2, c3⟩ := h.sl
  have i1 : (0 : Int) ≤ (b : Int) := by omega
  have i2 : (b : Int) < 256 := by omega
  have i3 : (0 : Int) ≤ (p : Int) := by omega
  have i4 : (p : Int) < (room : Int) := by omega
  have i5 : (p : Int) + 1 - 1 = (p : Int) := by omega
  have sw : IntKind.u16.wrap ((p : Int) + 1 - 1) = (p : Int) := by rw [i5]; exact IntWalk.u16_in _ (by omega)
  have sw2 : IntKind.u16.wrap (p : Int) = (p : Int) := IntWalk.u16_in _ (by omega)
  clear h c1 hat c3
  go_enter Tryz.func135, Tryz.ntmps135
  go_wp2_with fail
  go_quiet (fail)
  go_wp2
  go_ret
  exact ⟨rfl, _, rfl⟩
/-- slices.Index's number. -/
def ManyO.ix (o : ManyO) (room : Nat) : Int := if o.free room < room then (o.free room : Int) else -1
set_option maxRecDepth 100000 in
theorem sindex (gu room : Nat) (o : ManyO) (w : World) (h : ∀ p, p < room → w.cell? ⟨gu, p, none⟩ = some (.bool (o.used p))) (hroom : room ≤ 256) : Calls Tryz.prog 142 #[.slice (some ⟨gu, 0, none⟩) room room, .bool false] w (StayEnd (.int .i64 (o.ix room)) w) := by
  have H := Lib.hid h
  have HS := Lib.hid (fun (k : Nat) (hk : k ≤ o.free room) (hlt : k < room) => idx_step (p := fun p => !(o.used p)) (l := List.range room) (k := k) (x := k) hk (by simp [hlt]))
  have HL := Lib.hid (o.free_le room)
  clear h
  go_enter Tryz.func142, Tryz.ntmps142
  go_wp2_with fail
  go_loop [8] (fun i => ∃ k : Nat, k ≤ room ∧ i = .int .i64 k ∧ k ≤ o.free room) (fun i => room - (intOf i).toNat)
  case atStart => exact ⟨0, by omega, rfl, by omega⟩
  case round =>
    obtain ⟨k, hk, rfl, hkf⟩ := hrel
    by_cases hlt : k < room
    · have c1 := H.out k hlt
      obtain ⟨s1, s2⟩ := HS.out k hkf hlt
      have i1 : (0 : Int) ≤ (k : Int) := by omega
      have i2 : (k : Int) < (room : Int) := by omega
      cases hu : o.used k with
      | false =>
        rw [hu] at c1
        have hfr : o.free room = k := s1 (by rw [hu]; rfl)
        have HE := Lib.hid (show o.ix room = (k : Int) by unfold ManyO.ix; rw [hfr, if_pos hlt])
        clear s1 s2 hfr
        go_wp2_with fail
        go_ret
        exact ⟨ret_int HE.out.symm, rfl⟩
      | true =>
        rw [hu] at c1
        have hn := s2 (by rw [hu]; rfl)
        clear s1 s2
        go_wp2_with fail
        go_round
        case rel => exact ⟨k + 1, by omega, by go_num, hn⟩
        case measure => simp [intOf]; omega
    · obtain rfl : k = room := by omega
      have i2 : ¬ ((k : Int) < (k : Int)) := by omega
      have HE := Lib.hid (show o.ix k = -1 by unfold ManyO.ix; rw [if_neg (by omega)])
      go_wp2_with fail
      go_ret
      exact ⟨ret_int HE.out.symm, rfl⟩
end Go.Proofs.YtgjgcbemgmkncaaGreatDoor
namespace Go.Proofs.YtgjgcbemgmkncaaGreatDoor
open Go.RowKit Go.Shelf
set_option linter.unusedVariables false
set_option linter.unusedSimpArgs false

/-- Nothing old is changed but the blocks a, b and c. -/
structure Three (a b c : Nat) (w w' : World) : Prop where
  os : w'.os = w.os
  tape : w'.tape = w.tape
  output : w'.output = w.output
  size : w.heap.size ≤ w'.heap.size
  block : ∀ k, k < w.heap.size → k ≠ a → k ≠ b → k ≠ c → w'.heap[k]? = w.heap[k]?
theorem Three.below {a b c : Nat} {w w' : World} (h : Below w.heap.size w w') : Three a b c w w' := ⟨h.os, h.tape, h.output, h.size, fun k hk _ _ _ => h.block k hk⟩
theorem Three.refl (a b c : Nat) (w : World) : Three a b c w w := ⟨rfl, rfl, rfl, Nat.le_refl _, fun _ _ _ _ _ => rfl⟩
theorem Three.alloc {a b c : Nat} {w w1 : World} (h : Three a b c w w1) (o : Obj) : Three a b c w (w1.alloc o) := ⟨h.os, h.tape, h.output, by have := h.size; simp; omega, fun k hk h1 h2 h3 => (Below.heap_alloc w1 o k (Nat.lt_of_lt_of_le hk h.size)).trans (h.block k hk h1 h2 h3)⟩
theorem Three.drew {a b c : Nat} {w w1 : World} (h : Three a b c w w1) : Three a b c w w1.drew := ⟨h.os, h.tape, h.output, h.size, h.block⟩
theorem Three.setCell {a b c : Nat} {w w1 : World} (h : Three a b c w w1) (p : Addr) (u : Value) (hp : p.block = a ∨ p.block = b ∨ p.block = c ∨ w.heap.size ≤ p.block) : Three a b c w (w1.setCell p u) :=
  ⟨h.os, h.tape, h.output, by simpa [World.setCell] using h.size, fun k hk h1 h2 h3 => (Below.heap_setCell w1 p u k (by rintro rfl; rcases hp with e | e | e | e <;> omega)).trans (h.block k hk h1 h2 h3)⟩
theorem Three.trans {a b c : Nat} {w w1 w2 : World} (h : Three a b c w w1) (k : Three a b c w1 w2) : Three a b c w w2 :=
  ⟨k.os.trans h.os, k.tape.trans h.tape, k.output.trans h.output, Nat.le_trans h.size k.size, fun i hi h1 h2 h3 => (k.block i (Nat.lt_of_lt_of_le hi h.size) h1 h2 h3).trans (h.block i hi h1 h2 h3)⟩
/-- The three stores of lay and lift. -/
theorem MBlk.wrote {w : World} {g gr gu room : Nat} {o : ManyO} (h : MBlk w g gr gu room o) {b p n : Nat} (v : Bool) (r : Int × Int) (hb : b < 256) (hp : p < room) :
    MBlk ((((w.setCell ⟨gu, p, none⟩ (.bool v)).setCell ⟨gr, p * 2, none⟩ (.int .i64 r.1)).setCell ⟨gr, p * 2 + 1, none⟩ (.int .u32 r.2)).setCell ⟨g, b, none⟩ (.int .u16 (n : Int))) g gr gu room (((o.setUsed p v).setRef p r).setAt b n) := by
  obtain ⟨h1, h2, h3⟩ := h
  have n1 : g ≠ gr := blk_neF h1 h2 (by decide)
  have n2 : g ≠ gu := blk_neF h1 h3 (by decide)
  have n3 : gr ≠ gu := blk_neF h2 h3 (by decide)
  refine ⟨?_, ?_, ?_⟩
  · have k := (((h1.far (p := ⟨gu, p, none⟩) n2 (.bool v)).far (p := ⟨gr, p * 2, none⟩) n1 (.int .i64 r.1)).far (p := ⟨gr, p * 2 + 1, none⟩) n1 (.int .u32 r.2)).set_ b (.int .u16 (n : Int))
    rw [List.setIfInBounds_toArray, mcells_set o gr gu room n hb] at k
    exact k
  · have k := (((h2.far (p := ⟨gu, p, none⟩) n3 (.bool v)).set_ (p * 2) (.int .i64 r.1)).set_ (p * 2 + 1) (.int .u32 r.2)).far (p := ⟨g, b, none⟩) (Ne.symm n1) (.int .u16 (n : Int))
    rw [List.setIfInBounds_toArray, List.setIfInBounds_toArray, rcells_set o room p r hp] at k
    exact k
  · have k := (((h3.set_ p (.bool v)).far (p := ⟨gr, p * 2, none⟩) (Ne.symm n3) (.int .i64 r.1)).far (p := ⟨gr, p * 2 + 1, none⟩) (Ne.symm n3) (.int .u32 r.2)).far (p := ⟨g, b, none⟩) (Ne.symm n2) (.int .u16 (n : Int))
    rw [List.setIfInBounds_toArray, ucells_set] at k
    exact k
def MEnd (v : Value) (g gr gu room : Nat) (o : ManyO) (w : World) (e : Ending) (w' : World) : Prop := e = .returned v ∧ MBlk w' g gr gu room o ∧ Three g gr gu w w'
set_option maxHeartbeats 3200000 in
set_option maxRecDepth 100000 in
theorem mlay_yes (g gr gu room : Nat) (o : ManyO) (b : Nat) (r : Int × Int) (w : World) (h : MBlk w g gr gu room o) (hb : b < 256) (hroom : room ≤ 256) (hfree : o.free room < room) :
    Calls Tryz.prog 137 #[.pointer (some ⟨g, 0, none⟩), .int .i64 (b : Int), refV r] w (MEnd (.bool true) g gr gu room (((o.setUsed (o.free room) true).setRef (o.free room) r).setAt b (o.free room + 1)) w) := by
  have hI := fun V (hV : MBlk V g gr gu room o) => sindex gu room o V (fun p hp => hV.us hp) hroom
  have hix : o.ix room = (o.free room : Int) := by unfold ManyO.ix; rw [if_pos hfree]
  rw [hix] at hI
  have HW := Lib.hid (h.wrote (n := o.free room + 1) true r hb hfree)
  have hat := h.at_ hb
  obtain ⟨c1, c2⟩ := h.sl
  obtain ⟨c3, c4⟩ := h.ref hfree
  have c5 := h.us hfree
  have l1 := h.1.lt
  have l2 := h.2.1.lt
  have l3 := h.2.2.lt
  have f1 := h.1.frozen b
  have f2 := h.2.1.frozen (o.free room * 2)
  have f3 := h.2.1.frozen (o.free room * 2 + 1)
  have f4 := h.2.2.frozen (o.free room)
  have n1 : g ≠ gr := blk_neF h.1 h.2.1 (by decide)
  have n2 : g ≠ gu := blk_neF h.1 h.2.2 (by decide)
  have n3 : gr ≠ gu := blk_neF h.2.1 h.2.2 (by decide)
  have HI := Lib.hid (hI (w.alloc (.cells #[.int .i64 r.1, .int .u32 r.2] 29)) (h.alloc _))
  clear hI hix
  generalize o.free room = p at *
  have i1 : (0 : Int) ≤ (b : Int) := by omega
  have i2 : (b : Int) < 256 := by omega
  have i3 : (0 : Int) ≤ (p : Int) := by omega
  have i4 : (p : Int) < (room : Int) := by omega
  have i5 : ¬ ((p : Int) < 0) := by omega
  have s1 : IntKind.i64.wrap ((p : Int) + 1) = (p : Int) + 1 := IntWalk.i64_in _ (by omega)
  have s2 : IntKind.u16.wrap ((p : Int) + 1) = (p : Int) + 1 := IntWalk.u16_in _ (by omega)
  have H := Lib.hid h
  clear h
  go_enter Tryz.func137, Tryz.ntmps137
  go_wp2_with fail
  refine HI.out.mono ?_
  rintro e w1 ⟨rfl, rfl⟩
  clear HI
  go_wp2_with fail
  go_region
  all_goals
    go_wp2
    go_ret
    exact ⟨rfl, (HW.out.alloc _).drew, ((((((Three.refl g gr gu w).setCell ⟨gu, p, none⟩ _ (.inr (.inr (.inl rfl)))).setCell ⟨gr, p * 2, none⟩ _ (.inr (.inl rfl))).setCell ⟨gr, p * 2 + 1, none⟩ _ (.inr (.inl rfl))).setCell ⟨g, b, none⟩ _ (.inl rfl)).alloc _).drew⟩
set_option maxRecDepth 100000 in
theorem mlay_no (g gr gu room : Nat) (o : ManyO) (b : Nat) (r : Int × Int) (w : World) (h : MBlk w g gr gu room o) (hroom : room ≤ 256) (hfree : ¬ o.free room < room) :
    Calls Tryz.prog 137 #[.pointer (some ⟨g, 0, none⟩), .int .i64 (b : Int), refV r] w (MEnd (.bool false) g gr gu room o w) := by
  have hI := fun V (hV : MBlk V g gr gu room o) => sindex gu room o V (fun p hp => hV.us hp) hroom
  have hix : o.ix room = -1 := by unfold ManyO.ix; rw [if_neg hfree]
  rw [hix] at hI
  obtain ⟨c1, c2⟩ := h.sl
  have l1 := h.1.lt
  have HI := Lib.hid (hI (w.alloc (.cells #[.int .i64 r.1, .int .u32 r.2] 29)) (h.alloc _))
  have H := Lib.hid h
  clear hI hix h hfree
  go_enter Tryz.func137, Tryz.ntmps137
  go_wp2_with fail
  refine HI.out.mono ?_
  rintro e w1 ⟨rfl, rfl⟩
  clear HI
  go_wp2
  go_ret
  exact ⟨rfl, H.out.alloc _, (Three.refl g gr gu w).alloc _⟩
set_option maxHeartbeats 3200000 in
set_option maxRecDepth 100000 in
theorem mlift (g gr gu room : Nat) (o : ManyO) (b p : Nat) (w : World) (h : MBlk w g gr gu room o) (hb : b < 256) (hroom : room ≤ 256) (hp : p < room) (hat : o.at_ b = p + 1) :
    Calls Tryz.prog 138 #[.pointer (some ⟨g, 0, none⟩), .int .i64 (b : Int)] w (MEnd (refV (o.refs p)) g gr gu room (((o.setUsed p false).setRef p (0, 0)).setAt b 0) w) := by
  have c0 := h.at_ hb
  rw [hat] at c0
  have c0' : w.cell? ⟨g, b, none⟩ = some (.int .u16 ((p : Int) + 1)) := by rw [c0]; simp
  obtain ⟨c1, c2⟩ := h.sl
  obtain ⟨c3, c4⟩ := h.ref hp
  have c5 := h.us hp
  have l1 := h.1.lt
  have l2 := h.2.1.lt
  have l3 := h.2.2.lt
  have f1 := h.1.frozen b
  have f2 := h.2.1.frozen (p * 2)
  have f3 := h.2.1.frozen (p * 2 + 1)
  have f4 := h.2.2.frozen p
  have n1 : g ≠ gr := blk_neF h.1 h.2.1 (by decide)
  have n2 : g ≠ gu := blk_neF h.1 h.2.2 (by decide)
  have n3 : gr ≠ gu := blk_neF h.2.1 h.2.2 (by decide)
  have i1 : (0 : Int) ≤ (b : Int) := by omega
  have i2 : (b : Int) < 256 := by omega
  have i3 : (0 : Int) ≤ (p : Int) := by omega
  have i4 : (p : Int) < (room : Int) := by omega
  have i5 : (p : Int) + 1 - 1 = (p : Int) := by omega
  have sw : IntKind.u16.wrap ((p : Int) + 1 - 1) = (p : Int) := by rw [i5]; exact IntWalk.u16_in _ (by omega)
  have sw2 : IntKind.u16.wrap (p : Int) = (p : Int) := IntWalk.u16_in _ (by omega)
  have HW := Lib.hid (h.wrote (n := 0) false (0, 0) hb hp)
  clear h c0 hat
  generalize hq : o.refs p = q at *
  go_enter Tryz.func138, Tryz.ntmps138
  go_wp2_with fail
  go_region
  all_goals
    go_wp2_with fail
    refine bodyPost_ret (v := refV q) (by simp [results, Tryz.results138, go_sem, *]) rfl ⟨rfl, ((HW.out.alloc _).alloc _).drew, (((((((Three.refl g gr gu w).setCell ⟨gu, p, none⟩ _ (.inr (.inr (.inl rfl)))).setCell ⟨gr, p * 2, none⟩ _ (.inr (.inl rfl))).setCell ⟨gr, p * 2 + 1, none⟩ _ (.inr (.inl rfl))).setCell ⟨g, b, none⟩ _ (.inl rfl)).alloc _).alloc _).drew⟩
end Go.Proofs.YtgjgcbemgmkncaaGreatDoor
namespace Go.Proofs.YtgjgcbemgmkncaaGreatDoor
open Go.RowKit Go.Shelf
set_option linter.unusedVariables false
set_option linter.unusedSimpArgs false

/-- As many positions are used as there are kids. -/
theorem nodup_len {α : Type} [DecidableEq α] : ∀ {l m : List α}, l.Nodup → (∀ x ∈ l, x ∈ m) → l.length ≤ m.length
  | [], m, _, _ => Nat.zero_le _
  | x :: l, m, h, hs => by
    have hx : x ∈ m := hs x (by simp)
    obtain ⟨h1, h2⟩ := List.nodup_cons.1 h
    have := nodup_len (l := l) (m := m.erase x) h2 (fun y hy => (List.mem_erase_of_ne (show y ≠ x from fun e => h1 (by rw [← e]; exact hy))).2 (hs y (by simp [hy])))
    rw [List.length_erase_of_mem hx] at this
    have hpos : 0 < m.length := List.length_pos_of_mem hx
    simp only [List.length_cons]
    omega
def kidBytes (f : Kids) : List Nat := (List.range 256).filter fun b => (f b).isSome
theorem kidBytes_len (f : Kids) : (kidBytes f).length = cntK f := by
  unfold kidBytes cntK kidsOf kidsIn
  have : ∀ l : List Nat, (l.filter fun b => (f b).isSome).length = (l.filterMap fun b => (f b).map fun r => (b, r)).length := by
    intro l
    induction l with
    | nil => rfl
    | cons x l ih =>
      rw [List.filter_cons, List.filterMap_cons]
      cases h : f x <;> simp [h, ih]
  exact this _
theorem rep_used {o : ManyO} {room : Nat} {f : Kids} (h : o.rep room f) : (((List.range room).filter o.used).length = cntK f) := by
  have hat : ∀ b, b ∈ kidBytes f → ∃ p, p < room ∧ o.at_ b = p + 1 ∧ o.used p = true := by
    intro b hb
    obtain ⟨h1, h2⟩ := List.mem_filter.1 hb
    obtain ⟨r, hr⟩ := Option.isSome_iff_exists.1 h2
    obtain ⟨p, k1, k2, k3, _⟩ := h.some_ b r (List.mem_range.1 h1) hr
    exact ⟨p, k1, k2, k3⟩
  have hle1 : ((kidBytes f).map (fun b => o.at_ b - 1)).length ≤ ((List.range room).filter o.used).length := by
    refine nodup_len ?_ ?_
    · unfold kidBytes
      rw [List.Nodup, List.pairwise_map]
      refine (List.Pairwise.filter _ (List.nodup_range (n := 256))).imp_of_mem ?_
      intro a b ha hb hne e
      obtain ⟨p, k1, k2, _⟩ := hat a ha
      obtain ⟨q, m1, m2, _⟩ := hat b hb
      exact hne (h.inj a b (List.mem_range.1 (List.mem_filter.1 ha).1) (List.mem_range.1 (List.mem_filter.1 hb).1) (by omega) (by omega))
    · intro x hx
      obtain ⟨b, hb, rfl⟩ := List.mem_map.1 hx
      obtain ⟨p, k1, k2, k3⟩ := hat b hb
      rw [k2]
      exact List.mem_filter.2 ⟨List.mem_range.2 (by omega), by simpa using k3⟩
  have hle2 : (((List.range room).filter o.used).map (fun p => ((List.range 256).filter fun b => o.at_ b == p + 1).headD 0)).length ≤ (kidBytes f).length := by
    have hfind : ∀ p, p ∈ (List.range room).filter o.used → ∃ b, b ∈ kidBytes f ∧ ((List.range 256).filter fun b => o.at_ b == p + 1).headD 0 = b ∧ o.at_ b = p + 1 := by
      intro p hp
      obtain ⟨k1, k2⟩ := List.mem_filter.1 hp
      obtain ⟨b, hb, hb2⟩ := h.onto p (List.mem_range.1 k1) k2
      have hm : b ∈ (List.range 256).filter fun b => o.at_ b == p + 1 := List.mem_filter.2 ⟨List.mem_range.2 hb, by simp [hb2]⟩
      cases hl : (List.range 256).filter fun b => o.at_ b == p + 1 with
      | nil => rw [hl] at hm; cases hm
      | cons c l =>
        have hc : c ∈ (List.range 256).filter fun b => o.at_ b == p + 1 := by rw [hl]; simp
        obtain ⟨m1, m2⟩ := List.mem_filter.1 hc
        have m3 : o.at_ c = p + 1 := by simpa using m2
        refine ⟨c, List.mem_filter.2 ⟨m1, ?_⟩, rfl, m3⟩
        cases hfc : f c with
        | none => have := h.none_ c (List.mem_range.1 m1) hfc; omega
        | some r => rfl
    refine nodup_len ?_ ?_
    · rw [List.Nodup, List.pairwise_map]
      refine (List.Pairwise.filter _ (List.nodup_range (n := room))).imp_of_mem ?_
      intro a b ha hb hne e
      obtain ⟨x, _, x2, x3⟩ := hfind a ha
      obtain ⟨y, _, y2, y3⟩ := hfind b hb
      rw [x2, y2] at e
      subst e
      omega
    · intro x hx
      obtain ⟨p, hp, rfl⟩ := List.mem_map.1 hx
      obtain ⟨b, hb, hb2, _⟩ := hfind p hp
      rw [hb2]; exact hb
  rw [List.length_map] at hle1 hle2
  rw [← kidBytes_len f]
  omega
theorem rep_full {o : ManyO} {room : Nat} {f : Kids} (h : o.rep room f) : o.free room < room ↔ cntK f ≠ room := by
  rw [← rep_used h]
  have hle := o.free_le room
  constructor
  · intro hlt e
    have hall : ∀ p ∈ List.range room, o.used p = true := by
      have := List.length_filter_eq_length_iff.1 (show ((List.range room).filter o.used).length = (List.range room).length by rw [e, List.length_range])
      exact this
    have := o.free_spec room hlt
    rw [hall _ (List.mem_range.2 hlt)] at this
    cases this
  · intro hne
    refine Nat.lt_of_le_of_ne hle (fun e => hne ?_)
    have hall := o.free_all room e
    rw [List.filter_eq_self.2 (fun p hp => hall p (List.mem_range.1 hp)), List.length_range]

/-- The row in block g, its Refs in gr, its marks in gu: room for so many, and the kids f. -/
def ManyAt (W : World) (g gr gu room : Nat) (f : Kids) : Prop := ∃ o : ManyO, o.rep room f ∧ MBlk W g gr gu room o ∧ 0 < room ∧ room ≤ 256
theorem ManyAt.below {W W' : World} {g gr gu room : Nat} {f : Kids} (h : ManyAt W g gr gu room f) (hb : Below W.heap.size W W') : ManyAt W' g gr gu room f := by
  obtain ⟨o, h1, h2, h3⟩ := h
  exact ⟨o, h1, h2.below hb, h3⟩
theorem ManyAt.drew {W : World} {g gr gu room : Nat} {f : Kids} (h : ManyAt W g gr gu room f) : ManyAt W.drew g gr gu room f := by
  obtain ⟨o, h1, h2, h3⟩ := h
  exact ⟨o, h1, h2.drew, h3⟩
theorem ManyAt.drewN {W : World} {g gr gu room : Nat} {f : Kids} (h : ManyAt W g gr gu room f) (k : Nat) : ManyAt (W.drewN k) g gr gu room f := by
  obtain ⟨o, h1, h2, h3⟩ := h
  exact ⟨o, h1, h2.drewN k, h3⟩
theorem ManyAt.lt {W : World} {g gr gu room : Nat} {f : Kids} (h : ManyAt W g gr gu room f) : g < W.heap.size ∧ gr < W.heap.size ∧ gu < W.heap.size := by
  obtain ⟨o, h1, h2, h3⟩ := h
  exact ⟨h2.1.lt, h2.2.1.lt, h2.2.2.lt⟩
def ManyEnd (v : Value) (g gr gu room : Nat) (f : Kids) (w : World) (e : Ending) (w' : World) : Prop := e = .returned v ∧ ManyAt w' g gr gu room f ∧ Three g gr gu w w'
theorem there_m {g gr gu room : Nat} {f : Kids} {w : World} (h : ManyAt w g gr gu room f) : Calls Tryz.prog 136 #[.pointer (some ⟨g, 0, none⟩)] w (StayEnd (.bool true) w) := by
  obtain ⟨o, h1, h2, h3, h4⟩ := h
  exact mthere g gr gu room o w h2 h3
theorem has_m {g gr gu room : Nat} {f : Kids} {w : World} (h : ManyAt w g gr gu room f) {b : Nat} (hb : b < 256) : Calls Tryz.prog 134 #[.pointer (some ⟨g, 0, none⟩), .int .i64 (b : Int)] w (StayEnd (.bool (f b).isSome) w) := by
  obtain ⟨o, h1, h2, h3, h4⟩ := h
  have := mhas g gr gu room o b w h2 hb
  rw [h1.has hb] at this
  exact this
/-- ref: an address at which the kid's Ref stands. -/
def RefPtr (gr : Nat) (r : Int × Int) (w : World) (e : Ending) (w' : World) : Prop := ∃ p : Nat, e = .returned (.pointer (some ⟨gr, p * 2, none⟩)) ∧ w.cell? ⟨gr, p * 2, none⟩ = some (.int .i64 r.1) ∧ w.cell? ⟨gr, p * 2 + 1, none⟩ = some (.int .u32 r.2) ∧ ∃ k, w' = w.drewN k
theorem ref_m {g gr gu room : Nat} {f : Kids} {w : World} (h : ManyAt w g gr gu room f) {b : Nat} {r : Int × Int} (hb : b < 256) (hf : f b = some r) : Calls Tryz.prog 135 #[.pointer (some ⟨g, 0, none⟩), .int .i64 (b : Int)] w (RefPtr gr r w) := by
  obtain ⟨o, h1, h2, h3, h4⟩ := h
  obtain ⟨p, k1, k2, k3, k4⟩ := h1.some_ b r hb hf
  refine (mref g gr gu room o b p w h2 hb k1 h4 k2).mono ?_
  rintro e w' ⟨rfl, k⟩
  obtain ⟨c1, c2⟩ := h2.ref k1
  rw [k4] at c1 c2
  exact ⟨p, rfl, c1, c2, k⟩
theorem lay_m {g gr gu room : Nat} {f : Kids} {w : World} (h : ManyAt w g gr gu room f) {b : Nat} (r : Int × Int) (hb : b < 256) (hf : f b = none) : Calls Tryz.prog 137 #[.pointer (some ⟨g, 0, none⟩), .int .i64 (b : Int), refV r] w (fun e w' => ∃ ok : Bool, ok = !(decide (cntK f = room)) ∧ ManyEnd (.bool ok) g gr gu room (if cntK f = room then f else setK f b (some r)) w e w') := by
  obtain ⟨o, h1, h2, h3, h4⟩ := h
  by_cases hc : cntK f = room
  · refine (mlay_no g gr gu room o b r w h2 h4 (fun hlt => (rep_full h1).1 hlt hc)).mono ?_
    rintro e w' ⟨rfl, k1, k2⟩
    exact ⟨false, by simp [hc], rfl, by rw [if_pos hc]; exact ⟨o, h1, k1, h3, h4⟩, k2⟩
  · have hlt := (rep_full h1).2 hc
    refine (mlay_yes g gr gu room o b r w h2 hb h4 hlt).mono ?_
    rintro e w' ⟨rfl, k1, k2⟩
    exact ⟨true, by simp [hc], rfl, by rw [if_neg hc]; exact ⟨_, rep_lay h1 hb hf hlt (o.free_spec room hlt) r, k1, h3, h4⟩, k2⟩
theorem lift_m {g gr gu room : Nat} {f : Kids} {w : World} (h : ManyAt w g gr gu room f) {b : Nat} {r : Int × Int} (hb : b < 256) (hf : f b = some r) : Calls Tryz.prog 138 #[.pointer (some ⟨g, 0, none⟩), .int .i64 (b : Int)] w (ManyEnd (refV r) g gr gu room (setK f b none) w) := by
  obtain ⟨o, h1, h2, h3, h4⟩ := h
  obtain ⟨p, k1, k2, k3, k4⟩ := h1.some_ b r hb hf
  refine (mlift g gr gu room o b p w h2 hb h4 k1 k2).mono ?_
  rintro e w' ⟨rfl, m1, m2⟩
  rw [k4]
  exact ⟨rfl, ⟨_, rep_lift h1 hb k1 k2, m1, h3, h4⟩, m2⟩
end Go.Proofs.YtgjgcbemgmkncaaGreatDoor
namespace Go.Proofs.YtgjgcbemgmkncaaGreatDoor
open Go.RowKit Go.Shelf
set_option linter.unusedVariables false
set_option linter.unusedSimpArgs false

theorem ManyAt.alloc {W : World} {g gr gu room : Nat} {f : Kids} (h : ManyAt W g gr gu room f) (x : Obj) : ManyAt (W.alloc x) g gr gu room f := h.below (below_box W x)
/-- A block that is none of the three. -/
theorem Blk.three {W W' : World} {a b c x : Nat} {t : TypeId} {cs : Array Value} (h : Blk W x t cs) (ht : Three a b c W W') (h1 : x ≠ a) (h2 : x ≠ b) (h3 : x ≠ c) : Blk W' x t cs := (ht.block x h.lt h1 h2 h3).trans h
set_option maxHeartbeats 1600000 in
set_option maxRecDepth 100000 in
theorem Put_m (g gr gu room : Nat) (f : Kids) (b : Nat) (r : Int × Int) (w : World) (h : ManyAt w g gr gu room f) (hb : b < 256) :
    Calls Tryz.prog 128 #[.pointer (some ⟨g, 0, none⟩), .int .u8 (b : Int), refV r] w (ManyEnd (.int .i64 (putK (room : Int) f b r).1) g gr gu room (putK (room : Int) f b r).2 w) := by
  have hlt := h.lt
  have h1 := h.alloc (.cells #[.int .i64 r.1, .int .u32 r.2] 29)
  have hr := Blk.new w 29 #[.int .i64 r.1, .int .u32 r.2]
  have HR := Lib.hid hr
  have e0 : (w.alloc (.cells #[.int .i64 r.1, .int .u32 r.2] 29)).cell? ⟨w.heap.size, 0, none⟩ = some (.int .i64 r.1) := hr.cell 0
  have e1 : (w.alloc (.cells #[.int .i64 r.1, .int .u32 r.2] 29)).cell? ⟨w.heap.size, 1, none⟩ = some (.int .u32 r.2) := hr.cell 1
  have HT := Lib.hid (there_m h1)
  have HH := Lib.hid (has_m h1 hb)
  have H1 := Lib.hid h1
  have i1 : (0 : Int) ≤ (b : Int) := by omega
  have i2 : (b : Int) ≤ 255 := by omega
  have sw : IntKind.i64.wrap (b : Int) = (b : Int) := IntWalk.i64_in _ (by omega)
  clear h h1 hr
  unfold putK
  cases hf : f b with
  | some q =>
    rw [hf] at HH
    simp only [Option.isSome_some] at HH ⊢
    clear hf
    rw [if_pos trivial]
    go_enter Tryz.func128, Tryz.ntmps128
    go_wp2_with fail
    refine HT.out.mono ?_
    rintro e w1 ⟨rfl, rfl⟩
    go_wp2_with fail
    refine HH.out.mono ?_
    rintro e w2 ⟨rfl, rfl⟩
    go_wp2
    go_ret
    exact ⟨rfl, H1.out, (Three.refl g gr gu w).alloc _⟩
  | none =>
    rw [hf] at HH
    simp only [Option.isSome_none] at HH ⊢
    have HL := Lib.hid (lay_m H1.out.drew r hb hf)
    rw [if_neg (by simp)]
    clear hf
    have m1 : w.heap.size ≠ g := by omega
    have m2 : w.heap.size ≠ gr := by omega
    have m3 : w.heap.size ≠ gu := by omega
    by_cases hc : cntK f = room
    · have hci : (cntK f : Int) = (room : Int) := by omega
      rw [if_pos hci]
      have HC := Lib.hid hc
      clear hc hci
      go_enter Tryz.func128, Tryz.ntmps128
      go_wp2_with fail
      refine HT.out.mono ?_
      rintro e w1 ⟨rfl, rfl⟩
      go_wp2_with fail
      refine HH.out.mono ?_
      rintro e w2 ⟨rfl, rfl⟩
      go_wp2_with fail
      go_region_held3 (fun V => V.cell? ⟨w.heap.size, 0, none⟩ = some (.int .i64 r.1) ∧ V.cell? ⟨w.heap.size, 1, none⟩ = some (.int .u32 r.2)) (first | exact ⟨e0, e1⟩ | exact hx)
        (first | (go_at_call 137; (with_reducible refine HL.out.mono ?_); rintro e w3 ⟨ok, hok, rfl, k1, k2⟩; rw [decide_eq_true HC.out] at hok; subst hok; have hx : w3.cell? ⟨w.heap.size, 0, none⟩ = some (.int .i64 r.1) ∧ w3.cell? ⟨w.heap.size, 1, none⟩ = some (.int .u32 r.2) := ⟨(Blk.three HR.out.drew k2 m1 m2 m3).cell 0, (Blk.three HR.out.drew k2 m1 m2 m3).cell 1⟩))
      all_goals
        go_wp2
        go_ret
        exact ⟨rfl, by rw [if_pos HC.out] at k1; exact k1, (((Three.refl g gr gu w).alloc _).drew).trans k2⟩
    · have hci : ¬ (cntK f : Int) = (room : Int) := by omega
      rw [if_neg hci]
      have HC := Lib.hid hc
      clear hc hci
      go_enter Tryz.func128, Tryz.ntmps128
      go_wp2_with fail
      refine HT.out.mono ?_
      rintro e w1 ⟨rfl, rfl⟩
      go_wp2_with fail
      refine HH.out.mono ?_
      rintro e w2 ⟨rfl, rfl⟩
      go_wp2_with fail
      go_region_held3 (fun V => V.cell? ⟨w.heap.size, 0, none⟩ = some (.int .i64 r.1) ∧ V.cell? ⟨w.heap.size, 1, none⟩ = some (.int .u32 r.2)) (first | exact ⟨e0, e1⟩ | exact hx)
        (first | (go_at_call 137; (with_reducible refine HL.out.mono ?_); rintro e w3 ⟨ok, hok, rfl, k1, k2⟩; rw [decide_eq_false HC.out] at hok; subst hok; have hx : w3.cell? ⟨w.heap.size, 0, none⟩ = some (.int .i64 r.1) ∧ w3.cell? ⟨w.heap.size, 1, none⟩ = some (.int .u32 r.2) := ⟨(Blk.three HR.out.drew k2 m1 m2 m3).cell 0, (Blk.three HR.out.drew k2 m1 m2 m3).cell 1⟩))
      all_goals
        go_wp2
        go_ret
        exact ⟨rfl, by rw [if_neg HC.out] at k1; exact k1, (((Three.refl g gr gu w).alloc _).drew).trans k2⟩
end Go.Proofs.YtgjgcbemgmkncaaGreatDoor
namespace Go.Proofs.YtgjgcbemgmkncaaGreatDoor
open Go.RowKit Go.Shelf
set_option linter.unusedVariables false
set_option linter.unusedSimpArgs false

set_option maxHeartbeats 1600000 in
set_option maxRecDepth 100000 in
theorem Take_m (g gr gu room : Nat) (f : Kids) (b : Nat) (w : World) (h : ManyAt w g gr gu room f) (hb : b < 256) :
    Calls Tryz.prog 129 #[.pointer (some ⟨g, 0, none⟩), .int .u8 (b : Int)] w (ManyEnd (.tuple #[refV (takeK f b).1.1, .int .i64 (takeK f b).1.2]) g gr gu room (takeK f b).2 w) := by
  have hlt := h.lt
  have h1 := h.alloc (.cells #[.int .i64 0, .int .u32 0] 29)
  have hr := Blk.new w 29 #[.int .i64 0, .int .u32 0]
  have HR := Lib.hid hr
  have HT := Lib.hid (there_m h1)
  have HH := Lib.hid (has_m h1 hb)
  have H1 := Lib.hid h1
  have i1 : (0 : Int) ≤ (b : Int) := by omega
  have i2 : (b : Int) ≤ 255 := by omega
  have sw : IntKind.i64.wrap (b : Int) = (b : Int) := IntWalk.i64_in _ (by omega)
  have m1 : w.heap.size ≠ g := by omega
  have m2 : w.heap.size ≠ gr := by omega
  have m3 : w.heap.size ≠ gu := by omega
  clear h h1 hr
  unfold takeK
  cases hf : f b with
  | none =>
    dsimp only
    rw [hf] at HH
    simp only [Option.isSome_none] at HH
    clear hf
    go_enter Tryz.func129, Tryz.ntmps129
    go_wp2_with fail
    refine HT.out.mono ?_
    rintro e w1 ⟨rfl, rfl⟩
    go_wp2_with fail
    refine HH.out.mono ?_
    rintro e w2 ⟨rfl, rfl⟩
    go_wp2_with fail
    refine bodyPost_ret (v := .tuple #[refV (0, 0), .int .i64 5]) (by simp [results, Tryz.results129, go_sem, *]) rfl ⟨rfl, ?_, ?_⟩
    · first | exact H1.out | exact H1.out.alloc _
    · first | exact (Three.refl g gr gu w).alloc _ | exact ((Three.refl g gr gu w).alloc _).alloc _
  | some q =>
    dsimp only
    have HL := Lib.hid (lift_m H1.out hb hf)
    rw [hf] at HH
    simp only [Option.isSome_some] at HH
    clear hf
    go_enter Tryz.func129, Tryz.ntmps129
    go_wp2_with fail
    refine HT.out.mono ?_
    rintro e w1 ⟨rfl, rfl⟩
    go_wp2_with fail
    refine HH.out.mono ?_
    rintro e w2 ⟨rfl, rfl⟩
    go_wp2_with fail
    refine HL.out.mono ?_
    rintro e w3 ⟨rfl, k1, k2⟩
    have hr3 := Blk.three HR.out k2 m1 m2 m3
    have e0 := hr3.cell 0
    have e1 := hr3.cell 1
    have f0 := hr3.frozen 0
    have f1 := hr3.frozen 1
    have l0 := hr3.lt
    simp at e0 e1
    have hrn := (hr3.set_ 0 (.int .i64 q.1)).set_ 1 (.int .u32 q.2)
    have q0 := hrn.cell 0
    have q1 := hrn.cell 1
    simp at q0 q1
    obtain ⟨o, o1, o2, o3⟩ := k1
    have kf : ManyAt ((w3.setCell ⟨w.heap.size, 0, none⟩ (.int .i64 q.1)).setCell ⟨w.heap.size, 1, none⟩ (.int .u32 q.2)) g gr gu room (setK (fun x => f x) b none) :=
      ⟨o, o1, ⟨(o2.1.far (p := ⟨w.heap.size, 0, none⟩) (Ne.symm m1) _).far (p := ⟨w.heap.size, 1, none⟩) (Ne.symm m1) _, (o2.2.1.far (p := ⟨w.heap.size, 0, none⟩) (Ne.symm m2) _).far (p := ⟨w.heap.size, 1, none⟩) (Ne.symm m2) _, (o2.2.2.far (p := ⟨w.heap.size, 0, none⟩) (Ne.symm m3) _).far (p := ⟨w.heap.size, 1, none⟩) (Ne.symm m3) _⟩, o3⟩
    have kt := ((((Three.refl g gr gu w).alloc (.cells #[.int .i64 0, .int .u32 0] 29)).trans k2).setCell ⟨w.heap.size, 0, none⟩ (.int .i64 q.1) (.inr (.inr (.inr (Nat.le_refl _))))).setCell ⟨w.heap.size, 1, none⟩ (.int .u32 q.2) (.inr (.inr (.inr (Nat.le_refl _))))
    have HK := Lib.hid (And.intro kf kt)
    clear k2 hr3 hrn kf kt o1 o2 o3 HR H1 HT HH HL
    go_wp2_with fail
    refine bodyPost_ret (v := .tuple #[refV q, .int .i64 0]) (by simp [results, Tryz.results129, go_sem, *]) rfl ⟨rfl, HK.out.1, HK.out.2⟩
set_option maxHeartbeats 1600000 in
set_option maxRecDepth 100000 in
theorem Find_m (g gr gu room : Nat) (f : Kids) (b : Nat) (w : World) (h : ManyAt w g gr gu room f) (hb : b < 256) :
    Calls Tryz.prog 125 #[.pointer (some ⟨g, 0, none⟩), .int .u8 (b : Int)] w (TwoEnd (optV (f b)) (.bool (f b).isSome) w) := by
  have hlt := h.lt
  have h1 := h.alloc (.cells #[.int .i64 0, .int .u32 0] 29)
  have hr := Blk.new w 29 #[.int .i64 0, .int .u32 0]
  have HR := Lib.hid hr
  have HT := Lib.hid (there_m h1)
  have HH := Lib.hid (has_m h1 hb)
  have H1 := Lib.hid h1
  have i1 : (0 : Int) ≤ (b : Int) := by omega
  have i2 : (b : Int) ≤ 255 := by omega
  have sw : IntKind.i64.wrap (b : Int) = (b : Int) := IntWalk.i64_in _ (by omega)
  clear h h1 hr
  unfold optV
  cases hf : f b with
  | none =>
    rw [hf] at HH
    simp only [Option.isSome_none, Option.getD_none] at HH ⊢
    clear hf
    go_enter Tryz.func125, Tryz.ntmps125
    go_wp2_with fail
    refine HT.out.mono ?_
    rintro e w1 ⟨rfl, rfl⟩
    go_wp2_with fail
    refine HH.out.mono ?_
    rintro e w2 ⟨rfl, rfl⟩
    go_wp2_with fail
    refine bodyPost_ret (v := .tuple #[refV (0, 0), .bool false]) (by simp [results, Tryz.results125, go_sem, *]) rfl ⟨rfl, below_box w _⟩
  | some q =>
    have HL := Lib.hid (ref_m H1.out hb hf)
    rw [hf] at HH
    simp only [Option.isSome_some, Option.getD_some] at HH ⊢
    clear hf
    go_enter Tryz.func125, Tryz.ntmps125
    go_wp2_with fail
    refine HT.out.mono ?_
    rintro e w1 ⟨rfl, rfl⟩
    go_wp2_with fail
    refine HH.out.mono ?_
    rintro e w2 ⟨rfl, rfl⟩
    go_wp2_with fail
    refine HL.out.mono ?_
    rintro e w3 ⟨p, rfl, c1, c2, k, rfl⟩
    have c1' : ((w.alloc (.cells #[.int .i64 0, .int .u32 0] 29)).drewN k).cell? ⟨gr, p * 2, none⟩ = some (.int .i64 q.1) := c1
    have c2' : ((w.alloc (.cells #[.int .i64 0, .int .u32 0] 29)).drewN k).cell? ⟨gr, p * 2 + 1, none⟩ = some (.int .u32 q.2) := c2
    have hbel := below_drewN (below_box w (.cells #[.int .i64 0, .int .u32 0] 29)) k
    have hr3 := HR.out.drewN k
    generalize (w.alloc (.cells #[.int .i64 0, .int .u32 0] 29)).drewN k = w4 at c1' c2' hbel hr3 ⊢
    have e0 := hr3.cell 0
    have e1 := hr3.cell 1
    have f0 := hr3.frozen 0
    have f1 := hr3.frozen 1
    have l0 := hr3.lt
    simp at e0 e1
    have hrn := (hr3.set_ 0 (.int .i64 q.1)).set_ 1 (.int .u32 q.2)
    have q0 := hrn.cell 0
    have q1 := hrn.cell 1
    simp at q0 q1
    have HB := Lib.hid ((hbel.setCell (p := ⟨w.heap.size, 0, none⟩) (Nat.le_refl _) (.int .i64 q.1)).setCell (p := ⟨w.heap.size, 1, none⟩) (Nat.le_refl _) (.int .u32 q.2))
    clear hrn hr3 hbel c1 c2 HR H1 HT HH HL
    go_wp2_with fail
    refine bodyPost_ret (v := .tuple #[refV q, .bool true]) (by simp [results, Tryz.results125, go_sem, *]) rfl ⟨rfl, HB.out⟩
end Go.Proofs.YtgjgcbemgmkncaaGreatDoor
namespace Go.Proofs.YtgjgcbemgmkncaaGreatDoor
open Go.RowKit Go.Shelf
set_option linter.unusedVariables false
set_option linter.unusedSimpArgs false

def zeroIdx : List Value := (List.range 256).map (fun _ => .int .u16 0) ++ [.slice none 0 0, .slice none 0 0]
theorem infoIdx : (Tryz.prog.info? 111).map (fun i => (i.zero, i.size)) = some (some (.agg zeroIdx.toArray), 258) := by kernel_rfl
theorem infoMany : (Tryz.prog.info? 113).map (fun i => (i.zero, i.size)) = some (some (.agg zeroIdx.toArray), 258) := by kernel_rfl
theorem zero_of {t : TypeId} {z : Value} {n : Nat} (h : (Tryz.prog.info? t).map (fun i => (i.zero, i.size)) = some (some z, n)) (V : World) : (zeroValue t).run Tryz.prog V = .ok z V := by
  cases hq : Tryz.prog.info? t with
  | none => simp [hq] at h
  | some i =>
    rw [hq] at h
    simp only [Option.map_some, Option.some.injEq, Prod.mk.injEq] at h
    simp [zeroValue, typeInfo, hq, h.1]
theorem infoRef2 : (Tryz.prog.info? 29).map (fun i => (i.zero, i.size, i.bytes)) = some (some (.agg #[.int .i64 0, .int .u32 0]), 2, 16) := by kernel_rfl
theorem infoBool1 : (Tryz.prog.info? 4).map (fun i => (i.zero, i.size, i.bytes)) = some (some (.bool false), 1, 1) := by kernel_rfl
def oNew : ManyO := ⟨fun _ => 0, fun _ => (0, 0), fun _ => false⟩
theorem made_refs {n : Nat} (h : n = 48 ∨ n = 256) : madeCells (Value.agg #[.int .i64 0, .int .u32 0]).cells (n * 2) = (rcells oNew n).toArray := by
  rcases h with rfl | rfl <;> kernel_rfl
theorem made_bools {n : Nat} (h : n = 48 ∨ n = 256) : madeCells (Value.bool false).cells (n * 1) = (ucells oNew n).toArray := by
  rcases h with rfl | rfl <;> kernel_rfl
theorem fold_zip (L : List Value) : ∀ (A Z : List Value), L.length = Z.length → (L.zipIdx A.length).foldl (fun (cs : Array Value) x => cs.setIfInBounds x.2 x.1) (A ++ Z).toArray = (A ++ L).toArray := by
  induction L with
  | nil =>
    intro A Z h
    rw [List.eq_nil_of_length_eq_zero h.symm]
    rfl
  | cons x L ih =>
    intro A Z h
    cases Z with
    | nil => cases h
    | cons z Z =>
      rw [List.zipIdx_cons, List.foldl_cons]
      have h1 : (A ++ z :: Z).toArray.setIfInBounds A.length x = ((A ++ [x]) ++ Z).toArray := by
        rw [List.setIfInBounds_toArray, List.set_append_right _ _ (Nat.le_refl _), Nat.sub_self, List.set_cons_zero]
        simp
      have h2 := ih (A ++ [x]) Z (by simpa using h)
      simp only [List.length_append, List.length_cons, List.length_nil, Nat.zero_add] at h2
      dsimp only
      rw [h1, h2]
      simp
theorem fold_all (L Z : List Value) (h : L.length = Z.length) : L.zipIdx.foldl (fun (cs : Array Value) x => cs.setIfInBounds x.2 x.1) Z.toArray = L.toArray := by
  have := fold_zip L [] Z h
  simpa using this
theorem idx_made (gr gu room : Nat) : (zeroIdx.set 256 (.slice (some ⟨gr, 0, none⟩) room room)).set 257 (.slice (some ⟨gu, 0, none⟩) room room) = mcells oNew gr gu room := by
  unfold zeroIdx mcells oNew
  rw [List.set_append_right _ _ (by simp), List.set_append_right _ _ (by simp)]
  simp
theorem idx_len : zeroIdx.length = 258 := by simp [zeroIdx]
set_option maxHeartbeats 3200000 in
set_option maxRecDepth 100000 in
theorem new_tail (room : Nat) (w : World) (hroom : room = 48 ∨ room = 256) {u1 u2 u3 u4 u5 u6 u7 u8 u9 u10 u11 u12 u13 u14 u15 u16 : Value} {Q : Exit → Act → World → Prop}
    (hQ : ∀ (y10 y11 y12 y13 y14 y15 y16 : Value) (g gr gu : Nat) (W : World), ManyAt W g gr gu room noKids → w.heap.size ≤ g → w.heap.size ≤ gr → w.heap.size ≤ gu → Below w.heap.size w W → Q .ret ⟨#[.int .i64 (room : Int), u1, .pointer (some ⟨g, 0, none⟩), .int .i64 0, u4, u5, u6, u7, u8, u9, y10, y11, y12, y13, y14, y15, y16], []⟩ W) :
    Code.wp Tryz.prog (part Tryz.f73 [1, 1]) Q ⟨#[.int .i64 (room : Int), u1, u2, u3, u4, u5, u6, u7, u8, u9, u10, u11, u12, u13, u14, u15, u16], []⟩ w := by
  conv => arg 2; whnf
  have HQ := Lib.hid hQ
  clear hQ
  have hz1 := zero_of infoIdx
  have hz2 := zero_of infoMany
  obtain ⟨i1, hi1, ha1, hb1, hc1⟩ := info_parts infoRef2
  obtain ⟨i2, hi2, ha2, hb2, hc2⟩ := info_parts infoBool1
  have hr0 : room ≤ 256 ∧ 0 < room := by omega
  have hm1 : ∀ V : World, (Instr.makeSlice 24 (.int .i64 (room : Int)) (.int .i64 (room : Int))).run Tryz.prog V = .ok (.slice (some ⟨V.heap.size, 0, none⟩) room room) (V.alloc (.cells (rcells oNew room).toArray 29)) := fun V => by
    have := run_make (P := Tryz.prog) V 24 29 i1 _ Tryz.underlying24 hi1 ha1 .i64 .i64 (room : Int) (room : Int) (by omega) (Int.le_refl _) (by rw [hc1]; omega) (by omega)
    rw [Int.toNat_natCast, hb1, made_refs hroom] at this
    exact this
  have hm2 : ∀ V : World, (Instr.makeSlice 107 (.int .i64 (room : Int)) (.int .i64 (room : Int))).run Tryz.prog V = .ok (.slice (some ⟨V.heap.size, 0, none⟩) room room) (V.alloc (.cells (ucells oNew room).toArray 4)) := fun V => by
    have := run_make (P := Tryz.prog) V 107 4 i2 _ Tryz.underlying107 hi2 ha2 .i64 .i64 (room : Int) (room : Int) (by omega) (Int.le_refl _) (by rw [hc2]; omega) (by omega)
    rw [Int.toNat_natCast, hb2, made_bools hroom] at this
    exact this
  obtain ⟨R, hR⟩ : ∃ R : List Value, R = rcells oNew room := ⟨_, rfl⟩
  obtain ⟨U, hU⟩ : ∃ U : List Value, U = ucells oNew room := ⟨_, rfl⟩
  obtain ⟨Z, hZ⟩ : ∃ Z : List Value, Z = zeroIdx := ⟨_, rfl⟩
  have hne : (Z.toArray = #[]) = False := by rw [hZ]; simp [zeroIdx]
  have hlen : Z.length = 258 := by rw [hZ]; exact idx_len
  rw [← hR] at hm1
  rw [← hU] at hm2
  rw [← hZ] at hz1 hz2
  have HZ := Lib.hid (And.intro hR (And.intro hU (And.intro hZ hr0)))
  clear hroom hr0 hR hU hZ hi1 ha1 hb1 hc1 hi2 ha2 hb2 hc2
  go_wp2_with fail
  go_region
  · go_wp2
    obtain ⟨hR, hU, hZ, hr0⟩ := HZ.out
    subst hR hU hZ
    refine HQ.out _ _ _ _ _ _ _ _ w.heap.size (w.heap.size + 1) _ ⟨oNew, rep_new room, ⟨?_, ?_, ?_⟩, hr0.2, hr0.1⟩ (by omega) (Nat.le_refl _) (by omega) ?_
    · have h := Blk.new ((w.alloc (.cells (rcells oNew room).toArray 29)).alloc (.cells (ucells oNew room).toArray 4)) 113 (mcells oNew w.heap.size (w.heap.size + 1) room).toArray
      rw [fold_all _ _ (by simp [zeroIdx]), idx_made]
      simpa using h.drew
    · exact (((Blk.new w _ _).alloc _).alloc _).drew
    · have h := Blk.new (w.alloc (.cells (rcells oNew room).toArray 29)) 4 (ucells oNew room).toArray
      rw [show (w.alloc (.cells (rcells oNew room).toArray 29)).heap.size = w.heap.size + 1 by simp] at h
      exact (h.alloc _).drew
    · have b1 := below_box w (.cells (rcells oNew room).toArray 29)
      have b2 := b1.alloc b1.size (.cells (ucells oNew room).toArray 4)
      exact (b2.alloc b2.size _).drew
  · go_wp2
    obtain ⟨hR, hU, hZ, hr0⟩ := HZ.out
    subst hR hU hZ
    refine HQ.out _ _ _ _ _ _ _ _ (w.heap.size + 1) w.heap.size _ ⟨oNew, rep_new room, ⟨?_, ?_, ?_⟩, hr0.2, hr0.1⟩ (by omega) (by omega) (Nat.le_refl _) ?_
    · have h := Blk.new ((w.alloc (.cells (ucells oNew room).toArray 4)).alloc (.cells (rcells oNew room).toArray 29)) 113 (mcells oNew (w.heap.size + 1) w.heap.size room).toArray
      rw [fold_all _ _ (by simp [zeroIdx]), idx_made]
      simpa using h.drew
    · have h := Blk.new (w.alloc (.cells (ucells oNew room).toArray 4)) 29 (rcells oNew room).toArray
      rw [show (w.alloc (.cells (ucells oNew room).toArray 4)).heap.size = w.heap.size + 1 by simp] at h
      exact (h.alloc _).drew
    · exact (((Blk.new w _ _).alloc _).alloc _).drew
    · have b1 := below_box w (.cells (ucells oNew room).toArray 4)
      have b2 := b1.alloc b1.size (.cells (rcells oNew room).toArray 29)
      exact (b2.alloc b2.size _).drew
def NewMEnd (room : Nat) (w : World) (e : Ending) (w' : World) : Prop := ∃ g gr gu, e = .returned (.tuple #[.pointer (some ⟨g, 0, none⟩), .int .i64 0]) ∧ ManyAt w' g gr gu room noKids ∧ w.heap.size ≤ g ∧ w.heap.size ≤ gr ∧ w.heap.size ≤ gu ∧ Below w.heap.size w w'
set_option maxRecDepth 100000 in
theorem New_m (room : Nat) (w : World) (hroom : room = 48 ∨ room = 256) : Calls Tryz.prog 73 #[.int .i64 (room : Int)] w (NewMEnd room w) := by
  have hrb : ((room : Int) != 48) = false ∨ ((room : Int) != 48) = true ∧ ((room : Int) != 256) = false := by
    rcases hroom with rfl | rfl
    · exact .inl rfl
    · exact .inr ⟨rfl, rfl⟩
  have HR := Lib.hid hroom
  clear hroom
  rcases hrb with hrb | ⟨hrb, hrb2⟩
  all_goals
    go_enter Tryz.func73, Tryz.ntmps73
    refine wp_seq_k fun K0 hK => ?_
    have HK0 := Lib.hid hK
    clear hK
    go_wp2_with fail
    refine HK0.out _ _ ?_
    clear HK0
    refine wp_seq_k fun K1 hK => ?_
    have HK1 := Lib.hid hK
    clear hK
    go_wp2_with fail
    refine HK1.out _ _ ?_
    clear HK1
    refine new_tail room w HR.out ?_
    intros
    rename_i g gr gu W h1 h2 h3 h4 h5
    go_ret2
    exact ⟨g, gr, gu, rfl, h1, h2, h3, h4, h5⟩
end Go.Proofs.YtgjgcbemgmkncaaGreatDoor
namespace Go.Proofs.YtgjgcbemgmkncaaGreatDoor
open Go.RowKit Go.Shelf
set_option linter.unusedVariables false

/-- An iterator's contract, for callers whose invariants speak of cells, or of what lay there. A round keeps whatever is no cells from B0 on. -/
def SeqStopsO {α : Type} (F : Fence) (n : Nat) (P : Program) (g : Nat) (lb : Array Value) (encs : α → Array Value) (Kp : World → World → Prop) (S Sp : List α → Prop) (N : Nat) (w : World) (B0 : Nat) : Prop :=
  ∀ (l : Nat) (J Jx : List α → World → Prop) (W : World), Below w.heap.size w W → B0 ≤ W.heap.size → OwnFrom W.heap.size J → OwnFrom W.heap.size Jx →
    (∀ pre x W1, J pre W1 → pre.length < N → YieldAt F (n - 1) P l (encs x) W1 fun e W' => KeepsFrom B0 W1 W' ∧
      ((e = .returned (.bool true) ∧ J (pre ++ [x]) W' ∧ Kp W1 W') ∨ (e = .returned (.bool false) ∧ Jx (pre ++ [x]) W'))) →
    J [] W →
    CallsIn F n P g (#[.func (.yield l) #[] #[]] ++ lb) W fun e W' => (∃ v, e = .returned v) ∧ ((∃ xs, S xs ∧ J xs W') ∨ (∃ pre, Sp pre ∧ Jx pre W'))
theorem ownFrom_abides {β : Type} {B : Nat} {I : β → World → Prop} (h : OwnFrom B I) : AbidesFrom B I := fun s W W' row hs hg hr =>
  h s W W' row hs hg (fun r e => ⟨(hr r e).1, by obtain ⟨o, ho, hw⟩ := (hr r e).2; exact ⟨o, ho, Obj.not_cells_of_walk hw⟩⟩)
theorem seqStopsK_O {α : Type} {F : Fence} {n : Nat} {P : Program} {g : Nat} {lb : Array Value} {encs : α → Array Value} {Kp : World → World → Prop} {S Sp : List α → Prop} {N : Nat} {w : World} (B0 : Nat)
    (h : SeqStopsK F n P g lb encs Kp S Sp N w) : SeqStopsO F n P g lb encs Kp S Sp N w B0 := fun l J Jx W hW _ hJ hJx hY h0 => h l J Jx W hW (ownFrom_abides hJ) (ownFrom_abides hJx) (fun pre x W1 h1 h2 => (hY pre x W1 h1 h2).mono fun e W' h => h.2) h0
theorem keepsFrom_le {B B' : Nat} {W W' : World} (h : KeepsFrom B W W') (hB : B ≤ B') : KeepsFrom B' W W' := ⟨h.size, fun k o hk h1 h2 => h.same k o (Nat.le_trans hB hk) h1 h2⟩
theorem keepsFrom_put {B : Nat} (W : World) {l : Nat} (o : Obj) (h : l < B) : KeepsFrom B W (W.putObj l o) := ⟨by simp, fun k o2 hk h1 h2 => (World.putObj_heap_other (by omega)).trans h1⟩

/-- The two blocks that the loop lays: its record at D + 1, the block for deferred calls at D. -/
structure Kept2 (D : Nat) (r : Loop) (W : World) : Prop where
  rec_ : W.heap[D + 1]? = some (.loop r)
  def_ : W.heap[D]? = some (.deferred (some []))
theorem Kept2.lt {D : Nat} {r : Loop} {W : World} (h : Kept2 D r W) : D + 2 ≤ W.heap.size := (Array.getElem?_eq_some_iff.1 h.rec_).1
theorem Kept2.from_ {D : Nat} {r : Loop} {W W' : World} (h : Kept2 D r W) (k : KeepsFrom D W W') : Kept2 D r W' := ⟨k.same _ _ (Nat.le_succ D) h.rec_ rfl, k.same _ _ (Nat.le_refl D) h.def_ rfl⟩
theorem Kept2.put {D : Nat} {r : Loop} {W : World} (h : Kept2 D r W) (r' : Loop) : Kept2 D r' (W.putObj (D + 1) (.loop r')) :=
  ⟨World.putObj_heap_same h.lt, (World.putObj_heap_other (by omega)).trans h.def_⟩
theorem Kept2.own {D : Nat} {r : Loop} {W W' : World} {row : Option Nat} (h : Kept2 D r W) (hg : W.grownBy W' row) (hr : ∀ k, row = some k → D + 2 ≤ k) : Kept2 D r W' :=
  ⟨(hg.block _ (by have := h.lt; omega) (fun e => by have := hr _ e.symm; omega)).trans h.rec_, (hg.block _ (by have := h.lt; omega) (fun e => by have := hr _ e.symm; omega)).trans h.def_⟩

section
variable {F : Fence} {n : Nat} {P : Program}
theorem wpIn_range_O {α : Type} {g : Operand} {ps : Array Tmp} {assign body : Code} {Q : Exit → Act → World → Prop} {a : Act} {w : World}
    (hro : F.round = none) (h1 : 1 ≤ n) {gf : Nat} {lb : Array Value} (hg : a.eval g = .func (.func gf) #[] lb) (hFg : F.fn gf) (eg : ∀ args w, (callFunc gf args).run P w = .ok (.enter gf args) w)
    {encs : α → Array Value} {Kp : World → World → Prop} {S Sp : List α → Prop} {N : Nat} {w0 : World} (hseq : SeqStopsO F (n - 1) P gf lb encs Kp S Sp N w0 (w.heap.size + 2))
    (hKt : ∀ {A B C : World}, Kp A B → Kp B C → Kp A C) (hKb : ∀ (W : World) (o o' : Obj), W.heap[w.heap.size + 1]? = some o → o.isCells = false → o'.isCells = false → Kp W (W.putObj (w.heap.size + 1) o')) (hb0 : Below w0.heap.size w0 w) (hps : ∀ x, (encs x).size = ps.size)
    (I : List α → World → Prop) (Ix : Code → List α → World → Prop) (hI : OwnFrom w.heap.size I) (hIx : ∀ c, OwnFrom w.heap.size (Ix c)) (h0 : I [] w) (Ax : α → Act → World → Prop) (hAx : ∀ x a', OwnFrom w.heap.size (fun (_ : Unit) W => Ax x a' W))
    (hassign : ∀ (l : Nat) (pre : List α) (x : α) (W : World) (K : Act → World → Prop), I pre W → (∀ a' W', KeepsFrom w.heap.size W W' → Kp W W' → I pre W' → Ax x a' W' → K a' W') →
      assign.wpIn (F.inRound l) (n - 1 - 1) P (Exit.then K (fun _ _ _ => False)) { tmps := (ps.zip (encs x)).foldl (fun t (p, v) => t.setIfInBounds p v) a.tmps, defers := [] } W)
    (hbody : ∀ (l : Nat) (pre : List α) (x : α) (a' : Act) (W : World), w.heap.size ≤ l → (∃ r, W.heap[l]? = some (.loop r)) → I pre W → Ax x a' W → pre.length < N → body.wpIn (F.inRound l) (n - 1 - 1) P (ownPostG w.heap.size Kp I Ix (pre ++ [x]) W) a' W)
    (hdone : ∀ (D : Nat) (xs : List α) (W : World), w.heap.size ≤ D → S xs → I xs W → W.heap[D]? = some (.deferred (some [])) → Q .normal { a with defers := { target := .collected D, args := #[] } :: a.defers } W)
    (hstop : ∀ (D : Nat) (c : Code) (pre : List α) (W : World), w.heap.size ≤ D → Sp pre → Ix c pre W → W.heap[D]? = some (.deferred (some [])) → c.wpIn F n P Q { a with defers := { target := .collected D, args := #[] } :: a.defers } W) :
    (Code.rangeFunc g ps assign body).wpIn F n P Q a w := by
  refine wpIn_rangeFunc fun fn hfn => ?_
  rw [hro]
  obtain ⟨mk, hmk⟩ : ∃ mk : LoopState → Option Code → Loop, ∀ s j, mk s j = { state := s, pending := j, fn, tmps := a.tmps, params := ps, assign, body, defers := w.heap.size } := ⟨_, fun _ _ => rfl⟩
  have hW : ∃ W1 : World, (Instr.enterLoop fn a.tmps ps assign body none).run P w = .ok (w.heap.size + 1, [{ target := .collected w.heap.size, args := #[] }]) W1 ∧ Kept2 w.heap.size (mk .ready none) W1 ∧ I [] W1 ∧ Below w0.heap.size w0 W1 ∧ w.heap.size + 2 ≤ W1.heap.size := by
    refine ⟨_, run_enterLoop_outer _ _ _ _ _, ⟨?_, ?_⟩, hI.alloc _ (hI.alloc _ h0), ?_, by simp⟩
    · rw [hmk]
      have k := World.alloc_heap_new (w.alloc (.deferred (some []))) (.loop { state := .ready, pending := none, fn, tmps := a.tmps, params := ps, assign, body, defers := w.heap.size })
      rwa [World.size_alloc] at k
    · exact (Below.heap_alloc _ _ _ (by simp)).trans (World.alloc_heap_new w _)
    · exact (hb0.alloc hb0.size _).alloc (hb0.alloc hb0.size _).size _
  obtain ⟨W1, hent, hk1, hi1, hb1, hs1⟩ := hW
  refine ⟨_, _, W1, { target := .fn (.func gf) lb, args := #[.func (.yield (w.heap.size + 1)) #[] #[]] }, W1, gf, #[.func (.yield (w.heap.size + 1)) #[] #[]] ++ lb, W1, hent, ?_, ?_, ?_, fun _ => h1, ?_⟩
  · simp only [resolve, hg]
    simp [go_sem]
  · intro f' hf'
    simp [Target.leads] at hf'
    subst hf'
    exact hFg
  · simp [invoke, go_sem, eg]
  refine (hseq (w.heap.size + 1) (fun pre W => I pre W ∧ Kept2 w.heap.size (mk .ready none) W) (fun pre W => ∃ c, Ix c pre W ∧ Kept2 w.heap.size (mk .done (some c)) W) W1 hb1 hs1 ?_ ?_ ?_ ⟨hi1, hk1⟩).mono ?_
  · intro s A B row hs hgr hr
    exact ⟨hI s A B row hs.1 hgr (fun k e => ⟨by have := (hr k e).1; omega, (hr k e).2⟩), hs.2.own hgr (fun k e => by have := (hr k e).1; omega)⟩
  · intro s A B row hs hgr hr
    obtain ⟨c, hc, hk⟩ := hs
    exact ⟨c, hIx c s A B row hc hgr (fun k e => ⟨by have := (hr k e).1; omega, (hr k e).2⟩), hk.own hgr (fun k e => by have := (hr k e).1; omega)⟩
  · rintro pre x W ⟨hi, hk⟩ hlen
    have hy := run_yield (P := P) (args := encs x) hk.rec_ (by rw [hmk]; exact hps x)
    rw [hmk] at hy
    refine ⟨fn, _, assign, body, hy, roundIn_of_wpIn hfn (hassign _ pre x W _ hi fun a' Wa hkf hkp hia hax => ?_)⟩
    have hka := hk.from_ hkf
    refine ⟨_, run_beginRound hka.rec_ (by rw [hmk]), ?_⟩
    have hbusy : ({ mk .ready none with state := LoopState.busy } : Loop) = mk .busy none := by rw [hmk, hmk]
    rw [hbusy]
    have hkb := hka.put (mk .busy none)
    have hkp2 : Kp Wa (Wa.putObj (w.heap.size + 1) (.loop (mk .busy none))) := hKb _ _ _ hka.rec_ rfl rfl
    refine wpIn_mono (hbody _ pre x a' _ (Nat.le_succ _) ⟨_, hkb.rec_⟩ (hI.putObj _ hia (Nat.le_succ _) hka.rec_ rfl) ((hAx x a').putObj (s := ()) _ hax (Nat.le_succ _) hka.rec_ rfl) hlen) ?_
    have kfin : ∀ {W3 : World}, KeepsFrom w.heap.size (Wa.putObj (w.heap.size + 1) (.loop (mk .busy none))) W3 → ∀ o, KeepsFrom (w.heap.size + 2) W (W3.putObj (w.heap.size + 1) o) := fun hk3 o =>
      (((keepsFrom_le hkf (by omega)).trans (keepsFrom_put _ _ (by omega))).trans (keepsFrom_le hk3 (by omega))).trans (keepsFrom_put _ _ (by omega))
    have leave : ∀ (c : Code) (W3 : World), KeepsFrom w.heap.size (Wa.putObj (w.heap.size + 1) (.loop (mk .busy none))) W3 → Ix c (pre ++ [x]) W3 →
        ∃ v w', (Instr.endRound (w.heap.size + 1) (some c)).run P W3 = .ok v w' ∧ KeepsFrom (w.heap.size + 2) W w' ∧ ((Ending.returned v = .returned (.bool true) ∧ (I (pre ++ [x]) w' ∧ Kept2 w.heap.size (mk .ready none) w') ∧ Kp W w') ∨ (Ending.returned v = .returned (.bool false) ∧ ∃ c, Ix c (pre ++ [x]) w' ∧ Kept2 w.heap.size (mk .done (some c)) w')) := by
      intro c W3 hk3 hx3
      have h3 := hkb.from_ hk3
      refine ⟨_, _, run_endRound (some c) h3.rec_, kfin hk3 _, .inr ⟨rfl, c, (hIx c).putObj _ hx3 (Nat.le_succ _) h3.rec_ rfl, ?_⟩⟩
      have : ({ mk .busy none with state := if (some c).isNone = true then LoopState.ready else LoopState.done, pending := some c } : Loop) = mk .done (some c) := by rw [hmk, hmk]; rfl
      rw [this]
      exact h3.put _
    intro e a3 W3 hp
    cases e with
    | normal =>
      obtain ⟨hk3, hkp3, hi3⟩ := hp
      have h3 := hkb.from_ hk3
      refine ⟨_, _, run_endRound none h3.rec_, kfin hk3 _, .inl ⟨rfl, ⟨hI.putObj _ hi3 (Nat.le_succ _) h3.rec_ rfl, ?_⟩, hKt hkp (hKt hkp2 (hKt hkp3 (hKb _ _ _ h3.rec_ rfl rfl)))⟩⟩
      have : ({ mk .busy none with state := if (none : Option Code).isNone = true then LoopState.ready else LoopState.done, pending := none } : Loop) = mk .ready none := by rw [hmk, hmk]; rfl
      rw [this]
      exact h3.put _
    | ret => exact leave _ W3 hp.1 hp.2
    | exit id => exact leave _ W3 hp.1 hp.2
    | goto t => exact leave _ W3 hp.1 hp.2
    | panic ch => exact hp.elim
    | outgrown => exact hp.elim
  · rintro e W2 ⟨⟨v, rfl⟩, ⟨xs, hS, hi, hk⟩ | ⟨pre, hSp, c, hi, hk⟩⟩
    · refine ⟨none, _, ?_, hdone _ xs _ (Nat.le_refl _) hS (hI.putObj (.loop { mk .ready none with state := .exhausted }) hi (Nat.le_succ _) hk.rec_ rfl) ((World.putObj_heap_other (by omega)).trans hk.def_)⟩
      have k := run_endLoop (P := P) hk.rec_ (by rw [hmk]; simp)
      rw [k, hmk]
    · refine ⟨some c, _, ?_, hstop _ c pre _ (Nat.le_refl _) hSp ((hIx c).putObj (.loop { mk .done (some c) with state := .exhausted }) hi (Nat.le_succ _) hk.rec_ rfl) ((World.putObj_heap_other (by omega)).trans hk.def_)⟩
      have k := run_endLoop (P := P) hk.rec_ (by rw [hmk]; simp)
      rw [k, hmk]
end
end Go.Proofs.YtgjgcbemgmkncaaGreatDoor
