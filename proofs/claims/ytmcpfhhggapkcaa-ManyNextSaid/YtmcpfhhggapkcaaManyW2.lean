/-
  Layer 8: lay and lift.
-/
import Derived.Test.YtmcpfhhggapkcaaManyW1
import Derived.BigRegion
namespace Go.Proofs.Ytmcpfhhggapkcaa
open Go.RowKit Go.Shelf
set_option linter.unusedVariables false
set_option linter.unusedSimpArgs false

/-- Nothing old is changed but the blocks a, b and c. -/
structure Three (a b c : Nat) (w w' : World) : Prop where
  os : w'.os = w.os
  tape : w'.tape = w.tape
  output : w'.output = w.output
  size : w.heap.size ≤ w'.heap.size
  block : ∀ k, k < w.heap.size → k ≠ a → k ≠ b → k ≠ c → w'.heap[k]? = w.heap[k]?
theorem Three.below {a b c : Nat} {w w' : World} (h : Below w.heap.size w w') : Three a b c w w' := ⟨h.os, h.tape, h.output, h.size, fun k hk _ _ _ => h.block k hk⟩
theorem Three.refl (a b c : Nat) (w : World) : Three a b c w w := ⟨rfl, rfl, rfl, Nat.le_refl _, fun _ _ _ _ _ => rfl⟩
theorem Three.alloc {a b c : Nat} {w w1 : World} (h : Three a b c w w1) (o : Obj) : Three a b c w (w1.alloc o) := ⟨h.os, h.tape, h.output, by have := h.size; simp; omega, fun k hk h1 h2 h3 => (Below.heap_alloc w1 o k (Nat.lt_of_lt_of_le hk h.size)).trans (h.block k hk h1 h2 h3)⟩
theorem Three.drew {a b c : Nat} {w w1 : World} (h : Three a b c w w1) : Three a b c w w1.drew := ⟨h.os, h.tape, h.output, h.size, h.block⟩
theorem Three.setCell {a b c : Nat} {w w1 : World} (h : Three a b c w w1) (p : Addr) (u : Value) (hp : p.block = a ∨ p.block = b ∨ p.block = c ∨ w.heap.size ≤ p.block) : Three a b c w (w1.setCell p u) :=
  ⟨h.os, h.tape, h.output, by simpa [World.setCell] using h.size, fun k hk h1 h2 h3 => (Below.heap_setCell w1 p u k (by rintro rfl; rcases hp with e | e | e | e <;> omega)).trans (h.block k hk h1 h2 h3)⟩
theorem Three.trans {a b c : Nat} {w w1 w2 : World} (h : Three a b c w w1) (k : Three a b c w1 w2) : Three a b c w w2 :=
  ⟨k.os.trans h.os, k.tape.trans h.tape, k.output.trans h.output, Nat.le_trans h.size k.size, fun i hi h1 h2 h3 => (k.block i (Nat.lt_of_lt_of_le hi h.size) h1 h2 h3).trans (h.block i hi h1 h2 h3)⟩
/-- The three stores of lay and lift. -/
theorem MBlk.wrote {w : World} {g gr gu room : Nat} {o : ManyO} (h : MBlk w g gr gu room o) {b p n : Nat} (v : Bool) (r : Int × Int) (hb : b < 256) (hp : p < room) :
    MBlk ((((w.setCell ⟨gu, p, none⟩ (.bool v)).setCell ⟨gr, p * 2, none⟩ (.int .i64 r.1)).setCell ⟨gr, p * 2 + 1, none⟩ (.int .u32 r.2)).setCell ⟨g, b, none⟩ (.int .u16 (n : Int))) g gr gu room (((o.setUsed p v).setRef p r).setAt b n) := by
  obtain ⟨h1, h2, h3⟩ := h
  have n1 : g ≠ gr := blk_neF h1 h2 (by decide)
  have n2 : g ≠ gu := blk_neF h1 h3 (by decide)
  have n3 : gr ≠ gu := blk_neF h2 h3 (by decide)
  refine ⟨?_, ?_, ?_⟩
  · have k := (((h1.far (p := ⟨gu, p, none⟩) n2 (.bool v)).far (p := ⟨gr, p * 2, none⟩) n1 (.int .i64 r.1)).far (p := ⟨gr, p * 2 + 1, none⟩) n1 (.int .u32 r.2)).set_ b (.int .u16 (n : Int))
    rw [List.setIfInBounds_toArray, mcells_set o gr gu room n hb] at k
    exact k
  · have k := (((h2.far (p := ⟨gu, p, none⟩) n3 (.bool v)).set_ (p * 2) (.int .i64 r.1)).set_ (p * 2 + 1) (.int .u32 r.2)).far (p := ⟨g, b, none⟩) (Ne.symm n1) (.int .u16 (n : Int))
    rw [List.setIfInBounds_toArray, List.setIfInBounds_toArray, rcells_set o room p r hp] at k
    exact k
  · have k := (((h3.set_ p (.bool v)).far (p := ⟨gr, p * 2, none⟩) (Ne.symm n3) (.int .i64 r.1)).far (p := ⟨gr, p * 2 + 1, none⟩) (Ne.symm n3) (.int .u32 r.2)).far (p := ⟨g, b, none⟩) (Ne.symm n2) (.int .u16 (n : Int))
    rw [List.setIfInBounds_toArray, ucells_set] at k
    exact k
def MEnd (v : Value) (g gr gu room : Nat) (o : ManyO) (w : World) (e : Ending) (w' : World) : Prop := e = .returned v ∧ MBlk w' g gr gu room o ∧ Three g gr gu w w'
set_option maxHeartbeats 3200000 in
set_option maxRecDepth 100000 in
theorem mlay_yes (g gr gu room : Nat) (o : ManyO) (b : Nat) (r : Int × Int) (w : World) (h : MBlk w g gr gu room o) (hb : b < 256) (hroom : room ≤ 256) (hfree : o.free room < room) :
    Calls Try.prog 56 #[.pointer (some ⟨g, 0, none⟩), .int .i64 (b : Int), refV r] w (MEnd (.bool true) g gr gu room (((o.setUsed (o.free room) true).setRef (o.free room) r).setAt b (o.free room + 1)) w) := by
  have hI := fun V (hV : MBlk V g gr gu room o) => sindex gu room o V (fun p hp => hV.us hp) hroom
  have hix : o.ix room = (o.free room : Int) := by unfold ManyO.ix; rw [if_pos hfree]
  rw [hix] at hI
  have HW := Lib.hid (h.wrote (n := o.free room + 1) true r hb hfree)
  have hat := h.at_ hb
  obtain ⟨c1, c2⟩ := h.sl
  obtain ⟨c3, c4⟩ := h.ref hfree
  have c5 := h.us hfree
  have l1 := h.1.lt
  have l2 := h.2.1.lt
  have l3 := h.2.2.lt
  have f1 := h.1.frozen b
  have f2 := h.2.1.frozen (o.free room * 2)
  have f3 := h.2.1.frozen (o.free room * 2 + 1)
  have f4 := h.2.2.frozen (o.free room)
  have n1 : g ≠ gr := blk_neF h.1 h.2.1 (by decide)
  have n2 : g ≠ gu := blk_neF h.1 h.2.2 (by decide)
  have n3 : gr ≠ gu := blk_neF h.2.1 h.2.2 (by decide)
  have HI := Lib.hid (hI (w.alloc (.cells #[.int .i64 r.1, .int .u32 r.2] 31)) (h.alloc _))
  clear hI hix
  generalize o.free room = p at *
  have i1 : (0 : Int) ≤ (b : Int) := by omega
  have i2 : (b : Int) < 256 := by omega
  have i3 : (0 : Int) ≤ (p : Int) := by omega
  have i4 : (p : Int) < (room : Int) := by omega
  have i5 : ¬ ((p : Int) < 0) := by omega
  have s1 : IntKind.i64.wrap ((p : Int) + 1) = (p : Int) + 1 := IntWalk.i64_in _ (by omega)
  have s2 : IntKind.u16.wrap ((p : Int) + 1) = (p : Int) + 1 := IntWalk.u16_in _ (by omega)
  have H := Lib.hid h
  clear h
  go_enter Try.func56, Try.ntmps56
  go_wp2_with fail
  refine HI.out.mono ?_
  rintro e w1 ⟨rfl, rfl⟩
  clear HI
  go_wp2_with fail
  go_region
  all_goals
    go_wp2
    go_ret
    exact ⟨rfl, (HW.out.alloc _).drew, ((((((Three.refl g gr gu w).setCell ⟨gu, p, none⟩ _ (.inr (.inr (.inl rfl)))).setCell ⟨gr, p * 2, none⟩ _ (.inr (.inl rfl))).setCell ⟨gr, p * 2 + 1, none⟩ _ (.inr (.inl rfl))).setCell ⟨g, b, none⟩ _ (.inl rfl)).alloc _).drew⟩
set_option maxRecDepth 100000 in
theorem mlay_no (g gr gu room : Nat) (o : ManyO) (b : Nat) (r : Int × Int) (w : World) (h : MBlk w g gr gu room o) (hroom : room ≤ 256) (hfree : ¬ o.free room < room) :
    Calls Try.prog 56 #[.pointer (some ⟨g, 0, none⟩), .int .i64 (b : Int), refV r] w (MEnd (.bool false) g gr gu room o w) := by
  have hI := fun V (hV : MBlk V g gr gu room o) => sindex gu room o V (fun p hp => hV.us hp) hroom
  have hix : o.ix room = -1 := by unfold ManyO.ix; rw [if_neg hfree]
  rw [hix] at hI
  obtain ⟨c1, c2⟩ := h.sl
  have l1 := h.1.lt
  have HI := Lib.hid (hI (w.alloc (.cells #[.int .i64 r.1, .int .u32 r.2] 31)) (h.alloc _))
  have H := Lib.hid h
  clear hI hix h hfree
  go_enter Try.func56, Try.ntmps56
  go_wp2_with fail
  refine HI.out.mono ?_
  rintro e w1 ⟨rfl, rfl⟩
  clear HI
  go_wp2
  go_ret
  exact ⟨rfl, H.out.alloc _, (Three.refl g gr gu w).alloc _⟩
set_option maxHeartbeats 3200000 in
set_option maxRecDepth 100000 in
theorem mlift (g gr gu room : Nat) (o : ManyO) (b p : Nat) (w : World) (h : MBlk w g gr gu room o) (hb : b < 256) (hroom : room ≤ 256) (hp : p < room) (hat : o.at_ b = p + 1) :
    Calls Try.prog 47 #[.pointer (some ⟨g, 0, none⟩), .int .i64 (b : Int)] w (MEnd (refV (o.refs p)) g gr gu room (((o.setUsed p false).setRef p (0, 0)).setAt b 0) w) := by
  have c0 := h.at_ hb
  rw [hat] at c0
  have c0' : w.cell? ⟨g, b, none⟩ = some (.int .u16 ((p : Int) + 1)) := by rw [c0]; simp
  obtain ⟨c1, c2⟩ := h.sl
  obtain ⟨c3, c4⟩ := h.ref hp
  have c5 := h.us hp
  have l1 := h.1.lt
  have l2 := h.2.1.lt
  have l3 := h.2.2.lt
  have f1 := h.1.frozen b
  have f2 := h.2.1.frozen (p * 2)
  have f3 := h.2.1.frozen (p * 2 + 1)
  have f4 := h.2.2.frozen p
  have n1 : g ≠ gr := blk_neF h.1 h.2.1 (by decide)
  have n2 : g ≠ gu := blk_neF h.1 h.2.2 (by decide)
  have n3 : gr ≠ gu := blk_neF h.2.1 h.2.2 (by decide)
  have i1 : (0 : Int) ≤ (b : Int) := by omega
  have i2 : (b : Int) < 256 := by omega
  have i3 : (0 : Int) ≤ (p : Int) := by omega
  have i4 : (p : Int) < (room : Int) := by omega
  have i5 : (p : Int) + 1 - 1 = (p : Int) := by omega
  have sw : IntKind.u16.wrap ((p : Int) + 1 - 1) = (p : Int) := by rw [i5]; exact IntWalk.u16_in _ (by omega)
  have sw2 : IntKind.u16.wrap (p : Int) = (p : Int) := IntWalk.u16_in _ (by omega)
  have HW := Lib.hid (h.wrote (n := 0) false (0, 0) hb hp)
  clear h c0 hat
  generalize hq : o.refs p = q at *
  go_enter Try.func47, Try.ntmps47
  go_wp2_with fail
  go_region
  all_goals
    go_wp2_with fail
    refine bodyPost_ret (v := refV q) (by simp [results, Try.results47, go_sem, *]) rfl ⟨rfl, ((HW.out.alloc _).alloc _).drew, (((((((Three.refl g gr gu w).setCell ⟨gu, p, none⟩ _ (.inr (.inr (.inl rfl)))).setCell ⟨gr, p * 2, none⟩ _ (.inr (.inl rfl))).setCell ⟨gr, p * 2 + 1, none⟩ _ (.inr (.inl rfl))).setCell ⟨g, b, none⟩ _ (.inl rfl)).alloc _).alloc _).drew⟩
end Go.Proofs.Ytmcpfhhggapkcaa
