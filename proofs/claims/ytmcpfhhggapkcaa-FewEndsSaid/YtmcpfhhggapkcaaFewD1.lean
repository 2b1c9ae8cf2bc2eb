/-
  Layer 7: 'does'.
-/
import Derived.Test.YtmcpfhhggapkcaaFewC3
import Derived.Test.YtmcpfhhggapkcaaFewR2
import Derived.Test.YtmcpfhhggapkcaaFewR4
namespace Go.Proofs.Ytmcpfhhggapkcaa
open Go.RowKit Go.Shelf
set_option linter.unusedVariables false
set_option linter.unusedSimpArgs false

/-- Nothing old is changed but the blocks a and b. -/
structure Two (a b : Nat) (w w' : World) : Prop where
  os : w'.os = w.os
  tape : w'.tape = w.tape
  output : w'.output = w.output
  size : w.heap.size ≤ w'.heap.size
  block : ∀ k, k < w.heap.size → k ≠ a → k ≠ b → w'.heap[k]? = w.heap[k]?
theorem Two.below {a b : Nat} {w w' : World} (h : Below w.heap.size w w') : Two a b w w' := ⟨h.os, h.tape, h.output, h.size, fun k hk _ _ => h.block k hk⟩
theorem Two.grown {a b : Nat} {w w1 w2 : World} {row : Option Nat} (h : Two a b w w1) (hg : w1.grownBy w2 row) (hr : ∀ r, row = some r → r = a ∨ r = b ∨ w.heap.size ≤ r) : Two a b w w2 :=
  ⟨hg.os.trans h.os, hg.tape.trans h.tape, hg.output.trans h.output, Nat.le_trans h.size hg.size, fun k hk h1 h2 => (hg.block k (Nat.lt_of_lt_of_le hk h.size) (fun e => by rcases hr k e.symm with h | h | h <;> omega)).trans (h.block k hk h1 h2)⟩
theorem Two.more {a b : Nat} {w w1 w2 : World} (h : Two a b w w1) (hb : Below w1.heap.size w1 w2) : Two a b w w2 := h.grown (grown_none_below_ hb) (fun r e => by cases e)
  where grown_none_below_ {W V : World} (h : Below W.heap.size W V) : W.grownBy V none := ⟨h.os, h.tape, h.output, h.size, fun k hk _ => h.block k hk⟩
theorem Two.drew {a b : Nat} {w w1 : World} (h : Two a b w w1) : Two a b w w1.drew := ⟨h.os, h.tape, h.output, h.size, h.block⟩
theorem Two.drewN {a b : Nat} {w w1 : World} (h : Two a b w w1) (k : Nat) : Two a b w (w1.drewN k) := ⟨h.os, h.tape, h.output, h.size, h.block⟩
def DoesEnd (gk gr : Nat) (room : Int) (w : World) (e : Ending) (w' : World) : Prop := ∃ gk' f', e = .returned (.tuple #[.pointer (some ⟨gk', 0, none⟩), .bool true]) ∧ FewAt w' gk' room f' ∧ RefAt w' gr room f' ∧ Two gk gr w w' ∧ (gk' = gk ∨ w.heap.size ≤ gk')
/-- What 'does' knows of its world. -/
def DoI (w : World) (gk gr g3 g5 : Nat) (room : Int) (f : Kids) (deed : Array Value) (W : World) : Prop := Blk W g3 24 #[.pointer (some ⟨gk, 0, none⟩)] ∧ Blk W g5 57 deed ∧ FewAt W gk room f ∧ RefAt W gr room f ∧ Two gk gr w W
theorem DoI.below {w W W' : World} {gk gr g3 g5 : Nat} {room : Int} {f : Kids} {deed : Array Value} (h : DoI w gk gr g3 g5 room f deed W) (hb : Below W.heap.size W W') : DoI w gk gr g3 g5 room f deed W' :=
  ⟨h.1.below hb h.1.lt, h.2.1.below hb h.2.1.lt, h.2.2.1.below hb, h.2.2.2.1.below hb, h.2.2.2.2.more hb⟩
theorem DoI.alloc {w W : World} {gk gr g3 g5 : Nat} {room : Int} {f : Kids} {deed : Array Value} (h : DoI w gk gr g3 g5 room f deed W) (o : Obj) : DoI w gk gr g3 g5 room f deed (W.alloc o) := h.below (below_box W o)
theorem DoI.drew {w W : World} {gk gr g3 g5 : Nat} {room : Int} {f : Kids} {deed : Array Value} (h : DoI w gk gr g3 g5 room f deed W) : DoI w gk gr g3 g5 room f deed W.drew :=
  ⟨h.1.drew, h.2.1.drew, h.2.2.1.drew, h.2.2.2.1.drew, h.2.2.2.2.drew⟩
theorem DoI.drewN {w W : World} {gk gr g3 g5 : Nat} {room : Int} {f : Kids} {deed : Array Value} (h : DoI w gk gr g3 g5 room f deed W) (k : Nat) : DoI w gk gr g3 g5 room f deed (W.drewN k) := by
  obtain ⟨h1, h2, ⟨o, a1, a2, a3, a4⟩, ⟨o', b1, b2⟩, h5⟩ := h
  exact ⟨h1.drewN k, h2.drewN k, ⟨o, a1, a2, a3, a4.drewN k⟩, ⟨o', b1.drewN k, b2⟩, h5.drewN k⟩
theorem FewAt.ne_ref {W : World} {g g' : Nat} {room room' : Int} {f f' : Kids} (h : FewAt W g room f) (h' : RefAt W g' room' f') : g ≠ g' := by
  obtain ⟨o, _, _, _, h1⟩ := h
  obtain ⟨rs, h2, _⟩ := h'
  exact blk_neF h1 h2 (by decide)
theorem FewAt.ne_blk {W : World} {g g' : Nat} {room : Int} {f : Kids} {t : TypeId} {cs : Array Value} (h : FewAt W g room f) (h' : Blk W g' t cs) (hne : 66 ≠ t) : g ≠ g' := by
  obtain ⟨o, _, _, _, h1⟩ := h
  exact blk_neF h1 h' hne
theorem RefAt.ne_blk {W : World} {g g' : Nat} {room : Int} {f : Kids} {t : TypeId} {cs : Array Value} (h : RefAt W g room f) (h' : Blk W g' t cs) (hne : 97 ≠ t) : g ≠ g' := by
  obtain ⟨rs, h1, _⟩ := h
  exact blk_neF h1 h' hne
/-- Behind a method of the row; behind one of the reference. -/
theorem DoI.few {w W W' : World} {gk gr g3 g5 : Nat} {room : Int} {f f' : Kids} {deed : Array Value} (h : DoI w gk gr g3 g5 room f deed W) (hf : FewAt W' gk room f') (hg : W.grownBy W' (some gk)) :
    Blk W' g3 24 #[.pointer (some ⟨gk, 0, none⟩)] ∧ Blk W' g5 57 deed ∧ FewAt W' gk room f' ∧ RefAt W' gr room f ∧ Two gk gr w W' := by
  obtain ⟨h1, h2, h3, h4, h5⟩ := h
  exact ⟨h1.grown hg (fun e => h3.ne_blk h1 (by decide) (by injection e with e; exact e.symm)), h2.grown hg (fun e => h3.ne_blk h2 (by decide) (by injection e with e; exact e.symm)), hf, h4.kept hg (fun e => h3.ne_ref h4 (by injection e with e; exact e.symm)), h5.grown hg (fun r e => by injection e with e; exact .inl e.symm)⟩
theorem DoI.ref {w W W' : World} {gk gr g3 g5 : Nat} {room : Int} {f0 f' : Kids} {deed : Array Value} (h : Blk W g3 24 #[.pointer (some ⟨gk, 0, none⟩)] ∧ Blk W g5 57 deed ∧ FewAt W gk room f' ∧ RefAt W gr room f0 ∧ Two gk gr w W) (hf : RefAt W' gr room f') (hg : W.grownBy W' (some gr)) : DoI w gk gr g3 g5 room f' deed W' := by
  obtain ⟨h1, h2, h3, h4, h5⟩ := h
  exact ⟨h1.grown hg (fun e => h4.ne_blk h1 (by decide) (by injection e with e; exact e.symm)), h2.grown hg (fun e => h4.ne_blk h2 (by decide) (by injection e with e; exact e.symm)), h3.kept hg (fun e => h3.ne_ref h4 (by injection e)), hf, h5.grown hg (fun r e => by injection e with e; exact .inr (.inl e.symm))⟩
theorem do_cells {W : World} {g3 g5 gk : Nat} {what from_ b : Int} {r : Int × Int} (h1 : Blk W g3 24 #[.pointer (some ⟨gk, 0, none⟩)]) (h2 : Blk W g5 57 #[.int .i64 what, .int .u8 b, .int .i64 from_, .int .i64 r.1, .int .u32 r.2]) :
    W.cell? ⟨g3, 0, none⟩ = some (.pointer (some ⟨gk, 0, none⟩)) ∧ W.cell? ⟨g5, 1, none⟩ = some (.int .u8 b) ∧ W.cell? ⟨g5, 3, none⟩ = some (.int .i64 r.1) ∧ W.cell? ⟨g5, 4, none⟩ = some (.int .u32 r.2) :=
  ⟨h1.cell 0, h2.cell 1, h2.cell 3, h2.cell 4⟩
end Go.Proofs.Ytmcpfhhggapkcaa
