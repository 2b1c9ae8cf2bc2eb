/-
  Walks: burgagelaw27.Made.
-/
import Derived.Test.YtlmehmmdbdembaaAppW
import Derived.Laws.BitsAllLaws
namespace Go.Proofs.Ytlmehmmdbdembaa
open Go.RowKit
set_option linter.unusedVariables false
set_option linter.unusedSimpArgs false

/-- A part of a code, by a path: 0 the first of two, 1 the second, 2 inside, 3 then, 4 else. -/
def sub : List Nat → Code → Code
  | [], c => c
  | 0 :: l, .seq a _ => sub l a
  | 1 :: l, .seq _ b => sub l b
  | 2 :: l, .block _ c => sub l c
  | 2 :: l, .loop c => sub l c
  | 2 :: l, .scope c => sub l c
  | 3 :: l, .cond _ a _ => sub l a
  | 4 :: l, .cond _ _ b => sub l b
  | _ :: _, c => c
noncomputable def part (f : Func) (l : List Nat) : Code := sub l (f.body.getD .skip)

/-- A code of six numbers. -/
structure Cod where
  s : Int
  d : Int
  k : Int
  v : Int
  h : Int
  x : Int
def Cod.row (c : Cod) : List Value := [.int .u8 c.s, .int .u8 c.d, .int .u8 c.k, .int .u8 c.v, .int .u8 c.h, .int .u8 c.x]
structure Cod.ok (c : Cod) : Prop where
  s : 0 ≤ c.s ∧ c.s ≤ 255
  d : 0 ≤ c.d ∧ c.d ≤ 255
  k : 0 ≤ c.k ∧ c.k ≤ 255
  v : 0 ≤ c.v ∧ c.v ≤ 255
  h : 0 ≤ c.h ∧ c.h ≤ 255
  x : 0 ≤ c.x ∧ c.x ≤ 255
theorem Cod.row_len (c : Cod) : c.row.length = 6 := rfl

/-- A request as Made makes it: small numbers, short texts. -/
structure Small (r : Req) : Prop where
  deed : 1 ≤ r.deed ∧ r.deed ≤ 10
  ten : 0 ≤ r.ten ∧ r.ten ≤ 2
  gen : 0 ≤ r.gen ∧ r.gen ≤ 2
  rig : 0 ≤ r.rig ∧ r.rig ≤ 7
  key : r.key.size ≤ 22
  val : r.val.size ≤ 2
  old : r.old.size ≤ 2
  lim : 0 ≤ r.lim ∧ r.lim ≤ 4
  tenant : 0 ≤ r.tenant ∧ r.tenant ≤ 2
  qk : 0 ≤ r.qk ∧ r.qk ≤ 9
  qb : 0 ≤ r.qb ∧ r.qb ≤ 90
  rights : 0 ≤ r.rights ∧ r.rights ≤ 8
theorem Small.ok {r : Req} (h : Small r) : r.ok := by
  obtain ⟨h1, h2, h3, h4, h5, h6, h7, h8, h9, h10, h11, h12⟩ := h
  exact ⟨⟨by omega, by omega⟩, ⟨by omega, by omega⟩, ⟨by omega, by omega⟩, ⟨by omega, by omega⟩, by omega, by omega, by omega, ⟨by omega, by omega⟩, ⟨by omega, by omega⟩, ⟨by omega, by omega⟩, ⟨by omega, by omega⟩, ⟨by omega, by omega⟩⟩

theorem own_farM {w : World} {base size n g : Nat} {e : TypeId} {v : Value} {xs : List Value} (h : w.ownsRow base e size v n xs) (hg : v.ownBlock ≠ some g) (p : Nat) (u : Value) : (w.setCell ⟨g, p, none⟩ u).ownsRow base e size v n xs := by
  refine ⟨h.1, ?_⟩
  rcases h.2 with h0 | ⟨g', cap, cur, hv, hb, hh, rest⟩
  · exact Or.inl h0
  · refine Or.inr ⟨g', cap, cur, hv, hb, ?_, rest⟩
    refine (Below.heap_setCell w ⟨g, p, none⟩ u g' ?_).trans hh
    intro e
    simp only at e
    exact hg (by rw [hv, e]; rfl)

/-- The words that keys are taken from. -/
def kws : Array Value := #[.string ⟨#[97]⟩, .string ⟨#[98]⟩, .string ⟨#[97, 98]⟩, .string ⟨#[]⟩, .string ⟨#[97, 0]⟩, .string ⟨#[97, 98, 99, 100]⟩, .string ⟨#[97, 99]⟩, .string ⟨#[98]⟩]

/-- What holds ahead of a request's making. -/
def M0 (w : World) (gk gc : Nat) (v : Value) (n : Nat) (xs : List Value) (c : Cod) (W : World) : Prop :=
  Blk W gk 9 kws ∧ Blk W gc 92 c.row.toArray ∧ W.ownsRow w.heap.size 46 13 v n xs ∧ Below w.heap.size w W
/-- What holds in a round's midst. -/
def MIn (w : World) (gk gc gr : Nat) (v : Value) (n : Nat) (xs : List Value) (c : Cod) (r : Req) (W : World) : Prop :=
  M0 w gk gc v n xs c W ∧ Blk W gr 31 r.row.toArray ∧ w.heap.size ≤ gr
theorem M0.alloc {w W : World} {gk gc n : Nat} {v : Value} {xs : List Value} {c : Cod} (h : M0 w gk gc v n xs c W) (o : Obj) : M0 w gk gc v n xs c (W.alloc o) :=
  ⟨h.1.alloc o, h.2.1.alloc o, h.2.2.1.alloc o, below_alloc h.2.2.2 o⟩
theorem MIn.alloc {w W : World} {gk gc gr n : Nat} {v : Value} {xs : List Value} {c : Cod} {r : Req} (h : MIn w gk gc gr v n xs c r W) (o : Obj) : MIn w gk gc gr v n xs c r (W.alloc o) :=
  ⟨h.1.alloc o, h.2.1.alloc o, h.2.2⟩
theorem blk_ne {w : World} {g g' : Nat} {t t' : TypeId} {cs cs' : Array Value} (h : Blk w g t cs) (h' : Blk w g' t' cs') (hne : t ≠ t') : g ≠ g' := by
  rintro rfl
  unfold Blk at h h'
  rw [h] at h'
  simp only [Option.some.injEq, Obj.cells.injEq] at h'
  exact hne h'.2.1
theorem MIn.store {w W : World} {gk gc gr n : Nat} {v : Value} {xs : List Value} {c : Cod} {r : Req} (h : MIn w gk gc gr v n xs c r W) (i : Nat) {u : Value} {r' : Req} (e : r.row.toArray.setIfInBounds i u = r'.row.toArray) :
    MIn w gk gc gr v n xs c r' (W.setCell ⟨gr, i, none⟩ u) := by
  obtain ⟨⟨h1, h2, h3, h4⟩, h5, h6⟩ := h
  refine ⟨⟨h1.far (p := ⟨gr, i, none⟩) (blk_ne h1 h5 (by decide)) u, h2.far (p := ⟨gr, i, none⟩) (blk_ne h2 h5 (by decide)) u, own_farM h3 (own_blk_ne h3 h5 (by decide)) i u, h4.setCell (p := ⟨gr, i, none⟩) h6 u⟩, ?_, h6⟩
  have := h5.set_ i u
  rw [e] at this
  exact this
theorem cod_cells {c : Cod} {W : World} {g : Nat} {t : TypeId} (h : Blk W g t c.row.toArray) :
    W.cell? ⟨g, 0, none⟩ = some (.int .u8 c.s) ∧ W.cell? ⟨g, 1, none⟩ = some (.int .u8 c.d) ∧ W.cell? ⟨g, 2, none⟩ = some (.int .u8 c.k) ∧ W.cell? ⟨g, 3, none⟩ = some (.int .u8 c.v) ∧ W.cell? ⟨g, 4, none⟩ = some (.int .u8 c.h) ∧ W.cell? ⟨g, 5, none⟩ = some (.int .u8 c.x) :=
  ⟨h.cell 0, h.cell 1, h.cell 2, h.cell 3, h.cell 4, h.cell 5⟩
theorem kw_cells {W : World} {g : Nat} {t : TypeId} (h : Blk W g t kws) :
    W.cell? ⟨g, 0, none⟩ = some (.string ⟨#[97]⟩) ∧ W.cell? ⟨g, 1, none⟩ = some (.string ⟨#[98]⟩) ∧ W.cell? ⟨g, 2, none⟩ = some (.string ⟨#[97, 98]⟩) ∧ W.cell? ⟨g, 3, none⟩ = some (.string ⟨#[]⟩) ∧ W.cell? ⟨g, 4, none⟩ = some (.string ⟨#[97, 0]⟩) ∧ W.cell? ⟨g, 5, none⟩ = some (.string ⟨#[97, 98, 99, 100]⟩) ∧ W.cell? ⟨g, 6, none⟩ = some (.string ⟨#[97, 99]⟩) ∧ W.cell? ⟨g, 7, none⟩ = some (.string ⟨#[98]⟩) :=
  ⟨h.cell 0, h.cell 1, h.cell 2, h.cell 3, h.cell 4, h.cell 5, h.cell 6, h.cell 7⟩
theorem of_tmod {n : Int} {m : Int} (h0 : 0 ≤ n) (hm : 0 < m) : 0 ≤ n.tmod m ∧ n.tmod m < m := ⟨Int.tmod_nonneg _ h0, Int.tmod_lt_of_pos _ hm⟩
theorem and_one {x : Int} (h0 : 0 ≤ x) (h1 : x ≤ 255) : ∃ b : Int, bits BinOp.and IntKind.u8 x 1 = b ∧ 0 ≤ b ∧ b ≤ 1 := by
  have h := u8_and x 1 h0 (by omega) (by decide) (by decide)
  rw [show (1 : Int).toNat = 1 from rfl, Nat.and_one_is_mod] at h
  exact ⟨_, h, by omega, by omega⟩
theorem tmod_in {x : Int} (m : Int) (h0 : 0 ≤ x) (hm : 0 < m) : ∃ b : Int, x.tmod m = b ∧ 0 ≤ b ∧ b < m := ⟨_, rfl, Int.tmod_nonneg _ h0, Int.tmod_lt_of_pos _ hm⟩
end Go.Proofs.Ytlmehmmdbdembaa
