/-
  General lemmas, over any program: from 'the call returns true and changes nothing that was there' to the statement of a law; arguments that are read as flat rows of integers, bools and strings; slices of such rows. No conditions of their own.
  Maps with integer keys that the code makes and asks: inserts of new keys, lookups. Over any program.
  Layer 27: what a book and a model are in memory; which blocks a call may write (over any program of this seat).
  Layer 27: a map with string keys: looked up, stored into, an entry deleted (over any program).
  Layer 27: book: none, size, short, may.
  Layer 27: contracts of the library, laid at this program (slices of strings: BinarySearch, Insert, Delete, Clone; maps.Clone).
  Layer 27: strings in order; a book's pairs by rising keys (no program in sight).
-/
import Derived.Test.YtkgflepgkhnclaaGreatDoorRows
import Derived.WalkKit
import Derived.ProofKit
import Derived.WalkSpells
import Derived.WalkLawsBesides
import Derived.Below
import Derived.Deep.Slices
import Derived.Deep.Draws
import Derived.Deep.AppendLies
import Derived.Laws.OwnMore
import Derived.SizedLaws
import Derived.BigQuiet
import Derived.Deep.QuietTactic
import Derived.Lib.Hide
import Derived.IntWalk
import Derived.Deep.RegionWith
import Derived.Deep.RegionHeld3
import Derived.Deep.RegionLaw
import Derived.Deep.DeepCutAuto
import Derived.Deep.DeepFit
import Derived.BigRegion
import Derived.StillTailTactics
import Derived.Outline
import Derived.Carry
import Derived.MapKept
import Derived.ChangeMaps5
import Derived.Shelf.Spec.SearchS
import Derived.Shelf.Spec.SlicesInsert
import Derived.Shelf.SlGeneric
import Derived.Shelf.Slices.Cells
import Derived.Shelf.Slices.Clone
import Derived.Shelf.Slices.Empties
import Derived.Shelf.SlMaps.Clone
import Derived.Shelf.Spec.SlicesInsertGrow
import Derived.Lib.SlicesS
namespace Go.Proofs.YtkgflepgkhnclaaGreatDoor
open Go.ChangeShapes Go.WideShapes Go.ChangeAt Go.RowKit
set_option linter.unusedVariables false

/-! ### From a walk to a law's statement -/
section
variable {H : Type} {enc : TypeId × Value → H} {P : Program}

theorem trodAll_below (hl : laidOutB P = true) {W W' : World} (hb : Below W.heap.size W W') : ∀ {ts : List TypeId} {vs : List Value} {ds : List (DataW H)} {ps : List MemPlace},
    (∀ t ∈ ts, P.readableRec t = true ∧ t < P.types.size) → DataW.TrodAll enc P W 0 (fun _ => true) true ts vs ds ps →
    DataW.TrodAll enc P W' 0 (fun b => decide (b < W.heap.size)) true ts vs ds ps
  | [], _, _, _, _, h => by
    obtain ⟨rfl, rfl, rfl⟩ := trodAll_nil h
    exact trodAll_mk0
  | t :: ts, _, _, _, hr, h => by
    obtain ⟨v, vs1, d, ds1, a, b, rfl, rfl, rfl, h1, h2⟩ := trodAll_cons h
    have lt : ∀ x ∈ a, x.block < W.heap.size := by obtain ⟨m, hm⟩ := h1; exact DataW.trod_lt m _ _ _ hm
    exact ⟨a, b, Below.trod hl (hr t (by simp)).1 (hr t (by simp)).2 h1 hb lt, trodAll_below hl hb (fun t ht => hr t (by simp [ht])) h2, rfl⟩

theorem trodAll_length {w : World} {base : Nat} {spare : Nat → Bool} {held : Bool} : ∀ {ts : List TypeId} {vs : List Value} {ds : List (DataW H)} {ps : List MemPlace},
    DataW.TrodAll enc P w base spare held ts vs ds ps → ds.length = ts.length ∧ vs.length = ts.length
  | [], _, _, _, h => by
    obtain ⟨rfl, rfl, rfl⟩ := trodAll_nil h
    exact ⟨rfl, rfl⟩
  | t :: ts, _, _, _, h => by
    obtain ⟨v, vs1, d, ds1, a, b, rfl, rfl, rfl, h1, h2⟩ := trodAll_cons h
    have := trodAll_length h2
    exact ⟨by simp [this.1], by simp [this.2]⟩

/-- What a law's walk shows: true, and nothing that was there has changed. -/
def LawCalls (P : Program) (n : FuncId) (W : World) (args : Array Value) : Prop :=
  Calls P n args W fun e W' => e = .returned (.bool true) ∧ Below W.heap.size W W'

theorem law_post {fn : Func} {s : ChangeSpec} {n : FuncId} {tb : TypeId} {W : World} {args : Array Value} {ds gs : List (DataW H)} {before : List MemPlace}
    (hl : laidOutB P = true) (hv : s.vars = []) (hres : fn.resultTypes = #[tb]) (htb : P.underlying tb = some .bool)
    (hr : fn.params.toList.all (fun t => P.readableRec t && decide (t < P.types.size)) = true)
    (hs : ds.length = fn.params.toList.length → s.fn H ds = { results := [.lit (.bool true)], args := ds })
    (hW : DataW.Whole enc P fn.params.toList s.vars false W args.toList ds gs before) (h : LawCalls P n W args) :
    Calls P n args W fun e W' => ∃ v, e = .returned v ∧ s.post enc P fn false true false false W args v W' := by
  refine Calls.mono h fun e W' ⟨he, bel⟩ => ⟨_, he, ?_⟩
  have hW' := hW
  obtain ⟨p, q, hA, hV, rfl, hfz, hnd⟩ := hW
  rw [hv] at hV
  obtain ⟨rfl, rfl⟩ := trodVars_none hV
  have hlen := (trodAll_length hA).1
  have hsd := hs hlen
  have hargs := trodAll_below hl bel (fun t ht => by have := List.all_eq_true.1 hr t ht; simpa using this) hA
  simp only [ChangeSpec.post, ChangeSpec.post] at *
  refine ⟨ds, [], p ++ [], [], p, [], hW', ?_, ?_, ?_, bel.frame _, fun h => by cases h⟩
  · rw [List.append_nil, hsd, hres]
    exact trodAll_mk1 (shut_bool htb _)
  · rw [List.append_nil, hsd]
    exact hargs
  · rw [hv, List.append_nil, hsd]; rfl
end

/-! ### Flat types: rows of integers, bools and strings -/

/-- A cell of a flat type. -/
inductive L0 where
  | int (k : IntKind)
  | bool
  | str

def L0.ok : L0 → Value → Prop
  | .int k, v => ∃ n : Int, v = .int k n ∧ (Lit.int k n).wf = true
  | .bool, v => ∃ b : Bool, v = .bool b
  | .str, v => ∃ s : ByteArray, v = .string s ∧ s.size ≤ maxLen

def Flat : List L0 → List Value → Prop
  | [], [] => True
  | l :: ls, v :: vs => l.ok v ∧ Flat ls vs
  | _, _ => False

theorem Flat.length : ∀ {ls : List L0} {vs : List Value}, Flat ls vs → vs.length = ls.length
  | [], [], _ => rfl
  | _ :: _, _ :: _, h => by simp [Flat.length h.2]
  | [], _ :: _, h => h.elim
  | _ :: _, [], h => h.elim
theorem Flat.cons_inv {l : L0} {ls : List L0} {cs : List Value} (h : Flat (l :: ls) cs) : ∃ v vs, cs = v :: vs ∧ l.ok v ∧ Flat ls vs := by
  cases cs with
  | nil => exact h.elim
  | cons v vs => exact ⟨v, vs, rfl, h.1, h.2⟩
theorem Flat.nil_inv {cs : List Value} (h : Flat [] cs) : cs = [] := by
  cases cs with
  | nil => rfl
  | cons v vs => exact h.elim
theorem Flat.append : ∀ {a b : List L0} {cs ds : List Value}, Flat a cs → Flat b ds → Flat (a ++ b) (cs ++ ds)
  | [], _, [], _, _, h => h
  | _ :: _, _, _ :: _, _, h, k => ⟨h.1, Flat.append h.2 k⟩
  | [], _, _ :: _, _, h, _ => h.elim
  | _ :: _, _, [], _, h, _ => h.elim

/-- The cells of the fields, one after the other, if they lie so. -/
def leavesFields (f : TypeId → Option (List L0)) : Nat → List Field → Option (List L0)
  | _, [] => some []
  | off, g :: gs => if g.offset = off then
      match f g.type with
      | some a => (leavesFields f (off + a.length) gs).map (a ++ ·)
      | none => none
    else none

/-- The cells of a flat type. -/
def leaves (P : Program) : Nat → TypeId → Option (List L0)
  | 0, _ => none
  | d + 1, t => match P.underlying t with
    | some .bool => some [.bool]
    | some (.int k) => some [.int k]
    | some .string => some [.str]
    | some (.struct fs) => (leavesFields (fun u => match leaves P d u with
        | some a => if P.cellsOf u = a.length then some a else none
        | none => none) 0 fs.toList)
    | _ => none

section
variable {H : Type} {enc : TypeId × Value → H} {P : Program} {w : World} {base : Nat} {spare : Nat → Bool} {held : Bool}

theorem flat_fields {f : TypeId → Option (List L0)} {fuel : Nat} (hf : ∀ u a, f u = some a → P.cellsOf u = a.length ∧ ∀ cs x, DataW.trod enc P w base spare held fuel u cs = some x → Flat a cs) :
    ∀ {gs : List Field} {off : Nat} {ls : List L0} {cs : List Value}, leavesFields f off gs = some ls → off + ls.length = cs.length →
      (∀ g ∈ gs, ∃ x, DataW.trod enc P w base spare held fuel g.type ((cs.drop g.offset).take (P.cellsOf g.type)) = some x) → Flat ls (cs.drop off)
  | [], off, ls, cs, h, hl, _ => by
    simp only [leavesFields, Option.some.injEq] at h
    subst h
    have : cs.drop off = [] := by
      simp only [List.length_nil, Nat.add_zero] at hl
      rw [hl, List.drop_length]
    rw [this]
    trivial
  | g :: gs, off, ls, cs, h, hl, hg => by
    simp only [leavesFields] at h
    split at h
    · rename_i hoff
      cases ha : f g.type with
      | none => rw [ha] at h; cases h
      | some a =>
        rw [ha] at h
        simp only [Option.map_eq_some_iff] at h
        obtain ⟨ls', h', rfl⟩ := h
        obtain ⟨hc, hflat⟩ := hf _ _ ha
        obtain ⟨x, hx⟩ := hg g (by simp)
        have h1 := hflat _ _ hx
        rw [hoff, hc] at h1
        have h2 := flat_fields hf (cs := cs) h' (by rw [← hl, List.length_append]; omega) (fun g' hg' => hg g' (by simp [hg']))
        have e : cs.drop off = (cs.drop off).take a.length ++ cs.drop (off + a.length) := by
          rw [← List.drop_drop, List.take_append_drop]
        rw [e]
        exact h1.append h2
    · cases h

theorem leaves_trod : ∀ (d : Nat) (t : TypeId) (ls : List L0), leaves P d t = some ls → ∀ (fuel : Nat) (cs : List Value) (x : DataW H × List MemPlace),
    P.cellsOf t = ls.length → DataW.trod enc P w base spare held fuel t cs = some x → Flat ls cs
  | 0, _, _, h, _, _, _, _, _ => by cases h
  | d + 1, t, ls, h, fuel, cs, x, hc, ht => by
    simp only [leaves] at h
    cases hu : P.underlying t with
    | none => rw [hu] at h; cases h
    | some u =>
      rw [hu] at h
      cases u with
      | bool =>
        simp only [Option.some.injEq] at h
        subst h
        obtain ⟨b, hb, _⟩ := DataW.trod_bool hu ht
        subst hb
        exact ⟨⟨b, rfl⟩, trivial⟩
      | int k =>
        simp only [Option.some.injEq] at h
        subst h
        obtain ⟨n, hb, _, hw⟩ := DataW.trod_int hu ht
        subst hb
        exact ⟨⟨n, rfl, hw⟩, trivial⟩
      | string =>
        simp only [Option.some.injEq] at h
        subst h
        obtain ⟨n, hb, _, hw⟩ := DataW.trod_string hu ht
        subst hb
        exact ⟨⟨n, rfl, hw⟩, trivial⟩
      | struct fs =>
        simp only at h
        obtain ⟨xs, n, rfl, _, hlen, hxl, hg⟩ := DataW.trod_struct hu ht
        have := flat_fields (enc := enc) (P := P) (w := w) (base := base) (spare := spare) (held := held) (fuel := n) (cs := cs) (off := 0) (fun u a ha => by
          split at ha
          · rename_i b hb
            split at ha
            · rename_i hcb
              simp only [Option.some.injEq] at ha
              subst ha
              exact ⟨hcb, fun cs' x' hx' => leaves_trod d u _ hb n cs' x' hcb hx'⟩
            · cases ha
          · cases ha) h (by rw [hlen, hc]; omega) (fun g hg' => by
            obtain ⟨i, hi, he⟩ := List.getElem_of_mem hg'
            have hi' : fs[i]? = some g := by rw [← he]; simp at hi ⊢
            have h1 := hg i g hi'
            have hi2 : i < xs.length := by rw [hxl]; simpa using hi
            rw [List.getElem?_eq_getElem hi2] at h1
            exact ⟨_, h1⟩)
        simpa using this
      | _ => cases h

/-- A slice that lies in memory: its rows, each of as many cells as its list has. -/
def SliceRows (w : World) (A : Option Addr) (n cap sz : Nat) (rows : List (List Value)) : Prop :=
  rows.length = n ∧ n ≤ cap ∧ cap ≤ maxLen ∧ (∀ r ∈ rows, r.length = sz) ∧ (A = none → cap = 0) ∧
    ∀ i cs, rows[i]? = some cs → ∃ a, A = some a ∧ a.block < w.heap.size ∧ ∀ j u, cs[j]? = some u → w.cell? (a.add (i * sz + j)) = some u

/-- A slice of a flat element type. -/
theorem open_flat_slice {t e : TypeId} {ls : List L0} {fuel : Nat} {cs : List Value} {x : DataW H × List MemPlace} (ht : P.underlying t = some (.slice e)) (hls : leaves P 9 e = some ls) (hC : P.cellsOf e = ls.length) (hpos : 0 < ls.length)
    (h : DataW.trod enc P w base spare held fuel t cs = some x) :
    ∃ (A : Option Addr) (n cap : Nat) (rows : List (List Value)), cs = [.slice A n cap] ∧ SliceRows w A n cap ls.length rows ∧ (∀ r ∈ rows, Flat ls r) ∧ (∃ el sp, (x.1 = .nil ∧ n = 0 ∧ cap = 0) ∨ (x.1 = .slice el sp ∧ el.length = n)) := by
  rcases Go.Deep.open_slice ht h with ⟨rfl, rfl⟩ | ⟨a, len, cap, m, n, D, Pl, rfl, hb, hl, hm, hmm, rfl, hi⟩
  · exact ⟨none, 0, 0, [], rfl, ⟨rfl, Nat.le_refl _, Nat.zero_le _, by simp, fun _ => rfl, by simp⟩, by simp, [], [], .inl ⟨rfl, rfl, rfl⟩⟩
  · have hlm : len ≤ m := by rw [hmm]; split <;> omega
    obtain ⟨f, hf⟩ := Go.Deep.choose_lt (α := List Value) (n := len) (p := fun i cs' => w.cells? base (a.add (i * P.cellsOf e)) (P.cellsOf e) = some cs' ∧ Flat ls cs') (fun i hi' => by
      obtain ⟨cs', hc, ht'⟩ := hi i (by omega)
      exact ⟨cs', hc, leaves_trod 9 e ls hls n _ _ hC ht'⟩)
    refine ⟨some a, len, cap, (List.range len).map f, rfl, ⟨by simp, hl, hm, ?_, by simp, ?_⟩, ?_, (List.range len).map D, _, .inr ⟨rfl, by simp⟩⟩
    · intro r hr
      obtain ⟨i, hi', rfl⟩ := List.mem_map.1 hr
      exact (hf i (List.mem_range.1 hi')).2.length
    · intro i cs' hcs
      have hlt : i < len := by
        have := (List.getElem?_eq_some_iff.1 hcs).1
        simpa using this
      have he : cs' = f i := by simpa [hlt] using hcs.symm
      subst he
      obtain ⟨hc, hfl⟩ := hf i hlt
      obtain ⟨_, hcl, hat⟩ := World.cells?_some hc
      rw [hC] at hat
      have hcell : ∀ j u, (f i)[j]? = some u → w.cell? (a.add (i * ls.length + j)) = some u := by
        intro j u hj
        have hjl : j < ls.length := by rw [← hfl.length]; exact (List.getElem?_eq_some_iff.1 hj).1
        rw [← Go.Deep.add_add, hat j hjl, hj]
      refine ⟨a, rfl, ?_, hcell⟩
      have hfl0 : 0 < (f i).length := by rw [hfl.length]; exact hpos
      have h0 := hcell 0 _ (List.getElem?_eq_getElem hfl0)
      have hblk : (a.add (i * ls.length + 0)).block = a.block := by unfold Addr.add; split <;> rfl
      rw [← hblk]
      unfold World.cell? at h0
      rcases Nat.lt_or_ge (a.add (i * ls.length + 0)).block w.heap.size with hlt' | hge
      · exact hlt'
      · rw [Array.getElem?_eq_none hge] at h0; cases h0
    · intro r hr
      obtain ⟨i, hi', rfl⟩ := List.mem_map.1 hr
      exact (hf i (List.mem_range.1 hi')).2
end

/-! ### A slice that reads as a list (its cells), nil let in -/

theorem block_of_add (a : Addr) (n : Nat) : (a.add n).block = a.block := by unfold Addr.add; split <;> rfl
theorem add_of_add (a : Addr) (i j : Nat) : (a.add i).add j = a.add (i + j) := by
  unfold Addr.add
  by_cases hi : i = 0 <;> by_cases hj : j = 0 <;> simp [hi, hj, Nat.add_assoc]

/-- The slice '.slice A n c' holds the cells xs (size cells an element), and lies below block B. -/
def Reads (w : World) (B size : Nat) (A : Option Addr) (n : Nat) (xs : List Value) : Prop :=
  xs.length = n * size ∧ (0 < n → ∃ ad, A = some ad ∧ ad.block < B ∧ ∀ j u, xs[j]? = some u → w.cell? (ad.add j) = some u)

section
variable {w w' : World} {B B' size n : Nat} {A : Option Addr} {xs : List Value}
theorem Reads.keep (h : Reads w B size A n xs) (hk : ∀ p : Addr, p.block < B → w'.cell? p = w.cell? p) : Reads w' B size A n xs :=
  ⟨h.1, fun hn => by
    obtain ⟨ad, e, hb, hc⟩ := h.2 hn
    exact ⟨ad, e, hb, fun j u hu => (hk _ (by rw [block_of_add]; exact hb)).trans (hc j u hu)⟩⟩
theorem Reads.more (h : Reads w B size A n xs) (hB : B ≤ B') : Reads w B' size A n xs :=
  ⟨h.1, fun hn => by
    obtain ⟨ad, e, hb, hc⟩ := h.2 hn
    exact ⟨ad, e, by omega, hc⟩⟩
theorem Reads.below (h : Reads w B size A n xs) (hb : Below B w w') : Reads w' B size A n xs := h.keep fun _ hp => hb.cell hp
theorem Reads.drewN (h : Reads w B size A n xs) (k : Nat) : Reads (w.drewN k) B size A n xs := h
theorem Reads.alloc (h : Reads w B size A n xs) (hB : B ≤ w.heap.size) (o : Obj) : Reads (w.alloc o) B size A n xs := h.keep fun p hp => World.cell?_alloc_lt w o p (by omega)
theorem Reads.of_own {base : Nat} {e : TypeId} {c : Nat} (h : w.ownsRow base e size (.slice A n c) n xs) : Reads w w.heap.size size A n xs := by
  refine ⟨h.1, fun hn => ?_⟩
  obtain ⟨g, cap, hv, _, hlt⟩ := h.form hn
  have hA : A = some ⟨g, 0, none⟩ := by injection hv
  subst hA
  exact ⟨_, rfl, hlt, h.cells (g := g) rfl⟩
end

theorem below_drewN {B : Nat} {a w : World} (h : Below B a w) (n : Nat) : Below B a (w.drewN n) := ⟨h.os, h.tape, h.output, h.size, h.block⟩
theorem below_trans {W w1 w2 : World} (h : Below W.heap.size W w1) (k : Below w1.heap.size w1 w2) : Below W.heap.size W w2 := h.trans (k.mono h.size)

/-- Block g is just the cells cs of element type t, none frozen. -/
def Blk (w : World) (g : Nat) (t : TypeId) (cs : Array Value) : Prop := w.heap[g]? = some (.cells cs t (0, 0))

section
variable {w w' : World} {g : Nat} {t : TypeId} {cs : Array Value}
theorem Blk.lt (h : Blk w g t cs) : g < w.heap.size := by
  rcases Nat.lt_or_ge g w.heap.size with hlt | hge
  · exact hlt
  · unfold Blk at h; rw [Array.getElem?_eq_none hge] at h; cases h
theorem Blk.cell (h : Blk w g t cs) (i : Nat) : w.cell? ⟨g, i, none⟩ = cs[i]? := cell_of_row w g i cs t (0, 0) h
theorem Blk.frozen (h : Blk w g t cs) (i : Nat) : w.frozen? ⟨g, i, none⟩ = false := by
  unfold Blk at h
  simp [World.frozen?, h]
theorem Blk.new (w : World) (t : TypeId) (cs : Array Value) : Blk (w.alloc (.cells cs t)) w.heap.size t cs := heap_alloc_new w _
theorem Blk.drew (h : Blk w g t cs) : Blk w.drew g t cs := h
theorem Blk.drewN (h : Blk w g t cs) (n : Nat) : Blk (w.drewN n) g t cs := h
theorem Blk.alloc (h : Blk w g t cs) (o : Obj) : Blk (w.alloc o) g t cs := (Below.heap_alloc w o g h.lt).trans h
theorem Blk.set_ (h : Blk w g t cs) (i : Nat) (u : Value) : Blk (w.setCell ⟨g, i, none⟩ u) g t (cs.setIfInBounds i u) := by
  unfold Blk at h ⊢
  simp [World.setCell, Array.getElem?_modify, h]
theorem Blk.far (h : Blk w g t cs) {p : Addr} (hp : g ≠ p.block) (u : Value) : Blk (w.setCell p u) g t cs := (Below.heap_setCell w p u g hp).trans h
theorem Blk.below {B : Nat} (h : Blk w g t cs) (hb : Below B w w') (hg : g < B) : Blk w' g t cs := (hb.block g hg).trans h
theorem Blk.grown {row : Option Nat} (h : Blk w g t cs) (hb : w.grownBy w' row) (hg : some g ≠ row) : Blk w' g t cs := (hb.block g h.lt hg).trans h
theorem Blk.own {base size n c : Nat} {xs : List Value} (h : Blk w g t cs) (hb : base ≤ g) (hn : n ≤ c) (hc : c ≤ maxLen) (hs : cs.size = c * size) (hx : cs.toList.take (n * size) = xs) : w.ownsRow base t size (.slice (some ⟨g, 0, none⟩) n c) n xs := by
  refine ⟨?_, Or.inr ⟨g, c, cs, rfl, hb, h, hn, hc, hs, hx⟩⟩
  rw [← hx, List.length_take, Array.length_toList, hs]
  exact Nat.min_eq_left (Nat.mul_le_mul_right _ hn)
end

theorem ret_int {k : IntKind} {a b : Int} (h : a = b) : Ending.returned (.int k a) = .returned (.int k b) := by rw [h]
theorem ret_bool {a b : Bool} (h : a = b) : Ending.returned (.bool a) = .returned (.bool b) := by rw [h]

/-- An owned row's value, nil or not, in one form. -/
theorem own_form {w : World} {base size n : Nat} {e : TypeId} {v : Value} {xs : List Value} (h : w.ownsRow base e size v n xs) : ∃ A c, v = .slice A n c ∧ (A = none → n = 0 ∧ c = 0) ∧ n ≤ c ∧ c ≤ maxLen := by
  rcases h.2 with ⟨h0, h1⟩ | ⟨g, cap, _, hv, _, _, hn, hc, _⟩
  · subst h1; exact ⟨none, 0, h0, fun _ => ⟨rfl, rfl⟩, Nat.le_refl _, Nat.zero_le _⟩
  · exact ⟨_, cap, hv, (fun h => by cases h), hn, hc⟩
def u8s (l : List UInt8) : List Value := l.map fun b => .int .u8 (b.toNat : Int)
/-- 'string(b)' where b reads as the bytes l. -/
theorem run_string_of_reads {P : Program} {w : World} {B n cap : Nat} {A : Option Addr} {l : List UInt8} (src dst e : TypeId) (hs : P.underlying src = some (.slice e)) (he : P.underlying e = some (.int .u8)) (hd : P.underlying dst = some .string)
    (hA : A = none → cap = 0) (h : Reads w B 1 A n (u8s l)) : (convert src dst (.slice A n cap)).run P w = .ok (.string ⟨l.toArray⟩) w := by
  have hlen : l.length = n := by simpa [u8s] using h.1
  subst hlen
  rcases Nat.eq_zero_or_pos l.length with h0 | hpos
  · have hl : l = [] := List.length_eq_zero_iff.1 h0
    subst hl
    cases A with
    | none =>
      rw [run_convert_bytes_string w src dst e none _ cap hs he hd, hA rfl]
      rfl
    | some ad => exact run_convert_bytes_back w src dst e ad cap [] hs he hd (fun j hj => absurd hj (by simp))
  · obtain ⟨ad, rfl, _, hc⟩ := h.2 hpos
    exact run_convert_bytes_back w src dst e ad cap l hs he hd (fun j hj => hc j _ (by simp [u8s, hj]))

end Go.Proofs.YtkgflepgkhnclaaGreatDoor
namespace Go.Proofs.YtkgflepgkhnclaaGreatDoor
open Go.RowKit Go.MapKept Go.ChangeMaps
set_option linter.unusedVariables false

/-- Block b is a map with these keys and values, in the order in which they came. -/
def IntMap (kd : IntKind) (w : World) (b : Nat) (kvs : List (Int × Value)) : Prop :=
  ∃ es clock, w.heap[b]? = some (.map es clock) ∧ es.toList.map (fun e => (e.key, e.val)) = kvs.map (fun p => (Value.int kd p.1, p.2))

/-- What a map holds for a key; z if there is nothing. -/
def look (z : Value) (n : Int) : List (Int × Value) → Value
  | [] => z
  | p :: r => if p.1 = n then p.2 else look z n r
def hasKey (n : Int) (kvs : List (Int × Value)) : Bool := kvs.any (fun p => p.1 == n)

theorem findNow_int {kd q : IntKind} {n : Int} : ∀ (l : List MapEntry) (kvs : List (Int × Value)) (i : Nat), l.map (fun e => (e.key, e.val)) = kvs.map (fun p => (Value.int kd p.1, p.2)) →
    ∃ r, Instr.findNow (.int q) (.int kd n) l i = some r ∧ (hasKey n kvs = false → r = none) ∧ (hasKey n kvs = true → ∃ j, ∀ z, r = some (j, look z n kvs))
  | [], [], i, _ => ⟨none, rfl, fun _ => rfl, fun h => by cases h⟩
  | [], _ :: _, _, h => by simp at h
  | _ :: _, [], _, h => by simp at h
  | e :: l, p :: kvs, i, h => by
    simp only [List.map_cons, List.cons.injEq, Prod.mk.injEq] at h
    obtain ⟨⟨hk, hv⟩, hr⟩ := h
    obtain ⟨r, h1, h2, h3⟩ := findNow_int (q := q) (n := n) l kvs (i + 1) hr
    by_cases hp : p.1 = n
    · refine ⟨some (i, e.val), ?_, fun h => ?_, fun _ => ⟨i, fun z => ?_⟩⟩
      · simp [Instr.findNow, hk, Instr.sameNow, hp]
      · simp [hasKey, hp] at h
      · rw [look, if_pos hp, hv]
    · refine ⟨r, ?_, fun h => h2 ?_, fun h => ?_⟩
      · have : (n == p.1) = false := by simp; exact fun h => hp h.symm
        simp [Instr.findNow, hk, Instr.sameNow, this, h1]
      · simp only [hasKey, List.any_cons, Bool.or_eq_false_iff] at h
        exact h.2
      · obtain ⟨j, hj⟩ := h3 (by simpa [hasKey, hp] using h)
        exact ⟨j, fun z => by rw [look, if_neg hp]; exact hj z⟩

section
variable {P : Program} {w : World}

theorem run_lookup_intmap {kd q : IntKind} {b : Nat} {kvs : List (Int × Value)} {t k e : TypeId} {z : Value} {n : Int} (h : IntMap kd w b kvs) (ht : P.underlying t = some (.map k e)) (hk : P.underlying k = some (.int q)) (hq : q = kd)
    (hz : (zeroValue e).run P w = .ok z w) (ok : Bool) :
    (Instr.lookup t (.map (some b)) (.int kd n) ok).run P w = .ok (if ok then .tuple #[look z n kvs, .bool (hasKey n kvs)] else look z n kvs) w := by
  obtain ⟨es, clock, hb, he⟩ := h
  subst hq
  obtain ⟨r, h1, h2, h3⟩ := findNow_int (q := q) (n := n) es.toList kvs 0 he
  have hl : ∀ z, hasKey n kvs = false → look z n kvs = z := by
    intro z hn
    clear h2 h3 h1 he
    induction kvs with
    | nil => rfl
    | cons p r ih =>
      simp only [hasKey, List.any_cons, Bool.or_eq_false_iff, beq_eq_false_iff_ne] at hn
      rw [look, if_neg hn.1]
      exact ih hn.2
  have hkey : IsKey (.int q) (.int q n) := by simp [IsKey]
  have hfk := run_findKey (P := P) (w := w) hk h1
  have hck := run_checkKey (P := P) (w := w) hk hkey es.isEmpty 9999
  unfold Instr.lookup
  simp only [Sem.run_bind, run_underlying ht, Result.andThen, Go.MapKept.run_getObj_map hb, Sem.run_pure, hck, hfk]
  cases hn : hasKey n kvs with
  | false =>
    rw [h2 hn]
    simp only [Sem.run_bind, hz, Result.andThen, Sem.run_pure, hl z hn]
    first | done | (cases ok <;> rfl)
  | true =>
    obtain ⟨j, hj⟩ := h3 hn
    rw [hj z]
    cases ok <;> rfl

/-- An insert of a new key. -/
theorem insert_intmap {kd q : IntKind} {b : Nat} {kvs : List (Int × Value)} {t k e : TypeId} {n : Int} {v : Value} (h : IntMap kd w b kvs) (ht : P.underlying t = some (.map k e)) (hk : P.underlying k = some (.int q)) (hq : q = kd)
    (hn : hasKey n kvs = false) : ∃ w', (Instr.mapUpdate t (.map (some b)) (.int kd n) v).run P w = .ok () w' ∧ IntMap kd w' b (kvs ++ [(n, v)]) ∧ w.grownBy w' (some b) := by
  obtain ⟨es, clock, hb, he⟩ := h
  subst hq
  obtain ⟨r, h1, h2, _⟩ := findNow_int (q := q) (n := n) es.toList kvs 0 he
  obtain rfl := h2 hn
  have hkey : IsKey (.int q) (.int q n) := by simp [IsKey]
  have hfk := run_findKey (P := P) (w := w) hk h1
  have hck := run_checkKey (P := P) (w := w) hk hkey false 9999
  refine ⟨setBlock w b (.map (es.push { key := .int q n, val := v, born := clock }) (clock + 1)), ?_, ⟨_, _, heap_setBlock_same hb _, ?_⟩,
    ⟨rfl, rfl, rfl, by simp [setBlock], fun i _ hi => heap_setBlock_other hb _ (fun e => hi (by rw [e]))⟩⟩
  · unfold Instr.mapUpdate
    simp only [Sem.run_bind, run_underlying ht, Result.andThen, Go.MapKept.run_getObj_map hb, hck, hfk, Go.MapKept.run_setObj_map _ hb]
    rfl
  · simp [he]

theorem wpList_insert_intmap {ops : Array Oper} {rest : List Oper} {o : Oper} {a : Act} {Q : Exit → Act → World → Prop} (hg : o.guard = none) (m x v : Operand) (t : TypeId) (hop : o.op = Op.insert t m x v)
    (k e : TypeId) (kd q : IntKind) (ht : P.underlying t = some (.map k e)) (hk : P.underlying k = some (.int q)) (hq : q = kd) (b : Nat) (kvs : List (Int × Value)) (hm : a.eval m = .map (some b)) (h : IntMap kd w b kvs)
    (n : Int) (hx : a.eval x = .int kd n) (hn : hasKey n kvs = false) (val : Value) (hv : a.eval v = val)
    (hK : ∀ w', IntMap kd w' b (kvs ++ [(n, val)]) → w.grownBy w' (some b) → wpList P ops Q rest (a.put o.dst undef) w') : wpList P ops Q (o :: rest) a w := by
  refine wpList_plain hg fun K' hK' => ?_
  obtain ⟨w', hrun, r1, r2⟩ := insert_intmap (P := P) (v := val) h ht hk hq hn
  unfold Oper.wp
  simp [execOp, hop, hm, hx, hv, hrun, Result.andThen]
  exact hK' _ _ (hK w' r1 r2)

/-- The same, as an arm for all inserts of a map's literal. -/
theorem wpList_insert_lit {ops : Array Oper} {rest : List Oper} {o : Oper} {a : Act} {Q : Exit → Act → World → Prop} (W0 : World) (B : Nat) (hg : o.guard = none) (m x v : Operand) (t : TypeId) (hop : o.op = Op.insert t m x v)
    (k e : TypeId) (kd q : IntKind) (ht : P.underlying t = some (.map k e)) (hk : P.underlying k = some (.int q)) (hq : q = kd) (b : Nat) (kvs : List (Int × Value)) (hm : a.eval m = .map (some b)) (h : IntMap kd w b kvs) (hbel : Below B W0 w) (hB : B ≤ b)
    (n : Int) (hx : a.eval x = .int kd n) (hn : hasKey n kvs = false) (val : Value) (hv : a.eval v = val)
    (hK : ∀ w', IntMap kd w' b (kvs ++ [(n, val)]) → Below B W0 w' → wpList P ops Q rest (a.put o.dst undef) w') : wpList P ops Q (o :: rest) a w :=
  wpList_insert_intmap hg m x v t hop k e kd q ht hk hq b kvs hm h n hx hn val hv fun w' h1 h2 => hK w' h1 (hbel.trans ⟨h2.os, h2.tape, h2.output, h2.size, fun i hi => by
    rcases Nat.lt_or_ge i w.heap.size with h3 | h3
    · exact h2.block i h3 (fun e => by injection e with e; omega)
    · obtain ⟨_, _, hb, _⟩ := h
      have := (Array.getElem?_eq_some_iff.1 hb).1
      omega⟩)

theorem IntMap.made (kd : IntKind) (w : World) : IntMap kd (w.alloc (.map #[] 0)) w.heap.size [] := ⟨#[], 0, heap_alloc_new w _, rfl⟩
theorem IntMap.lt {kd : IntKind} {b : Nat} {kvs : List (Int × Value)} (h : IntMap kd w b kvs) : b < w.heap.size := by
  obtain ⟨es, clock, hb, _⟩ := h
  exact (Array.getElem?_eq_some_iff.1 hb).1
theorem IntMap.below {kd : IntKind} {b B : Nat} {kvs : List (Int × Value)} {w' : World} (h : IntMap kd w b kvs) (hb : Below B w w') (hB : b < B) : IntMap kd w' b kvs := by
  obtain ⟨es, clock, h1, h2⟩ := h
  exact ⟨es, clock, by rw [hb.block b hB]; exact h1, h2⟩
end

end Go.Proofs.YtkgflepgkhnclaaGreatDoor
namespace Go.Proofs.YtkgflepgkhnclaaGreatDoor
open Go.RowKit Go.Shelf
set_option linter.unusedVariables false
set_option linter.unusedSimpArgs false

def BoolB (b : Bool) (w : World) (e : Ending) (w' : World) : Prop := e = .returned (.bool b) ∧ Below w.heap.size w w'
def StayV (v : Value) (w : World) (e : Ending) (w' : World) : Prop := e = .returned v ∧ w' = w

/-- Block i holds bytes. -/
def U8 (w : World) (i : Nat) : Prop := ∃ cs fz, w.heap[i]? = some (.cells cs 5 fz)
/-- Of the blocks that were there only those in C have changed, and no block of bytes. -/
structure KeepC (C : Nat → Prop) (w w' : World) : Prop where
  os : w'.os = w.os
  tape : w'.tape = w.tape
  output : w'.output = w.output
  size : w.heap.size ≤ w'.heap.size
  block : ∀ i, i < w.heap.size → (¬ C i ∨ U8 w i) → w'.heap[i]? = w.heap[i]?
section
variable {C D : Nat → Prop} {w w' w'' : World}
theorem KeepC.refl (C : Nat → Prop) (w : World) : KeepC C w w := ⟨rfl, rfl, rfl, Nat.le_refl _, fun _ _ _ => rfl⟩
theorem KeepC.of_below (h : Below w.heap.size w w') : KeepC C w w' := ⟨h.os, h.tape, h.output, h.size, fun i hi _ => h.block i hi⟩
theorem U8.on {i : Nat} (h : U8 w i) (hk : w'.heap[i]? = w.heap[i]?) : U8 w' i := by
  obtain ⟨cs, fz, h⟩ := h
  exact ⟨cs, fz, hk.trans h⟩
theorem U8.lt {i : Nat} (h : U8 w i) : i < w.heap.size := by
  obtain ⟨cs, fz, h⟩ := h
  exact (Array.getElem?_eq_some_iff.1 h).1
theorem KeepC.trans (h : KeepC C w w') (k : KeepC D w' w'') (hD : ∀ i, i < w.heap.size → D i → C i) : KeepC C w w'' :=
  ⟨k.os.trans h.os, k.tape.trans h.tape, k.output.trans h.output, Nat.le_trans h.size k.size, fun i hi hc => by
    have h1 := h.block i hi hc
    rw [k.block i (Nat.lt_of_lt_of_le hi h.size) (hc.imp (fun a b => a (hD i hi b)) (fun a => a.on h1)), h1]⟩
theorem KeepC.mono (h : KeepC C w w') (hD : ∀ i, i < w.heap.size → C i → D i) : KeepC D w w' := (KeepC.refl D w).trans h hD
theorem KeepC.below (h : KeepC C w w') (k : Below w'.heap.size w' w'') : KeepC C w w'' := h.trans (D := C) (.of_below k) (fun _ _ h => h)
theorem KeepC.drew (h : KeepC C w w') : KeepC C w w'.drew := ⟨h.os, h.tape, h.output, h.size, h.block⟩
theorem KeepC.drewN (h : KeepC C w w') (n : Nat) : KeepC C w (w'.drewN n) := ⟨h.os, h.tape, h.output, h.size, h.block⟩
theorem KeepC.alloc (h : KeepC C w w') (o : Obj) : KeepC C w (w'.alloc o) := h.below ((Below.refl _ _).alloc (Nat.le_refl _) o)
theorem KeepC.one {b : Nat} (hs : w'.os = w.os ∧ w'.tape = w.tape ∧ w'.output = w.output ∧ w.heap.size ≤ w'.heap.size) (hb : ∀ i, i < w.heap.size → i ≠ b → w'.heap[i]? = w.heap[i]?) (hC : b < w.heap.size → C b) (hu : ¬ U8 w b) : KeepC C w w' :=
  ⟨hs.1, hs.2.1, hs.2.2.1, hs.2.2.2, fun i hi hc => hb i hi (by
    rintro rfl
    rcases hc with hc | hc
    · exact hc (hC hi)
    · exact hu hc)⟩
theorem not_U8 {b : Nat} {t : TypeId} {cs : Array Value} (h : Blk w b t cs) (ht : t ≠ 5) : ¬ U8 w b := by
  rintro ⟨cs', fz, h'⟩
  unfold Blk at h
  rw [h] at h'
  injection h' with h'
  injection h' with _ h2 _
  exact ht h2
theorem not_U8_map {b : Nat} {es : Array MapEntry} {ck : Nat} (h : w.heap[b]? = some (.map es ck)) : ¬ U8 w b := by
  rintro ⟨cs', fz, h'⟩
  rw [h] at h'
  injection h' with h'
  cases h'
theorem KeepC.setCell {b : Nat} {t : TypeId} {cs : Array Value} (h : KeepC C w w') (hb : Blk w' b t cs) (ht : t ≠ 5) (hC : b < w.heap.size → C b) (j : Nat) (v : Value) : KeepC C w (w'.setCell ⟨b, j, none⟩ v) :=
  h.trans (D := (· = b)) (.one ⟨rfl, rfl, rfl, by simp⟩ (fun i _ hi => Below.heap_setCell w' _ v i hi) (fun _ => rfl) (not_U8 hb ht)) (fun i hi e => by subst e; exact hC hi)
theorem KeepC.grown {row : Option Nat} (h : KeepC C w w') (hg : w'.grownBy w'' row) (hr : ∀ b, row = some b → (b < w.heap.size → C b) ∧ ¬ U8 w' b) : KeepC C w w'' := by
  cases row with
  | none => exact h.trans (D := C) ⟨hg.os, hg.tape, hg.output, hg.size, fun i hi _ => hg.block i hi (fun e => by cases e)⟩ (fun _ _ h => h)
  | some b =>
    obtain ⟨h1, h2⟩ := hr b rfl
    exact h.trans (D := (· = b)) (.one ⟨hg.os, hg.tape, hg.output, hg.size⟩ (fun i hi hne => hg.block i hi (fun e => hne (by injection e))) (fun _ => rfl) h2) (fun i hi e => by subst e; exact h1 hi)
theorem KeepC.blk {b : Nat} {t : TypeId} {cs : Array Value} (h : Blk w b t cs) (k : KeepC C w w') (hb : ¬ C b) : Blk w' b t cs := (k.block b h.lt (.inl hb)).trans h
theorem KeepC.u8 {b : Nat} (h : U8 w b) (k : KeepC C w w') : w'.heap[b]? = w.heap[b]? := k.block b h.lt (.inr h)
end

/-! ### Values of a map of bytes -/
/-- v is a slice of bytes that reads as x. -/
def BytesAt (w : World) (v : Value) (x : ByteArray) : Prop :=
  ∃ A c, v = .slice A x.size c ∧ (A = none → c = 0) ∧ (0 < x.size → ∃ vb off, A = some ⟨vb, off, none⟩ ∧ U8 w vb ∧ ∀ j, (hj : j < x.size) → w.cell? ⟨vb, off + j, none⟩ = some (.int .u8 (x[j].toNat : Int)))
theorem BytesAt.keep {C : Nat → Prop} {w w' : World} {v : Value} {x : ByteArray} (h : BytesAt w v x) (k : KeepC C w w') : BytesAt w' v x := by
  obtain ⟨A, c, h1, h2, h3⟩ := h
  refine ⟨A, c, h1, h2, fun hp => ?_⟩
  obtain ⟨vb, off, h4, h5, h6⟩ := h3 hp
  exact ⟨vb, off, h4, h5.on (k.u8 h5), fun j hj => (World.cell?_of_block (w := w) (k.u8 h5)).trans (h6 j hj)⟩

/-- A map's entries, in the order in which they lie. -/
abbrev Kvs := List (ByteArray × Value)
/-- Block b is a map with string keys and these entries. -/
def StrMap (w : World) (b : Nat) (kvs : Kvs) : Prop := ∃ es ck, w.heap[b]? = some (.map es ck) ∧ es.toList.map (fun e => (e.key, e.val)) = kvs.map (fun p => (Value.string p.1, p.2)) ∧ (es.toList.map (·.born)).Nodup ∧ (∀ e ∈ es.toList, e.born < ck) ∧ (kvs.map (·.1)).Nodup
def getS (k : ByteArray) : Kvs → Option Value
  | [] => none
  | p :: r => if p.1 = k then some p.2 else getS k r
def putS (k : ByteArray) (v : Value) : Kvs → Kvs
  | [] => [(k, v)]
  | p :: r => if p.1 = k then (p.1, v) :: r else p :: putS k v r
def delS (k : ByteArray) : Kvs → Kvs
  | [] => []
  | p :: r => if p.1 = k then r else p :: delS k r

/-! ### Books -/
/-- Strings are ordered by their bytes. -/
def ltS (a b : ByteArray) : Prop := Op.bytesLess a.toList b.toList = true
instance (a b : ByteArray) : Decidable (ltS a b) := inferInstanceAs (Decidable (_ = true))
/-- A book: its pairs, by rising keys, and its quota. -/
structure Bk where
  l : List (ByteArray × ByteArray)
  qk : Int
  qb : Int
def sizeP (p : ByteArray × ByteArray) : Nat := p.1.size + p.2.size
def sizeL (l : List (ByteArray × ByteArray)) : Nat := (l.map sizeP).sum
structure Bk.wf (B : Bk) : Prop where
  qk : 0 ≤ B.qk ∧ B.qk ≤ 18446744073709551615
  qb : 0 ≤ B.qb ∧ B.qb ≤ 18446744073709551615
  keys : (B.l.map (·.1)).Pairwise ltS
  short : ∀ p ∈ B.l, p.1.size ≤ 16 ∧ p.2.size ≤ 32
  nk : (B.l.length : Int) ≤ B.qk
  nb : (sizeL B.l : Int) ≤ B.qb
/-- The row of keys: an own block (or none while it has no room). -/
def KeysAt (w : World) (o : Option Nat) (A : Option Addr) (c : Nat) (ks : List ByteArray) : Prop :=
  (o = none ∧ A = none ∧ ks = [] ∧ c = 0) ∨
  ∃ kb cs, o = some kb ∧ A = some ⟨kb, 0, none⟩ ∧ Blk w kb 9 cs ∧ cs.size = c ∧ ks.length ≤ c ∧ c ≤ 9223372036854775807 ∧ ∀ j, (hj : j < ks.length) → cs[j]? = some (.string ks[j])
/-- The blocks of a book. -/
structure Ow where
  b : Nat
  m : Nat
  k : Option Nat
def Ow.has (o : Ow) (i : Nat) : Prop := i = o.b ∨ i = o.m ∨ o.k = some i
def getL (k : ByteArray) : List (ByteArray × ByteArray) → Option ByteArray
  | [] => none
  | p :: r => if p.1 = k then some p.2 else getL k r
abbrev keysL (l : List (ByteArray × ByteArray)) : List ByteArray := l.map (·.1)
def ValsAt (w : World) (m : Nat) (l : List (ByteArray × ByteArray)) : Prop :=
  ∃ kvs, StrMap w m kvs ∧ ∀ k, (getL k l = none → getS k kvs = none) ∧ ∀ x, getL k l = some x → ∃ v, getS k kvs = some v ∧ BytesAt w v x
structure BkAt (w : World) (o : Ow) (B : Bk) : Prop where
  wf : B.wf
  row : ∃ A c, Blk w o.b 134 #[.slice A B.l.length c, .map (some o.m), .int .u64 B.qk, .int .u64 B.qb, .int .u64 (sizeL B.l : Int)] ∧ KeysAt w o.k A c (B.l.map (·.1))
  vals : ValsAt w o.m B.l
end Go.Proofs.YtkgflepgkhnclaaGreatDoor
namespace Go.Proofs.YtkgflepgkhnclaaGreatDoor
open Go.RowKit Go.MapKept Go.ChangeMaps
set_option linter.unusedVariables false
set_option linter.unusedSimpArgs false

theorem findNow_str {k : ByteArray} : ∀ (l : List MapEntry) (kvs : Kvs) (i : Nat), l.map (fun e => (e.key, e.val)) = kvs.map (fun p => (Value.string p.1, p.2)) →
    ∃ r, Instr.findNow .string (.string k) l i = some r ∧ (getS k kvs = none → r = none) ∧ ∀ v, getS k kvs = some v → ∃ j e, r = some (i + j, v) ∧ l[j]? = some e ∧ e.key = .string k ∧ e.val = v ∧ ∀ j' e', l[j']? = some e' → e'.key = .string k → j' < j → False
  | [], [], i, _ => ⟨none, rfl, fun _ => rfl, fun v h => by cases h⟩
  | [], _ :: _, _, h => by simp at h
  | _ :: _, [], _, h => by simp at h
  | e :: l, p :: kvs, i, h => by
    simp only [List.map_cons, List.cons.injEq, Prod.mk.injEq] at h
    obtain ⟨⟨hk, hv⟩, hr⟩ := h
    obtain ⟨r, h1, h2, h3⟩ := findNow_str (k := k) l kvs (i + 1) hr
    by_cases hp : p.1 = k
    · refine ⟨some (i, e.val), ?_, fun h => ?_, fun v hv' => ⟨0, e, ?_, rfl, ?_, ?_, fun j' _ _ _ h => by omega⟩⟩
      · have : (k == p.1) = true := (bytes_beq _ _).2 hp.symm
        simp [Instr.findNow, hk, Instr.sameNow, this]
      · simp [getS, hp] at h
      · simp only [getS, if_pos hp, Option.some.injEq] at hv'
        rw [hv, hv']; rfl
      · rw [hk, hp]
      · simp only [getS, if_pos hp, Option.some.injEq] at hv'
        rw [hv, hv']
    · have hb : (k == p.1) = false := Bool.eq_false_iff.2 (fun h => hp ((bytes_beq _ _).1 h).symm)
      refine ⟨r, by simp [Instr.findNow, hk, Instr.sameNow, hb, h1], fun h => h2 (by simpa [getS, hp] using h), fun v hv' => ?_⟩
      obtain ⟨j, e', h4, h5, h6, h7, h8⟩ := h3 v (by simpa [getS, hp] using hv')
      refine ⟨j + 1, e', by rw [h4]; congr 2; omega, by simpa using h5, h6, h7, fun j' e2 a b c => ?_⟩
      cases j' with
      | zero =>
        simp only [List.getElem?_cons_zero, Option.some.injEq] at a
        subst a
        rw [hk] at b
        injection b with b
        exact hp b
      | succ j' => exact h8 j' e2 (by simpa using a) b (by omega)

section
variable {P : Program} {w : World}
theorem StrMap.lt {b : Nat} {kvs : Kvs} (h : StrMap w b kvs) : b < w.heap.size := by
  obtain ⟨es, ck, hb, _⟩ := h
  exact (Array.getElem?_eq_some_iff.1 hb).1
theorem StrMap.notU8 {b : Nat} {kvs : Kvs} (h : StrMap w b kvs) : ¬ U8 w b := by
  obtain ⟨es, ck, hb, _⟩ := h
  exact not_U8_map hb
theorem StrMap.on {w' : World} {b : Nat} {kvs : Kvs} (h : StrMap w b kvs) (hb : w'.heap[b]? = w.heap[b]?) : StrMap w' b kvs := by
  obtain ⟨es, ck, h1, h2⟩ := h
  exact ⟨es, ck, hb.trans h1, h2⟩
theorem StrMap.made (w : World) : StrMap (w.alloc (.map #[] 0)) w.heap.size [] := ⟨#[], 0, heap_alloc_new w _, rfl, by simp, by simp, by simp⟩

theorem run_lookup_str {b : Nat} {kvs : Kvs} {t k e : TypeId} {z : Value} {x : ByteArray} (h : StrMap w b kvs) (ht : P.underlying t = some (.map k e)) (hk : P.underlying k = some .string)
    (hz : (zeroValue e).run P w = .ok z w) (ok : Bool) :
    (Instr.lookup t (.map (some b)) (.string x) ok).run P w = .ok (if ok then .tuple #[(getS x kvs).getD z, .bool (getS x kvs).isSome] else (getS x kvs).getD z) w := by
  obtain ⟨es, ck, hb, he, _⟩ := h
  obtain ⟨r, h1, h2, h3⟩ := findNow_str (k := x) es.toList kvs 0 he
  have hkey : IsKey .string (.string x) := by simp [IsKey]
  have hfk := run_findKey (P := P) (w := w) hk h1
  have hck := run_checkKey (P := P) (w := w) hk hkey es.isEmpty 9999
  unfold Instr.lookup
  simp only [Sem.run_bind, run_underlying ht, Result.andThen, Go.MapKept.run_getObj_map hb, Sem.run_pure, hck, hfk]
  cases hn : getS x kvs with
  | none =>
    rw [h2 hn]
    simp only [Sem.run_bind, hz, Result.andThen, Sem.run_pure]
    first | done | (cases ok <;> rfl)
  | some v =>
    obtain ⟨j, e', hj, _⟩ := h3 v hn
    rw [hj]
    cases ok <;> rfl

theorem putS_new {k : ByteArray} {v : Value} : ∀ {kvs : Kvs}, getS k kvs = none → putS k v kvs = kvs ++ [(k, v)]
  | [], _ => rfl
  | p :: r, h => by
    by_cases hp : p.1 = k
    · simp [getS, hp] at h
    · simp only [getS, if_neg hp] at h
      simp [putS, hp, putS_new h]
/-- The list with the value of its j-th entry replaced. -/
theorem putS_old {k : ByteArray} {v : Value} : ∀ {kvs : Kvs} {l : List MapEntry} {i : Nat}, l.map (fun e => (e.key, e.val)) = kvs.map (fun p => (Value.string p.1, p.2)) → ∀ {v0 : Value}, getS k kvs = some v0 →
    (∀ j e, l[j]? = some e → e.key = .string k → j < i → False) → (∃ e, l[i]? = some e ∧ e.key = .string k) →
    (l.modify i (fun e => { e with val := v })).map (fun e => (e.key, e.val)) = (putS k v kvs).map (fun p => (Value.string p.1, p.2))
  | [], l, i, h, v0, hg, _, _ => by cases hg
  | p :: r, [], i, h, _, _, _, _ => by simp at h
  | p :: r, e :: l, i, h, v0, hg, hj, hi => by
    simp only [List.map_cons, List.cons.injEq, Prod.mk.injEq] at h
    obtain ⟨⟨hk, hv⟩, hr⟩ := h
    by_cases hp : p.1 = k
    · cases i with
      | zero => simp [putS, hp, hk, hr]
      | succ i => exact absurd (hj 0 e rfl (by rw [hk, hp]) (by omega)) (fun h => h)
    · cases i with
      | zero =>
        obtain ⟨e', h1, h2⟩ := hi
        simp only [List.getElem?_cons_zero, Option.some.injEq] at h1
        subst h1
        rw [hk] at h2
        injection h2 with h2
        exact absurd h2 hp
      | succ i =>
        simp only [getS, if_neg hp] at hg
        have := putS_old (v := v) (kvs := r) (l := l) (i := i) hr hg (fun j e hj1 hj2 hj3 => hj (j + 1) e (by simpa using hj1) hj2 (by omega)) (by simpa using hi)
        simp [putS, hp, hk, hv, this]

theorem keys_putS {k : ByteArray} {v : Value} : ∀ {kvs : Kvs}, (putS k v kvs).map (·.1) = if getS k kvs = none then kvs.map (·.1) ++ [k] else kvs.map (·.1)
  | [] => by simp [putS, getS]
  | p :: r => by
    by_cases hp : p.1 = k
    · simp [putS, getS, hp]
    · have := keys_putS (k := k) (v := v) (kvs := r)
      simp only [putS, getS, if_neg hp, List.map_cons, this]
      split <;> rfl
theorem getS_none {k : ByteArray} : ∀ {kvs : Kvs}, getS k kvs = none ↔ k ∉ kvs.map (·.1)
  | [] => by simp [getS]
  | p :: r => by
    by_cases hp : p.1 = k
    · simp [getS, hp]
    · have := getS_none (k := k) (kvs := r)
      simp only [getS, if_neg hp, this, List.map_cons, List.mem_cons, not_or]
      exact ⟨fun h => ⟨fun e => hp e.symm, h⟩, fun h => h.2⟩
theorem nodup_putS {k : ByteArray} {v : Value} {kvs : Kvs} (h : (kvs.map (·.1)).Nodup) : ((putS k v kvs).map (·.1)).Nodup := by
  rw [keys_putS]
  split
  · rename_i hn
    rw [List.nodup_append]
    refine ⟨h, by simp, fun a ha b hb => ?_⟩
    rw [List.mem_singleton] at hb
    rintro rfl
    exact getS_none.1 hn (hb ▸ ha)
  · exact h
theorem getS_putS {k x : ByteArray} {v : Value} : ∀ {kvs : Kvs}, getS x (putS k v kvs) = if x = k then some v else getS x kvs
  | [] => by
    by_cases h : x = k
    · simp [putS, getS, h]
    · simp only [putS, getS, if_neg h, if_neg (fun e : k = x => h e.symm)]
  | p :: r => by
    have ih := getS_putS (k := k) (x := x) (v := v) (kvs := r)
    by_cases hp : p.1 = k
    · by_cases h : x = k
      · simp [putS, getS, hp, h]
      · simp only [putS, if_pos hp, if_neg h, getS, show ¬ p.1 = x from fun e => h (e.symm.trans hp), if_false]
    · by_cases h : p.1 = x
      · simp only [putS, if_neg hp, getS, if_pos h, if_neg (show ¬ x = k from fun e => hp (h.trans e))]
      · simp only [putS, if_neg hp, getS, if_neg h, ih]
theorem keys_delS {k : ByteArray} : ∀ {kvs : Kvs}, ((delS k kvs).map (·.1)).Sublist (kvs.map (·.1))
  | [] => by simp [delS]
  | p :: r => by
    by_cases hp : p.1 = k
    · simp [delS, hp]
    · simp only [delS, if_neg hp, List.map_cons]
      exact keys_delS.cons_cons _
theorem getS_delS {k x : ByteArray} : ∀ {kvs : Kvs}, (kvs.map (·.1)).Nodup → getS x (delS k kvs) = if x = k then none else getS x kvs
  | [], _ => by simp [delS, getS]
  | p :: r, h => by
    simp only [List.map_cons, List.nodup_cons] at h
    have ih := getS_delS (k := k) (x := x) h.2
    by_cases hp : p.1 = k
    · by_cases hx : x = k
      · rw [if_pos hx]
        simp only [delS, if_pos hp]
        rw [getS_none, hx, ← hp]
        exact h.1
      · simp only [delS, if_pos hp, if_neg hx, getS, show ¬ p.1 = x from fun e => hx (e.symm.trans hp), if_false]
    · by_cases hx : p.1 = x
      · simp only [delS, if_neg hp, getS, if_pos hx, if_neg (show ¬ x = k from fun e => hp (hx.trans e))]
      · simp only [delS, if_neg hp, getS, if_neg hx, ih]
theorem delS_none {k : ByteArray} : ∀ {kvs : Kvs}, getS k kvs = none → delS k kvs = kvs
  | [], _ => rfl
  | p :: r, h => by
    by_cases hp : p.1 = k
    · simp [getS, hp] at h
    · simp only [getS, if_neg hp] at h
      simp [delS, hp, delS_none h]
theorem delS_erase {k : ByteArray} : ∀ {kvs : Kvs} {l : List MapEntry} {i : Nat}, l.map (fun e => (e.key, e.val)) = kvs.map (fun p => (Value.string p.1, p.2)) →
    (∀ j e, l[j]? = some e → e.key = .string k → j < i → False) → (∃ e, l[i]? = some e ∧ e.key = .string k) →
    (l.eraseIdx i).map (fun e => (e.key, e.val)) = (delS k kvs).map (fun p => (Value.string p.1, p.2))
  | [], [], i, h, _, hi => by obtain ⟨e, h1, _⟩ := hi; simp at h1
  | [], _ :: _, i, h, _, _ => by simp at h
  | p :: r, [], i, h, _, _ => by simp at h
  | p :: r, e :: l, i, h, hj, hi => by
    simp only [List.map_cons, List.cons.injEq, Prod.mk.injEq] at h
    obtain ⟨⟨hk, hv⟩, hr⟩ := h
    by_cases hp : p.1 = k
    · cases i with
      | zero => simp [delS, hp, hr]
      | succ i => exact absurd (hj 0 e rfl (by rw [hk, hp]) (by omega)) (fun h => h)
    · cases i with
      | zero =>
        obtain ⟨e', h1, h2⟩ := hi
        simp only [List.getElem?_cons_zero, Option.some.injEq] at h1
        subst h1
        rw [hk] at h2
        injection h2 with h2
        exact absurd h2 hp
      | succ i =>
        have := delS_erase (kvs := r) (l := l) (i := i) hr (fun j e hj1 hj2 hj3 => hj (j + 1) e (by simpa using hj1) hj2 (by omega)) (by simpa using hi)
        simp [delS, hp, hk, hv, this]

/-- A map of which an entry is about to be stored. -/
def StrOpen (w : World) (b : Nat) (kvs : Kvs) (k : ByteArray) (st : Nat) : Prop :=
  ∃ es ck i, w.heap[b]? = some (.map es ck) ∧ (es.toList.map (·.born)).Nodup ∧ (∀ e ∈ es.toList, e.born < ck) ∧ (∃ e, es.toList[i]? = some e ∧ e.born = st) ∧ (kvs.map (·.1)).Nodup ∧
    ∀ v, (es.toList.modify i (fun e => { e with val := v })).map (fun e => (e.key, e.val)) = (putS k v kvs).map (fun p => (Value.string p.1, p.2))
theorem map_born_modify {f : MapEntry → MapEntry} (hf : ∀ e, (f e).born = e.born) : ∀ (l : List MapEntry) (i : Nat), (l.modify i f).map (·.born) = l.map (·.born)
  | [], i => by simp
  | e :: l, 0 => by simp [hf]
  | e :: l, i + 1 => by simp [map_born_modify hf l i]
theorem modify_id {f : MapEntry → MapEntry} : ∀ (l : List MapEntry) (i : Nat), (∀ e, l[i]? = some e → f e = e) → l.modify i f = l
  | [], i, _ => by simp
  | e :: l, 0, h => by simp [h e rfl]
  | e :: l, i + 1, h => by simp [modify_id l i (fun e he => h e (by simpa using he))]
theorem modify_last (l : List MapEntry) (e : MapEntry) (f : MapEntry → MapEntry) : (l ++ [e]).modify l.length f = l ++ [f e] := by
  induction l with
  | nil => simp
  | cons a l ih => simp [ih]
theorem run_mapEntry_str {b : Nat} {kvs : Kvs} {t k e : TypeId} {z : Value} {x : ByteArray} (h : StrMap w b kvs) (ht : P.underlying t = some (.map k e)) (hk : P.underlying k = some .string)
    (hz : (zeroValue e).run P w = .ok z w) : ∃ v0 st w', (Instr.mapEntry t (.map (some b)) (.string x)).run P w = .ok (.tuple #[v0, .int .i64 (st : Nat)]) w' ∧ StrOpen w' b kvs x st ∧ w.grownBy w' (some b) := by
  obtain ⟨es, ck, hb, he, hn, hlt, hnk⟩ := h
  obtain ⟨r, h1, h2, h3⟩ := findNow_str (k := x) es.toList kvs 0 he
  have hkey : IsKey .string (.string x) := by simp [IsKey]
  have hfk := run_findKey (P := P) (w := w) hk h1
  have hck := run_checkKey (P := P) (w := w) hk hkey false 9999
  cases hg : getS x kvs with
  | none =>
    obtain rfl := h2 hg
    refine ⟨z, ck, setBlock w b (.map (es.push { key := .string x, val := z, born := ck }) (ck + 1)), ?_, ⟨_, _, es.toList.length, heap_setBlock_same hb _, ?_, ?_, ⟨_, by rw [Array.toList_push]; exact List.getElem?_concat_length, rfl⟩, hnk, fun v => ?_⟩,
      ⟨rfl, rfl, rfl, by simp [setBlock], fun i _ hi => heap_setBlock_other hb _ (fun e => hi (by rw [e]))⟩⟩
    · unfold Instr.mapEntry
      simp only [Sem.run_bind, run_underlying ht, Result.andThen, Go.MapKept.run_getObj_map hb, hck, hfk, hz, Go.MapKept.run_setObj_map _ hb, Sem.run_pure]
      rfl
    · rw [Array.toList_push, List.map_append, List.nodup_append]
      refine ⟨hn, by simp, fun a ha c hc => ?_⟩
      simp only [List.map_cons, List.map_nil, List.mem_singleton] at hc
      simp only [List.mem_map] at ha
      obtain ⟨e', he', rfl⟩ := ha
      have := hlt e' he'
      omega
    · intro e' he'
      rw [Array.toList_push, List.mem_append, List.mem_singleton] at he'
      rcases he' with he' | rfl
      · have := hlt e' he'; omega
      · exact Nat.lt_succ_self _
    · rw [Array.toList_push, modify_last, putS_new hg, List.map_append, List.map_append, he]
      rfl
  | some v0 =>
    obtain ⟨j, e0, rfl, h5, h6, h7, h8⟩ := h3 v0 hg
    simp only [Nat.zero_add] at hfk h1
    have hmod : es.modify j (fun e => { e with key := Value.string x }) = es := by
      apply Array.toList_inj.1
      rw [Array.toList_modify]
      refine modify_id _ _ (fun e he => ?_)
      rw [h5] at he
      injection he with he
      subst he
      rw [← h6]
    have h5' : es[j]? = some e0 := by rw [← Array.getElem?_toList]; exact h5
    have hsb : Instr.sameBits 10000 (.string x) (.string x) = true := by simp [Instr.sameBits, bytes_beq]
    refine ⟨v0, e0.born, setBlock w b (.map es ck), ?_, ⟨es, ck, j, heap_setBlock_same hb _, hn, hlt, ⟨e0, h5, rfl⟩, hnk, fun v => putS_old he hg h8 ⟨e0, h5, h6⟩⟩,
      ⟨rfl, rfl, rfl, by simp [setBlock], fun i _ hi => heap_setBlock_other hb _ (fun e => hi (by rw [e]))⟩⟩
    unfold Instr.mapEntry
    simp only [Sem.run_bind, run_underlying ht, Result.andThen, Go.MapKept.run_getObj_map hb, hck, hfk, h5', Option.map_some, Option.getD_some, h6, Instr.keyThatStays, hsb, if_true, Sem.run_pure, hmod, Go.MapKept.run_setObj_map _ hb]
    rfl
theorem run_entryStore_str {b : Nat} {kvs : Kvs} {t : TypeId} {v : Value} {x : ByteArray} {st : Nat} (h : StrOpen w b kvs x st) :
    ∃ w', (Instr.entryStore t (.map (some b)) (.int .i64 (st : Nat)) v).run P w = .ok () w' ∧ StrMap w' b (putS x v kvs) ∧ w.grownBy w' (some b) := by
  obtain ⟨es, ck, i, hb, hn, hlt, ⟨e0, he0, rfl⟩, hnk, hm⟩ := h
  have hf' : es.findIdx? (fun e => (e.born : Int) == (e0.born : Int)) = some i := by
    rw [Array.findIdx?_eq_some_iff_getElem]
    obtain ⟨hi, hie⟩ := List.getElem?_eq_some_iff.1 he0
    have hi' : i < es.size := by simpa using hi
    refine ⟨hi', by
      have : es[i] = e0 := by rw [← Array.getElem_toList]; exact hie
      rw [this]; simp, fun j hji => ?_⟩
    have hj : j < es.toList.length := by omega
    have hne : es.toList[j].born ≠ e0.born := fun e => by
      have h1 : (es.toList.map (·.born))[j]'(by simpa using hj) = (es.toList.map (·.born))[i]'(by simpa using hi) := by
        simp only [List.getElem_map, hie]; exact e
      exact List.pairwise_iff_getElem.1 hn j i (by simpa using hj) (by simpa using hi) hji h1
    rw [Array.getElem_toList] at hne
    simp only [beq_iff_eq]
    intro h
    exact hne (by omega)
  refine ⟨setBlock w b (.map (es.modify i fun e => { e with val := v }) ck), ?_, ⟨_, _, heap_setBlock_same hb _, ?_, ?_, ?_, nodup_putS hnk⟩, ⟨rfl, rfl, rfl, by simp [setBlock], fun i _ hi => heap_setBlock_other hb _ (fun e => hi (by rw [e]))⟩⟩
  · unfold Instr.entryStore
    simp only [Sem.run_bind, Go.MapKept.run_getObj_map hb, Result.andThen, asInt, asIntOf, Sem.run_pure, hf', Go.MapKept.run_setObj_map _ hb]
    rfl
  · rw [Array.toList_modify]; exact hm v
  · rw [Array.toList_modify, map_born_modify (f := fun e => { e with val := v }) (fun _ => rfl)]; exact hn
  · intro e he
    have : e.born ∈ es.toList.map (·.born) := by
      rw [← map_born_modify (f := fun e => { e with val := v }) (fun _ => rfl) es.toList i, ← Array.toList_modify]
      exact List.mem_map_of_mem he
    obtain ⟨e', h1, h2⟩ := List.mem_map.1 this
    have := hlt e' h1
    omega
theorem run_delete_str {b : Nat} {kvs : Kvs} {t k e : TypeId} {x : ByteArray} (h : StrMap w b kvs) (ht : P.underlying t = some (.map k e)) (hk : P.underlying k = some .string) (kt : TypeId) (ty : TypeId) :
    ∃ w', (Builtin.delete_ #[t, kt] ty #[.map (some b), .string x]).run P w = .ok (.tuple #[]) w' ∧ StrMap w' b (delS x kvs) ∧ w.grownBy w' (some b) := by
  obtain ⟨es, ck, hb, he, hn, hlt, hnk⟩ := h
  obtain ⟨r, h1, h2, h3⟩ := findNow_str (k := x) es.toList kvs 0 he
  have hkey : IsKey .string (.string x) := by simp [IsKey]
  have hfk := run_findKey (P := P) (w := w) hk h1
  have hck := run_checkKey (P := P) (w := w) hk hkey es.isEmpty 9999
  have hgr : ∀ o : Obj, w.grownBy (setBlock w b o) (some b) := fun o => ⟨rfl, rfl, rfl, by simp [setBlock], fun i _ hi => heap_setBlock_other hb _ (fun e => hi (by rw [e]))⟩
  cases hg : getS x kvs with
  | none =>
    obtain rfl := h2 hg
    refine ⟨setBlock w b (.map es ck), ?_, ⟨es, ck, heap_setBlock_same hb _, by rw [delS_none hg]; exact he, hn, hlt, by rw [delS_none hg]; exact hnk⟩, hgr _⟩
    simp [Builtin.delete_, run_underlying ht, Result.andThen, Go.MapKept.run_getObj_map hb, hck, hfk, Go.MapKept.run_setObj_map _ hb]
    rfl
  | some v0 =>
    obtain ⟨j, e0, rfl, h5, h6, h7, h8⟩ := h3 v0 hg
    simp only [Nat.zero_add] at hfk h1
    refine ⟨setBlock w b (.map (es.eraseIdxIfInBounds j) ck), ?_, ⟨_, ck, heap_setBlock_same hb _, ?_, ?_, ?_, hnk.sublist keys_delS⟩, hgr _⟩
    · simp [Builtin.delete_, run_underlying ht, Result.andThen, Go.MapKept.run_getObj_map hb, hck, hfk, Go.MapKept.run_setObj_map _ hb]
      rfl
    · rw [Array.toList_eraseIdxIfInBounds]; exact delS_erase he h8 ⟨e0, h5, h6⟩
    · rw [Array.toList_eraseIdxIfInBounds]; exact hn.sublist ((List.eraseIdx_sublist _ _).map _)
    · intro e hm
      rw [Array.toList_eraseIdxIfInBounds] at hm
      exact hlt e ((List.eraseIdx_sublist _ _).mem hm)

/-! ### The same at the operations -/
theorem wpList_lookup_str {ops : Array Oper} {rest : List Oper} {o : Oper} {a : Act} {Q : Exit → Act → World → Prop} (hg : o.guard = none) (m x : Operand) (t : TypeId) (hop : o.op = Op.lookup t m x false)
    (k e : TypeId) (ht : P.underlying t = some (.map k e)) (hk : P.underlying k = some .string) (z : Value) (hz : (zeroValue e).run P w = .ok z w) (b : Nat) (kvs : Kvs) (hm : a.eval m = .map (some b)) (h : StrMap w b kvs)
    (n : ByteArray) (hx : a.eval x = .string n) (hK : wpList P ops Q rest (a.put o.dst ((getS n kvs).getD z)) w) : wpList P ops Q (o :: rest) a w := by
  refine wpList_plain hg fun K' hK' => ?_
  have hrun := run_lookup_str (P := P) (x := n) h ht hk hz false
  unfold Oper.wp
  simp [execOp, hop, hm, hx, hrun, Result.andThen]
  exact hK' _ _ hK
theorem wpList_lookup_str_ok {ops : Array Oper} {rest : List Oper} {o : Oper} {a : Act} {Q : Exit → Act → World → Prop} (hg : o.guard = none) (m x : Operand) (t : TypeId) (hop : o.op = Op.lookup t m x true)
    (k e : TypeId) (ht : P.underlying t = some (.map k e)) (hk : P.underlying k = some .string) (z : Value) (hz : (zeroValue e).run P w = .ok z w) (b : Nat) (kvs : Kvs) (hm : a.eval m = .map (some b)) (h : StrMap w b kvs)
    (n : ByteArray) (hx : a.eval x = .string n) (v : Value) (ok : Bool) (hv : (getS n kvs).getD z = v) (ho : (getS n kvs).isSome = ok) (hK : wpList P ops Q rest (a.put o.dst (.tuple #[v, .bool ok])) w) : wpList P ops Q (o :: rest) a w := by
  refine wpList_plain hg fun K' hK' => ?_
  have hrun := run_lookup_str (P := P) (x := n) h ht hk hz true
  rw [hv, ho] at hrun
  unfold Oper.wp
  simp [execOp, hop, hm, hx, hrun, Result.andThen]
  exact hK' _ _ hK
theorem wpList_mapEntry_str {ops : Array Oper} {rest : List Oper} {o : Oper} {a : Act} {Q : Exit → Act → World → Prop} (hg : o.guard = none) (m x : Operand) (t : TypeId) (hop : o.op = Op.mapEntry t m x)
    (k e : TypeId) (ht : P.underlying t = some (.map k e)) (hk : P.underlying k = some .string) (z : Value) (hz : (zeroValue e).run P w = .ok z w) (b : Nat) (kvs : Kvs) (hm : a.eval m = .map (some b)) (h : StrMap w b kvs)
    (n : ByteArray) (hx : a.eval x = .string n) (hK : ∀ v0 (st : Nat) w', StrOpen w' b kvs n st → w.grownBy w' (some b) → wpList P ops Q rest (a.put o.dst (.tuple #[v0, .int .i64 (st : Int)])) w') : wpList P ops Q (o :: rest) a w := by
  refine wpList_plain hg fun K' hK' => ?_
  obtain ⟨v0, st, w', hrun, r1, r2⟩ := run_mapEntry_str (P := P) (x := n) h ht hk hz
  unfold Oper.wp
  simp [execOp, hop, hm, hx, hrun, Result.andThen]
  exact hK' _ _ (hK v0 st w' r1 r2)
theorem wpList_entryStore_str {ops : Array Oper} {rest : List Oper} {o : Oper} {a : Act} {Q : Exit → Act → World → Prop} (hg : o.guard = none) (m s v : Operand) (t : TypeId) (hop : o.op = Op.entryStore t m s v)
    (b : Nat) (kvs : Kvs) (n : ByteArray) (st : Nat) (hm : a.eval m = .map (some b)) (h : StrOpen w b kvs n st) (hs : a.eval s = .int .i64 (st : Int)) (val : Value) (hv : a.eval v = val)
    (hK : ∀ w', StrMap w' b (putS n val kvs) → w.grownBy w' (some b) → wpList P ops Q rest (a.put o.dst undef) w') : wpList P ops Q (o :: rest) a w := by
  refine wpList_plain hg fun K' hK' => ?_
  obtain ⟨w', hrun, r1, r2⟩ := run_entryStore_str (P := P) (t := t) (v := val) h
  unfold Oper.wp
  simp [execOp, hop, hm, hs, hv, hrun, Result.andThen]
  exact hK' _ _ (hK w' r1 r2)
theorem wpList_delete_str {ops : Array Oper} {rest : List Oper} {o : Oper} {a : Act} {Q : Exit → Act → World → Prop} (hg : o.guard = none) (m x : Operand) (t kt : TypeId) (hop : o.op = Op.call { callee := Callee.builtin Builtin.delete, args := #[m, x], argTypes := #[t, kt] })
    (k e : TypeId) (ht : P.underlying t = some (.map k e)) (hk : P.underlying k = some .string) (b : Nat) (kvs : Kvs) (hm : a.eval m = .map (some b)) (h : StrMap w b kvs)
    (n : ByteArray) (hx : a.eval x = .string n) (hK : ∀ w', StrMap w' b (delS n kvs) → w.grownBy w' (some b) → wpList P ops Q rest (a.put o.dst (.tuple #[])) w') : wpList P ops Q (o :: rest) a w := by
  refine wpList_plain hg fun K' hK' => ?_
  obtain ⟨w', hrun, r1, r2⟩ := run_delete_str (P := P) (x := n) h ht hk kt o.type
  unfold Oper.wp
  simp [execOp, hop, resolve, invoke, builtin, hm, hx, hrun, Result.andThen]
  exact hK' _ _ (hK w' r1 r2)
end
end Go.Proofs.YtkgflepgkhnclaaGreatDoor
namespace Go.Proofs.YtkgflepgkhnclaaGreatDoor
open Go.RowKit Go.Shelf
set_option linter.unusedVariables false
set_option linter.unusedSimpArgs false

theorem size_b (k v : ByteArray) (w : World) (hk : k.size ≤ 1000) (hv : v.size ≤ 1000) : Calls Tryz.prog 173 #[.string k, .string v] w (StayV (.int .u64 ((k.size + v.size : Nat) : Int)) w) := by
  have h1 : IntKind.i64.wrap ((k.size : Int) + (v.size : Int)) = ((k.size + v.size : Nat) : Int) := by rw [IntWalk.i64_in _ (by omega)]; omega
  have h2 : IntKind.u64.wrap ((k.size + v.size : Nat) : Int) = ((k.size + v.size : Nat) : Int) := by rw [IntKind.wrap_u64]; omega
  generalize ((k.size + v.size : Nat) : Int) = z at h1 h2 ⊢
  clear hk hv
  go_enter Tryz.func173, Tryz.ntmps173
  go_wp2
  go_ret
  exact ⟨rfl, rfl⟩

theorem none_b {w : World} {o : Ow} {B : Bk} (h : BkAt w o B) : Calls Tryz.prog 67 #[.pointer (some ⟨o.b, 0, none⟩)] w (StayV (.bool false) w) := by
  obtain ⟨A, c, h1, h2⟩ := h.row
  have c1 : w.cell? ⟨o.b, 1, none⟩ = some (.map (some o.m)) := h1.cell 1
  have hq := fun w => run_eql_map_nil (P := Tryz.prog) w 132 _ _ (some o.m) Tryz.underlying132
  clear h h1 h2
  go_enter Tryz.func67, Tryz.ntmps67
  go_wp2
  go_ret
  exact ⟨rfl, rfl⟩

theorem short1_b (n : Int) (s : ByteArray) (b : Nat) (w : World) (h : w.cell? ⟨b, 0, none⟩ = some (.int .i64 n)) : Calls Tryz.prog 236 #[.string s, .pointer (some ⟨b, 0, none⟩)] w (StayV (.bool (decide (n < (s.size : Int)))) w) := by
  go_enter Tryz.func236, Tryz.ntmps236
  go_wp2
  go_ret
  exact ⟨rfl, rfl⟩
/-- Whether one of some strings is longer than n. -/
def longS (n : Int) (l : List ByteArray) : Bool := l.any (fun s => decide (n < (s.size : Int)))
/-- A slice of strings reads as l. -/
def StrsAt (w : World) (A : Option Addr) (l : List ByteArray) : Prop := l ≠ [] → ∃ g, A = some ⟨g, 0, none⟩ ∧ ∀ i, (h : i < l.length) → w.cell? ⟨g, i, none⟩ = some (.string l[i])
set_option maxHeartbeats 1600000 in
theorem index_b (n : Int) (l : List ByteArray) (A : Option Addr) (c b : Nat) (w : World) (hA : StrsAt w A l) (h : w.cell? ⟨b, 0, none⟩ = some (.int .i64 n)) (hl : l.length ≤ 1000) :
    Calls Tryz.prog 255 #[.slice A l.length c, .func (.func 236) #[] #[.pointer (some ⟨b, 0, none⟩)]] w fun e w' => ∃ k : Int, e = .returned (.int .i64 k) ∧ decide (0 ≤ k) = longS n l ∧ w' = w := by
  have HA := Lib.hid hA
  have HH := Lib.hid h
  clear hA h
  go_enter Tryz.func255, Tryz.ntmps255
  go_wp2
  go_loop [8] (fun v => ∃ k : Nat, k ≤ l.length ∧ v = .int .i64 k ∧ longS n (l.take k) = false) (fun v => l.length - (intOf v).toNat)
  case atStart => exact ⟨0, Nat.zero_le _, rfl, rfl⟩
  case round =>
    obtain ⟨k, hk, rfl, hlo⟩ := hrel
    by_cases hlt : k < l.length
    · obtain ⟨g, rfl, hc⟩ := HA.out (fun e => by rw [e] at hlt; simp at hlt)
      have ck := hc k hlt
      have et : l.take (k + 1) = l.take k ++ [l[k]] := by rw [List.take_add_one, List.getElem?_eq_getElem hlt]; rfl
      obtain ⟨x, hx⟩ : ∃ x, l[k] = x := ⟨_, rfl⟩
      rw [hx] at et ck
      have HC := Lib.hid (short1_b n x b w HH.out)
      have HT := Lib.hid et
      have HLO := Lib.hid hlo
      have HX := Lib.hid (show x ∈ l from hx ▸ List.getElem_mem _)
      clear hc hlo et hx
      by_cases hlong : n < (x.size : Int)
      · rw [decide_eq_true hlong] at HC
        have HL := Lib.hid hlong
        clear hlong
        go_wp2_with (go_at_call 236; refine HC.out.mono ?_; rintro e w1 ⟨rfl, rfl⟩)
        go_ret
        refine ⟨_, rfl, ?_, rfl⟩
        have : longS n l = true := List.any_eq_true.2 ⟨x, HX.out, decide_eq_true HL.out⟩
        rw [this]
        simp
      · rw [decide_eq_false hlong] at HC
        have HL := Lib.hid hlong
        clear hlong
        go_wp2_with (go_at_call 236; refine HC.out.mono ?_; rintro e w1 ⟨rfl, rfl⟩)
        go_round
        case rel => exact ⟨k + 1, by omega, by go_num, by
          rw [HT.out]
          unfold longS at HLO ⊢
          rw [List.any_append, HLO.out]
          simp [HL.out]⟩
        case measure => simp [intOf]; omega
    · obtain rfl : k = l.length := by omega
      have HLO := Lib.hid hlo
      clear hlo
      go_wp2
      go_ret
      refine ⟨_, rfl, ?_, rfl⟩
      have := HLO.out
      rw [List.take_length] at this
      rw [this]
      rfl
theorem contains_b (n : Int) (l : List ByteArray) (A : Option Addr) (c b : Nat) (w : World) (hA : StrsAt w A l) (h : w.cell? ⟨b, 0, none⟩ = some (.int .i64 n)) (hl : l.length ≤ 1000) :
    Calls Tryz.prog 235 #[.slice A l.length c, .func (.func 236) #[] #[.pointer (some ⟨b, 0, none⟩)]] w (StayV (.bool (longS n l)) w) := by
  have HC := Lib.hid (index_b n l A c b w hA h hl)
  clear hA h
  go_enter Tryz.func235, Tryz.ntmps235
  go_wp2_with (go_at_call 255; refine HC.out.mono ?_; rintro e w1 ⟨k, rfl, hk, rfl⟩; have HK := Lib.hid hk; clear hk)
  go_ret
  exact ⟨by rw [← HK.out]; simp, rfl⟩
theorem StrsAt.below {w w' : World} {A : Option Addr} {l : List ByteArray} (h : StrsAt w A l) (hb : Below w.heap.size w w') : StrsAt w' A l := fun hne => by
  obtain ⟨g, rfl, hc⟩ := h hne
  refine ⟨g, rfl, fun i hi => (hb.cell ?_).trans (hc i hi)⟩
  exact World.block_lt_of_cell? w _ (hc i hi)
theorem StrsAt.nil {w : World} {A : Option Addr} : StrsAt w A [] := fun h => absurd rfl h
theorem short_b (n : Int) (l : List ByteArray) (A : Option Addr) (c : Nat) (w : World) (hA : StrsAt w A l) (hl : l.length ≤ 1000) :
    Calls Tryz.prog 210 #[.int .i64 n, .slice A l.length c] w (BoolB (!longS n l) w) := by
  have hb := Blk.new w 3 #[.int .i64 n]
  have hA' : StrsAt (w.alloc (.cells #[.int .i64 n] 3)) A l := hA.below ((Below.refl _ _).alloc (Nat.le_refl _) _)
  have HC := Lib.hid (contains_b n l A c w.heap.size _ hA' (hb.cell 0) hl)
  clear hA hb hA'
  go_enter Tryz.func210, Tryz.ntmps210
  go_wp2_with (go_at_call 235; refine HC.out.mono ?_; rintro e w1 ⟨rfl, rfl⟩)
  go_ret
  exact ⟨rfl, (Below.refl _ _).alloc (Nat.le_refl _) _⟩
/-- The error of a key and of values that are too long. -/
def mayN (key : ByteArray) (vs : List ByteArray) : Int := if 16 < key.size ∨ longS 32 vs = true then 2 else 0
def IntB (n : Int) (w : World) (e : Ending) (w' : World) : Prop := e = .returned (.int .i64 n) ∧ Below w.heap.size w w'
set_option maxHeartbeats 1600000 in
theorem may_b {w : World} {o : Ow} {B : Bk} (h : BkAt w o B) (key : ByteArray) (vs : List ByteArray) (A : Option Addr) (c : Nat) (hA : StrsAt w A vs) (hl : vs.length ≤ 1000) :
    Calls Tryz.prog 172 #[.pointer (some ⟨o.b, 0, none⟩), .string key, .slice A vs.length c] w (IntB (mayN key vs) w) := by
  have HN := Lib.hid (none_b h)
  have hk : StrsAt (w.alloc (.cells #[.string key] 9)) (some ⟨w.heap.size, 0, none⟩) [key] := fun _ => ⟨w.heap.size, rfl, fun i hi => by
    obtain rfl : i = 0 := by simpa using hi
    exact (Blk.new w 9 #[.string key]).cell 0⟩
  have HS := Lib.hid (short_b 16 [key] (some ⟨w.heap.size, 0, none⟩) 1 _ hk (by simp))
  have hb := (Below.refl w.heap.size w).alloc (Nat.le_refl _) (.cells #[.string key] 9)
  have HA := Lib.hid hA
  have HB := Lib.hid hb
  clear h hA hk hb
  go_enter Tryz.func172, Tryz.ntmps172
  go_wp2_with (go_at_call 67; refine HN.out.mono ?_; rintro e w1 ⟨rfl, rfl⟩)
  have HQ : Hid (longS 16 [key] = decide (16 < key.size)) := Lib.hid (by simp [longS]; omega)
  by_cases hlong : 16 < key.size
  · rw [HQ.out, decide_eq_true hlong] at HS
    have HL := Lib.hid hlong
    clear hlong
    go_wp2_with (go_at_call 210; refine HS.out.mono ?_; rintro e w1 ⟨rfl, hb1⟩; have HB1 := Lib.hid hb1; clear hb1)
    go_ret
    exact ⟨by unfold mayN; rw [if_pos (.inl HL.out)]; rfl, HB.out.trans (HB1.out.mono HB.out.size)⟩
  · rw [HQ.out, decide_eq_false hlong] at HS
    have HL := Lib.hid hlong
    clear hlong
    go_wp2_with fail
    refine HS.out.mono ?_
    rintro e w2 ⟨rfl, hb1⟩
    have HB2 := Lib.hid (HB.out.trans (hb1.mono HB.out.size))
    clear hb1
    have HV := Lib.hid (short_b 32 vs A c w2 (HA.out.below HB2.out) hl)
    by_cases hv : longS 32 vs = true
    · have HE : Hid (mayN key vs = 2) := Lib.hid (by unfold mayN; rw [if_pos (.inr hv)])
      rw [hv] at HV
      clear hv
      go_wp2_with (go_at_call 210; refine HV.out.mono ?_; rintro e w3 ⟨rfl, hb1⟩; have HB3 := Lib.hid (HB2.out.trans (hb1.mono HB2.out.size)); clear hb1)
      go_ret
      exact ⟨by rw [HE.out]; rfl, HB3.out⟩
    · have HE : Hid (mayN key vs = 0) := Lib.hid (by unfold mayN; rw [if_neg (fun h => h.elim HL.out hv)])
      rw [Bool.not_eq_true] at hv
      rw [hv] at HV
      clear hv
      go_wp2_with (go_at_call 210; refine HV.out.mono ?_; rintro e w3 ⟨rfl, hb1⟩; have HB3 := Lib.hid (HB2.out.trans (hb1.mono HB2.out.size)); clear hb1)
      go_ret
      exact ⟨by rw [HE.out]; rfl, HB3.out⟩
end Go.Proofs.YtkgflepgkhnclaaGreatDoor
namespace Go.Proofs.YtkgflepgkhnclaaGreatDoor
set_option linter.unusedVariables false
open Go.Shelf
def laysSearch_ren : Go.Shelf.Ren := ⟨fun | 26 => 213 | 33 => 239 | 34 => 240 | 38 => 257 | n => n, fun | 24 => 93 | 9 => 9 | 3 => 3 | 4 => 4 | 40 => 97 | 0 => 0 | n => n, fun | n => n⟩
theorem laysSearch : Go.Proofs.Lays2.n26 Tryz.prog laysSearch_ren := {
  mixed := by kernel_rfl
  f26 := Tryz.func213.trans (congrArg some (by kernel_rfl))
  f33 := Tryz.func239.trans (congrArg some (by kernel_rfl))
  f34 := Tryz.func240.trans (congrArg some (by kernel_rfl))
  f38 := Tryz.func257.trans (congrArg some (by kernel_rfl))
  t0 := Tryz.underlying0
  a0 := Tryz.isAgg0
  z0 := Tryz.sizeOf0
  v0 := Tryz.zeroValue0
  t3 := Tryz.underlying3
  a3 := Tryz.isAgg3
  z3 := Tryz.sizeOf3
  v3 := Tryz.zeroValue3
  t4 := Tryz.underlying4
  a4 := Tryz.isAgg4
  z4 := Tryz.sizeOf4
  v4 := Tryz.zeroValue4
  t9 := Tryz.underlying9
  a9 := Tryz.isAgg9
  z9 := Tryz.sizeOf9
  v9 := Tryz.zeroValue9
  t24 := Tryz.underlying93
  a24 := Tryz.isAgg93
  z24 := Tryz.sizeOf93
  v24 := Tryz.zeroValue93
  t40 := Tryz.underlying97
  a40 := Tryz.isAgg97
  z40 := Tryz.sizeOf97
  v40 := Tryz.zeroValue97 }
def laysInsert_ren : Go.Shelf.Ren := ⟨fun | 22 => 211 | 29 => 237 | 30 => 238 | 36 => 256 | 17 => 270 | n => n, fun | 24 => 93 | 9 => 9 | 3 => 3 | 4 => 4 | 0 => 0 | n => n, fun | n => n⟩
theorem laysInsert : Go.Proofs.Lays2.n22 Tryz.prog laysInsert_ren := {
  mixed := by kernel_rfl
  f17 := Tryz.func270.trans (congrArg some (by kernel_rfl))
  f22 := Tryz.func211.trans (congrArg some (by kernel_rfl))
  f29 := Tryz.func237.trans (congrArg some (by kernel_rfl))
  f30 := Tryz.func238.trans (congrArg some (by kernel_rfl))
  f36 := Tryz.func256.trans (congrArg some (by kernel_rfl))
  t0 := Tryz.underlying0
  a0 := Tryz.isAgg0
  z0 := Tryz.sizeOf0
  v0 := Tryz.zeroValue0
  t3 := Tryz.underlying3
  a3 := Tryz.isAgg3
  z3 := Tryz.sizeOf3
  v3 := Tryz.zeroValue3
  t4 := Tryz.underlying4
  a4 := Tryz.isAgg4
  z4 := Tryz.sizeOf4
  v4 := Tryz.zeroValue4
  t9 := Tryz.underlying9
  a9 := Tryz.isAgg9
  z9 := Tryz.sizeOf9
  v9 := Tryz.zeroValue9
  t24 := Tryz.underlying93
  a24 := Tryz.isAgg93
  z24 := Tryz.sizeOf93
  v24 := Tryz.zeroValue93
  i9 := by kernel_rfl }
def laysDelete_ren : Go.Shelf.Ren := ⟨fun | 24 => 212 | n => n, fun | 24 => 93 | 9 => 9 | 3 => 3 | 4 => 4 | 0 => 0 | n => n, fun | n => n⟩
theorem laysDelete : Go.Proofs.Lays2.n24 Tryz.prog laysDelete_ren := {
  mixed := by kernel_rfl
  f24 := Tryz.func212.trans (congrArg some (by kernel_rfl))
  t0 := Tryz.underlying0
  a0 := Tryz.isAgg0
  z0 := Tryz.sizeOf0
  v0 := Tryz.zeroValue0
  t3 := Tryz.underlying3
  a3 := Tryz.isAgg3
  z3 := Tryz.sizeOf3
  v3 := Tryz.zeroValue3
  t4 := Tryz.underlying4
  a4 := Tryz.isAgg4
  z4 := Tryz.sizeOf4
  v4 := Tryz.zeroValue4
  t9 := Tryz.underlying9
  a9 := Tryz.isAgg9
  z9 := Tryz.sizeOf9
  v9 := Tryz.zeroValue9
  t24 := Tryz.underlying93
  a24 := Tryz.isAgg93
  z24 := Tryz.sizeOf93
  v24 := Tryz.zeroValue93
  i9 := by kernel_rfl }
def laysClone_ren : Go.Shelf.Ren := ⟨fun | 16 => 83 | n => n, fun | 24 => 93 | 9 => 9 | 4 => 4 | n => n, fun | n => n⟩
theorem laysClone : Go.Proofs.Lays2.n16 Tryz.prog laysClone_ren := {
  mixed := by kernel_rfl
  f16 := Tryz.func83.trans (congrArg some (by kernel_rfl))
  t4 := Tryz.underlying4
  a4 := Tryz.isAgg4
  z4 := Tryz.sizeOf4
  v4 := Tryz.zeroValue4
  t9 := Tryz.underlying9
  a9 := Tryz.isAgg9
  z9 := Tryz.sizeOf9
  v9 := Tryz.zeroValue9
  t24 := Tryz.underlying93
  a24 := Tryz.isAgg93
  z24 := Tryz.sizeOf93
  v24 := Tryz.zeroValue93
  i9 := by kernel_rfl }
def laysMaps_ren : Go.Shelf.Ren := ⟨fun | 5 => 84 | 7 => 145 | n => n, fun | 23 => 132 | 25 => 9 | 3 => 135 | 4 => 4 | 20 => 20 | n => n, fun | n => n⟩
theorem laysMaps : Go.Proofs.SlLaysW.n5 Tryz.prog laysMaps_ren := {
  mixed := by kernel_rfl
  f5 := ⟨Tryz.f84.name, by decide, Tryz.func84.trans (congrArg some (by kernel_rfl))⟩
  f7 := Tryz.func145.trans (congrArg some (by kernel_rfl))
  t4 := Tryz.underlying4
  a4 := Tryz.isAgg4
  z4 := Tryz.sizeOf4
  v4 := Tryz.zeroValue4
  t20 := Tryz.underlying20
  a20 := Tryz.isAgg20
  z20 := Tryz.sizeOf20
  v20 := Tryz.zeroValue20
  t23 := Tryz.underlying132
  a23 := Tryz.isAgg132
  z23 := Tryz.sizeOf132
  v23 := Tryz.zeroValue132 }
end Go.Proofs.YtkgflepgkhnclaaGreatDoor
namespace Go.Proofs.YtkgflepgkhnclaaGreatDoor
set_option linter.unusedVariables false
set_option linter.unusedSimpArgs false

theorem bl_irrefl : ∀ x : List UInt8, Op.bytesLess x x = false
  | [] => rfl
  | a :: x => by simp [Op.bytesLess, bl_irrefl x]
theorem bl_trans : ∀ {x y z : List UInt8}, Op.bytesLess x y = true → Op.bytesLess y z = true → Op.bytesLess x z = true
  | [], _, [], _, h => by simp [Op.bytesLess] at h
  | [], _, _ :: _, _, _ => by simp [Op.bytesLess]
  | _ :: _, [], _, h, _ => by simp [Op.bytesLess] at h
  | _ :: _, _ :: _, [], _, h => by simp [Op.bytesLess] at h
  | a :: x, b :: y, c :: z, h1, h2 => by
    simp only [Op.bytesLess, Bool.or_eq_true, decide_eq_true_eq, Bool.and_eq_true, beq_iff_eq] at h1 h2 ⊢
    rcases h1 with h1 | ⟨rfl, h1⟩
    · rcases h2 with h2 | ⟨rfl, h2⟩
      · exact .inl (UInt8.lt_trans h1 h2)
      · exact .inl h1
    · rcases h2 with h2 | ⟨rfl, h2⟩
      · exact .inl h2
      · exact .inr ⟨rfl, bl_trans h1 h2⟩
theorem bl_total : ∀ {x y : List UInt8}, x ≠ y → Op.bytesLess x y = true ∨ Op.bytesLess y x = true
  | [], [], h => absurd rfl h
  | [], _ :: _, _ => .inl rfl
  | _ :: _, [], _ => .inr rfl
  | a :: x, b :: y, h => by
    simp only [Op.bytesLess, Bool.or_eq_true, decide_eq_true_eq, Bool.and_eq_true, beq_iff_eq]
    by_cases hab : a = b
    · subst hab
      rcases bl_total (x := x) (y := y) (fun e => h (by rw [e])) with h1 | h1
      · exact .inl (.inr ⟨rfl, h1⟩)
      · exact .inr (.inr ⟨rfl, h1⟩)
    · rcases Nat.lt_or_gt_of_ne (fun e : a.toNat = b.toNat => hab (UInt8.toNat_inj.1 e)) with h1 | h1
      · exact .inl (.inl h1)
      · exact .inr (.inl h1)
theorem toList_inj {a b : ByteArray} (h : a.toList = b.toList) : a = b := (Lib.bytes_beq_iff a b).1 (by simp [h])
theorem lt_irrefl (a : ByteArray) : ¬ ltS a a := fun h => by unfold ltS at h; rw [bl_irrefl] at h; cases h
theorem lt_trans {a b c : ByteArray} (h : ltS a b) (k : ltS b c) : ltS a c := bl_trans h k
theorem lt_total {a b : ByteArray} (h : a ≠ b) : ltS a b ∨ ltS b a := bl_total (fun e => h (toList_inj e))
theorem lt_asymm {a b : ByteArray} (h : ltS a b) : ¬ ltS b a := fun k => lt_irrefl a (lt_trans h k)
theorem lt_ne {a b : ByteArray} (h : ltS a b) : a ≠ b := fun e => lt_irrefl b (e ▸ h)

/-- Where a key stands, or would stand. -/
def posK (x : ByteArray) : List ByteArray → Nat
  | [] => 0
  | k :: r => if ltS k x then posK x r + 1 else 0
theorem pos_le {x : ByteArray} : ∀ {ks : List ByteArray}, posK x ks ≤ ks.length
  | [] => Nat.le_refl _
  | k :: r => by
    have := pos_le (x := x) (ks := r)
    unfold posK
    split
    · simp; omega
    · simp
theorem pos_lt {x : ByteArray} : ∀ {ks : List ByteArray} {t : Nat} (ht : t < ks.length), t < posK x ks → ltS ks[t] x
  | [], _, ht, _ => by simp at ht
  | k :: r, t, ht, h => by
    unfold posK at h
    split at h
    · rename_i hk
      cases t with
      | zero => exact hk
      | succ t => exact pos_lt (ks := r) (by simpa using ht) (by omega)
    · omega
theorem pos_ge {x : ByteArray} : ∀ {ks : List ByteArray}, ks.Pairwise ltS → ∀ {t : Nat} (ht : t < ks.length), posK x ks ≤ t → ¬ ltS ks[t] x
  | [], _, _, ht, _ => by simp at ht
  | k :: r, hs, t, ht, h => by
    rw [List.pairwise_cons] at hs
    unfold posK at h
    split at h
    · cases t with
      | zero => omega
      | succ t => exact pos_ge hs.2 (by simpa using ht) (by omega)
    · rename_i hk
      cases t with
      | zero => exact hk
      | succ t =>
        have ht' : t < r.length := by simpa using ht
        exact fun h => hk (lt_trans (hs.1 r[t] (List.getElem_mem _)) h)
theorem pos_mem {x : ByteArray} : ∀ {ks : List ByteArray}, ks.Pairwise ltS → (x ∈ ks ↔ ks[posK x ks]? = some x)
  | [], _ => by simp [posK]
  | k :: r, hs => by
    rw [List.pairwise_cons] at hs
    have ih := pos_mem (x := x) hs.2
    unfold posK
    split
    · rename_i hk
      rw [List.mem_cons, List.getElem?_cons_succ, ← ih]
      exact ⟨fun h => h.elim (fun e => absurd e.symm (lt_ne hk)) id, .inr⟩
    · rename_i hk
      rw [List.mem_cons, List.getElem?_cons_zero, Option.some.injEq]
      refine ⟨fun h => h.elim Eq.symm (fun hm => absurd (hs.1 x hm) hk), fun h => .inl h.symm⟩

/-- A book's pairs with one more or another one. -/
def putL (k v : ByteArray) : List (ByteArray × ByteArray) → List (ByteArray × ByteArray)
  | [] => [(k, v)]
  | p :: r => if ltS p.1 k then p :: putL k v r else if p.1 = k then (k, v) :: r else (k, v) :: p :: r
def delL (k : ByteArray) : List (ByteArray × ByteArray) → List (ByteArray × ByteArray)
  | [] => []
  | p :: r => if p.1 = k then r else p :: delL k r

theorem getL_none {k : ByteArray} : ∀ {l : List (ByteArray × ByteArray)}, getL k l = none ↔ k ∉ keysL l
  | [] => by simp [getL]
  | p :: r => by
    by_cases hp : p.1 = k
    · simp [getL, hp]
    · have := getL_none (k := k) (l := r)
      simp only [getL, if_neg hp, this, List.map_cons, List.mem_cons, not_or]
      exact ⟨fun h => ⟨fun e => hp e.symm, h⟩, fun h => h.2⟩
theorem getL_mem {k v : ByteArray} : ∀ {l : List (ByteArray × ByteArray)}, getL k l = some v → (k, v) ∈ l
  | [], h => by cases h
  | p :: r, h => by
    by_cases hp : p.1 = k
    · simp only [getL, if_pos hp, Option.some.injEq] at h
      subst hp h
      exact List.mem_cons_self ..
    · simp only [getL, if_neg hp] at h
      exact List.mem_cons_of_mem _ (getL_mem h)
theorem mem_getL {k v : ByteArray} : ∀ {l : List (ByteArray × ByteArray)}, (keysL l).Pairwise ltS → (k, v) ∈ l → getL k l = some v
  | [], _, h => by simp at h
  | p :: r, hs, h => by
    simp only [List.map_cons, List.pairwise_cons] at hs
    rw [List.mem_cons] at h
    rcases h with rfl | h
    · simp [getL]
    · have : ltS p.1 k := hs.1 k (List.mem_map_of_mem (f := (·.1)) h)
      simp only [getL, if_neg (lt_ne this)]
      exact mem_getL hs.2 h
/-- The keys of a book into which a pair was put. -/
theorem keys_putL {k v : ByteArray} : ∀ {l : List (ByteArray × ByteArray)}, (keysL l).Pairwise ltS → keysL (putL k v l) = if (getL k l).isSome then keysL l else (keysL l).take (posK k (keysL l)) ++ k :: (keysL l).drop (posK k (keysL l))
  | [], _ => by simp [putL, posK, getL]
  | p :: r, hs => by
    simp only [List.map_cons, List.pairwise_cons] at hs
    have ih := keys_putL (k := k) (v := v) hs.2
    unfold putL
    by_cases h1 : ltS p.1 k
    · rw [if_pos h1]
      simp only [List.map_cons, posK, if_pos h1, ih, getL, if_neg (lt_ne h1)]
      split <;> simp
    · rw [if_neg h1]
      by_cases h2 : p.1 = k
      · rw [if_pos h2]
        simp [h2, getL]
      · rw [if_neg h2]
        have hlt : ltS k p.1 := (lt_total h2).resolve_left h1
        have hn : getL k r = none := getL_none.2 (fun hm => lt_asymm (hs.1 k hm) hlt)
        simp [posK, h1, getL, h2, hn]
theorem lt_putL {a k v : ByteArray} (ha : ltS a k) : ∀ {l : List (ByteArray × ByteArray)}, (∀ x ∈ keysL l, ltS a x) → ∀ x ∈ keysL (putL k v l), ltS a x
  | [], _, x, hx => by simp [putL] at hx; rw [hx]; exact ha
  | p :: r, h, x, hx => by
    simp only [List.map_cons, List.mem_cons] at h
    unfold putL at hx
    split at hx
    · simp only [List.map_cons, List.mem_cons] at hx
      rcases hx with rfl | hx
      · exact h _ (.inl rfl)
      · exact lt_putL ha (fun x hx => h x (.inr hx)) x hx
    · split at hx
      · simp only [List.map_cons, List.mem_cons] at hx
        rcases hx with rfl | hx
        · exact ha
        · exact h _ (.inr hx)
      · simp only [List.map_cons, List.mem_cons] at hx
        rcases hx with rfl | rfl | hx
        · exact ha
        · exact h _ (.inl rfl)
        · exact h _ (.inr hx)
theorem sorted_putL {k v : ByteArray} : ∀ {l : List (ByteArray × ByteArray)}, (keysL l).Pairwise ltS → (keysL (putL k v l)).Pairwise ltS
  | [], _ => by simp [putL]
  | p :: r, hs => by
    have hs0 := hs
    simp only [List.map_cons, List.pairwise_cons] at hs
    unfold putL
    by_cases h1 : ltS p.1 k
    · rw [if_pos h1]
      simp only [List.map_cons, List.pairwise_cons]
      exact ⟨lt_putL h1 hs.1, sorted_putL hs.2⟩
    · rw [if_neg h1]
      by_cases h2 : p.1 = k
      · rw [if_pos h2]
        simp only [List.map_cons, List.pairwise_cons]
        exact ⟨h2 ▸ hs.1, hs.2⟩
      · rw [if_neg h2]
        have hlt : ltS k p.1 := (lt_total h2).resolve_left h1
        simp only [List.map_cons, List.pairwise_cons, List.mem_cons]
        exact ⟨fun x hx => hx.elim (fun e => e ▸ hlt) (fun hm => lt_trans hlt (hs.1 x hm)), hs.1, hs.2⟩
theorem getL_putL {k v x : ByteArray} : ∀ {l : List (ByteArray × ByteArray)}, getL x (putL k v l) = if x = k then some v else getL x l
  | [] => by
    by_cases h : x = k
    · simp [putL, getL, h]
    · simp only [putL, getL, if_neg h, if_neg (fun e : k = x => h e.symm)]
  | p :: r => by
    have ih := getL_putL (k := k) (v := v) (x := x) (l := r)
    unfold putL
    split
    · rename_i h1
      by_cases h : p.1 = x
      · simp only [getL, if_pos h, if_neg (show ¬ x = k from fun e => lt_ne h1 (h.trans e))]
      · simp only [getL, if_neg h, ih]
    · split
      · rename_i h2
        by_cases h : x = k
        · simp [getL, h]
        · simp only [getL, if_neg h, if_neg (fun e : k = x => h e.symm), if_neg (fun e : p.1 = x => h (e.symm.trans h2))]
      · by_cases h : x = k
        · simp [getL, h]
        · simp only [getL, if_neg h, if_neg (fun e : k = x => h e.symm)]
theorem keys_delL {k : ByteArray} : ∀ {l : List (ByteArray × ByteArray)}, (keysL l).Pairwise ltS → k ∈ keysL l → keysL (delL k l) = (keysL l).take (posK k (keysL l)) ++ (keysL l).drop (posK k (keysL l) + 1)
  | [], _, h => by simp at h
  | p :: r, hs, h => by
    simp only [List.map_cons, List.pairwise_cons] at hs
    by_cases h1 : p.1 = k
    · simp [delL, h1, posK, lt_irrefl]
    · have hm : k ∈ keysL r := by
        simp only [List.map_cons, List.mem_cons] at h
        exact h.resolve_left (fun e => h1 e.symm)
      have hlt : ltS p.1 k := hs.1 k hm
      have ih := keys_delL hs.2 hm
      simp [delL, h1, posK, hlt, ih]
theorem delL_sub {k : ByteArray} : ∀ {l : List (ByteArray × ByteArray)}, (delL k l).Sublist l
  | [] => by simp [delL]
  | p :: r => by
    by_cases hp : p.1 = k
    · simp [delL, hp]
    · simp only [delL, if_neg hp]
      exact delL_sub.cons_cons _
theorem sorted_delL {k : ByteArray} {l : List (ByteArray × ByteArray)} (hs : (keysL l).Pairwise ltS) : (keysL (delL k l)).Pairwise ltS := hs.sublist (delL_sub.map _)
theorem getL_delL {k x : ByteArray} : ∀ {l : List (ByteArray × ByteArray)}, (keysL l).Pairwise ltS → getL x (delL k l) = if x = k then none else getL x l
  | [], _ => by simp [delL, getL]
  | p :: r, hs => by
    simp only [List.map_cons, List.pairwise_cons] at hs
    have ih := getL_delL (k := k) (x := x) hs.2
    by_cases hp : p.1 = k
    · by_cases hx : x = k
      · rw [if_pos hx]
        simp only [delL, if_pos hp]
        rw [getL_none, hx, ← hp]
        exact fun hm => lt_irrefl _ (hs.1 _ hm)
      · simp only [delL, if_pos hp, if_neg hx, getL, show ¬ p.1 = x from fun e => hx (e.symm.trans hp), if_false]
    · by_cases hx : p.1 = x
      · simp only [delL, if_neg hp, getL, if_pos hx, if_neg (show ¬ x = k from fun e => hp (hx.trans e))]
      · simp only [delL, if_neg hp, getL, if_neg hx, ih]
/-- How much a key and its value hold. -/
def oldS (k : ByteArray) (l : List (ByteArray × ByteArray)) : Nat := ((getL k l).map (fun u => k.size + u.size)).getD 0
theorem oldS_ne {p : ByteArray × ByteArray} {k : ByteArray} {l : List (ByteArray × ByteArray)} (h : ¬ p.1 = k) : oldS k (p :: l) = oldS k l := by simp [oldS, getL, h]
theorem size_putL {k v : ByteArray} : ∀ {l : List (ByteArray × ByteArray)}, (keysL l).Pairwise ltS → sizeL (putL k v l) + oldS k l = sizeL l + (k.size + v.size)
  | [], _ => by simp [putL, getL, sizeL, sizeP, oldS]
  | p :: r, hs => by
    simp only [List.map_cons, List.pairwise_cons] at hs
    have ih := size_putL (k := k) (v := v) hs.2
    unfold putL
    by_cases h1 : ltS p.1 k
    · rw [if_pos h1]
      rw [oldS_ne (lt_ne h1)]
      simp only [sizeL, List.map_cons, List.sum_cons] at ih ⊢
      omega
    · rw [if_neg h1]
      by_cases h2 : p.1 = k
      · subst h2
        simp [getL, sizeL, sizeP, oldS]
        omega
      · rw [if_neg h2, oldS_ne h2]
        have hlt : ltS k p.1 := (lt_total h2).resolve_left h1
        have hn : getL k r = none := getL_none.2 (fun hm => lt_asymm (hs.1 k hm) hlt)
        simp only [oldS, hn, sizeL, List.map_cons, List.sum_cons, sizeP, Option.map_none, Option.getD_none]
        omega
theorem size_delL {k v : ByteArray} : ∀ {l : List (ByteArray × ByteArray)}, getL k l = some v → sizeL (delL k l) + (k.size + v.size) = sizeL l
  | [], h => by cases h
  | p :: r, h => by
    by_cases hp : p.1 = k
    · simp only [getL, if_pos hp, Option.some.injEq] at h
      subst hp h
      simp [delL, sizeL, sizeP]
      omega
    · simp only [getL, if_neg hp] at h
      have ih := size_delL h
      simp only [delL, if_neg hp, sizeL, List.map_cons, List.sum_cons] at ih ⊢
      omega
theorem len_putL {k v : ByteArray} : ∀ {l : List (ByteArray × ByteArray)}, (keysL l).Pairwise ltS → (putL k v l).length = if getL k l = none then l.length + 1 else l.length
  | [], _ => by simp [putL, getL]
  | p :: r, hs => by
    simp only [List.map_cons, List.pairwise_cons] at hs
    have ih := len_putL (k := k) (v := v) hs.2
    unfold putL
    by_cases h1 : ltS p.1 k
    · rw [if_pos h1]
      simp only [getL, if_neg (lt_ne h1), List.length_cons, ih]
      split <;> rfl
    · rw [if_neg h1]
      by_cases h2 : p.1 = k
      · simp [getL, h2]
      · rw [if_neg h2]
        have hlt : ltS k p.1 := (lt_total h2).resolve_left h1
        have hn : getL k r = none := getL_none.2 (fun hm => lt_asymm (hs.1 k hm) hlt)
        simp [getL, h2, hn]
theorem mem_putL {k v : ByteArray} {q : ByteArray × ByteArray} : ∀ {l : List (ByteArray × ByteArray)}, q ∈ putL k v l → q = (k, v) ∨ q ∈ l
  | [], h => by simpa [putL] using h
  | p :: r, h => by
    unfold putL at h
    split at h
    · rw [List.mem_cons] at h ⊢
      rcases h with h | h
      · exact .inr (.inl h)
      · exact (mem_putL h).imp id .inr
    · split at h
      · rw [List.mem_cons] at h ⊢
        exact h.imp id .inr
      · rw [List.mem_cons] at h
        exact h
end Go.Proofs.YtkgflepgkhnclaaGreatDoor
