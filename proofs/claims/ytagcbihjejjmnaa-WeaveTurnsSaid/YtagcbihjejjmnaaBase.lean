/-
  General lemmas, over any program: from 'the call returns true and changes nothing that was there' to the statement of a law; arguments that are read as flat rows of integers, bools and strings; slices of such rows. No conditions of their own.
-/
import Derived.Test.YtagcbihjejjmnaaRows
import Derived.WalkKit
import Derived.ProofKit
import Derived.WalkSpells
import Derived.WalkLawsBesides
import Derived.Below
import Derived.Deep.Slices
import Derived.Deep.Draws
import Derived.Deep.AppendLies
import Derived.Laws.OwnMore
import Derived.SizedLaws
import Derived.BigQuiet
import Derived.Deep.QuietTactic
import Derived.Lib.Hide
import Derived.IntWalk
import Derived.Deep.RegionWith
import Derived.Deep.RegionHeld3
import Derived.Deep.RegionLaw
import Derived.Deep.DeepCutAuto
import Derived.Deep.DeepFit
import Derived.BigRegion
import Derived.StillTailTactics
import Derived.Outline
namespace Go.Proofs.Ytagcbihjejjmnaa
open Go.ChangeShapes Go.WideShapes Go.ChangeAt Go.RowKit
set_option linter.unusedVariables false

/-! ### From a walk to a law's statement -/
section
variable {H : Type} {enc : TypeId × Value → H} {P : Program}

theorem trodAll_below (hl : laidOutB P = true) {W W' : World} (hb : Below W.heap.size W W') : ∀ {ts : List TypeId} {vs : List Value} {ds : List (DataW H)} {ps : List MemPlace},
    (∀ t ∈ ts, P.readableRec t = true ∧ t < P.types.size) → DataW.TrodAll enc P W 0 (fun _ => true) true ts vs ds ps →
    DataW.TrodAll enc P W' 0 (fun b => decide (b < W.heap.size)) true ts vs ds ps
  | [], _, _, _, _, h => by
    obtain ⟨rfl, rfl, rfl⟩ := trodAll_nil h
    exact trodAll_mk0
  | t :: ts, _, _, _, hr, h => by
    obtain ⟨v, vs1, d, ds1, a, b, rfl, rfl, rfl, h1, h2⟩ := trodAll_cons h
    have lt : ∀ x ∈ a, x.block < W.heap.size := by obtain ⟨m, hm⟩ := h1; exact DataW.trod_lt m _ _ _ hm
    exact ⟨a, b, Below.trod hl (hr t (by simp)).1 (hr t (by simp)).2 h1 hb lt, trodAll_below hl hb (fun t ht => hr t (by simp [ht])) h2, rfl⟩

theorem trodAll_length {w : World} {base : Nat} {spare : Nat → Bool} {held : Bool} : ∀ {ts : List TypeId} {vs : List Value} {ds : List (DataW H)} {ps : List MemPlace},
    DataW.TrodAll enc P w base spare held ts vs ds ps → ds.length = ts.length ∧ vs.length = ts.length
  | [], _, _, _, h => by
    obtain ⟨rfl, rfl, rfl⟩ := trodAll_nil h
    exact ⟨rfl, rfl⟩
  | t :: ts, _, _, _, h => by
    obtain ⟨v, vs1, d, ds1, a, b, rfl, rfl, rfl, h1, h2⟩ := trodAll_cons h
    have := trodAll_length h2
    exact ⟨by simp [this.1], by simp [this.2]⟩

/-- What a law's walk shows: true, and nothing that was there has changed. -/
def LawCalls (P : Program) (n : FuncId) (W : World) (args : Array Value) : Prop :=
  Calls P n args W fun e W' => e = .returned (.bool true) ∧ Below W.heap.size W W'

theorem law_post {fn : Func} {s : ChangeSpec} {n : FuncId} {tb : TypeId} {W : World} {args : Array Value} {ds gs : List (DataW H)} {before : List MemPlace}
    (hl : laidOutB P = true) (hv : s.vars = []) (hres : fn.resultTypes = #[tb]) (htb : P.underlying tb = some .bool)
    (hr : fn.params.toList.all (fun t => P.readableRec t && decide (t < P.types.size)) = true)
    (hs : ds.length = fn.params.toList.length → s.fn H ds = { results := [.lit (.bool true)], args := ds })
    (hW : DataW.Whole enc P fn.params.toList s.vars false W args.toList ds gs before) (h : LawCalls P n W args) :
    Calls P n args W fun e W' => ∃ v, e = .returned v ∧ s.post enc P fn false true false false W args v W' := by
  refine Calls.mono h fun e W' ⟨he, bel⟩ => ⟨_, he, ?_⟩
  have hW' := hW
  obtain ⟨p, q, hA, hV, rfl, hfz, hnd⟩ := hW
  rw [hv] at hV
  obtain ⟨rfl, rfl⟩ := trodVars_none hV
  have hlen := (trodAll_length hA).1
  have hsd := hs hlen
  have hargs := trodAll_below hl bel (fun t ht => by have := List.all_eq_true.1 hr t ht; simpa using this) hA
  simp only [ChangeSpec.post, ChangeSpec.post] at *
  refine ⟨ds, [], p ++ [], [], p, [], hW', ?_, ?_, ?_, bel.frame _, fun h => by cases h⟩
  · rw [List.append_nil, hsd, hres]
    exact trodAll_mk1 (shut_bool htb _)
  · rw [List.append_nil, hsd]
    exact hargs
  · rw [hv, List.append_nil, hsd]; rfl
end

/-! ### Flat types: rows of integers, bools and strings -/

/-- A cell of a flat type. -/
inductive L0 where
  | int (k : IntKind)
  | bool
  | str

def L0.ok : L0 → Value → Prop
  | .int k, v => ∃ n : Int, v = .int k n ∧ (Lit.int k n).wf = true
  | .bool, v => ∃ b : Bool, v = .bool b
  | .str, v => ∃ s : ByteArray, v = .string s ∧ s.size ≤ maxLen

def Flat : List L0 → List Value → Prop
  | [], [] => True
  | l :: ls, v :: vs => l.ok v ∧ Flat ls vs
  | _, _ => False

theorem Flat.length : ∀ {ls : List L0} {vs : List Value}, Flat ls vs → vs.length = ls.length
  | [], [], _ => rfl
  | _ :: _, _ :: _, h => by simp [Flat.length h.2]
  | [], _ :: _, h => h.elim
  | _ :: _, [], h => h.elim
theorem Flat.cons_inv {l : L0} {ls : List L0} {cs : List Value} (h : Flat (l :: ls) cs) : ∃ v vs, cs = v :: vs ∧ l.ok v ∧ Flat ls vs := by
  cases cs with
  | nil => exact h.elim
  | cons v vs => exact ⟨v, vs, rfl, h.1, h.2⟩
theorem Flat.nil_inv {cs : List Value} (h : Flat [] cs) : cs = [] := by
  cases cs with
  | nil => rfl
  | cons v vs => exact h.elim
theorem Flat.append : ∀ {a b : List L0} {cs ds : List Value}, Flat a cs → Flat b ds → Flat (a ++ b) (cs ++ ds)
  | [], _, [], _, _, h => h
  | _ :: _, _, _ :: _, _, h, k => ⟨h.1, Flat.append h.2 k⟩
  | [], _, _ :: _, _, h, _ => h.elim
  | _ :: _, _, [], _, h, _ => h.elim

/-- The cells of the fields, one after the other, if they lie so. -/
def leavesFields (f : TypeId → Option (List L0)) : Nat → List Field → Option (List L0)
  | _, [] => some []
  | off, g :: gs => if g.offset = off then
      match f g.type with
      | some a => (leavesFields f (off + a.length) gs).map (a ++ ·)
      | none => none
    else none

/-- The cells of a flat type. -/
def leaves (P : Program) : Nat → TypeId → Option (List L0)
  | 0, _ => none
  | d + 1, t => match P.underlying t with
    | some .bool => some [.bool]
    | some (.int k) => some [.int k]
    | some .string => some [.str]
    | some (.struct fs) => (leavesFields (fun u => match leaves P d u with
        | some a => if P.cellsOf u = a.length then some a else none
        | none => none) 0 fs.toList)
    | _ => none

section
variable {H : Type} {enc : TypeId × Value → H} {P : Program} {w : World} {base : Nat} {spare : Nat → Bool} {held : Bool}

theorem flat_fields {f : TypeId → Option (List L0)} {fuel : Nat} (hf : ∀ u a, f u = some a → P.cellsOf u = a.length ∧ ∀ cs x, DataW.trod enc P w base spare held fuel u cs = some x → Flat a cs) :
    ∀ {gs : List Field} {off : Nat} {ls : List L0} {cs : List Value}, leavesFields f off gs = some ls → off + ls.length = cs.length →
      (∀ g ∈ gs, ∃ x, DataW.trod enc P w base spare held fuel g.type ((cs.drop g.offset).take (P.cellsOf g.type)) = some x) → Flat ls (cs.drop off)
  | [], off, ls, cs, h, hl, _ => by
    simp only [leavesFields, Option.some.injEq] at h
    subst h
    have : cs.drop off = [] := by
      simp only [List.length_nil, Nat.add_zero] at hl
      rw [hl, List.drop_length]
    rw [this]
    trivial
  | g :: gs, off, ls, cs, h, hl, hg => by
    simp only [leavesFields] at h
    split at h
    · rename_i hoff
      cases ha : f g.type with
      | none => rw [ha] at h; cases h
      | some a =>
        rw [ha] at h
        simp only [Option.map_eq_some_iff] at h
        obtain ⟨ls', h', rfl⟩ := h
        obtain ⟨hc, hflat⟩ := hf _ _ ha
        obtain ⟨x, hx⟩ := hg g (by simp)
        have h1 := hflat _ _ hx
        rw [hoff, hc] at h1
        have h2 := flat_fields hf (cs := cs) h' (by rw [← hl, List.length_append]; omega) (fun g' hg' => hg g' (by simp [hg']))
        have e : cs.drop off = (cs.drop off).take a.length ++ cs.drop (off + a.length) := by
          rw [← List.drop_drop, List.take_append_drop]
        rw [e]
        exact h1.append h2
    · cases h

theorem leaves_trod : ∀ (d : Nat) (t : TypeId) (ls : List L0), leaves P d t = some ls → ∀ (fuel : Nat) (cs : List Value) (x : DataW H × List MemPlace),
    P.cellsOf t = ls.length → DataW.trod enc P w base spare held fuel t cs = some x → Flat ls cs
  | 0, _, _, h, _, _, _, _, _ => by cases h
  | d + 1, t, ls, h, fuel, cs, x, hc, ht => by
    simp only [leaves] at h
    cases hu : P.underlying t with
    | none => rw [hu] at h; cases h
    | some u =>
      rw [hu] at h
      cases u with
      | bool =>
        simp only [Option.some.injEq] at h
        subst h
        obtain ⟨b, hb, _⟩ := DataW.trod_bool hu ht
        subst hb
        exact ⟨⟨b, rfl⟩, trivial⟩
      | int k =>
        simp only [Option.some.injEq] at h
        subst h
        obtain ⟨n, hb, _, hw⟩ := DataW.trod_int hu ht
        subst hb
        exact ⟨⟨n, rfl, hw⟩, trivial⟩
      | string =>
        simp only [Option.some.injEq] at h
        subst h
        obtain ⟨n, hb, _, hw⟩ := DataW.trod_string hu ht
        subst hb
        exact ⟨⟨n, rfl, hw⟩, trivial⟩
      | struct fs =>
        simp only at h
        obtain ⟨xs, n, rfl, _, hlen, hxl, hg⟩ := DataW.trod_struct hu ht
        have := flat_fields (enc := enc) (P := P) (w := w) (base := base) (spare := spare) (held := held) (fuel := n) (cs := cs) (off := 0) (fun u a ha => by
          split at ha
          · rename_i b hb
            split at ha
            · rename_i hcb
              simp only [Option.some.injEq] at ha
              subst ha
              exact ⟨hcb, fun cs' x' hx' => leaves_trod d u _ hb n cs' x' hcb hx'⟩
            · cases ha
          · cases ha) h (by rw [hlen, hc]; omega) (fun g hg' => by
            obtain ⟨i, hi, he⟩ := List.getElem_of_mem hg'
            have hi' : fs[i]? = some g := by rw [← he]; simp at hi ⊢
            have h1 := hg i g hi'
            have hi2 : i < xs.length := by rw [hxl]; simpa using hi
            rw [List.getElem?_eq_getElem hi2] at h1
            exact ⟨_, h1⟩)
        simpa using this
      | _ => cases h

/-- An argument of a flat struct type, by value. -/
theorem open_flat_agg {r : Reach} {b0 : Nat} {t : TypeId} {fs : Array Field} {ls : List L0} {v : Value} {d : DataW H} {p : List MemPlace} (hs : P.underlying t = some (.struct fs)) (hls : leaves P 9 t = some ls) (hC : P.cellsOf t = ls.length)
    (hv : Value.okWide P w r b0 t v) (h : DataW.Trod enc P w base spare held t v d p) : ∃ cs : List Value, v = .agg ⟨cs⟩ ∧ Flat ls cs := by
  obtain ⟨cs, rfl, hsz⟩ := okWide_struct hs hv
  obtain ⟨l⟩ := cs
  obtain ⟨fuel, hf⟩ := h
  exact ⟨l, rfl, leaves_trod 9 t ls hls fuel _ _ hC hf⟩

/-- A slice that lies in memory: its rows, each of as many cells as its list has. -/
def SliceRows (w : World) (A : Option Addr) (n cap sz : Nat) (rows : List (List Value)) : Prop :=
  rows.length = n ∧ n ≤ cap ∧ cap ≤ maxLen ∧ (∀ r ∈ rows, r.length = sz) ∧ (A = none → cap = 0) ∧
    ∀ i cs, rows[i]? = some cs → ∃ a, A = some a ∧ a.block < w.heap.size ∧ ∀ j u, cs[j]? = some u → w.cell? (a.add (i * sz + j)) = some u

/-- A slice of a flat element type. -/
theorem open_flat_slice {t e : TypeId} {ls : List L0} {fuel : Nat} {cs : List Value} {x : DataW H × List MemPlace} (ht : P.underlying t = some (.slice e)) (hls : leaves P 9 e = some ls) (hC : P.cellsOf e = ls.length) (hpos : 0 < ls.length)
    (h : DataW.trod enc P w base spare held fuel t cs = some x) :
    ∃ (A : Option Addr) (n cap : Nat) (rows : List (List Value)), cs = [.slice A n cap] ∧ SliceRows w A n cap ls.length rows ∧ (∀ r ∈ rows, Flat ls r) ∧ (∃ el sp, (x.1 = .nil ∧ n = 0 ∧ cap = 0) ∨ (x.1 = .slice el sp ∧ el.length = n)) := by
  rcases Go.Deep.open_slice ht h with ⟨rfl, rfl⟩ | ⟨a, len, cap, m, n, D, Pl, rfl, hb, hl, hm, hmm, rfl, hi⟩
  · exact ⟨none, 0, 0, [], rfl, ⟨rfl, Nat.le_refl _, Nat.zero_le _, by simp, fun _ => rfl, by simp⟩, by simp, [], [], .inl ⟨rfl, rfl, rfl⟩⟩
  · have hlm : len ≤ m := by rw [hmm]; split <;> omega
    obtain ⟨f, hf⟩ := Go.Deep.choose_lt (α := List Value) (n := len) (p := fun i cs' => w.cells? base (a.add (i * P.cellsOf e)) (P.cellsOf e) = some cs' ∧ Flat ls cs') (fun i hi' => by
      obtain ⟨cs', hc, ht'⟩ := hi i (by omega)
      exact ⟨cs', hc, leaves_trod 9 e ls hls n _ _ hC ht'⟩)
    refine ⟨some a, len, cap, (List.range len).map f, rfl, ⟨by simp, hl, hm, ?_, by simp, ?_⟩, ?_, (List.range len).map D, _, .inr ⟨rfl, by simp⟩⟩
    · intro r hr
      obtain ⟨i, hi', rfl⟩ := List.mem_map.1 hr
      exact (hf i (List.mem_range.1 hi')).2.length
    · intro i cs' hcs
      have hlt : i < len := by
        have := (List.getElem?_eq_some_iff.1 hcs).1
        simpa using this
      have he : cs' = f i := by simpa [hlt] using hcs.symm
      subst he
      obtain ⟨hc, hfl⟩ := hf i hlt
      obtain ⟨_, hcl, hat⟩ := World.cells?_some hc
      rw [hC] at hat
      have hcell : ∀ j u, (f i)[j]? = some u → w.cell? (a.add (i * ls.length + j)) = some u := by
        intro j u hj
        have hjl : j < ls.length := by rw [← hfl.length]; exact (List.getElem?_eq_some_iff.1 hj).1
        rw [← Go.Deep.add_add, hat j hjl, hj]
      refine ⟨a, rfl, ?_, hcell⟩
      have hfl0 : 0 < (f i).length := by rw [hfl.length]; exact hpos
      have h0 := hcell 0 _ (List.getElem?_eq_getElem hfl0)
      have hblk : (a.add (i * ls.length + 0)).block = a.block := by unfold Addr.add; split <;> rfl
      rw [← hblk]
      unfold World.cell? at h0
      rcases Nat.lt_or_ge (a.add (i * ls.length + 0)).block w.heap.size with hlt' | hge
      · exact hlt'
      · rw [Array.getElem?_eq_none hge] at h0; cases h0
    · intro r hr
      obtain ⟨i, hi', rfl⟩ := List.mem_map.1 hr
      exact (hf i (List.mem_range.1 hi')).2
end

/-! ### A slice that reads as a list (its cells), nil let in -/

theorem block_of_add (a : Addr) (n : Nat) : (a.add n).block = a.block := by unfold Addr.add; split <;> rfl
theorem add_of_add (a : Addr) (i j : Nat) : (a.add i).add j = a.add (i + j) := by
  unfold Addr.add
  by_cases hi : i = 0 <;> by_cases hj : j = 0 <;> simp [hi, hj, Nat.add_assoc]

/-- The slice '.slice A n c' holds the cells xs (size cells an element), and lies below block B. -/
def Reads (w : World) (B size : Nat) (A : Option Addr) (n : Nat) (xs : List Value) : Prop :=
  xs.length = n * size ∧ (0 < n → ∃ ad, A = some ad ∧ ad.block < B ∧ ∀ j u, xs[j]? = some u → w.cell? (ad.add j) = some u)

section
variable {w w' : World} {B B' size n : Nat} {A : Option Addr} {xs : List Value}
theorem Reads.none_ : Reads w B size A 0 [] := ⟨by simp, fun h => absurd h (by omega)⟩
theorem Reads.at_ {k : Nat} (h : Reads w B 1 A n xs) (hk : k < n) : ∃ ad u, A = some ad ∧ ad.block < B ∧ xs[k]? = some u ∧ w.cell? (ad.add k) = some u := by
  obtain ⟨ad, e, hb, hc⟩ := h.2 (by omega)
  have hl : k < xs.length := by have := h.1; omega
  exact ⟨ad, xs[k], e, hb, List.getElem?_eq_getElem hl, hc k _ (List.getElem?_eq_getElem hl)⟩
theorem Reads.keep (h : Reads w B size A n xs) (hk : ∀ p : Addr, p.block < B → w'.cell? p = w.cell? p) : Reads w' B size A n xs :=
  ⟨h.1, fun hn => by
    obtain ⟨ad, e, hb, hc⟩ := h.2 hn
    exact ⟨ad, e, hb, fun j u hu => (hk _ (by rw [block_of_add]; exact hb)).trans (hc j u hu)⟩⟩
theorem Reads.more (h : Reads w B size A n xs) (hB : B ≤ B') : Reads w B' size A n xs :=
  ⟨h.1, fun hn => by
    obtain ⟨ad, e, hb, hc⟩ := h.2 hn
    exact ⟨ad, e, by omega, hc⟩⟩
theorem Reads.below (h : Reads w B size A n xs) (hb : Below B w w') : Reads w' B size A n xs := h.keep fun _ hp => hb.cell hp
theorem Reads.drew (h : Reads w B size A n xs) : Reads w.drew B size A n xs := h
theorem Reads.drewN (h : Reads w B size A n xs) (k : Nat) : Reads (w.drewN k) B size A n xs := h
theorem Reads.alloc (h : Reads w B size A n xs) (hB : B ≤ w.heap.size) (o : Obj) : Reads (w.alloc o) B size A n xs := h.keep fun p hp => World.cell?_alloc_lt w o p (by omega)
theorem Reads.setCell (h : Reads w B size A n xs) {p : Addr} (hB : B ≤ p.block) (u : Value) : Reads (w.setCell p u) B size A n xs :=
  h.keep fun q hq => World.cell?_setCell_other w p q u (fun e => by subst e; omega)
theorem Reads.grown (h : Reads w B size A n xs) {row : Option Nat} (hg : w.grownBy w' row) (hB : B ≤ w.heap.size) (hr : ∀ g, row = some g → B ≤ g) : Reads w' B size A n xs :=
  h.keep fun p hp => World.cell?_of_block (hg.block p.block (by omega) (fun e => by have := hr _ e.symm; omega))
theorem Reads.of_own {base : Nat} {e : TypeId} {c : Nat} (h : w.ownsRow base e size (.slice A n c) n xs) : Reads w w.heap.size size A n xs := by
  refine ⟨h.1, fun hn => ?_⟩
  obtain ⟨g, cap, hv, _, hlt⟩ := h.form hn
  have hA : A = some ⟨g, 0, none⟩ := by injection hv
  subst hA
  exact ⟨_, rfl, hlt, h.cells (g := g) rfl⟩
end

/-! ### What is kept of a world -/
theorem bcell {W w1 : World} (hb : Below W.heap.size W w1) : (∀ b o, b < W.heap.size → w1.cell? ⟨b, o, none⟩ = W.cell? ⟨b, o, none⟩) ∧ (∀ b o, b < W.heap.size → w1.frozen? ⟨b, o, none⟩ = W.frozen? ⟨b, o, none⟩) :=
  ⟨fun b o h => hb.cell (p := ⟨b, o, none⟩) h, fun b o h => hb.frozen (p := ⟨b, o, none⟩) h⟩
theorem below_drewN {B : Nat} {a w : World} (h : Below B a w) (n : Nat) : Below B a (w.drewN n) := ⟨h.os, h.tape, h.output, h.size, h.block⟩
theorem below_trans {W w1 w2 : World} (h : Below W.heap.size W w1) (k : Below w1.heap.size w1 w2) : Below W.heap.size W w2 := h.trans (k.mono h.size)

/-- Block g is just the cells cs of element type t, none frozen. -/
def Blk (w : World) (g : Nat) (t : TypeId) (cs : Array Value) : Prop := w.heap[g]? = some (.cells cs t (0, 0))

section
variable {w w' : World} {g : Nat} {t : TypeId} {cs : Array Value}
theorem Blk.lt (h : Blk w g t cs) : g < w.heap.size := by
  rcases Nat.lt_or_ge g w.heap.size with hlt | hge
  · exact hlt
  · unfold Blk at h; rw [Array.getElem?_eq_none hge] at h; cases h
theorem Blk.cell (h : Blk w g t cs) (i : Nat) : w.cell? ⟨g, i, none⟩ = cs[i]? := cell_of_row w g i cs t (0, 0) h
theorem Blk.frozen (h : Blk w g t cs) (i : Nat) : w.frozen? ⟨g, i, none⟩ = false := by
  unfold Blk at h
  simp [World.frozen?, h]
theorem Blk.new (w : World) (t : TypeId) (cs : Array Value) : Blk (w.alloc (.cells cs t)) w.heap.size t cs := heap_alloc_new w _
theorem Blk.drew (h : Blk w g t cs) : Blk w.drew g t cs := h
theorem Blk.drewN (h : Blk w g t cs) (n : Nat) : Blk (w.drewN n) g t cs := h
theorem Blk.alloc (h : Blk w g t cs) (o : Obj) : Blk (w.alloc o) g t cs := (Below.heap_alloc w o g h.lt).trans h
theorem Blk.set_ (h : Blk w g t cs) (i : Nat) (u : Value) : Blk (w.setCell ⟨g, i, none⟩ u) g t (cs.setIfInBounds i u) := by
  unfold Blk at h ⊢
  simp [World.setCell, Array.getElem?_modify, h]
theorem Blk.far (h : Blk w g t cs) {p : Addr} (hp : g ≠ p.block) (u : Value) : Blk (w.setCell p u) g t cs := (Below.heap_setCell w p u g hp).trans h
theorem Blk.below {B : Nat} (h : Blk w g t cs) (hb : Below B w w') (hg : g < B) : Blk w' g t cs := (hb.block g hg).trans h
theorem Blk.grown {row : Option Nat} (h : Blk w g t cs) (hb : w.grownBy w' row) (hg : some g ≠ row) : Blk w' g t cs := (hb.block g h.lt hg).trans h
theorem Blk.own {base size n c : Nat} {xs : List Value} (h : Blk w g t cs) (hb : base ≤ g) (hn : n ≤ c) (hc : c ≤ maxLen) (hs : cs.size = c * size) (hx : cs.toList.take (n * size) = xs) : w.ownsRow base t size (.slice (some ⟨g, 0, none⟩) n c) n xs := by
  refine ⟨?_, Or.inr ⟨g, c, cs, rfl, hb, h, hn, hc, hs, hx⟩⟩
  rw [← hx, List.length_take, Array.length_toList, hs]
  exact Nat.min_eq_left (Nat.mul_le_mul_right _ hn)
end

theorem ret_int {k : IntKind} {a b : Int} (h : a = b) : Ending.returned (.int k a) = .returned (.int k b) := by rw [h]
theorem ret_bool {a b : Bool} (h : a = b) : Ending.returned (.bool a) = .returned (.bool b) := by rw [h]

/-- An owned row's value, nil or not, in one form. -/
theorem own_form {w : World} {base size n : Nat} {e : TypeId} {v : Value} {xs : List Value} (h : w.ownsRow base e size v n xs) : ∃ A c, v = .slice A n c ∧ (A = none → n = 0 ∧ c = 0) ∧ n ≤ c ∧ c ≤ maxLen := by
  rcases h.2 with ⟨h0, h1⟩ | ⟨g, cap, _, hv, _, _, hn, hc, _⟩
  · subst h1; exact ⟨none, 0, h0, fun _ => ⟨rfl, rfl⟩, Nat.le_refl _, Nat.zero_le _⟩
  · exact ⟨_, cap, hv, (fun h => by cases h), hn, hc⟩
theorem own_block_ge {w : World} {base size n : Nat} {e : TypeId} {v : Value} {xs : List Value} (h : w.ownsRow base e size v n xs) {g : Nat} (hg : g < base) : some g ≠ v.ownBlock := by
  intro e
  have := (h.lt g e.symm).1
  omega
theorem below_of_grown {B : Nat} {w w' : World} {base size n : Nat} {e : TypeId} {v : Value} {xs : List Value} (hg : w.grownBy w' v.ownBlock) (h : w.ownsRow base e size v n xs) (hB : B ≤ base) (hw : base ≤ w.heap.size) : Below B w w' :=
  (Below.refl _ _).grown hg (by omega) (fun k hk => by have := (h.lt k hk).1; omega)

def u8s (l : List UInt8) : List Value := l.map fun b => .int .u8 (b.toNat : Int)
theorem u8s_append (a b : List UInt8) : u8s (a ++ b) = u8s a ++ u8s b := by simp [u8s]

/-- 'string(b)' where b reads as the bytes l. -/
theorem run_string_of_reads {P : Program} {w : World} {B n cap : Nat} {A : Option Addr} {l : List UInt8} (src dst e : TypeId) (hs : P.underlying src = some (.slice e)) (he : P.underlying e = some (.int .u8)) (hd : P.underlying dst = some .string)
    (hA : A = none → cap = 0) (h : Reads w B 1 A n (u8s l)) : (convert src dst (.slice A n cap)).run P w = .ok (.string ⟨l.toArray⟩) w := by
  have hlen : l.length = n := by simpa [u8s] using h.1
  subst hlen
  rcases Nat.eq_zero_or_pos l.length with h0 | hpos
  · have hl : l = [] := List.length_eq_zero_iff.1 h0
    subst hl
    cases A with
    | none =>
      rw [run_convert_bytes_string w src dst e none _ cap hs he hd, hA rfl]
      rfl
    | some ad => exact run_convert_bytes_back w src dst e ad cap [] hs he hd (fun j hj => absurd hj (by simp))
  · obtain ⟨ad, rfl, _, hc⟩ := h.2 hpos
    exact run_convert_bytes_back w src dst e ad cap l hs he hd (fun j hj => hc j _ (by simp [u8s, hj]))

end Go.Proofs.Ytagcbihjejjmnaa
