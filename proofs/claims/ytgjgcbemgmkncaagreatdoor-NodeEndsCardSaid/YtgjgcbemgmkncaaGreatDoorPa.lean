/-
  General lemmas, over any program: from 'the call returns true and changes nothing that was there' to the statement of a law; arguments that are read as flat rows of integers, bools and strings; slices of such rows. No conditions of their own.
  A function's code behind its first parts: so that a long walk can be cut into declarations. Over any program.
  Layer 7: a row of a few kids as it lies in a block; its kids as a function of the byte; copy of elements of any size. Plain lists, and laws over any program.
  Walks, layer 7: there, slices.IndexFunc at the two closures, of, at, Len, Room.
  Walks, layer 7: at, Len, Room, Find, Next.
  Layer 7: what copies and stores make of a row's block. Plain lists.
  Walks, layer 7: put and take of a row.
  Walks, layer 7: Put, Take, Turn, Room, New.
  Layer 7: what a row's methods do, told by its kids as a function of the byte. Plain lists.
  Walks, layer 7: New, Pick, row.
  Walks, layer 7: awake.
  Layer 7: the iterator that All returns, as a contract of the kit's form ('SeqStopsK').
-/
import Derived.Test.YtgjgcbemgmkncaaGreatDoorRows
import Derived.WalkKit
import Derived.ProofKit
import Derived.WalkSpells
import Derived.WalkLawsBesides
import Derived.Below
import Derived.Deep.Slices
import Derived.Deep.Draws
import Derived.Deep.AppendLies
import Derived.Laws.OwnMore
import Derived.SizedLaws
import Derived.BigQuiet
import Derived.Deep.QuietTactic
import Derived.Lib.Hide
import Derived.IntWalk
import Derived.Deep.RegionWith
import Derived.Deep.RegionHeld3
import Derived.Deep.RegionLaw
import Derived.Deep.DeepCutAuto
import Derived.Deep.DeepFit
import Derived.BigRegion
import Derived.StillTailTactics
import Derived.Outline
import Derived.Maps.AppendAt
import Derived.Laws.CopyOwn
import Derived.RegionTactic
import Derived.OwnWalk
import Derived.RangeFuncNested
import Derived.RangeFuncBound
import Derived.RangeFuncCalls
import Derived.RangeFuncLeaves
import Derived.Shelf.Abstract
import Derived.Shelf.RegionOpen
import Derived.OwnWalkIn
import Derived.TacticsInMore
import Derived.LoopNIn
import Derived.LoopIn
import Derived.Deep.MidRow
namespace Go.Proofs.YtgjgcbemgmkncaaGreatDoor
open Go.ChangeShapes Go.WideShapes Go.ChangeAt Go.RowKit
set_option linter.unusedVariables false

/-! ### From a walk to a law's statement -/
section
variable {H : Type} {enc : TypeId × Value → H} {P : Program}

theorem trodAll_below (hl : laidOutB P = true) {W W' : World} (hb : Below W.heap.size W W') : ∀ {ts : List TypeId} {vs : List Value} {ds : List (DataW H)} {ps : List MemPlace},
    (∀ t ∈ ts, P.readableRec t = true ∧ t < P.types.size) → DataW.TrodAll enc P W 0 (fun _ => true) true ts vs ds ps →
    DataW.TrodAll enc P W' 0 (fun b => decide (b < W.heap.size)) true ts vs ds ps
  | [], _, _, _, _, h => by
    obtain ⟨rfl, rfl, rfl⟩ := trodAll_nil h
    exact trodAll_mk0
  | t :: ts, _, _, _, hr, h => by
    obtain ⟨v, vs1, d, ds1, a, b, rfl, rfl, rfl, h1, h2⟩ := trodAll_cons h
    have lt : ∀ x ∈ a, x.block < W.heap.size := by obtain ⟨m, hm⟩ := h1; exact DataW.trod_lt m _ _ _ hm
    exact ⟨a, b, Below.trod hl (hr t (by simp)).1 (hr t (by simp)).2 h1 hb lt, trodAll_below hl hb (fun t ht => hr t (by simp [ht])) h2, rfl⟩

theorem trodAll_length {w : World} {base : Nat} {spare : Nat → Bool} {held : Bool} : ∀ {ts : List TypeId} {vs : List Value} {ds : List (DataW H)} {ps : List MemPlace},
    DataW.TrodAll enc P w base spare held ts vs ds ps → ds.length = ts.length ∧ vs.length = ts.length
  | [], _, _, _, h => by
    obtain ⟨rfl, rfl, rfl⟩ := trodAll_nil h
    exact ⟨rfl, rfl⟩
  | t :: ts, _, _, _, h => by
    obtain ⟨v, vs1, d, ds1, a, b, rfl, rfl, rfl, h1, h2⟩ := trodAll_cons h
    have := trodAll_length h2
    exact ⟨by simp [this.1], by simp [this.2]⟩

/-- What a law's walk shows: true, and nothing that was there has changed. -/
def LawCalls (P : Program) (n : FuncId) (W : World) (args : Array Value) : Prop :=
  Calls P n args W fun e W' => e = .returned (.bool true) ∧ Below W.heap.size W W'

theorem law_post {fn : Func} {s : ChangeSpec} {n : FuncId} {tb : TypeId} {W : World} {args : Array Value} {ds gs : List (DataW H)} {before : List MemPlace}
    (hl : laidOutB P = true) (hv : s.vars = []) (hres : fn.resultTypes = #[tb]) (htb : P.underlying tb = some .bool)
    (hr : fn.params.toList.all (fun t => P.readableRec t && decide (t < P.types.size)) = true)
    (hs : ds.length = fn.params.toList.length → s.fn H ds = { results := [.lit (.bool true)], args := ds })
    (hW : DataW.Whole enc P fn.params.toList s.vars false W args.toList ds gs before) (h : LawCalls P n W args) :
    Calls P n args W fun e W' => ∃ v, e = .returned v ∧ s.post enc P fn false true false false W args v W' := by
  refine Calls.mono h fun e W' ⟨he, bel⟩ => ⟨_, he, ?_⟩
  have hW' := hW
  obtain ⟨p, q, hA, hV, rfl, hfz, hnd⟩ := hW
  rw [hv] at hV
  obtain ⟨rfl, rfl⟩ := trodVars_none hV
  have hlen := (trodAll_length hA).1
  have hsd := hs hlen
  have hargs := trodAll_below hl bel (fun t ht => by have := List.all_eq_true.1 hr t ht; simpa using this) hA
  simp only [ChangeSpec.post, ChangeSpec.post] at *
  refine ⟨ds, [], p ++ [], [], p, [], hW', ?_, ?_, ?_, bel.frame _, fun h => by cases h⟩
  · rw [List.append_nil, hsd, hres]
    exact trodAll_mk1 (shut_bool htb _)
  · rw [List.append_nil, hsd]
    exact hargs
  · rw [hv, List.append_nil, hsd]; rfl
end

/-! ### Flat types: rows of integers, bools and strings -/

/-- A cell of a flat type. -/
inductive L0 where
  | int (k : IntKind)
  | bool
  | str

def L0.ok : L0 → Value → Prop
  | .int k, v => ∃ n : Int, v = .int k n ∧ (Lit.int k n).wf = true
  | .bool, v => ∃ b : Bool, v = .bool b
  | .str, v => ∃ s : ByteArray, v = .string s ∧ s.size ≤ maxLen

def Flat : List L0 → List Value → Prop
  | [], [] => True
  | l :: ls, v :: vs => l.ok v ∧ Flat ls vs
  | _, _ => False

/-- The cells of the fields, one after the other, if they lie so. -/
def leavesFields (f : TypeId → Option (List L0)) : Nat → List Field → Option (List L0)
  | _, [] => some []
  | off, g :: gs => if g.offset = off then
      match f g.type with
      | some a => (leavesFields f (off + a.length) gs).map (a ++ ·)
      | none => none
    else none

/-- The cells of a flat type. -/
def leaves (P : Program) : Nat → TypeId → Option (List L0)
  | 0, _ => none
  | d + 1, t => match P.underlying t with
    | some .bool => some [.bool]
    | some (.int k) => some [.int k]
    | some .string => some [.str]
    | some (.struct fs) => (leavesFields (fun u => match leaves P d u with
        | some a => if P.cellsOf u = a.length then some a else none
        | none => none) 0 fs.toList)
    | _ => none

section
variable {H : Type} {enc : TypeId × Value → H} {P : Program} {w : World} {base : Nat} {spare : Nat → Bool} {held : Bool}

/-- A slice that lies in memory: its rows, each of as many cells as its list has. -/
def SliceRows (w : World) (A : Option Addr) (n cap sz : Nat) (rows : List (List Value)) : Prop :=
  rows.length = n ∧ n ≤ cap ∧ cap ≤ maxLen ∧ (∀ r ∈ rows, r.length = sz) ∧ (A = none → cap = 0) ∧
    ∀ i cs, rows[i]? = some cs → ∃ a, A = some a ∧ a.block < w.heap.size ∧ ∀ j u, cs[j]? = some u → w.cell? (a.add (i * sz + j)) = some u

end

/-! ### A slice that reads as a list (its cells), nil let in -/

theorem block_of_add (a : Addr) (n : Nat) : (a.add n).block = a.block := by unfold Addr.add; split <;> rfl
theorem add_of_add (a : Addr) (i j : Nat) : (a.add i).add j = a.add (i + j) := by
  unfold Addr.add
  by_cases hi : i = 0 <;> by_cases hj : j = 0 <;> simp [hi, hj, Nat.add_assoc]

/-- The slice '.slice A n c' holds the cells xs (size cells an element), and lies below block B. -/
def Reads (w : World) (B size : Nat) (A : Option Addr) (n : Nat) (xs : List Value) : Prop :=
  xs.length = n * size ∧ (0 < n → ∃ ad, A = some ad ∧ ad.block < B ∧ ∀ j u, xs[j]? = some u → w.cell? (ad.add j) = some u)

section
variable {w w' : World} {B B' size n : Nat} {A : Option Addr} {xs : List Value}
theorem Reads.none_ : Reads w B size A 0 [] := ⟨by simp, fun h => absurd h (by omega)⟩
theorem Reads.at_ {k : Nat} (h : Reads w B 1 A n xs) (hk : k < n) : ∃ ad u, A = some ad ∧ ad.block < B ∧ xs[k]? = some u ∧ w.cell? (ad.add k) = some u := by
  obtain ⟨ad, e, hb, hc⟩ := h.2 (by omega)
  have hl : k < xs.length := by have := h.1; omega
  exact ⟨ad, xs[k], e, hb, List.getElem?_eq_getElem hl, hc k _ (List.getElem?_eq_getElem hl)⟩
theorem Reads.keep (h : Reads w B size A n xs) (hk : ∀ p : Addr, p.block < B → w'.cell? p = w.cell? p) : Reads w' B size A n xs :=
  ⟨h.1, fun hn => by
    obtain ⟨ad, e, hb, hc⟩ := h.2 hn
    exact ⟨ad, e, hb, fun j u hu => (hk _ (by rw [block_of_add]; exact hb)).trans (hc j u hu)⟩⟩
theorem Reads.more (h : Reads w B size A n xs) (hB : B ≤ B') : Reads w B' size A n xs :=
  ⟨h.1, fun hn => by
    obtain ⟨ad, e, hb, hc⟩ := h.2 hn
    exact ⟨ad, e, by omega, hc⟩⟩
theorem Reads.below (h : Reads w B size A n xs) (hb : Below B w w') : Reads w' B size A n xs := h.keep fun _ hp => hb.cell hp
theorem Reads.of_own {base : Nat} {e : TypeId} {c : Nat} (h : w.ownsRow base e size (.slice A n c) n xs) : Reads w w.heap.size size A n xs := by
  refine ⟨h.1, fun hn => ?_⟩
  obtain ⟨g, cap, hv, _, hlt⟩ := h.form hn
  have hA : A = some ⟨g, 0, none⟩ := by injection hv
  subst hA
  exact ⟨_, rfl, hlt, h.cells (g := g) rfl⟩
end

theorem below_drewN {B : Nat} {a w : World} (h : Below B a w) (n : Nat) : Below B a (w.drewN n) := ⟨h.os, h.tape, h.output, h.size, h.block⟩
theorem below_trans {W w1 w2 : World} (h : Below W.heap.size W w1) (k : Below w1.heap.size w1 w2) : Below W.heap.size W w2 := h.trans (k.mono h.size)

/-- Block g is just the cells cs of element type t, none frozen. -/
def Blk (w : World) (g : Nat) (t : TypeId) (cs : Array Value) : Prop := w.heap[g]? = some (.cells cs t (0, 0))

section
variable {w w' : World} {g : Nat} {t : TypeId} {cs : Array Value}
theorem Blk.lt (h : Blk w g t cs) : g < w.heap.size := by
  rcases Nat.lt_or_ge g w.heap.size with hlt | hge
  · exact hlt
  · unfold Blk at h; rw [Array.getElem?_eq_none hge] at h; cases h
theorem Blk.cell (h : Blk w g t cs) (i : Nat) : w.cell? ⟨g, i, none⟩ = cs[i]? := cell_of_row w g i cs t (0, 0) h
theorem Blk.frozen (h : Blk w g t cs) (i : Nat) : w.frozen? ⟨g, i, none⟩ = false := by
  unfold Blk at h
  simp [World.frozen?, h]
theorem Blk.new (w : World) (t : TypeId) (cs : Array Value) : Blk (w.alloc (.cells cs t)) w.heap.size t cs := heap_alloc_new w _
theorem Blk.drew (h : Blk w g t cs) : Blk w.drew g t cs := h
theorem Blk.drewN (h : Blk w g t cs) (n : Nat) : Blk (w.drewN n) g t cs := h
theorem Blk.alloc (h : Blk w g t cs) (o : Obj) : Blk (w.alloc o) g t cs := (Below.heap_alloc w o g h.lt).trans h
theorem Blk.set_ (h : Blk w g t cs) (i : Nat) (u : Value) : Blk (w.setCell ⟨g, i, none⟩ u) g t (cs.setIfInBounds i u) := by
  unfold Blk at h ⊢
  simp [World.setCell, Array.getElem?_modify, h]
theorem Blk.far (h : Blk w g t cs) {p : Addr} (hp : g ≠ p.block) (u : Value) : Blk (w.setCell p u) g t cs := (Below.heap_setCell w p u g hp).trans h
theorem Blk.below {B : Nat} (h : Blk w g t cs) (hb : Below B w w') (hg : g < B) : Blk w' g t cs := (hb.block g hg).trans h
theorem Blk.grown {row : Option Nat} (h : Blk w g t cs) (hb : w.grownBy w' row) (hg : some g ≠ row) : Blk w' g t cs := (hb.block g h.lt hg).trans h
theorem Blk.own {base size n c : Nat} {xs : List Value} (h : Blk w g t cs) (hb : base ≤ g) (hn : n ≤ c) (hc : c ≤ maxLen) (hs : cs.size = c * size) (hx : cs.toList.take (n * size) = xs) : w.ownsRow base t size (.slice (some ⟨g, 0, none⟩) n c) n xs := by
  refine ⟨?_, Or.inr ⟨g, c, cs, rfl, hb, h, hn, hc, hs, hx⟩⟩
  rw [← hx, List.length_take, Array.length_toList, hs]
  exact Nat.min_eq_left (Nat.mul_le_mul_right _ hn)
end

theorem ret_int {k : IntKind} {a b : Int} (h : a = b) : Ending.returned (.int k a) = .returned (.int k b) := by rw [h]
theorem ret_bool {a b : Bool} (h : a = b) : Ending.returned (.bool a) = .returned (.bool b) := by rw [h]

/-- An owned row's value, nil or not, in one form. -/
theorem own_form {w : World} {base size n : Nat} {e : TypeId} {v : Value} {xs : List Value} (h : w.ownsRow base e size v n xs) : ∃ A c, v = .slice A n c ∧ (A = none → n = 0 ∧ c = 0) ∧ n ≤ c ∧ c ≤ maxLen := by
  rcases h.2 with ⟨h0, h1⟩ | ⟨g, cap, _, hv, _, _, hn, hc, _⟩
  · subst h1; exact ⟨none, 0, h0, fun _ => ⟨rfl, rfl⟩, Nat.le_refl _, Nat.zero_le _⟩
  · exact ⟨_, cap, hv, (fun h => by cases h), hn, hc⟩
def u8s (l : List UInt8) : List Value := l.map fun b => .int .u8 (b.toNat : Int)
/-- 'string(b)' where b reads as the bytes l. -/
theorem run_string_of_reads {P : Program} {w : World} {B n cap : Nat} {A : Option Addr} {l : List UInt8} (src dst e : TypeId) (hs : P.underlying src = some (.slice e)) (he : P.underlying e = some (.int .u8)) (hd : P.underlying dst = some .string)
    (hA : A = none → cap = 0) (h : Reads w B 1 A n (u8s l)) : (convert src dst (.slice A n cap)).run P w = .ok (.string ⟨l.toArray⟩) w := by
  have hlen : l.length = n := by simpa [u8s] using h.1
  subst hlen
  rcases Nat.eq_zero_or_pos l.length with h0 | hpos
  · have hl : l = [] := List.length_eq_zero_iff.1 h0
    subst hl
    cases A with
    | none =>
      rw [run_convert_bytes_string w src dst e none _ cap hs he hd, hA rfl]
      rfl
    | some ad => exact run_convert_bytes_back w src dst e ad cap [] hs he hd (fun j hj => absurd hj (by simp))
  · obtain ⟨ad, rfl, _, hc⟩ := h.2 hpos
    exact run_convert_bytes_back w src dst e ad cap l hs he hd (fun j hj => hc j _ (by simp [u8s, hj]))

end Go.Proofs.YtgjgcbemgmkncaaGreatDoor
namespace Go.Proofs.YtgjgcbemgmkncaaGreatDoor

/-- A function's code behind its first n parts. -/
def codeTail : Nat → Code → Code
  | 0, c => c
  | n + 1, .seq _ b => codeTail n b
  | _ + 1, c => c
noncomputable def bodyTail (f : Func) (n : Nat) : Code := codeTail n (f.body.getD .skip)

/-- The first and the second part of a code. -/
def codeHead : Code → Code
  | .seq a _ => a
  | c => c
def codeRest : Code → Code
  | .seq _ b => b
  | c => c

end Go.Proofs.YtgjgcbemgmkncaaGreatDoor
namespace Go.Proofs.YtgjgcbemgmkncaaGreatDoor
open Go.RowKit
set_option linter.unusedVariables false

/-- A part of a code, by a path: 0 the first of two, 1 the second, 2 inside, 3 then, 4 else. -/
def sub : List Nat → Code → Code
  | [], c => c
  | 0 :: l, .seq a _ => sub l a
  | 1 :: l, .seq _ b => sub l b
  | 2 :: l, .block _ c => sub l c
  | 2 :: l, .loop c => sub l c
  | 2 :: l, .scope c => sub l c
  | 3 :: l, .cond _ a _ => sub l a
  | 4 :: l, .cond _ _ b => sub l b
  | _ :: _, c => c
noncomputable def part (f : Func) (l : List Nat) : Code := sub l (f.body.getD .skip)

/-! ### copy, elements of any size -/
section
variable {P : Program} {w : World}
theorem grown_setRow (w : World) (g : Nat) (cs : Array Value) : w.grownBy (w.setRow g cs) (some g) :=
  ⟨rfl, rfl, rfl, by simp [World.setRow], fun k _ hk => setRow_other w g k cs (fun e => hk (by rw [e]))⟩
theorem run_copy_any (dT sT ty elem : TypeId) (sz : Nat) (hz : 0 < sz) (hu : P.underlying dT = some (.slice elem)) (hs : (P.info? elem).map (·.size) = some sz)
    (dp sp : Option Addr) (dLen dCap sLen sCap : Nat) (g off : Nat) (cur : List Value) (t : TypeId) (hg : Blk w g t cur.toArray) (cs : List Value) (hn : cs.length = Nat.min sLen dLen * sz)
    (hpos : 0 < cs.length → dp = some ⟨g, off, none⟩ ∧ ∃ ad, sp = some ad ∧ ∀ j v, cs[j]? = some v → w.cell? (ad.add j) = some v)
    (hfit : off + cs.length ≤ cur.length) (h1 : ∀ v ∈ cs, v.oneCell' = true) :
    ∃ w', (Builtin.copy_ #[dT, sT] ty #[.slice dp dLen dCap, .slice sp sLen sCap]).run P w = .ok (goInt (Nat.min sLen dLen)) w' ∧ Blk w' g t (splice cur off cs).toArray ∧ w.grownBy w' (some g) := by
  cases hq : P.info? elem with
  | none => simp [hq] at hs
  | some i =>
    have hi : i.size = sz := by simpa [hq] using hs
    rcases Nat.eq_zero_or_pos (Nat.min sLen dLen) with h0 | h0
    · have hc0 : cs = [] := List.eq_nil_of_length_eq_zero (by rw [hn, h0, Nat.zero_mul])
      subst hc0
      have hl : ∀ (x : Addr), (loadCells x 0).run P w = .ok #[] w := fun x => by simpa using run_loadCells_list (P := P) w x [] (by simp)
      refine ⟨w, ?_, by simpa [splice] using hg, World.grownBy.refl w _⟩
      cases dp <;> cases sp <;> simp [Builtin.copy_, run_underlying hu, Builtin.lenOf, Builtin.firstCells, sizeOf, typeInfo, hq, h0, storeCells, hl]
    · have hcp : 0 < cs.length := by rw [hn]; exact Nat.mul_pos h0 hz
      obtain ⟨rfl, ad, rfl, hsrc⟩ := hpos hcp
      have hl := run_loadCells_list (P := P) w ad cs hsrc
      have hst := run_storeCells_at P g off t cs 0 cur.toArray w hg (by simpa using hfit) h1
      have hst2 : (storeCells ⟨g, off, none⟩ cs 0).run P w = .ok () (w.setRow g (splice cur off cs).toArray) := by
        rw [hst]; simp [splice]
      refine ⟨w.setRow g (splice cur off cs).toArray, ?_, ?_, grown_setRow w g _⟩
      · simp [Builtin.copy_, run_underlying hu, Builtin.lenOf, Builtin.firstCells, sizeOf, typeInfo, hq, hi, ← hn, hl, hst2]
      · have := setRow_heap w g cur.toArray (splice cur off cs).toArray t (0, 0) hg
        simpa [splice, Blk] using this
theorem step_copy_any {ops : Array Oper} {o : Oper} {a : Act} {K : Act → World → Prop} {Q : Exit → Act → World → Prop} {E : Prop} (hgd : o.guard = none) (d s : Operand) (dT sT : TypeId)
    (ho : o.op = .call { callee := .builtin .copy, args := #[d, s], argTypes := #[dT, sT] }) (elem : TypeId) (sz : Nat) (hz : 0 < sz) (hu : P.underlying dT = some (.slice elem)) (hs : (P.info? elem).map (·.size) = some sz)
    (dp sp : Option Addr) (dLen dCap sLen sCap : Nat) (hd : a.eval d = .slice dp dLen dCap) (hsr : a.eval s = .slice sp sLen sCap)
    (g off : Nat) (cur : List Value) (t : TypeId) (hg : Blk w g t cur.toArray) (cs : List Value) (hn : cs.length = Nat.min sLen dLen * sz)
    (hpos : 0 < cs.length → dp = some ⟨g, off, none⟩ ∧ ∃ ad, sp = some ad ∧ ∀ j v, cs[j]? = some v → w.cell? (ad.add j) = some v)
    (hfit : off + cs.length ≤ cur.length) (h1 : ∀ v ∈ cs, v.oneCell' = true)
    (h : ∀ w', Hid (Blk w' g t (splice cur off cs).toArray ∧ w.grownBy w' (some g)) → K (a.put o.dst (goInt (Nat.min sLen dLen))) w') :
    if Region.wanted o (yielded ops a.tmps) = true then Oper.wp P o a w K Q else E := by
  have hw : Region.wanted o (yielded ops a.tmps) = true := by simp [Region.wanted, hgd]
  rw [if_pos hw]
  obtain ⟨w', hrun, h2, h3⟩ := run_copy_any (P := P) (w := w) dT sT o.type elem sz hz hu hs dp sp dLen dCap sLen sCap g off cur t hg cs hn hpos hfit h1
  unfold Oper.wp
  simp [execOp, ho, resolve, invoke, builtin, hd, hsr, hrun, Result.andThen]
  exact h w' (Lib.hid ⟨h2, h3⟩)
end

/-! ### A row -/
def rrow (r : Int × Int) : List Value := [.int .i64 r.1, .int .u32 r.2]
theorem rrow_len (r : Int × Int) : (rrow r).length = 2 := rfl
/-- A row's block: sixteen bytes, sixteen Refs, the number, the room. -/
structure FewO where
  bs : List Int
  rs : List (Int × Int)
  n : Nat
  room : Int
def FewO.cells (o : FewO) : List Value := o.bs.map (Value.int .u8) ++ (o.rs.flatMap rrow ++ [.int .i64 o.n, .int .i64 o.room])
structure FewO.ok (o : FewO) : Prop where
  lb : o.bs.length = 16
  lr : o.rs.length = 16
  ln : o.n ≤ 16
  bb : ∀ b ∈ o.bs, 0 ≤ b ∧ b ≤ 255
theorem flatR_len : ∀ l : List (Int × Int), (l.flatMap rrow).length = l.length * 2
  | [] => rfl
  | r :: l => by simp only [List.flatMap_cons, List.length_append, flatR_len l, rrow_len, List.length_cons]; omega
theorem flatR_at : ∀ (l : List (Int × Int)) (k : Nat) (r : Int × Int), l[k]? = some r → (l.flatMap rrow)[k * 2]? = some (.int .i64 r.1) ∧ (l.flatMap rrow)[k * 2 + 1]? = some (.int .u32 r.2)
  | [], k, r, h => by simp at h
  | x :: l, 0, r, h => by simp at h; subst h; exact ⟨rfl, rfl⟩
  | x :: l, k + 1, r, h => by
    have ih := flatR_at l k r (by simpa using h)
    rw [List.flatMap_cons, show (k + 1) * 2 = k * 2 + 2 by omega]
    exact ⟨by rw [List.getElem?_append_right (by simp [rrow])]; simpa [rrow] using ih.1, by rw [List.getElem?_append_right (by simp [rrow] <;> omega)]; simpa [rrow] using ih.2⟩
section
variable {o : FewO}
theorem FewO.len (h : o.ok) : o.cells.length = 50 := by
  unfold FewO.cells
  rw [List.length_append, List.length_append, flatR_len, List.length_map, h.lb, h.lr]; rfl
theorem FewO.atB (h : o.ok) {k : Nat} {b : Int} (hk : o.bs[k]? = some b) : o.cells[k]? = some (.int .u8 b) := by
  have hl : k < o.bs.length := (List.getElem?_eq_some_iff.1 hk).1
  unfold FewO.cells
  rw [List.getElem?_append_left (by simpa using hl), List.getElem?_map, hk]; rfl
theorem FewO.atR (h : o.ok) {k : Nat} {r : Int × Int} (hk : o.rs[k]? = some r) : o.cells[16 + k * 2]? = some (.int .i64 r.1) ∧ o.cells[16 + k * 2 + 1]? = some (.int .u32 r.2) := by
  have hl : k < o.rs.length := (List.getElem?_eq_some_iff.1 hk).1
  obtain ⟨h1, h2⟩ := flatR_at o.rs k r hk
  have e1 : ∀ j, j < 32 → o.cells[16 + j]? = (o.rs.flatMap rrow)[j]? := by
    intro j hj
    unfold FewO.cells
    rw [List.getElem?_append_right (by rw [List.length_map, h.lb]; omega), List.length_map, h.lb, Nat.add_sub_cancel_left, List.getElem?_append_left (by rw [flatR_len, h.lr]; omega)]
  rw [h.lr] at hl
  exact ⟨by rw [e1 _ (by omega)]; exact h1, by rw [Nat.add_assoc, e1 _ (by omega)]; exact h2⟩
theorem FewO.atN (h : o.ok) : o.cells[48]? = some (.int .i64 o.n) := by
  unfold FewO.cells
  rw [List.getElem?_append_right (by rw [List.length_map, h.lb]; omega), List.length_map, h.lb, List.getElem?_append_right (by rw [flatR_len, h.lr]; omega), flatR_len, h.lr]; rfl
theorem FewO.atRoom (h : o.ok) : o.cells[49]? = some (.int .i64 o.room) := by
  unfold FewO.cells
  rw [List.getElem?_append_right (by rw [List.length_map, h.lb]; omega), List.length_map, h.lb, List.getElem?_append_right (by rw [flatR_len, h.lr]; omega), flatR_len, h.lr]; rfl
end

/-! ### Insertion and removal in a list of a fixed length -/
def insL {α : Type} (l : List α) (i n : Nat) (x : α) : List α := l.take i ++ (x :: ((l.take n).drop i ++ l.drop (n + 1)))
def delL {α : Type} (l : List α) (i n : Nat) : List α := l.take i ++ ((l.take n).drop (i + 1) ++ l.drop (n - 1))
theorem insL_len {α : Type} {l : List α} {i n : Nat} {x : α} (hi : i ≤ n) (hn : n < l.length) : (insL l i n x).length = l.length := by
  simp [insL]; omega
theorem delL_len {α : Type} {l : List α} {i n : Nat} (hi : i < n) (hn : n ≤ l.length) : (delL l i n).length = l.length := by
  simp [delL]; omega
theorem insL_take {α : Type} {l : List α} {i n : Nat} {x : α} (hi : i ≤ n) (hn : n < l.length) : (insL l i n x).take (n + 1) = (l.take n).take i ++ x :: (l.take n).drop i := by
  unfold insL
  rw [List.take_take, Nat.min_eq_left hi, show l.take i ++ (x :: ((l.take n).drop i ++ l.drop (n + 1))) = (l.take i ++ x :: (l.take n).drop i) ++ l.drop (n + 1) by simp]
  rw [List.take_append_of_le_length (by simp; omega), List.take_of_length_le (by simp; omega)]
theorem delL_take {α : Type} {l : List α} {i n : Nat} (hi : i < n) (hn : n ≤ l.length) : (delL l i n).take (n - 1) = (l.take n).take i ++ (l.take n).drop (i + 1) := by
  unfold delL
  rw [List.take_take, Nat.min_eq_left (by omega), show l.take i ++ ((l.take n).drop (i + 1) ++ l.drop (n - 1)) = (l.take i ++ (l.take n).drop (i + 1)) ++ l.drop (n - 1) by simp]
  rw [List.take_append_of_le_length (by simp; omega), List.take_of_length_le (by simp; omega)]

/-! ### Kids as a function of the byte -/
abbrev Kids := Nat → Option (Int × Int)
def kidsIn (f : Kids) (l : List Nat) : List (Nat × (Int × Int)) := l.filterMap fun b => (f b).map fun r => (b, r)
def kidsOf (f : Kids) : List (Nat × (Int × Int)) := kidsIn f (List.range 256)
def lowK (f : Kids) (b : Nat) : List (Nat × (Int × Int)) := kidsIn f (List.range b)
def highK (f : Kids) (b : Nat) : List (Nat × (Int × Int)) := kidsIn f ((List.range 256).drop b)
def setK (f : Kids) (b : Nat) (r : Option (Int × Int)) : Kids := fun i => if i = b then r else f i
theorem kidsIn_append (f : Kids) (a b : List Nat) : kidsIn f (a ++ b) = kidsIn f a ++ kidsIn f b := by simp [kidsIn]
theorem kids_split (f : Kids) (b : Nat) (hb : b ≤ 256) : kidsOf f = lowK f b ++ highK f b := by
  have h : List.range 256 = List.range b ++ (List.range 256).drop b := by
    rw [show List.range b = (List.range 256).take b by rw [List.take_range, Nat.min_eq_left hb], List.take_append_drop]
  unfold kidsOf lowK highK
  rw [← kidsIn_append, ← h]
theorem high_succ (f : Kids) (b : Nat) (hb : b < 256) : highK f b = ((f b).map fun r => (b, r)).toList ++ highK f (b + 1) := by
  unfold highK
  rw [List.drop_eq_getElem_cons (by simpa using hb)]
  have : (List.range 256)[b]'(by simpa using hb) = b := List.getElem_range _
  rw [this, show b :: (List.range 256).drop (b + 1) = [b] ++ (List.range 256).drop (b + 1) from rfl, kidsIn_append]
  have h1 : kidsIn f [b] = ((f b).map fun r => (b, r)).toList := by
    unfold kidsIn
    cases hf : f b <;> simp [List.filterMap_cons, hf]
  rw [h1]
theorem kids_at (f : Kids) (b : Nat) (hb : b < 256) : kidsOf f = lowK f b ++ (((f b).map fun r => (b, r)).toList ++ highK f (b + 1)) := by
  rw [kids_split f b (by omega), high_succ f b hb]
theorem mem_kidsIn {f : Kids} {l : List Nat} {x : Nat × (Int × Int)} : x ∈ kidsIn f l ↔ x.1 ∈ l ∧ f x.1 = some x.2 := by
  unfold kidsIn
  rw [List.mem_filterMap]
  constructor
  · rintro ⟨b, hb, h⟩
    cases hf : f b with
    | none => rw [hf] at h; cases h
    | some r => rw [hf] at h; cases h; exact ⟨hb, hf⟩
  · rintro ⟨h1, h2⟩
    exact ⟨x.1, h1, by rw [h2]; rfl⟩
theorem mem_low {f : Kids} {b : Nat} {x : Nat × (Int × Int)} (h : x ∈ lowK f b) : x.1 < b := by
  have := (mem_kidsIn.1 h).1
  simpa using this
theorem mem_high {f : Kids} {b : Nat} {x : Nat × (Int × Int)} (h : x ∈ highK f b) : b ≤ x.1 ∧ x.1 < 256 := by
  have h1 := (mem_kidsIn.1 h).1
  obtain ⟨i, hi, he⟩ := List.getElem_of_mem h1
  rw [List.getElem_drop, List.getElem_range] at he
  simp at hi
  omega
theorem mem_kids {f : Kids} {x : Nat × (Int × Int)} (h : x ∈ kidsOf f) : x.1 < 256 ∧ f x.1 = some x.2 := by
  have := mem_kidsIn.1 h
  exact ⟨by simpa using this.1, this.2⟩
theorem kidsIn_set {f : Kids} {b : Nat} {r : Option (Int × Int)} : ∀ {l : List Nat}, b ∉ l → kidsIn (setK f b r) l = kidsIn f l
  | [], _ => rfl
  | x :: l, h => by
    have hx : x ≠ b := fun e => h (by simp [e])
    have ih := kidsIn_set (f := f) (b := b) (r := r) (l := l) (fun e => h (by simp [e]))
    unfold kidsIn at ih ⊢
    rw [List.filterMap_cons, List.filterMap_cons, ih]
    simp [setK, hx]
theorem low_set (f : Kids) (b : Nat) (r : Option (Int × Int)) : lowK (setK f b r) b = lowK f b := kidsIn_set (by simp)
theorem high_set (f : Kids) (b : Nat) (r : Option (Int × Int)) : highK (setK f b r) (b + 1) = highK f (b + 1) := kidsIn_set (by
  intro h
  obtain ⟨i, hi, he⟩ := List.getElem_of_mem h
  rw [List.getElem_drop, List.getElem_range] at he
  omega)
theorem kids_set (f : Kids) (b : Nat) (r : Option (Int × Int)) (hb : b < 256) : kidsOf (setK f b r) = lowK f b ++ ((r.map fun r => (b, r)).toList ++ highK f (b + 1)) := by
  rw [kids_at _ b hb, low_set, high_set]
  simp [setK]
/-- The index at which a byte is or would be. -/
theorem idx_of (f : Kids) (b : Nat) (hb : b ≤ 256) : (kidsOf f).findIdx (fun x => decide (b ≤ x.1)) = (lowK f b).length := by
  rw [kids_split f b hb, List.findIdx_append]
  have h1 : (lowK f b).findIdx (fun x => decide (b ≤ x.1)) = (lowK f b).length := List.findIdx_eq_length.2 (fun x hx => by have := mem_low hx; simp; omega)
  rw [h1]
  simp only [Nat.lt_irrefl, if_false]
  cases hh : highK f b with
  | nil => simp
  | cons y l =>
    have := (mem_high (f := f) (b := b) (x := y) (by rw [hh]; simp)).1
    rw [List.findIdx_cons]
    simp [this]
end Go.Proofs.YtgjgcbemgmkncaaGreatDoor
namespace Go.Proofs.YtgjgcbemgmkncaaGreatDoor
open Go.RowKit
set_option linter.unusedVariables false
set_option linter.unusedSimpArgs false

def BoolEnd (b : Bool) (w : World) (e : Ending) (w' : World) : Prop := e = .returned (.bool b) ∧ Below w.heap.size w w'
def IntEnd (n : Int) (w : World) (e : Ending) (w' : World) : Prop := e = .returned (.int .i64 n) ∧ Below w.heap.size w w'
/-- The world stays as it is. -/
def StayEnd (v : Value) (w : World) (e : Ending) (w' : World) : Prop := e = .returned v ∧ w' = w
theorem below_alloc {W w1 : World} (h : Below W.heap.size W w1) (o : Obj) : Below W.heap.size W (w1.alloc o) := h.alloc h.size o
theorem below_box (w : World) (o : Obj) : Below w.heap.size w (w.alloc o) := (Below.refl _ _).alloc (Nat.le_refl _) _

theorem there_some (g : Nat) (room : Int) (w : World) (h : w.cell? ⟨g, 49, none⟩ = some (.int .i64 room)) : Calls Tryz.prog 116 #[.pointer (some ⟨g, 0, none⟩)] w (StayEnd (.bool (decide (0 < room))) w) := by
  by_cases h0 : 0 < room
  all_goals
    go_enter Tryz.func116, Tryz.ntmps116
    go_wp2
    go_ret
    exact ⟨by simp [h0], rfl⟩

/-! ### The first byte with a property -/
theorem idx_le {α : Type} (p : α → Bool) (l : List α) : l.findIdx p ≤ l.length := List.findIdx_le_length
theorem idx_step {α : Type} {p : α → Bool} {l : List α} {k : Nat} {x : α} (hk : k ≤ l.findIdx p) (hx : l[k]? = some x) : (p x = true → l.findIdx p = k) ∧ (p x = false → k + 1 ≤ l.findIdx p) := by
  obtain ⟨hlt, rfl⟩ := List.getElem?_eq_some_iff.1 hx
  constructor
  · intro h
    rcases Nat.lt_or_ge k (l.findIdx p) with h1 | h1
    · have := List.not_of_lt_findIdx h1
      rw [h] at this; simp at this
    · omega
  · intro h
    rcases Nat.lt_or_ge k (l.findIdx p) with h1 | h1
    · exact h1
    · have he : l.findIdx p = k := by omega
      have := List.findIdx_getElem (p := p) (xs := l) (w := by omega)
      simp only [he] at this
      rw [h] at this; simp at this
/-- slices.IndexFunc's number. -/
def idxM (b : Int) (l : List Int) : Int := if l.findIdx (fun x => decide (b ≤ x)) < l.length then (l.findIdx (fun x => decide (b ≤ x)) : Nat) else -1
def FewO.idx (o : FewO) (b : Int) : Nat := (o.bs.take o.n).findIdx (fun x => decide (b ≤ x))
theorem FewO.takeLen {o : FewO} (h : o.ok) : (o.bs.take o.n).length = o.n := by rw [List.length_take, h.lb, Nat.min_eq_left h.ln]
theorem FewO.idx_le {o : FewO} (h : o.ok) (b : Int) : o.idx b ≤ o.n := by
  have := Go.Proofs.YtgjgcbemgmkncaaGreatDoor.idx_le (fun x => decide (b ≤ x)) (o.bs.take o.n)
  rw [FewO.takeLen h] at this
  exact this
def FewO.has (o : FewO) (b : Int) : Bool := decide (o.idx b < o.n) && (o.bs.getD (o.idx b) 0 == b)

theorem clos_at (x b : Int) (gb : Nat) (w : World) (hx : 0 ≤ x ∧ x ≤ 255) (h : w.cell? ⟨gb, 0, none⟩ = some (.int .u8 b)) : Calls Tryz.prog 122 #[.int .u8 x, .pointer (some ⟨gb, 0, none⟩)] w (StayEnd (.bool (decide (b ≤ x))) w) := by
  obtain ⟨hx0, hx1⟩ := hx
  go_enter Tryz.func122, Tryz.ntmps122
  go_wp2
  go_ret
  exact ⟨rfl, rfl⟩
set_option maxHeartbeats 800000 in
theorem index_at (o : FewO) (b : Int) (g gb : Nat) (w : World) (ho : o.ok) (hg : Blk w g 106 o.cells.toArray) (h : w.cell? ⟨gb, 0, none⟩ = some (.int .u8 b)) :
    Calls Tryz.prog 123 #[.slice (some ⟨g, 0, none⟩) o.n 16, .func (.func 122) #[] #[.pointer (some ⟨gb, 0, none⟩)]] w (StayEnd (.int .i64 (idxM b (o.bs.take o.n))) w) := by
  have HG := Lib.hid (And.intro hg h)
  have hln := ho.ln
  have HO := Lib.hid ho
  clear hg h ho
  go_enter Tryz.func123, Tryz.ntmps123
  go_wp2_with fail
  go_loop [8] (fun i => ∃ k : Nat, k ≤ o.n ∧ i = .int .i64 k ∧ Hid (k ≤ (o.bs.take o.n).findIdx (fun x => decide (b ≤ x)))) (fun i => o.n - (intOf i).toNat)
  case atStart => exact ⟨0, Nat.zero_le _, rfl, Lib.hid (Nat.zero_le _)⟩
  case round =>
    obtain ⟨k, hk, rfl, hid⟩ := hrel
    by_cases hlt : k < o.n
    · have hkl : k < o.bs.length := by rw [HO.out.lb]; omega
      have hx : o.bs[k]? = some o.bs[k] := List.getElem?_eq_getElem hkl
      have hb := HO.out.bb _ (List.getElem_mem hkl)
      generalize o.bs[k] = x at hx hb
      have hc : w.cell? ⟨g, k, none⟩ = some (.int .u8 x) := (HG.out.1.cell k).trans (by rw [List.getElem?_toArray]; exact FewO.atB HO.out hx)
      have hx2 : (o.bs.take o.n)[k]? = some x := by rw [List.getElem?_take, if_pos hlt]; exact hx
      have hst := Lib.hid (idx_step hid.out hx2)
      have HX := Lib.hid hb
      have HX2 := Lib.hid hx2
      have i1 : (0 : Int) ≤ (k : Int) := by omega
      have i2 : (k : Int) < (o.n : Int) := by omega
      clear hx hb hx2
      have hcall := fun W h => clos_at x b gb W HX.out h
      have HC := Lib.hid hcall
      clear hcall
      obtain ⟨d, hd⟩ : ∃ d, decide (b ≤ x) = d := ⟨_, rfl⟩
      rw [hd] at HC hst
      clear hd
      cases d with
      | true =>
        have hfin : idxM b (o.bs.take o.n) = (k : Int) := by
          have h1 := hst.out.1 rfl
          unfold idxM
          rw [h1, if_pos (by rw [FewO.takeLen HO.out]; exact hlt)]
        have HF := Lib.hid hfin
        clear hfin
        go_wp2_with (go_at_call 122; refine (HC.out _ HG.out.2).mono ?_; rintro e w' ⟨rfl, rfl⟩)
        go_ret
        exact ⟨ret_int HF.out.symm, rfl⟩
      | false =>
        have HS := Lib.hid (hst.out.2 rfl)
        clear hst
        go_wp2_with (go_at_call 122; refine (HC.out _ HG.out.2).mono ?_; rintro e w' ⟨rfl, rfl⟩)
        go_round
        case rel => exact ⟨k + 1, by omega, by go_num, HS⟩
        case measure => simp [intOf]; omega
    · have hfin : idxM b (o.bs.take o.n) = -1 := by
        have h1 := hid.out
        unfold idxM
        rw [if_neg (by rw [FewO.takeLen HO.out]; omega)]
      have HF := Lib.hid hfin
      clear hfin
      go_wp2
      go_ret
      exact ⟨ret_int HF.out.symm, rfl⟩
set_option maxHeartbeats 800000 in
set_option maxRecDepth 100000 in
theorem of_at (o : FewO) (b : Int) (g gb : Nat) (w : World) (ho : o.ok) (hg : Blk w g 106 o.cells.toArray) (h : w.cell? ⟨gb, 0, none⟩ = some (.int .u8 b)) :
    Calls Tryz.prog 118 #[.pointer (some ⟨g, 0, none⟩), .func (.func 122) #[] #[.pointer (some ⟨gb, 0, none⟩)]] w (IntEnd (o.idx b) w) := by
  have hln := ho.ln
  have hc48 : w.cell? ⟨g, 48, none⟩ = some (.int .i64 o.n) := (hg.cell 48).trans (by rw [List.getElem?_toArray]; exact FewO.atN ho)
  have hidx := fun W h1 h2 => index_at o b g gb W ho h1 h2
  have HI := Lib.hid hidx
  have hil := FewO.idx_le ho b
  have hM : idxM b (o.bs.take o.n) = if o.idx b < o.n then (o.idx b : Int) else -1 := by
    unfold idxM FewO.idx
    rw [FewO.takeLen ho]
  rw [hM] at HI
  have HG := Lib.hid (And.intro hg h)
  have i1 : (0 : Int) ≤ (o.n : Int) := by omega
  have i2 : (o.n : Int) ≤ 16 := by omega
  clear hg h hidx hM ho
  by_cases hlt : o.idx b < o.n
  · rw [if_pos hlt] at HI
    go_enter Tryz.func118, Tryz.ntmps118
    go_wp2_with fail
    go_region_held3 (fun w' => Blk w' g 106 o.cells.toArray ∧ Below w.heap.size w w' ∧ w'.cell? ⟨gb, 0, none⟩ = some (.int .u8 b) ∧ w'.cell? ⟨g, 48, none⟩ = some (.int .i64 o.n))
      ((refine ⟨?_, ?_, ?_, ?_⟩ <;> first | assumption | exact HG.out.1 | exact HG.out.2 | (exact (Below.refl _ _).drew) | (refine Below.drew ?_; assumption) | go_keep))
      ((go_at_call 123; have hH := ‹Blk _ g _ _ ∧ Below _ _ _ ∧ _›; refine (HI.out _ hH.1 hH.2.2.1).mono ?_; rintro e wn ⟨rfl, rfl⟩; have hkN := hH.1; have hBN := hH.2.1; have q0 := hH.2.2.1; have q1 := hH.2.2.2))
    go_wp2
    go_ret
    exact ⟨rfl, hBN⟩
  · have he : o.idx b = o.n := by omega
    rw [if_neg hlt] at HI
    have HE := Lib.hid he
    clear he
    go_enter Tryz.func118, Tryz.ntmps118
    go_wp2_with fail
    go_region_held3 (fun w' => Blk w' g 106 o.cells.toArray ∧ Below w.heap.size w w' ∧ w'.cell? ⟨gb, 0, none⟩ = some (.int .u8 b) ∧ w'.cell? ⟨g, 48, none⟩ = some (.int .i64 o.n))
      ((refine ⟨?_, ?_, ?_, ?_⟩ <;> first | assumption | exact HG.out.1 | exact HG.out.2 | (exact (Below.refl _ _).drew) | (refine Below.drew ?_; assumption) | go_keep))
      ((go_at_call 123; have hH := ‹Blk _ g _ _ ∧ Below _ _ _ ∧ _›; refine (HI.out _ hH.1 hH.2.2.1).mono ?_; rintro e wn ⟨rfl, rfl⟩; have hkN := hH.1; have hBN := hH.2.1; have q0 := hH.2.2.1; have q1 := hH.2.2.2))
    go_wp2
    go_ret
    exact ⟨ret_int (by rw [HE.out]), hBN⟩

theorem clos_nx (x b : Int) (gb : Nat) (w : World) (hx : 0 ≤ x ∧ x ≤ 255) (h : w.cell? ⟨gb, 0, none⟩ = some (.int .i64 b)) : Calls Tryz.prog 119 #[.int .u8 x, .pointer (some ⟨gb, 0, none⟩)] w (StayEnd (.bool (decide (b ≤ x))) w) := by
  obtain ⟨hx0, hx1⟩ := hx
  go_enter Tryz.func119, Tryz.ntmps119
  go_wp2
  go_ret
  exact ⟨rfl, rfl⟩
set_option maxHeartbeats 800000 in
theorem index_nx (o : FewO) (b : Int) (g gb : Nat) (w : World) (ho : o.ok) (hg : Blk w g 106 o.cells.toArray) (h : w.cell? ⟨gb, 0, none⟩ = some (.int .i64 b)) :
    Calls Tryz.prog 123 #[.slice (some ⟨g, 0, none⟩) o.n 16, .func (.func 119) #[] #[.pointer (some ⟨gb, 0, none⟩)]] w (StayEnd (.int .i64 (idxM b (o.bs.take o.n))) w) := by
  have HG := Lib.hid (And.intro hg h)
  have hln := ho.ln
  have HO := Lib.hid ho
  clear hg h ho
  go_enter Tryz.func123, Tryz.ntmps123
  go_wp2_with fail
  go_loop [8] (fun i => ∃ k : Nat, k ≤ o.n ∧ i = .int .i64 k ∧ Hid (k ≤ (o.bs.take o.n).findIdx (fun x => decide (b ≤ x)))) (fun i => o.n - (intOf i).toNat)
  case atStart => exact ⟨0, Nat.zero_le _, rfl, Lib.hid (Nat.zero_le _)⟩
  case round =>
    obtain ⟨k, hk, rfl, hid⟩ := hrel
    by_cases hlt : k < o.n
    · have hkl : k < o.bs.length := by rw [HO.out.lb]; omega
      have hx : o.bs[k]? = some o.bs[k] := List.getElem?_eq_getElem hkl
      have hb := HO.out.bb _ (List.getElem_mem hkl)
      generalize o.bs[k] = x at hx hb
      have hc : w.cell? ⟨g, k, none⟩ = some (.int .u8 x) := (HG.out.1.cell k).trans (by rw [List.getElem?_toArray]; exact FewO.atB HO.out hx)
      have hx2 : (o.bs.take o.n)[k]? = some x := by rw [List.getElem?_take, if_pos hlt]; exact hx
      have hst := Lib.hid (idx_step hid.out hx2)
      have HX := Lib.hid hb
      have HX2 := Lib.hid hx2
      have i1 : (0 : Int) ≤ (k : Int) := by omega
      have i2 : (k : Int) < (o.n : Int) := by omega
      clear hx hb hx2
      have hcall := fun W h => clos_nx x b gb W HX.out h
      have HC := Lib.hid hcall
      clear hcall
      obtain ⟨d, hd⟩ : ∃ d, decide (b ≤ x) = d := ⟨_, rfl⟩
      rw [hd] at HC hst
      clear hd
      cases d with
      | true =>
        have hfin : idxM b (o.bs.take o.n) = (k : Int) := by
          have h1 := hst.out.1 rfl
          unfold idxM
          rw [h1, if_pos (by rw [FewO.takeLen HO.out]; exact hlt)]
        have HF := Lib.hid hfin
        clear hfin
        go_wp2_with (go_at_call 119; refine (HC.out _ HG.out.2).mono ?_; rintro e w' ⟨rfl, rfl⟩)
        go_ret
        exact ⟨ret_int HF.out.symm, rfl⟩
      | false =>
        have HS := Lib.hid (hst.out.2 rfl)
        clear hst
        go_wp2_with (go_at_call 119; refine (HC.out _ HG.out.2).mono ?_; rintro e w' ⟨rfl, rfl⟩)
        go_round
        case rel => exact ⟨k + 1, by omega, by go_num, HS⟩
        case measure => simp [intOf]; omega
    · have hfin : idxM b (o.bs.take o.n) = -1 := by
        have h1 := hid.out
        unfold idxM
        rw [if_neg (by rw [FewO.takeLen HO.out]; omega)]
      have HF := Lib.hid hfin
      clear hfin
      go_wp2
      go_ret
      exact ⟨ret_int HF.out.symm, rfl⟩
set_option maxHeartbeats 800000 in
set_option maxRecDepth 100000 in
theorem of_nx (o : FewO) (b : Int) (g gb : Nat) (w : World) (ho : o.ok) (hg : Blk w g 106 o.cells.toArray) (h : w.cell? ⟨gb, 0, none⟩ = some (.int .i64 b)) :
    Calls Tryz.prog 118 #[.pointer (some ⟨g, 0, none⟩), .func (.func 119) #[] #[.pointer (some ⟨gb, 0, none⟩)]] w (IntEnd (o.idx b) w) := by
  have hln := ho.ln
  have hc48 : w.cell? ⟨g, 48, none⟩ = some (.int .i64 o.n) := (hg.cell 48).trans (by rw [List.getElem?_toArray]; exact FewO.atN ho)
  have hidx := fun W h1 h2 => index_nx o b g gb W ho h1 h2
  have HI := Lib.hid hidx
  have hil := FewO.idx_le ho b
  have hM : idxM b (o.bs.take o.n) = if o.idx b < o.n then (o.idx b : Int) else -1 := by
    unfold idxM FewO.idx
    rw [FewO.takeLen ho]
  rw [hM] at HI
  have HG := Lib.hid (And.intro hg h)
  have i1 : (0 : Int) ≤ (o.n : Int) := by omega
  have i2 : (o.n : Int) ≤ 16 := by omega
  clear hg h hidx hM ho
  by_cases hlt : o.idx b < o.n
  · rw [if_pos hlt] at HI
    go_enter Tryz.func118, Tryz.ntmps118
    go_wp2_with fail
    go_region_held3 (fun w' => Blk w' g 106 o.cells.toArray ∧ Below w.heap.size w w' ∧ w'.cell? ⟨gb, 0, none⟩ = some (.int .i64 b) ∧ w'.cell? ⟨g, 48, none⟩ = some (.int .i64 o.n))
      ((refine ⟨?_, ?_, ?_, ?_⟩ <;> first | assumption | exact HG.out.1 | exact HG.out.2 | (exact (Below.refl _ _).drew) | (refine Below.drew ?_; assumption) | go_keep))
      ((go_at_call 123; have hH := ‹Blk _ g _ _ ∧ Below _ _ _ ∧ _›; refine (HI.out _ hH.1 hH.2.2.1).mono ?_; rintro e wn ⟨rfl, rfl⟩; have hkN := hH.1; have hBN := hH.2.1; have q0 := hH.2.2.1; have q1 := hH.2.2.2))
    go_wp2
    go_ret
    exact ⟨rfl, hBN⟩
  · have he : o.idx b = o.n := by omega
    rw [if_neg hlt] at HI
    have HE := Lib.hid he
    clear he
    go_enter Tryz.func118, Tryz.ntmps118
    go_wp2_with fail
    go_region_held3 (fun w' => Blk w' g 106 o.cells.toArray ∧ Below w.heap.size w w' ∧ w'.cell? ⟨gb, 0, none⟩ = some (.int .i64 b) ∧ w'.cell? ⟨g, 48, none⟩ = some (.int .i64 o.n))
      ((refine ⟨?_, ?_, ?_, ?_⟩ <;> first | assumption | exact HG.out.1 | exact HG.out.2 | (exact (Below.refl _ _).drew) | (refine Below.drew ?_; assumption) | go_keep))
      ((go_at_call 123; have hH := ‹Blk _ g _ _ ∧ Below _ _ _ ∧ _›; refine (HI.out _ hH.1 hH.2.2.1).mono ?_; rintro e wn ⟨rfl, rfl⟩; have hkN := hH.1; have hBN := hH.2.1; have q0 := hH.2.2.1; have q1 := hH.2.2.2))
    go_wp2
    go_ret
    exact ⟨ret_int (by rw [HE.out]), hBN⟩
end Go.Proofs.YtgjgcbemgmkncaaGreatDoor
namespace Go.Proofs.YtgjgcbemgmkncaaGreatDoor
open Go.RowKit
set_option linter.unusedVariables false
set_option linter.unusedSimpArgs false

/-- Two results. -/
def TwoEnd (x y : Value) (w : World) (e : Ending) (w' : World) : Prop := e = .returned (.tuple #[x, y]) ∧ Below w.heap.size w w'
def ThreeEnd (x y z : Value) (w : World) (e : Ending) (w' : World) : Prop := e = .returned (.tuple #[x, y, z]) ∧ Below w.heap.size w w'
abbrev refV (r : Int × Int) : Value := .agg #[.int .i64 r.1, .int .u32 r.2]
theorem few_cells {o : FewO} {W : World} {g : Nat} {t : TypeId} (ho : o.ok) (h : Blk W g t o.cells.toArray) : W.cell? ⟨g, 48, none⟩ = some (.int .i64 o.n) ∧ W.cell? ⟨g, 49, none⟩ = some (.int .i64 o.room) :=
  ⟨(h.cell 48).trans (by rw [List.getElem?_toArray]; exact FewO.atN ho), (h.cell 49).trans (by rw [List.getElem?_toArray]; exact FewO.atRoom ho)⟩
/-- The byte and the Ref at a place below the number. -/
theorem few_at {o : FewO} {W : World} {g k : Nat} {t : TypeId} (ho : o.ok) (h : Blk W g t o.cells.toArray) (hk : k < o.n) :
    ∃ (x : Int) (r : Int × Int), o.bs[k]? = some x ∧ (0 ≤ x ∧ x ≤ 255) ∧ o.rs[k]? = some r ∧ W.cell? ⟨g, k, none⟩ = some (.int .u8 x) ∧ W.cell? ⟨g, 16 + k * 2, none⟩ = some (.int .i64 r.1) ∧ W.cell? ⟨g, 16 + k * 2 + 1, none⟩ = some (.int .u32 r.2) := by
  have hl := ho.ln
  have hx : o.bs[k]? = some (o.bs[k]'(by rw [ho.lb]; omega)) := List.getElem?_eq_getElem _
  have hr : o.rs[k]? = some (o.rs[k]'(by rw [ho.lr]; omega)) := List.getElem?_eq_getElem _
  refine ⟨_, _, hx, ho.bb _ (List.getElem_mem _), hr, ?_, ?_, ?_⟩
  · exact (h.cell k).trans (by rw [List.getElem?_toArray]; exact FewO.atB ho hx)
  · exact (h.cell _).trans (by rw [List.getElem?_toArray]; exact (FewO.atR ho hr).1)
  · exact (h.cell _).trans (by rw [List.getElem?_toArray]; exact (FewO.atR ho hr).2)

set_option maxHeartbeats 800000 in
set_option maxRecDepth 100000 in
theorem at_any (o : FewO) (b : Int) (g : Nat) (w : World) (ho : o.ok) (hg : Blk w g 106 o.cells.toArray) (hb : 0 ≤ b ∧ b ≤ 255) :
    Calls Tryz.prog 117 #[.pointer (some ⟨g, 0, none⟩), .int .u8 b] w (TwoEnd (.int .i64 (o.idx b)) (.bool (o.has b)) w) := by
  have HO := Lib.hid ho
  have hbel := below_box w (.cells #[.int .u8 b] 5)
  have hgb := Blk.new w 5 #[.int .u8 b]
  have hcall := of_at o b g w.heap.size _ ho (hg.alloc (.cells #[.int .u8 b] 5)) (hgb.cell 0)
  have HC := Lib.hid hcall
  have HG := Lib.hid (And.intro (hg.alloc (.cells #[.int .u8 b] 5)) (And.intro hgb hbel))
  have hle := FewO.idx_le ho b
  have hln := ho.ln
  have i1 : (0 : Int) ≤ (o.idx b : Int) := by omega
  clear hbel hgb hcall ho hg
  by_cases hlt : o.idx b < o.n
  · have hh : o.has b = (o.bs.getD (o.idx b) 0 == b) := by unfold FewO.has; simp [hlt]
    have i2 : (o.idx b : Int) < (o.n : Int) := by omega
    have i3 : (o.idx b : Int) < 16 := by omega
    obtain ⟨d, hd⟩ : ∃ d, o.has b = d := ⟨_, rfl⟩
    have HH := Lib.hid (And.intro hh hd)
    clear hh hd
    go_enter Tryz.func117, Tryz.ntmps117
    go_wp2_with fail
    refine HC.out.mono ?_
    rintro e w1 ⟨rfl, hb1⟩
    obtain ⟨hg1, hgb1, hbel⟩ := HG.out
    have hg1 := hg1.below hb1 hg1.lt
    have hgb1 := hgb1.below hb1 hgb1.lt
    have HB := Lib.hid (below_trans hbel hb1)
    obtain ⟨x, r, hx, hxb, hr, c0, c1, c2⟩ := few_at HO.out hg1 hlt
    obtain ⟨n0, n1⟩ := few_cells HO.out hg1
    have v0 := hgb1.cell 0
    simp at v0
    have hd2 : (x == b) = d := by
      have h1 := HH.out.1
      rw [HH.out.2, List.getD_eq_getElem?_getD, hx] at h1
      exact h1.symm
    have HD := Lib.hid HH.out.2
    clear hx hr hg1 hgb1 hbel hb1 HH HG HC c1 c2 n1
    go_wp2_with fail
    go_quiet (fail)
    go_wp2
    go_ret2
    exact ⟨by rw [HD.out]; rfl, below_drewN HB.out _⟩
  · have hh : o.has b = false := by unfold FewO.has; simp [hlt]
    have hlt2 : decide ((o.idx b : Int) < (o.n : Int)) = false := decide_eq_false (by omega)
    have HH := Lib.hid hh
    clear hh
    go_enter Tryz.func117, Tryz.ntmps117
    go_wp2_with fail
    refine HC.out.mono ?_
    rintro e w1 ⟨rfl, hb1⟩
    obtain ⟨hg1, hgb1, hbel⟩ := HG.out
    have hg1 := hg1.below hb1 hg1.lt
    have HB := Lib.hid (below_trans hbel hb1)
    obtain ⟨n0, n1⟩ := few_cells HO.out hg1
    clear hg1 hgb1 hbel hb1 HG HC n1
    go_wp2_with fail
    go_quiet (fail)
    go_wp2
    go_ret2
    exact ⟨by rw [HH.out]; rfl, below_drewN HB.out _⟩

/-- What Find finds. -/
def FewO.find (o : FewO) (b : Int) : Option (Int × Int) := if o.has b = true then o.rs[o.idx b]? else none
def optV (x : Option (Int × Int)) : Value := refV (x.getD (0, 0))
theorem FewO.has_lt {o : FewO} {b : Int} (h : o.has b = true) : o.idx b < o.n := by
  unfold FewO.has at h
  simp only [Bool.and_eq_true, decide_eq_true_eq] at h
  exact h.1

set_option maxHeartbeats 800000 in
set_option maxRecDepth 100000 in
theorem find_any (o : FewO) (b : Int) (g : Nat) (w : World) (ho : o.ok) (hr : 0 < o.room) (hg : Blk w g 106 o.cells.toArray) (hb : 0 ≤ b ∧ b ≤ 255) :
    Calls Tryz.prog 109 #[.pointer (some ⟨g, 0, none⟩), .int .u8 b] w (TwoEnd (optV (o.find b)) (.bool (o.find b).isSome) w) := by
  have hbel := below_box w (.cells #[.int .i64 0, .int .u32 0] 29)
  have hgr := Blk.new w 29 #[.int .i64 0, .int .u32 0]
  have hg1 := hg.alloc (.cells #[.int .i64 0, .int .u32 0] 29)
  have hlg := hg.lt
  generalize hW : w.alloc (.cells #[.int .i64 0, .int .u32 0] 29) = W at hbel hgr hg1
  obtain ⟨n0, n1⟩ := few_cells ho hg1
  have ht := there_some g o.room W n1
  rw [decide_eq_true hr] at ht
  have HA := Lib.hid (at_any o b g W ho hg1 hb)
  have HT := Lib.hid ht
  have HO := Lib.hid ho
  have HG := Lib.hid (And.intro hg1 (And.intro hgr hbel))
  have HW := Lib.hid hW
  have hle := FewO.idx_le ho b
  have hln := ho.ln
  clear ht hg hg1 hgr hbel ho hW n0 n1
  obtain ⟨d, hd⟩ : ∃ d, o.has b = d := ⟨_, rfl⟩
  rw [hd] at HA
  have HD := Lib.hid hd
  clear hd
  go_enter Tryz.func109, Tryz.ntmps109
  go_wp2_with fail
  rw [HW.out]
  refine HT.out.mono ?_
  rintro e w1 ⟨rfl, rfl⟩
  clear HT HW
  go_wp2_with fail
  refine HA.out.mono ?_
  rintro e w1 ⟨rfl, hb1⟩
  clear HA
  obtain ⟨hg1, hgr, hbel⟩ := HG.out
  have hg1 := hg1.below hb1 hg1.lt
  have hgr := hgr.below hb1 hgr.lt
  have hbel := below_trans hbel hb1
  have v0 := hgr.cell 0
  have v1 := hgr.cell 1
  have f0 := hgr.frozen 0
  have f1 := hgr.frozen 1
  simp at v0 v1
  clear hb1 HG
  cases d with
  | true =>
    have hlt := FewO.has_lt HD.out
    obtain ⟨x, r, hx, hxb, hr2, c0, c1, c2⟩ := few_at HO.out hg1 hlt
    have hfin : o.find b = some r := by unfold FewO.find; rw [if_pos HD.out, hr2]
    have HFin := Lib.hid hfin
    have i1 : (0 : Int) ≤ (o.idx b : Int) := by omega
    have i2 : (o.idx b : Int) < 16 := by omega
    have hgn := (hgr.set_ 0 (.int .i64 r.1)).set_ 1 (.int .u32 r.2)
    have z0 := hgn.cell 0
    have z1 := hgn.cell 1
    simp at z0 z1
    have HF := Lib.hid ((hbel.setCell (p := ⟨w.heap.size, 0, none⟩) (Nat.le_refl _) (.int .i64 r.1)).setCell (p := ⟨w.heap.size, 1, none⟩) (Nat.le_refl _) (.int .u32 r.2))
    clear hx hr2 hfin hgn hg1 hgr hbel HD
    go_wp2_with fail
    refine bodyPost_ret (v := .tuple #[refV r, .bool true]) (by simp [results, Tryz.results109, go_sem, *]) rfl ⟨by rw [HFin.out]; rfl, HF.out⟩
  | false =>
    have hfin : o.find b = none := by unfold FewO.find; rw [if_neg (by rw [HD.out]; simp)]
    have HFin := Lib.hid hfin
    have hgn := (hgr.set_ 0 (.int .i64 0)).set_ 1 (.int .u32 0)
    have z0 := hgn.cell 0
    have z1 := hgn.cell 1
    simp at z0 z1
    have HF := Lib.hid ((hbel.setCell (p := ⟨w.heap.size, 0, none⟩) (Nat.le_refl _) (.int .i64 0)).setCell (p := ⟨w.heap.size, 1, none⟩) (Nat.le_refl _) (.int .u32 0))
    clear hfin hgn hg1 hgr hbel HD
    go_wp2_with fail
    refine bodyPost_ret (v := .tuple #[refV (0, 0), .bool false]) (by simp [results, Tryz.results109, go_sem, *]) rfl ⟨by rw [HFin.out]; rfl, HF.out⟩

/-- What Next finds. -/
def FewO.next (o : FewO) (k : Int) : Int × ((Int × Int) × Bool) := if o.idx k < o.n then (o.bs.getD (o.idx k) 0, (o.rs.getD (o.idx k) (0, 0), true)) else (0, ((0, 0), false))
set_option maxHeartbeats 800000 in
set_option maxRecDepth 100000 in
theorem next_any (o : FewO) (b : Int) (g : Nat) (w : World) (ho : o.ok) (hr : 0 < o.room) (hg : Blk w g 106 o.cells.toArray) :
    Calls Tryz.prog 111 #[.pointer (some ⟨g, 0, none⟩), .int .i64 b] w (ThreeEnd (.int .u8 (o.next b).1) (refV (o.next b).2.1) (.bool (o.next b).2.2) w) := by
  have hbel : Below w.heap.size w ((w.alloc (.cells #[.int .i64 b] 3)).alloc (.cells #[.int .i64 0, .int .u32 0] 29)) := below_alloc (below_box w _) _
  have hgb := (Blk.new w 3 #[.int .i64 b]).alloc (.cells #[.int .i64 0, .int .u32 0] 29)
  have hgr : Blk ((w.alloc (.cells #[.int .i64 b] 3)).alloc (.cells #[.int .i64 0, .int .u32 0] 29)) (w.heap.size + 1) 29 #[.int .i64 0, .int .u32 0] := by
    have := Blk.new (w.alloc (.cells #[.int .i64 b] 3)) 29 #[.int .i64 0, .int .u32 0]
    simpa using this
  have hg1 := (hg.alloc (.cells #[.int .i64 b] 3)).alloc (.cells #[.int .i64 0, .int .u32 0] 29)
  have hlg := hg.lt
  generalize hW : (w.alloc (.cells #[.int .i64 b] 3)).alloc (.cells #[.int .i64 0, .int .u32 0] 29) = W at hbel hgr hg1 hgb
  obtain ⟨n0, n1⟩ := few_cells ho hg1
  have ht := there_some g o.room W n1
  rw [decide_eq_true hr] at ht
  have HA := Lib.hid (of_nx o b g w.heap.size W ho hg1 (hgb.cell 0))
  have HT := Lib.hid ht
  have HO := Lib.hid ho
  have HG := Lib.hid (And.intro hg1 (And.intro hgr hbel))
  have HW := Lib.hid hW
  have hle := FewO.idx_le ho b
  have hln := ho.ln
  clear ht hg hg1 hgr hgb hbel ho hW n0 n1
  go_enter Tryz.func111, Tryz.ntmps111
  go_wp2_with fail
  rw [HW.out]
  refine HT.out.mono ?_
  rintro e w1 ⟨rfl, rfl⟩
  clear HT HW
  go_wp2_with fail
  refine HA.out.mono ?_
  rintro e w1 ⟨rfl, hb1⟩
  clear HA
  obtain ⟨hg1, hgr, hbel⟩ := HG.out
  have hg1 := hg1.below hb1 hg1.lt
  have hgr := hgr.below hb1 hgr.lt
  have hbel := below_trans hbel hb1
  have v0 := hgr.cell 0
  have v1 := hgr.cell 1
  have f0 := hgr.frozen 0
  have f1 := hgr.frozen 1
  obtain ⟨n0, n1⟩ := few_cells HO.out hg1
  simp at v0 v1
  clear hb1 HG n1
  have i0 : (0 : Int) ≤ (o.idx b : Int) := by omega
  by_cases hlt : o.idx b < o.n
  · obtain ⟨x, r, hx, hxb, hr2, c0, c1, c2⟩ := few_at HO.out hg1 hlt
    have hfin : o.next b = (x, (r, true)) := by unfold FewO.next; rw [if_pos hlt, List.getD_eq_getElem?_getD, hx, List.getD_eq_getElem?_getD, hr2]; rfl
    have HFin := Lib.hid hfin
    have i1 : (o.idx b : Int) < (o.n : Int) := by omega
    have i2 : (o.idx b : Int) < 16 := by omega
    have hgn := (hgr.set_ 0 (.int .i64 r.1)).set_ 1 (.int .u32 r.2)
    have z0 := hgn.cell 0
    have z1 := hgn.cell 1
    simp at z0 z1
    have HF := Lib.hid ((hbel.setCell (p := ⟨w.heap.size + 1, 0, none⟩) (by simp) (.int .i64 r.1)).setCell (p := ⟨w.heap.size + 1, 1, none⟩) (by simp) (.int .u32 r.2))
    have hne : w.heap.size + 1 ≠ g := by omega
    clear hx hr2 hfin hgn hg1 hgr hbel
    go_wp2_with fail
    go_region
    all_goals
      go_wp2_with fail
      refine bodyPost_ret (v := .tuple #[.int .u8 x, refV r, .bool true]) (by simp [results, Tryz.results111, go_sem, *]) rfl ⟨by rw [HFin.out], HF.out.drew⟩
  · have hlt2 : ¬ ((o.idx b : Int) < (o.n : Int)) := by omega
    have hfin : o.next b = (0, ((0, 0), false)) := by unfold FewO.next; rw [if_neg hlt]
    have HFin := Lib.hid hfin
    have hgn := (hgr.set_ 0 (.int .i64 0)).set_ 1 (.int .u32 0)
    have z0 := hgn.cell 0
    have z1 := hgn.cell 1
    simp at z0 z1
    have HF := Lib.hid ((hbel.setCell (p := ⟨w.heap.size + 1, 0, none⟩) (by simp) (.int .i64 0)).setCell (p := ⟨w.heap.size + 1, 1, none⟩) (by simp) (.int .u32 0))
    clear hfin hgn hg1 hgr hbel
    go_wp2_with fail
    refine bodyPost_ret (v := .tuple #[.int .u8 0, refV (0, 0), .bool false]) (by simp [results, Tryz.results111, go_sem, *]) rfl ⟨by rw [HFin.out], HF.out⟩
end Go.Proofs.YtgjgcbemgmkncaaGreatDoor
namespace Go.Proofs.YtgjgcbemgmkncaaGreatDoor
open Go.RowKit
set_option linter.unusedVariables false

theorem grown_trans {a b c : World} {g : Nat} (h : a.grownBy b (some g)) (k : b.grownBy c (some g)) : a.grownBy c (some g) :=
  ⟨k.os.trans h.os, k.tape.trans h.tape, k.output.trans h.output, Nat.le_trans h.size k.size, fun i hi hn => (k.block i (Nat.lt_of_lt_of_le hi h.size) hn).trans (h.block i hi hn)⟩
theorem grown_alloc (w : World) (g : Nat) (o : Obj) : w.grownBy (w.alloc o) (some g) := World.grownBy_alloc w o _
theorem grown_setCell {a w : World} {g : Nat} (h : a.grownBy w (some g)) (i : Nat) (u : Value) : a.grownBy (w.setCell ⟨g, i, none⟩ u) (some g) :=
  ⟨h.os, h.tape, h.output, by simpa [World.setCell] using h.size, fun k hk hne => (Below.heap_setCell w ⟨g, i, none⟩ u k (fun e => hne (by rw [e]))).trans (h.block k hk hne)⟩
theorem grown_drew {a w : World} {g : Nat} (h : a.grownBy w (some g)) : a.grownBy w.drew (some g) := ⟨h.os, h.tape, h.output, h.size, h.block⟩
theorem below_grown {a w : World} {g : Nat} (hb : Below a.heap.size a w) (g1 : Nat) : a.grownBy w (some g1) :=
  ⟨hb.os, hb.tape, hb.output, hb.size, fun i hi hn => hb.block i hi⟩

theorem splice_append {α : Type} (A B cs : List α) (k : Nat) (h : k + cs.length ≤ A.length) : splice (A ++ B) k cs = splice A k cs ++ B := by
  unfold splice
  rw [List.take_append_of_le_length (by omega), List.drop_append_of_le_length (by omega)]
  simp
theorem splice_behind {α : Type} (A B cs : List α) (k : Nat) : splice (A ++ B) (A.length + k) cs = A ++ splice B k cs := by
  unfold splice
  rw [List.take_length_add_append, Nat.add_assoc, List.drop_length_add_append]
  simp
theorem splice_map {α β : Type} (f : α → β) (l cs : List α) (k : Nat) : splice (l.map f) k (cs.map f) = (splice l k cs).map f := by
  unfold splice
  simp [List.map_take, List.map_drop]
theorem flatR_take (l : List (Int × Int)) (k : Nat) : (l.flatMap rrow).take (k * 2) = (l.take k).flatMap rrow := by
  induction l generalizing k with
  | nil => simp
  | cons x l ih =>
    cases k with
    | zero => simp
    | succ k =>
      rw [List.flatMap_cons, List.take_succ_cons, List.flatMap_cons, show (k + 1) * 2 = (rrow x).length + k * 2 by simp [rrow]; omega, List.take_length_add_append, ih]
theorem flatR_drop (l : List (Int × Int)) (k : Nat) : (l.flatMap rrow).drop (k * 2) = (l.drop k).flatMap rrow := by
  induction l generalizing k with
  | nil => simp
  | cons x l ih =>
    cases k with
    | zero => simp
    | succ k =>
      rw [List.flatMap_cons, List.drop_succ_cons, show (k + 1) * 2 = (rrow x).length + k * 2 by simp [rrow]; omega, List.drop_length_add_append, ih]
theorem splice_flatR (l cs : List (Int × Int)) (k : Nat) : splice (l.flatMap rrow) (k * 2) (cs.flatMap rrow) = (splice l k cs).flatMap rrow := by
  unfold splice
  rw [flatR_take, flatR_len, show k * 2 + cs.length * 2 = (k + cs.length) * 2 by omega, flatR_drop]
  simp
theorem cells_spliceB {o : FewO} (h : o.ok) {k : Nat} {m : List Int} (hk : k + m.length ≤ 16) : splice o.cells k (m.map (Value.int .u8)) = FewO.cells ⟨splice o.bs k m, o.rs, o.n, o.room⟩ := by
  unfold FewO.cells
  rw [splice_append _ _ _ _ (by simp [h.lb]; omega), splice_map]
theorem cells_spliceR {o : FewO} (h : o.ok) {k : Nat} {m : List (Int × Int)} (hk : k + m.length ≤ 16) : splice o.cells (16 + k * 2) (m.flatMap rrow) = FewO.cells ⟨o.bs, splice o.rs k m, o.n, o.room⟩ := by
  unfold FewO.cells
  have hl : 16 = (o.bs.map (Value.int .u8)).length := by rw [List.length_map, h.lb]
  rw [show 16 + k * 2 = (o.bs.map (Value.int .u8)).length + k * 2 by rw [← hl], splice_behind, splice_append _ _ _ _ (by rw [flatR_len, flatR_len, h.lr]; omega), splice_flatR]
theorem set_behind {α : Type} (A B : List α) (k : Nat) (x : α) : (A ++ B).set (A.length + k) x = A ++ B.set k x := by
  rw [List.set_append_right _ _ (by omega), Nat.add_sub_cancel_left]
theorem cells_setB {o : FewO} (h : o.ok) {k : Nat} (b : Int) (hk : k < 16) : o.cells.set k (.int .u8 b) = FewO.cells ⟨o.bs.set k b, o.rs, o.n, o.room⟩ := by
  unfold FewO.cells
  rw [List.set_append_left _ _ (by simp [h.lb]; omega), List.map_set]
theorem flatR_set (r : Int × Int) : ∀ (l : List (Int × Int)) (k : Nat), ((l.flatMap rrow).set (k * 2) (.int .i64 r.1)).set (k * 2 + 1) (.int .u32 r.2) = if k < l.length then (l.set k r).flatMap rrow else ((l.flatMap rrow).set (k * 2) (.int .i64 r.1)).set (k * 2 + 1) (.int .u32 r.2)
  | [], k => by simp
  | x :: l, 0 => by simp [rrow]
  | x :: l, k + 1 => by
    have ih := flatR_set r l k
    by_cases hk : k < l.length
    · rw [if_pos (by simpa using hk)]
      rw [if_pos hk] at ih
      rw [List.flatMap_cons, List.set_cons_succ, List.flatMap_cons, ← ih, show (k + 1) * 2 = (rrow x).length + k * 2 by simp [rrow]; omega, set_behind, show (rrow x).length + k * 2 + 1 = (rrow x).length + (k * 2 + 1) by omega, set_behind]
    · rw [if_neg (by simpa using hk)]
theorem cells_setR {o : FewO} (h : o.ok) {k : Nat} (r : Int × Int) (hk : k < 16) : (o.cells.set (16 + k * 2) (.int .i64 r.1)).set (16 + k * 2 + 1) (.int .u32 r.2) = FewO.cells ⟨o.bs, o.rs.set k r, o.n, o.room⟩ := by
  unfold FewO.cells
  have hl : 16 = (o.bs.map (Value.int .u8)).length := by rw [List.length_map, h.lb]
  rw [show 16 + k * 2 = (o.bs.map (Value.int .u8)).length + k * 2 by rw [← hl], set_behind, show (o.bs.map (Value.int .u8)).length + k * 2 + 1 = (o.bs.map (Value.int .u8)).length + (k * 2 + 1) by omega, set_behind,
    List.set_append_left _ _ (by rw [flatR_len, h.lr]; omega), List.set_append_left _ _ (by rw [List.length_set, flatR_len, h.lr]; omega), flatR_set, if_pos (by rw [h.lr]; exact hk)]
theorem cells_setN {o : FewO} (h : o.ok) (m : Nat) : o.cells.set 48 (.int .i64 m) = FewO.cells ⟨o.bs, o.rs, m, o.room⟩ := by
  unfold FewO.cells
  have hl : 48 = (o.bs.map (Value.int .u8)).length + 32 := by rw [List.length_map, h.lb]
  rw [hl, set_behind, show 32 = (o.rs.flatMap rrow).length + 0 by rw [flatR_len, h.lr], set_behind]; rfl
theorem ins_splice {α : Type} {l : List α} {i n : Nat} (x : α) (hi : i ≤ n) (hn : n < l.length) : (splice l (i + 1) ((l.take n).drop i)).set i x = insL l i n x := by
  unfold splice insL
  have h1 : i + 1 + ((l.take n).drop i).length = n + 1 := by simp; omega
  have h2 : ∀ y : α, (l.take i ++ [y]).set i x = l.take i ++ [x] := fun y => by
    have hl : i - (l.take i).length = 0 := by rw [List.length_take]; omega
    rw [List.set_append_right _ _ (by rw [List.length_take]; omega), hl]; rfl
  rw [h1, List.set_append_left _ _ (by simp; omega), show l.take (i + 1) = l.take i ++ [l[i]'(by omega)] from List.take_succ_eq_append_getElem (by omega), h2]
  simp
theorem del_splice {α : Type} {l : List α} {i n : Nat} (hi : i < n) (hn : n ≤ l.length) : splice l i ((l.take n).drop (i + 1)) = delL l i n := by
  unfold splice delL
  have h1 : i + ((l.take n).drop (i + 1)).length = n - 1 := by simp; omega
  rw [h1]

/-- A kid put in, a kid taken out. -/
def FewO.put (o : FewO) (i : Nat) (b : Int) (r : Int × Int) : FewO := ⟨insL o.bs i o.n b, insL o.rs i o.n r, o.n + 1, o.room⟩
def FewO.take (o : FewO) (i : Nat) : FewO := ⟨delL o.bs i o.n, delL o.rs i o.n, o.n - 1, o.room⟩
theorem FewO.put_ok {o : FewO} (h : o.ok) {i : Nat} {b : Int} {r : Int × Int} (hi : i ≤ o.n) (hn : o.n < 16) (hb : 0 ≤ b ∧ b ≤ 255) : (o.put i b r).ok := by
  refine ⟨by rw [← h.lb]; exact insL_len hi (by rw [h.lb]; exact hn), by rw [← h.lr]; exact insL_len hi (by rw [h.lr]; exact hn), hn, ?_⟩
  intro x hx
  simp only [FewO.put, insL, List.mem_append, List.mem_cons] at hx
  rcases hx with hx | rfl | hx | hx
  · exact h.bb x (List.mem_of_mem_take hx)
  · exact hb
  · exact h.bb x (List.mem_of_mem_take (List.mem_of_mem_drop hx))
  · exact h.bb x (List.mem_of_mem_drop hx)
theorem FewO.take_ok {o : FewO} (h : o.ok) {i : Nat} (hi : i < o.n) : (o.take i).ok := by
  have hn := h.ln
  refine ⟨by rw [← h.lb]; exact delL_len hi (by rw [h.lb]; exact hn), by rw [← h.lr]; exact delL_len hi (by rw [h.lr]; exact hn), by simp only [FewO.take]; omega, ?_⟩
  intro x hx
  simp only [FewO.take, delL, List.mem_append] at hx
  rcases hx with hx | hx | hx
  · exact h.bb x (List.mem_of_mem_take hx)
  · exact h.bb x (List.mem_of_mem_take (List.mem_of_mem_drop hx))
  · exact h.bb x (List.mem_of_mem_drop hx)
end Go.Proofs.YtgjgcbemgmkncaaGreatDoor
namespace Go.Proofs.YtgjgcbemgmkncaaGreatDoor
open Go.RowKit
set_option linter.unusedVariables false
set_option linter.unusedSimpArgs false

/-- The row's block has turned, and new blocks have come. -/
def ModEnd (v : Value) (g : Nat) (o : FewO) (w : World) (e : Ending) (w' : World) : Prop := e = .returned v ∧ Blk w' g 106 o.cells.toArray ∧ w.grownBy w' (some g)
theorem size_u8 : (Tryz.prog.info? 5).map (·.size) = some 1 := by kernel_rfl
theorem size_ref : (Tryz.prog.info? 29).map (·.size) = some 2 := by kernel_rfl
theorem u8_one (l : List Int) : ∀ u ∈ l.map (Value.int .u8), u.oneCell' = true := by
  intro u hu
  obtain ⟨x, _, rfl⟩ := List.mem_map.1 hu
  rfl
theorem ref_one (l : List (Int × Int)) : ∀ u ∈ l.flatMap rrow, u.oneCell' = true := by
  intro u hu
  obtain ⟨x, _, hx⟩ := List.mem_flatMap.1 hu
  simp [rrow] at hx
  rcases hx with rfl | rfl <;> rfl
theorem add_at (g i j : Nat) : Addr.add ⟨g, i, none⟩ j = ⟨g, i + j, none⟩ := by unfold Addr.add; split <;> simp_all
theorem src_bytes {o : FewO} {W : World} {g : Nat} {t : TypeId} (ho : o.ok) (h : Blk W g t o.cells.toArray) (i : Nat) : ∀ j v, (((o.bs.take o.n).drop i).map (Value.int .u8))[j]? = some v → W.cell? (Addr.add ⟨g, i, none⟩ j) = some v := by
  intro j v hv
  rw [List.getElem?_map, List.getElem?_drop, List.getElem?_take] at hv
  split at hv
  · cases hb : o.bs[i + j]? with
    | none => rw [hb] at hv; cases hv
    | some b =>
      rw [hb] at hv
      simp only [Option.map_some, Option.some.injEq] at hv
      subst hv
      rw [add_at]
      exact (h.cell _).trans (by rw [List.getElem?_toArray]; exact FewO.atB ho hb)
  · cases hv
theorem flatR_inv : ∀ (l : List (Int × Int)) (j : Nat) (v : Value), (l.flatMap rrow)[j]? = some v → ∃ (k : Nat) (r : Int × Int), l[k]? = some r ∧ ((j = k * 2 ∧ v = .int .i64 r.1) ∨ (j = k * 2 + 1 ∧ v = .int .u32 r.2))
  | [], j, v, h => by simp at h
  | x :: l, 0, v, h => by simp [rrow] at h; exact ⟨0, x, rfl, .inl ⟨rfl, h.symm⟩⟩
  | x :: l, 1, v, h => by simp [rrow] at h; exact ⟨0, x, rfl, .inr ⟨rfl, h.symm⟩⟩
  | x :: l, j + 2, v, h => by
    rw [List.flatMap_cons, List.getElem?_append_right (by simp [rrow])] at h
    obtain ⟨k, r, hk, h1⟩ := flatR_inv l j v (by simpa [rrow] using h)
    refine ⟨k + 1, r, by simpa using hk, ?_⟩
    rcases h1 with ⟨rfl, h2⟩ | ⟨rfl, h2⟩
    · exact .inl ⟨by omega, h2⟩
    · exact .inr ⟨by omega, h2⟩
theorem src_refs {o : FewO} {W : World} {g : Nat} {t : TypeId} (ho : o.ok) (h : Blk W g t o.cells.toArray) (i : Nat) : ∀ j v, (((o.rs.take o.n).drop i).flatMap rrow)[j]? = some v → W.cell? (Addr.add ⟨g, 16 + i * 2, none⟩ j) = some v := by
  intro j v hv
  obtain ⟨k, r, hk, h1⟩ := flatR_inv _ _ _ hv
  rw [List.getElem?_drop, List.getElem?_take] at hk
  split at hk
  · have hr := FewO.atR ho hk
    rw [add_at]
    rcases h1 with ⟨rfl, rfl⟩ | ⟨rfl, rfl⟩
    · exact (h.cell _).trans (by rw [List.getElem?_toArray, show 16 + i * 2 + k * 2 = 16 + (i + k) * 2 by omega]; exact hr.1)
    · exact (h.cell _).trans (by rw [List.getElem?_toArray, show 16 + i * 2 + (k * 2 + 1) = 16 + (i + k) * 2 + 1 by omega]; exact hr.2)
  · cases hk
theorem blk_neF {w : World} {g g' : Nat} {t t' : TypeId} {cs cs' : Array Value} (h : Blk w g t cs) (h' : Blk w g' t' cs') (hne : t ≠ t') : g ≠ g' := by
  rintro rfl
  unfold Blk at h h'
  rw [h] at h'
  simp only [Option.some.injEq, Obj.cells.injEq] at h'
  exact hne h'.2.1
theorem few_slot {o : FewO} {W : World} {g k : Nat} {t : TypeId} (ho : o.ok) (h : Blk W g t o.cells.toArray) (hk : k < 16) :
    ∃ (x : Int) (r : Int × Int), W.cell? ⟨g, k, none⟩ = some (.int .u8 x) ∧ W.cell? ⟨g, 16 + k * 2, none⟩ = some (.int .i64 r.1) ∧ W.cell? ⟨g, 16 + k * 2 + 1, none⟩ = some (.int .u32 r.2) := by
  have hx : o.bs[k]? = some (o.bs[k]'(by rw [ho.lb]; omega)) := List.getElem?_eq_getElem _
  have hr : o.rs[k]? = some (o.rs[k]'(by rw [ho.lr]; omega)) := List.getElem?_eq_getElem _
  exact ⟨_, _, (h.cell k).trans (by rw [List.getElem?_toArray]; exact FewO.atB ho hx), (h.cell _).trans (by rw [List.getElem?_toArray]; exact (FewO.atR ho hr).1), (h.cell _).trans (by rw [List.getElem?_toArray]; exact (FewO.atR ho hr).2)⟩
theorem u8s_len (l : List Int) (i n : Nat) (h : n ≤ l.length) : (((l.take n).drop i).map (Value.int .u8)).length = n - i := by simp; omega
theorem refs_len (l : List (Int × Int)) (i n : Nat) (h : n ≤ l.length) : (((l.take n).drop i).flatMap rrow).length = (n - i) * 2 := by rw [flatR_len]; simp; omega

set_option maxHeartbeats 1600000 in
set_option maxRecDepth 100000 in
theorem put_tail (o : FewO) (i : Nat) (b : Int) (r : Int × Int) (g gr : Nat) {u3 u4 u5 u6 u8 u9 u10 u11 u12 u13 u14 u15 u16 u17 u18 u19 u20 u21 u22 u23 u24 u25 u26 u27 u28 u29 u30 u31 u32 u33 u34 u35 u36 u37 u38 u39 u40 u41 u42 u43 u44 u45 u46 u47 u48 u49 u50 u51 u52 u53 u54 u55 u56 u57 u58 : Value} (w wx : World) (ho : o.ok) (hi : i ≤ o.n) (hn : o.n < 16) (hb : 0 ≤ b ∧ b ≤ 255)
    (hg : Blk wx g 106 (FewO.cells ⟨splice o.bs (i + 1) ((o.bs.take o.n).drop i), splice o.rs (i + 1) ((o.rs.take o.n).drop i), o.n, o.room⟩).toArray) (hgr : Blk wx gr 29 #[.int .i64 r.1, .int .u32 r.2]) (hgw : w.grownBy wx (some g)) :
    Code.wp Tryz.prog (part Tryz.f120 [1, 1, 1]) (bodyPost Tryz.prog Tryz.f120 (ModEnd (.tuple #[]) g (o.put i b r) w)) ⟨#[.pointer (some ⟨g, 0, none⟩), .int .i64 i, .int .u8 b, u3, u4, u5, u6, .pointer (some ⟨gr, 0, none⟩), u8, u9, u10, u11, u12, u13, u14, u15, u16, u17, u18, u19, u20, u21, u22, u23, u24, u25, u26, u27, u28, u29, u30, u31, u32, u33, u34, u35, u36, u37, u38, u39, u40, u41, u42, u43, u44, u45, u46, u47, u48, u49, u50, u51, u52, u53, u54, u55, u56, u57, u58], []⟩ wx := by
  conv => arg 2; whnf
  obtain ⟨o1, ho1⟩ : ∃ o1 : FewO, o1 = ⟨splice o.bs (i + 1) ((o.bs.take o.n).drop i), splice o.rs (i + 1) ((o.rs.take o.n).drop i), o.n, o.room⟩ := ⟨_, rfl⟩
  have hlb : ((o.bs.take o.n).drop i).length = o.n - i := by simp; rw [ho.lb]; omega
  have hlr : ((o.rs.take o.n).drop i).length = o.n - i := by simp; rw [ho.lr]; omega
  have ok1 : o1.ok := by
    rw [ho1]
    refine ⟨by dsimp only; rw [length_splice _ _ _ (by rw [hlb, ho.lb]; omega)]; exact ho.lb, by dsimp only; rw [length_splice _ _ _ (by rw [hlr, ho.lr]; omega)]; exact ho.lr, by dsimp only; omega, ?_⟩
    intro x hx
    simp only [splice, List.mem_append] at hx
    rcases hx with hx | hx | hx
    · exact ho.bb x (List.mem_of_mem_take hx)
    · exact ho.bb x (List.mem_of_mem_take (List.mem_of_mem_drop hx))
    · exact ho.bb x (List.mem_of_mem_drop hx)
  rw [← ho1] at hg
  have e1 : o.put i b r = ⟨o1.bs.set i b, o1.rs.set i r, o.n + 1, o.room⟩ := by
    rw [ho1]; unfold FewO.put
    rw [ins_splice b hi (by rw [ho.lb]; omega), ins_splice r hi (by rw [ho.lr]; omega)]
  have e2 : ((((o1.cells.set i (.int .u8 b)).set (16 + i * 2) (.int .i64 r.1)).set (16 + i * 2 + 1) (.int .u32 r.2)).set 48 (.int .i64 (o.n + 1 : Nat))) = (o.put i b r).cells := by
    have k1 := cells_setB ok1 b (show i < 16 by omega)
    have ok2 : (FewO.mk (o1.bs.set i b) o1.rs o1.n o1.room).ok := ⟨by dsimp only; rw [List.length_set]; exact ok1.lb, ok1.lr, ok1.ln, fun x hx => by
      rcases List.mem_or_eq_of_mem_set hx with hx | rfl
      · exact ok1.bb x hx
      · exact hb⟩
    rw [k1, cells_setR ok2 r (by omega)]
    have ok3 : (FewO.mk (o1.bs.set i b) (o1.rs.set i r) o1.n o1.room).ok := ⟨ok2.lb, by dsimp only; rw [List.length_set]; exact ok1.lr, ok1.ln, ok2.bb⟩
    rw [cells_setN ok3, e1, ho1]
  have n0 : wx.cell? ⟨g, 48, none⟩ = some (.int .i64 o.n) := by
    have := (few_cells ok1 hg).1
    rw [ho1] at this
    exact this
  have hx := few_slot ok1 hg (show i < 16 by omega)
  obtain ⟨x, q, hx0, hx1, hx2⟩ := hx
  have y0 := hg.frozen i
  have y1 := hg.frozen (16 + i * 2)
  have y2 := hg.frozen (16 + i * 2 + 1)
  have y3 := hg.frozen 48
  have r0 := hgr.cell 0
  have r1 := hgr.cell 1
  simp at r0 r1
  have hne : g ≠ gr := blk_neF hg hgr (by decide)
  have hne2 : gr ≠ g := fun e => hne e.symm
  have i1 : (0 : Int) ≤ (i : Int) := by omega
  have i2 : (i : Int) < 16 := by omega
  have i3 : (o.n : Int) ≤ 16 := by omega
  have i4 : (0 : Int) ≤ (o.n : Int) := by omega
  have hi16 : i < 16 := by omega
  have hN := ((((hg.set_ i (.int .u8 b)).set_ (16 + i * 2) (.int .i64 r.1)).set_ (16 + i * 2 + 1) (.int .u32 r.2)).set_ 48 (.int .i64 (o.n + 1 : Nat)))
  simp only [List.setIfInBounds_toArray] at hN
  rw [e2] at hN
  have hR := grown_setCell (grown_setCell (grown_setCell (grown_setCell hgw i (.int .u8 b)) (16 + i * 2) (.int .i64 r.1)) (16 + i * 2 + 1) (.int .u32 r.2)) 48 (.int .i64 (o.n + 1 : Nat))
  have HN := Lib.hid (And.intro hN hR)
  have e3 : ((((o1.cells.set (16 + i * 2) (.int .i64 r.1)).set (16 + i * 2 + 1) (.int .u32 r.2)).set i (.int .u8 b)).set 48 (.int .i64 (o.n + 1 : Nat))) = (o.put i b r).cells := by
    rw [← e2, List.set_comm (Value.int .u32 r.2) (Value.int .u8 b) (show 16 + i * 2 + 1 ≠ i by omega), List.set_comm (Value.int .i64 r.1) (Value.int .u8 b) (show 16 + i * 2 ≠ i by omega)]
  have hN2 := ((((hg.set_ (16 + i * 2) (.int .i64 r.1)).set_ (16 + i * 2 + 1) (.int .u32 r.2)).set_ i (.int .u8 b)).set_ 48 (.int .i64 (o.n + 1 : Nat)))
  simp only [List.setIfInBounds_toArray] at hN2
  rw [e3] at hN2
  have hR2 := grown_setCell (grown_setCell (grown_setCell (grown_setCell hgw (16 + i * 2) (.int .i64 r.1)) (16 + i * 2 + 1) (.int .u32 r.2)) i (.int .u8 b)) 48 (.int .i64 (o.n + 1 : Nat))
  have HN2 := Lib.hid (And.intro hN2 hR2)
  clear hN hR hN2 hR2 e1 e2 e3 hg hgr hgw ho ok1 hlb hlr ho1
  refine wp_seq_k fun K0 hK => ?_
  have HK0 := Lib.hid hK
  clear hK
  go_region
  all_goals
    refine HK0.out _ _ ?_
    go_wp2
    go_end0
    first
      | exact ⟨rfl, HN.out.1, grown_drew HN.out.2⟩
      | exact ⟨rfl, HN2.out.1, grown_drew HN2.out.2⟩

set_option maxHeartbeats 1600000 in
set_option maxRecDepth 100000 in
theorem put_any (o : FewO) (i : Nat) (b : Int) (r : Int × Int) (g : Nat) (w : World) (ho : o.ok) (hg : Blk w g 106 o.cells.toArray) (hi : i ≤ o.n) (hn : o.n < 16) (hb : 0 ≤ b ∧ b ≤ 255) :
    Calls Tryz.prog 120 #[.pointer (some ⟨g, 0, none⟩), .int .i64 i, .int .u8 b, refV r] w (ModEnd (.tuple #[]) g (o.put i b r) w) := by
  have hg1 := hg.alloc (.cells #[.int .i64 r.1, .int .u32 r.2] 29)
  have hgr := Blk.new w 29 #[.int .i64 r.1, .int .u32 r.2]
  have hgw := grown_alloc w g (.cells #[.int .i64 r.1, .int .u32 r.2] 29)
  have hlg := hg.lt
  generalize hW : w.alloc (.cells #[.int .i64 r.1, .int .u32 r.2] 29) = W at hg1 hgr hgw
  have HW := Lib.hid hW
  obtain ⟨n0, n1⟩ := few_cells ho hg1
  have HO := Lib.hid ho
  have HG := Lib.hid (And.intro hg1 (And.intro hgr hgw))
  have hlb : ((o.bs.take o.n).drop i).length = o.n - i := by simp; rw [ho.lb]; omega
  have hlr : ((o.rs.take o.n).drop i).length = o.n - i := by simp; rw [ho.lr]; omega
  have ok1 : (FewO.mk (splice o.bs (i + 1) ((o.bs.take o.n).drop i)) o.rs o.n o.room).ok := by
    refine ⟨by dsimp only; rw [length_splice _ _ _ (by rw [hlb, ho.lb]; omega)]; exact ho.lb, ho.lr, by dsimp only; omega, ?_⟩
    intro x hx
    simp only [splice, List.mem_append] at hx
    rcases hx with hx | hx | hx
    · exact ho.bb x (List.mem_of_mem_take hx)
    · exact ho.bb x (List.mem_of_mem_take (List.mem_of_mem_drop hx))
    · exact ho.bb x (List.mem_of_mem_drop hx)
  have HO1 := Lib.hid (And.intro ok1 (And.intro hlb (And.intro hlr hb)))
  have i1 : (0 : Int) ≤ (i : Int) := by omega
  have i2 : (i : Int) ≤ (o.n : Int) := by omega
  have i3 : (o.n : Int) ≤ 15 := by omega
  have hn0 : (0 : Int) ≤ (o.n : Int) := by omega
  have i7 : (o.n : Int) ≤ 16 := by omega
  have i8 : (i : Int) ≤ 15 := by omega
  clear ho hg hg1 hgr hgw hW n1 ok1 hlb hlr hb
  rcases Nat.lt_or_ge i 15 with h15 | h15
  · have i4 : (i : Int) + 1 < 16 := by omega
    have i5 : (0 : Int) ≤ (i : Int) + 1 := by omega
    have i6 : (i : Int) + 1 ≤ 16 := by omega
    have t1 : ((i : Int) + 1).toNat = i + 1 := by omega
    have s1 : IntKind.i64.wrap ((i : Int) + 1) = (i : Int) + 1 := IntWalk.i64_in _ (by omega)
    go_enter Tryz.func120, Tryz.ntmps120
    refine wp_seq_k fun K0 hK => ?_
    have HK0 := Lib.hid hK
    clear hK
    go_wp2_with fail
    refine HK0.out _ _ ?_
    clear HK0 K0
    rw [HW.out]
    refine wp_seq_k fun K0 hK => ?_
    have HK0 := Lib.hid hK
    clear hK
    go_region_law ((refine step_copy_any rfl (.tmp 13) (.tmp 22) _ _ rfl 5 1 (by decide) Tryz.underlying23 size_u8 _ _ _ _ _ _ rfl rfl g (i + 1) o.cells 106 HG.out.1 (((o.bs.take o.n).drop i).map (Value.int .u8)) (by rw [u8s_len _ _ _ (by rw [HO.out.lb]; omega), Nat.mul_one]; exact (Nat.min_eq_left (by omega)).symm) (fun _ => ⟨by rw [if_neg (by omega)], ⟨g, i, none⟩, by rw [if_neg (by omega)], src_bytes HO.out HG.out.1 i⟩) (by rw [u8s_len _ _ _ (by rw [HO.out.lb]; omega), FewO.len HO.out]; omega) (u8_one _) ?_; intro w2 h2))
    refine HK0.out _ _ ?_
    clear HK0 K0
    obtain ⟨hg2, hw2⟩ := h2.out
    rw [cells_spliceB HO.out (by rw [HO1.out.2.1]; omega)] at hg2
    have hgr2 := HG.out.2.1.drew.grown hw2 (by
      intro e
      injection e with e
      exact blk_neF HG.out.1 HG.out.2.1 (by decide) e.symm)
    have HG2 := Lib.hid (And.intro hg2 (And.intro hgr2 (grown_trans (grown_drew HG.out.2.2) hw2)))
    have n0 : w2.cell? ⟨g, 48, none⟩ = some (.int .i64 o.n) := (few_cells HO1.out.1 hg2).1
    clear h2 hg2 hw2 hgr2
    refine wp_seq_k fun K0 hK => ?_
    have HK0 := Lib.hid hK
    clear hK
    go_region_law ((refine step_copy_any rfl (.tmp 29) (.tmp 38) _ _ rfl 29 2 (by decide) Tryz.underlying24 size_ref _ _ _ _ _ _ rfl rfl g (16 + (i + 1) * 2) _ 106 HG2.out.1 (((o.rs.take o.n).drop i).flatMap rrow) (by rw [refs_len _ _ _ (by rw [HO.out.lr]; omega)]; congr 1; exact (Nat.min_eq_left (by omega)).symm) (fun _ => ⟨by rw [if_neg (by omega)], ⟨g, 16 + i * 2, none⟩, by rw [if_neg (by omega)], src_refs (o := ⟨splice o.bs (i + 1) ((o.bs.take o.n).drop i), o.rs, o.n, o.room⟩) HO1.out.1 HG2.out.1 i⟩) (by rw [refs_len _ _ _ (by rw [HO.out.lr]; omega), FewO.len HO1.out.1]; omega) (ref_one _) ?_; intro w3 h3))
    refine HK0.out _ _ ?_
    clear HK0 K0
    obtain ⟨hg3, hw3⟩ := h3.out
    have e3 := cells_spliceR (k := i + 1) (m := (o.rs.take o.n).drop i) HO1.out.1 (by rw [HO1.out.2.2.1]; omega)
    rw [e3] at hg3
    have hgr3 := HG2.out.2.1.drew.grown hw3 (by
      intro e
      injection e with e
      exact blk_neF HG2.out.1 HG2.out.2.1 (by decide) e.symm)
    exact put_tail o i b r g w.heap.size w w3 HO.out hi hn HO1.out.2.2.2 hg3 hgr3 (grown_trans (grown_drew HG2.out.2.2) hw3)
  · obtain rfl : i = 15 := by omega
    have s2 : IntKind.i64.wrap 16 = 16 := by decide
    have s3 : IntKind.i64.wrap (15 + 1) = 16 := by decide
    have i6 : (15 : Int) ≤ (o.n : Int) := by omega
    go_enter Tryz.func120, Tryz.ntmps120
    refine wp_seq_k fun K0 hK => ?_
    have HK0 := Lib.hid hK
    clear hK
    go_wp2_with fail
    refine HK0.out _ _ ?_
    clear HK0 K0
    rw [HW.out]
    refine wp_seq_k fun K0 hK => ?_
    have HK0 := Lib.hid hK
    clear hK
    go_region_law ((refine step_copy_any rfl (.tmp 13) (.tmp 22) _ _ rfl 5 1 (by decide) Tryz.underlying23 size_u8 _ _ _ _ _ _ rfl rfl g 16 o.cells 106 HG.out.1 (((o.bs.take o.n).drop 15).map (Value.int .u8)) (by rw [u8s_len _ _ _ (by rw [HO.out.lb]; omega), Nat.mul_one]; exact (Nat.min_eq_left (by omega)).symm) (fun h => absurd h (by rw [u8s_len _ _ _ (by rw [HO.out.lb]; omega)]; omega)) (by rw [u8s_len _ _ _ (by rw [HO.out.lb]; omega), FewO.len HO.out]; omega) (u8_one _) ?_; intro w2 h2))
    refine HK0.out _ _ ?_
    clear HK0 K0
    obtain ⟨hg2, hw2⟩ := h2.out
    rw [cells_spliceB HO.out (by rw [HO1.out.2.1]; omega)] at hg2
    have hgr2 := HG.out.2.1.drew.grown hw2 (by
      intro e
      injection e with e
      exact blk_neF HG.out.1 HG.out.2.1 (by decide) e.symm)
    have HG2 := Lib.hid (And.intro hg2 (And.intro hgr2 (grown_trans (grown_drew HG.out.2.2) hw2)))
    have n0 : w2.cell? ⟨g, 48, none⟩ = some (.int .i64 o.n) := (few_cells HO1.out.1 hg2).1
    clear h2 hg2 hw2 hgr2
    refine wp_seq_k fun K0 hK => ?_
    have HK0 := Lib.hid hK
    clear hK
    go_region_law ((refine step_copy_any rfl (.tmp 29) (.tmp 38) _ _ rfl 29 2 (by decide) Tryz.underlying24 size_ref _ _ _ _ _ _ rfl rfl g (16 + (15 + 1) * 2) _ 106 HG2.out.1 (((o.rs.take o.n).drop 15).flatMap rrow) (by rw [refs_len _ _ _ (by rw [HO.out.lr]; omega)]; congr 1; exact (Nat.min_eq_left (by omega)).symm) (fun h => absurd h (by rw [refs_len _ _ _ (by rw [HO.out.lr]; omega)]; omega)) (by rw [refs_len _ _ _ (by rw [HO.out.lr]; omega), FewO.len HO1.out.1]; omega) (ref_one _) ?_; intro w3 h3))
    refine HK0.out _ _ ?_
    clear HK0 K0
    obtain ⟨hg3, hw3⟩ := h3.out
    have e3 := cells_spliceR (k := 15 + 1) (m := (o.rs.take o.n).drop 15) HO1.out.1 (by rw [HO1.out.2.2.1]; omega)
    rw [e3] at hg3
    have hgr3 := HG2.out.2.1.drew.grown hw3 (by
      intro e
      injection e with e
      exact blk_neF HG2.out.1 HG2.out.2.1 (by decide) e.symm)
    exact put_tail o 15 b r g w.heap.size w w3 HO.out hi hn HO1.out.2.2.2 hg3 hgr3 (grown_trans (grown_drew HG2.out.2.2) hw3)

set_option maxHeartbeats 1600000 in
set_option maxRecDepth 100000 in
theorem take_any (o : FewO) (i : Nat) (g : Nat) (w : World) (ho : o.ok) (hg : Blk w g 106 o.cells.toArray) (hi : i < o.n) :
    Calls Tryz.prog 121 #[.pointer (some ⟨g, 0, none⟩), .int .i64 i] w (ModEnd (.tuple #[]) g (o.take i) w) := by
  obtain ⟨n0, n1⟩ := few_cells ho hg
  have hln := ho.ln
  have HO := Lib.hid ho
  have HG := Lib.hid hg
  have hlb : ((o.bs.take o.n).drop (i + 1)).length = o.n - (i + 1) := by simp; rw [ho.lb]; omega
  have hlr : ((o.rs.take o.n).drop (i + 1)).length = o.n - (i + 1) := by simp; rw [ho.lr]; omega
  have ok1 : (FewO.mk (splice o.bs i ((o.bs.take o.n).drop (i + 1))) o.rs o.n o.room).ok := by
    refine ⟨by dsimp only; rw [length_splice _ _ _ (by rw [hlb, ho.lb]; omega)]; exact ho.lb, ho.lr, by dsimp only; omega, ?_⟩
    intro x hx
    simp only [splice, List.mem_append] at hx
    rcases hx with hx | hx | hx
    · exact ho.bb x (List.mem_of_mem_take hx)
    · exact ho.bb x (List.mem_of_mem_take (List.mem_of_mem_drop hx))
    · exact ho.bb x (List.mem_of_mem_drop hx)
  have HO1 := Lib.hid (And.intro ok1 (And.intro hlb hlr))
  have i1 : (0 : Int) ≤ (i : Int) := by omega
  have i2 : (i : Int) < (o.n : Int) := by omega
  have i3 : (o.n : Int) ≤ 16 := by omega
  have i7 : (i : Int) ≤ 15 := by omega
  have i8 : (i : Int) < 16 := by omega
  have i10 : (i : Int) ≤ 16 := by omega
  have hn0 : (0 : Int) ≤ (o.n : Int) := by omega
  clear ho hg n1 ok1 hlb hlr
  rcases Nat.lt_or_ge i 15 with h15 | h15
  · have i4 : (i : Int) + 1 < 16 := by omega
    have i5 : (0 : Int) ≤ (i : Int) + 1 := by omega
    have i6 : (i : Int) + 1 ≤ 16 := by omega
    have i9 : (i : Int) + 1 ≤ (o.n : Int) := by omega
    have t1 : ((i : Int) + 1).toNat = i + 1 := by omega
    have s1 : IntKind.i64.wrap ((i : Int) + 1) = (i : Int) + 1 := IntWalk.i64_in _ (by omega)
    go_enter Tryz.func121, Tryz.ntmps121
    refine wp_seq_k fun K0 hK => ?_
    have HK0 := Lib.hid hK
    clear hK
    go_region_law ((refine step_copy_any rfl (.tmp 8) (.tmp 18) _ _ rfl 5 1 (by decide) Tryz.underlying23 size_u8 _ _ _ _ _ _ rfl rfl g i o.cells 106 HG.out (((o.bs.take o.n).drop (i + 1)).map (Value.int .u8)) (by rw [u8s_len _ _ _ (by rw [HO.out.lb]; omega), Nat.mul_one]; exact (Nat.min_eq_left (by omega)).symm) (fun _ => ⟨by rw [if_neg (by omega)], ⟨g, i + 1, none⟩, by rw [if_neg (by omega)], src_bytes HO.out HG.out (i + 1)⟩) (by rw [u8s_len _ _ _ (by rw [HO.out.lb]; omega), FewO.len HO.out]; omega) (u8_one _) ?_; intro w2 h2))
    refine HK0.out _ _ ?_
    clear HK0 K0
    obtain ⟨hg2, hw2⟩ := h2.out
    rw [cells_spliceB HO.out (by rw [HO1.out.2.1]; omega)] at hg2
    have HG2 := Lib.hid (And.intro hg2 (grown_trans (grown_drew (World.grownBy.refl w (some g))) hw2))
    have n0 : w2.cell? ⟨g, 48, none⟩ = some (.int .i64 o.n) := (few_cells HO1.out.1 hg2).1
    clear h2 hg2 hw2
    refine wp_seq_k fun K0 hK => ?_
    have HK0 := Lib.hid hK
    clear hK
    go_region_law ((refine step_copy_any rfl (.tmp 24) (.tmp 34) _ _ rfl 29 2 (by decide) Tryz.underlying24 size_ref _ _ _ _ _ _ rfl rfl g (16 + i * 2) _ 106 HG2.out.1 (((o.rs.take o.n).drop (i + 1)).flatMap rrow) (by rw [refs_len _ _ _ (by rw [HO.out.lr]; omega)]; congr 1; exact (Nat.min_eq_left (by omega)).symm) (fun _ => ⟨by rw [if_neg (by omega)], ⟨g, 16 + (i + 1) * 2, none⟩, by rw [if_neg (by omega)], src_refs (o := ⟨splice o.bs i ((o.bs.take o.n).drop (i + 1)), o.rs, o.n, o.room⟩) HO1.out.1 HG2.out.1 (i + 1)⟩) (by rw [refs_len _ _ _ (by rw [HO.out.lr]; omega), FewO.len HO1.out.1]; omega) (ref_one _) ?_; intro w3 h3))
    refine HK0.out _ _ ?_
    clear HK0 K0
    obtain ⟨hg3, hw3⟩ := h3.out
    have e3 := cells_spliceR (k := i) (m := (o.rs.take o.n).drop (i + 1)) HO1.out.1 (by rw [HO1.out.2.2]; omega)
    rw [e3] at hg3
    have ok2 : (FewO.mk (splice o.bs i ((o.bs.take o.n).drop (i + 1))) (splice o.rs i ((o.rs.take o.n).drop (i + 1))) o.n o.room).ok := ⟨HO1.out.1.lb, by dsimp only; rw [length_splice _ _ _ (by rw [HO1.out.2.2, HO.out.lr]; omega)]; exact HO.out.lr, HO1.out.1.ln, HO1.out.1.bb⟩
    have n0 : w3.cell? ⟨g, 48, none⟩ = some (.int .i64 o.n) := (few_cells ok2 hg3).1
    have f0 := hg3.frozen 48
    have hN := hg3.set_ 48 (.int .i64 (o.n - 1 : Nat))
    simp only [List.setIfInBounds_toArray] at hN
    rw [cells_setN ok2, del_splice (by omega) (by rw [HO.out.lb]; omega), del_splice (by omega) (by rw [HO.out.lr]; omega)] at hN
    have hz : ((o.n - 1 : Nat) : Int) = (o.n : Int) - 1 := by omega
    rw [hz] at hN
    have HN := Lib.hid (And.intro hN (grown_setCell (grown_trans (grown_drew HG2.out.2) hw3) 48 (.int .i64 ((o.n : Int) - 1))))
    clear hN hg3 hw3 h3 e3 ok2 hz
    go_wp2
    go_end0
    exact ⟨rfl, HN.out.1, HN.out.2⟩
  · obtain rfl : i = 15 := by omega
    have s2 : IntKind.i64.wrap 16 = 16 := by decide
    have s3 : IntKind.i64.wrap (15 + 1) = 16 := by decide
    have i6 : (16 : Int) ≤ (o.n : Int) := by omega
    go_enter Tryz.func121, Tryz.ntmps121
    refine wp_seq_k fun K0 hK => ?_
    have HK0 := Lib.hid hK
    clear hK
    go_region_law ((refine step_copy_any rfl (.tmp 8) (.tmp 18) _ _ rfl 5 1 (by decide) Tryz.underlying23 size_u8 _ _ _ _ _ _ rfl rfl g 15 o.cells 106 HG.out (((o.bs.take o.n).drop (15 + 1)).map (Value.int .u8)) (by rw [u8s_len _ _ _ (by rw [HO.out.lb]; omega), Nat.mul_one]; show o.n - (15 + 1) = 0; omega) (fun h => absurd h (by rw [u8s_len _ _ _ (by rw [HO.out.lb]; omega)]; omega)) (by rw [u8s_len _ _ _ (by rw [HO.out.lb]; omega), FewO.len HO.out]; omega) (u8_one _) ?_; intro w2 h2))
    refine HK0.out _ _ ?_
    clear HK0 K0
    obtain ⟨hg2, hw2⟩ := h2.out
    rw [cells_spliceB HO.out (by rw [HO1.out.2.1]; omega)] at hg2
    have HG2 := Lib.hid (And.intro hg2 (grown_trans (grown_drew (World.grownBy.refl w (some g))) hw2))
    have n0 : w2.cell? ⟨g, 48, none⟩ = some (.int .i64 o.n) := (few_cells HO1.out.1 hg2).1
    clear h2 hg2 hw2
    refine wp_seq_k fun K0 hK => ?_
    have HK0 := Lib.hid hK
    clear hK
    go_region_law ((refine step_copy_any rfl (.tmp 24) (.tmp 34) _ _ rfl 29 2 (by decide) Tryz.underlying24 size_ref _ _ _ _ _ _ rfl rfl g (16 + 15 * 2) _ 106 HG2.out.1 (((o.rs.take o.n).drop (15 + 1)).flatMap rrow) (by rw [refs_len _ _ _ (by rw [HO.out.lr]; omega)]; congr 1; show o.n - (15 + 1) = 0; omega) (fun h => absurd h (by rw [refs_len _ _ _ (by rw [HO.out.lr]; omega)]; omega)) (by rw [refs_len _ _ _ (by rw [HO.out.lr]; omega), FewO.len HO1.out.1]; omega) (ref_one _) ?_; intro w3 h3))
    refine HK0.out _ _ ?_
    clear HK0 K0
    obtain ⟨hg3, hw3⟩ := h3.out
    have e3 := cells_spliceR (k := 15) (m := (o.rs.take o.n).drop (15 + 1)) HO1.out.1 (by rw [HO1.out.2.2]; omega)
    rw [e3] at hg3
    have ok2 : (FewO.mk (splice o.bs 15 ((o.bs.take o.n).drop (15 + 1))) (splice o.rs 15 ((o.rs.take o.n).drop (15 + 1))) o.n o.room).ok := ⟨HO1.out.1.lb, by dsimp only; rw [length_splice _ _ _ (by rw [HO1.out.2.2, HO.out.lr]; omega)]; exact HO.out.lr, HO1.out.1.ln, HO1.out.1.bb⟩
    have n0 : w3.cell? ⟨g, 48, none⟩ = some (.int .i64 o.n) := (few_cells ok2 hg3).1
    have f0 := hg3.frozen 48
    have hN := hg3.set_ 48 (.int .i64 (o.n - 1 : Nat))
    simp only [List.setIfInBounds_toArray] at hN
    rw [cells_setN ok2, del_splice (by omega) (by rw [HO.out.lb]; omega), del_splice (by omega) (by rw [HO.out.lr]; omega)] at hN
    have hz : ((o.n - 1 : Nat) : Int) = (o.n : Int) - 1 := by omega
    rw [hz] at hN
    have HN := Lib.hid (And.intro hN (grown_setCell (grown_trans (grown_drew HG2.out.2) hw3) 48 (.int .i64 ((o.n : Int) - 1))))
    clear hN hg3 hw3 h3 e3 ok2 hz
    go_wp2
    go_end0
    exact ⟨rfl, HN.out.1, HN.out.2⟩
end Go.Proofs.YtgjgcbemgmkncaaGreatDoor
namespace Go.Proofs.YtgjgcbemgmkncaaGreatDoor
open Go.RowKit
set_option linter.unusedVariables false
set_option linter.unusedSimpArgs false

/-- A row's room, and how many kids it may have. -/
def FewO.fits (o : FewO) : Prop := o.ok ∧ 0 < o.room ∧ o.room ≤ 16 ∧ (o.n : Int) ≤ o.room
def FewO.putM (o : FewO) (b : Int) (r : Int × Int) : Int × FewO := if o.has b = true then (8, o) else if (o.n : Int) = o.room then (14, o) else (0, o.put (o.idx b) b r)
def FewO.turn (o : FewO) (i : Nat) (r : Int × Int) : FewO := ⟨o.bs, o.rs.set i r, o.n, o.room⟩
def FewO.turnM (o : FewO) (b : Int) (r : Int × Int) : Int × FewO := if o.has b = true then (0, o.turn (o.idx b) r) else (5, o)
def FewO.takeM (o : FewO) (b : Int) : ((Int × Int) × Int) × FewO := if o.has b = true then ((o.rs.getD (o.idx b) (0, 0), 0), o.take (o.idx b)) else (((0, 0), 5), o)
theorem ModEnd.of_below {v : Value} {g : Nat} {o : FewO} {w w' : World} (h : Blk w g 106 o.cells.toArray) (hb : Below w.heap.size w w') : ModEnd v g o w (.returned v) w' := ⟨rfl, h.below hb h.lt, below_grown (g := g) hb g⟩

theorem grown_new {a w : World} {g i : Nat} (h : a.grownBy w (some g)) (hi : a.heap.size ≤ i) (k : Nat) (u : Value) : a.grownBy (w.setCell ⟨i, k, none⟩ u) (some g) :=
  ⟨h.os, h.tape, h.output, by simpa [World.setCell] using h.size, fun j hj hne => (Below.heap_setCell w ⟨i, k, none⟩ u j (fun e => by have e : j = i := e; omega)).trans (h.block j hj hne)⟩
set_option maxHeartbeats 1600000 in
set_option maxRecDepth 100000 in
theorem Put_any (o : FewO) (b : Int) (r : Int × Int) (g : Nat) (w : World) (ho : o.fits) (hg : Blk w g 106 o.cells.toArray) (hb : 0 ≤ b ∧ b ≤ 255) :
    Calls Tryz.prog 112 #[.pointer (some ⟨g, 0, none⟩), .int .u8 b, refV r] w (ModEnd (.int .i64 (o.putM b r).1) g (o.putM b r).2 w) := by
  obtain ⟨ho, hr0, hr1, hr2⟩ := ho
  have hg1 := hg.alloc (.cells #[.int .i64 r.1, .int .u32 r.2] 29)
  have hgr := Blk.new w 29 #[.int .i64 r.1, .int .u32 r.2]
  have hbel := below_box w (.cells #[.int .i64 r.1, .int .u32 r.2] 29)
  have hlg := hg.lt
  have HG0 := Lib.hid hg
  generalize hW : w.alloc (.cells #[.int .i64 r.1, .int .u32 r.2] 29) = W at hg1 hgr hbel
  obtain ⟨n0, n1⟩ := few_cells ho hg1
  have ht := there_some g o.room W n1
  rw [decide_eq_true hr0] at ht
  have HA := Lib.hid (at_any o b g W ho hg1 hb)
  have HT := Lib.hid ht
  have HO := Lib.hid (And.intro ho hb)
  have HG := Lib.hid (And.intro hg1 (And.intro hgr hbel))
  have HW := Lib.hid hW
  have hle := FewO.idx_le ho b
  have hln := ho.ln
  clear ht hg hg1 hgr hbel ho hW n0 n1 hb
  obtain ⟨d, hd⟩ : ∃ d, o.has b = d := ⟨_, rfl⟩
  rw [hd] at HA
  have HD := Lib.hid hd
  clear hd
  go_enter Tryz.func112, Tryz.ntmps112
  go_wp2_with fail
  rw [HW.out]
  refine HT.out.mono ?_
  rintro e w1 ⟨rfl, rfl⟩
  clear HT HW
  go_wp2_with fail
  refine HA.out.mono ?_
  rintro e w1 ⟨rfl, hb1⟩
  clear HA
  obtain ⟨hg1, hgr, hbel⟩ := HG.out
  have hg1 := hg1.below hb1 hg1.lt
  have hgr := hgr.below hb1 hgr.lt
  have hbel := below_trans hbel hb1
  obtain ⟨n0, n1⟩ := few_cells HO.out.1 hg1
  clear hb1 HG
  cases d with
  | true =>
    have hfin : o.putM b r = (8, o) := by unfold FewO.putM; rw [if_pos HD.out]
    have HF := Lib.hid (And.intro hfin hbel)
    clear hfin hg1 hgr hbel
    go_wp2
    go_ret
    rw [HF.out.1]
    exact ModEnd.of_below HG0.out HF.out.2
  | false =>
    have hnh : ¬ o.has b = true := by rw [HD.out]; simp
    by_cases hf : (o.n : Int) = o.room
    · have hfin : o.putM b r = (14, o) := by unfold FewO.putM; rw [if_neg hnh, if_pos hf]
      have HF := Lib.hid (And.intro hfin hbel)
      have hfb : ((o.n : Int) == o.room) = true := beq_iff_eq.2 hf
      clear hfin hg1 hgr hbel hnh hf
      go_wp2_with fail
      go_quiet (fail)
      go_wp2
      go_ret
      rw [HF.out.1]
      exact ModEnd.of_below HG0.out (below_drewN HF.out.2 _)
    · have hfin : o.putM b r = (0, o.put (o.idx b) b r) := by unfold FewO.putM; rw [if_neg hnh, if_neg hf]
      have hlt : o.n < 16 := by omega
      have HF := Lib.hid hfin
      have hfb : ((o.n : Int) == o.room) = false := beq_eq_false_iff_ne.2 hf
      have hput := fun V h => put_any o (o.idx b) b r g V HO.out.1 h hle hlt HO.out.2
      have HP := Lib.hid hput
      have HH := Lib.hid (And.intro hg1 (And.intro hgr hbel))
      clear hfin hg1 hgr hbel hnh hf hput
      have hbox := HH.out.2.1
      have c0 := hbox.cell 0
      have c1 := hbox.cell 1
      simp at c0 c1
      go_wp2_with fail
      go_quiet (fail)
      go_wp2_with fail
      clear n0 n1
      go_region_with ((go_at_call 120; refine (HP.out _ (HH.out.1.drewN _)).mono ?_; rintro e wn ⟨rfl, hgn, hwn⟩))
      go_wp2
      go_ret
      rw [HF.out]
      exact ⟨rfl, hgn, grown_trans (below_grown (g := g) (below_drewN HH.out.2.2 _) g) hwn⟩

set_option maxHeartbeats 1600000 in
set_option maxRecDepth 100000 in
theorem Take_any (o : FewO) (b : Int) (g : Nat) (w : World) (ho : o.fits) (hg : Blk w g 106 o.cells.toArray) (hb : 0 ≤ b ∧ b ≤ 255) :
    Calls Tryz.prog 113 #[.pointer (some ⟨g, 0, none⟩), .int .u8 b] w (ModEnd (.tuple #[refV (o.takeM b).1.1, .int .i64 (o.takeM b).1.2]) g (o.takeM b).2 w) := by
  obtain ⟨ho, hr0, hr1, hr2⟩ := ho
  have hg1 := hg.alloc (.cells #[.int .i64 0, .int .u32 0] 29)
  have hgr := Blk.new w 29 #[.int .i64 0, .int .u32 0]
  have hbel := below_box w (.cells #[.int .i64 0, .int .u32 0] 29)
  have hlg := hg.lt
  have HG0 := Lib.hid hg
  generalize hW : w.alloc (.cells #[.int .i64 0, .int .u32 0] 29) = W at hg1 hgr hbel
  obtain ⟨n0, n1⟩ := few_cells ho hg1
  have ht := there_some g o.room W n1
  rw [decide_eq_true hr0] at ht
  have HA := Lib.hid (at_any o b g W ho hg1 hb)
  have HT := Lib.hid ht
  have HO := Lib.hid (And.intro ho hb)
  have HG := Lib.hid (And.intro hg1 (And.intro hgr hbel))
  have HW := Lib.hid hW
  have hle := FewO.idx_le ho b
  have hln := ho.ln
  clear ht hg hg1 hgr hbel ho hW n0 n1 hb
  obtain ⟨d, hd⟩ : ∃ d, o.has b = d := ⟨_, rfl⟩
  rw [hd] at HA
  have HD := Lib.hid hd
  clear hd
  go_enter Tryz.func113, Tryz.ntmps113
  go_wp2_with fail
  rw [HW.out]
  refine HT.out.mono ?_
  rintro e w1 ⟨rfl, rfl⟩
  clear HT HW
  go_wp2_with fail
  refine HA.out.mono ?_
  rintro e w1 ⟨rfl, hb1⟩
  clear HA
  obtain ⟨hg1, hgr, hbel⟩ := HG.out
  have hg1 := hg1.below hb1 hg1.lt
  have hgr := hgr.below hb1 hgr.lt
  have hbel := below_trans hbel hb1
  clear hb1 HG
  cases d with
  | true =>
    have hlt := FewO.has_lt HD.out
    obtain ⟨x, r, hx, hxb, hr2', c0, c1, c2⟩ := few_at HO.out.1 hg1 hlt
    have hfin : o.takeM b = ((r, 0), o.take (o.idx b)) := by unfold FewO.takeM; rw [if_pos HD.out, List.getD_eq_getElem?_getD, hr2']; rfl
    have i0 : (0 : Int) ≤ (o.idx b : Int) := by omega
    have i2 : (o.idx b : Int) < 16 := by omega
    have hg2 := hg1.alloc (.cells #[.int .i64 r.1, .int .u32 r.2] 29)
    have hgr2 := hgr.alloc (.cells #[.int .i64 r.1, .int .u32 r.2] 29)
    have hgb := Blk.new w1 29 #[.int .i64 r.1, .int .u32 r.2]
    have hbel2 := below_alloc hbel (.cells #[.int .i64 r.1, .int .u32 r.2] 29)
    have hlr := hgr.lt
    have HF := Lib.hid hfin
    have HH := Lib.hid (And.intro hg2 (And.intro hgr2 (And.intro hgb hbel2)))
    clear hx hr2' hfin hg1 hgr hbel hg2 hgr2 hgb hbel2 HD
    go_wp2_with fail
    refine (take_any o (o.idx b) g _ HO.out.1 HH.out.1 hlt).mono ?_
    rintro e wn ⟨rfl, hgn, hwn⟩
    have hgr3 := HH.out.2.1.grown hwn (by
      intro e
      injection e with e
      exact blk_neF HH.out.1 HH.out.2.1 (by decide) e.symm)
    have hgb3 := HH.out.2.2.1.grown hwn (by
      intro e
      injection e with e
      exact blk_neF HH.out.1 HH.out.2.2.1 (by decide) e.symm)
    have d0 := hgb3.cell 0
    have d1 := hgb3.cell 1
    have v0 := hgr3.cell 0
    have v1 := hgr3.cell 1
    have f0 := hgr3.frozen 0
    have f1 := hgr3.frozen 1
    have hge := (hgr3.set_ 0 (.int .i64 r.1)).set_ 1 (.int .u32 r.2)
    have z0 := hge.cell 0
    have z1 := hge.cell 1
    simp at d0 d1 v0 v1 z0 z1
    have hne : w.heap.size ≠ w1.heap.size := by omega
    have hne2 : w1.heap.size ≠ w.heap.size := by omega
    have hg5 := (hgn.far (p := ⟨w.heap.size, 0, none⟩) (by simp; omega) (.int .i64 r.1)).far (p := ⟨w.heap.size, 1, none⟩) (by simp; omega) (.int .u32 r.2)
    have hw5 := grown_new (grown_new (grown_trans (below_grown (g := g) HH.out.2.2.2 g) hwn) (i := w.heap.size) (Nat.le_refl _) 0 (.int .i64 r.1)) (i := w.heap.size) (Nat.le_refl _) 1 (.int .u32 r.2)
    have HE := Lib.hid (And.intro hg5 hw5)
    clear hgr3 hgb3 hge hgn hwn hg5 hw5 HH c0 c1 c2
    go_wp2_with fail
    refine bodyPost_ret (v := .tuple #[refV r, .int .i64 0]) (by simp [results, Tryz.results113, go_sem, *]) rfl ?_
    rw [HF.out]
    exact ⟨rfl, HE.out.1, HE.out.2⟩
  | false =>
    have hfin : o.takeM b = (((0, 0), 5), o) := by unfold FewO.takeM; rw [if_neg (by rw [HD.out]; simp)]
    have v0 := hgr.cell 0
    have v1 := hgr.cell 1
    have f0 := hgr.frozen 0
    have f1 := hgr.frozen 1
    simp at v0 v1
    have hgn := (hgr.set_ 0 (.int .i64 0)).set_ 1 (.int .u32 0)
    have z0 := hgn.cell 0
    have z1 := hgn.cell 1
    simp at z0 z1
    have HF := Lib.hid (And.intro hfin ((hbel.setCell (p := ⟨w.heap.size, 0, none⟩) (Nat.le_refl _) (.int .i64 0)).setCell (p := ⟨w.heap.size, 1, none⟩) (Nat.le_refl _) (.int .u32 0)))
    clear hfin hgn hg1 hgr hbel HD
    go_wp2_with fail
    refine bodyPost_ret (v := .tuple #[refV (0, 0), .int .i64 5]) (by simp [results, Tryz.results113, go_sem, *]) rfl ?_
    rw [HF.out.1]
    exact ModEnd.of_below HG0.out HF.out.2

set_option maxHeartbeats 1600000 in
set_option maxRecDepth 100000 in
theorem Turn_any (o : FewO) (b : Int) (r : Int × Int) (g : Nat) (w : World) (ho : o.fits) (hg : Blk w g 106 o.cells.toArray) (hb : 0 ≤ b ∧ b ≤ 255) :
    Calls Tryz.prog 114 #[.pointer (some ⟨g, 0, none⟩), .int .u8 b, refV r] w (ModEnd (.int .i64 (o.turnM b r).1) g (o.turnM b r).2 w) := by
  obtain ⟨ho, hr0, hr1, hr2⟩ := ho
  have hg1 := hg.alloc (.cells #[.int .i64 r.1, .int .u32 r.2] 29)
  have hgr := Blk.new w 29 #[.int .i64 r.1, .int .u32 r.2]
  have hbel := below_box w (.cells #[.int .i64 r.1, .int .u32 r.2] 29)
  have hlg := hg.lt
  have HG0 := Lib.hid hg
  generalize hW : w.alloc (.cells #[.int .i64 r.1, .int .u32 r.2] 29) = W at hg1 hgr hbel
  obtain ⟨n0, n1⟩ := few_cells ho hg1
  have ht := there_some g o.room W n1
  rw [decide_eq_true hr0] at ht
  have HA := Lib.hid (at_any o b g W ho hg1 hb)
  have HT := Lib.hid ht
  have HO := Lib.hid (And.intro ho hb)
  have HG := Lib.hid (And.intro hg1 (And.intro hgr hbel))
  have HW := Lib.hid hW
  have hle := FewO.idx_le ho b
  have hln := ho.ln
  clear ht hg hg1 hgr hbel ho hW n0 n1 hb
  obtain ⟨d, hd⟩ : ∃ d, o.has b = d := ⟨_, rfl⟩
  rw [hd] at HA
  have HD := Lib.hid hd
  clear hd
  go_enter Tryz.func114, Tryz.ntmps114
  go_wp2_with fail
  rw [HW.out]
  refine HT.out.mono ?_
  rintro e w1 ⟨rfl, rfl⟩
  clear HT HW
  go_wp2_with fail
  refine HA.out.mono ?_
  rintro e w1 ⟨rfl, hb1⟩
  clear HA
  obtain ⟨hg1, hgr, hbel⟩ := HG.out
  have hg1 := hg1.below hb1 hg1.lt
  have hgr := hgr.below hb1 hgr.lt
  have hbel := below_trans hbel hb1
  clear hb1 HG
  cases d with
  | true =>
    have hlt := FewO.has_lt HD.out
    have hfin : o.turnM b r = (0, o.turn (o.idx b) r) := by unfold FewO.turnM; rw [if_pos HD.out]
    obtain ⟨x, q, hx0, hx1, hx2⟩ := few_slot HO.out.1 hg1 (show o.idx b < 16 by omega)
    have y1 := hg1.frozen (16 + o.idx b * 2)
    have y2 := hg1.frozen (16 + o.idx b * 2 + 1)
    have i0 : (0 : Int) ≤ (o.idx b : Int) := by omega
    have i2 : (o.idx b : Int) < 16 := by omega
    have d0 := hgr.cell 0
    have d1 := hgr.cell 1
    simp at d0 d1
    have hN := (hg1.set_ (16 + o.idx b * 2) (.int .i64 r.1)).set_ (16 + o.idx b * 2 + 1) (.int .u32 r.2)
    simp only [List.setIfInBounds_toArray] at hN
    rw [cells_setR HO.out.1 r (by omega)] at hN
    have hR := grown_setCell (grown_setCell (below_grown (g := g) hbel g) (16 + o.idx b * 2) (.int .i64 r.1)) (16 + o.idx b * 2 + 1) (.int .u32 r.2)
    have HE := Lib.hid (And.intro hN hR)
    have HF := Lib.hid hfin
    clear hfin hg1 hgr hbel hN hR HD
    go_wp2_with fail
    go_region
    go_wp2
    go_ret
    rw [HF.out]
    exact ⟨rfl, HE.out.1.drew, grown_drew HE.out.2⟩
  | false =>
    have hfin : o.turnM b r = (5, o) := by unfold FewO.turnM; rw [if_neg (by rw [HD.out]; simp)]
    have HF := Lib.hid (And.intro hfin hbel)
    clear hfin hg1 hgr hbel HD
    go_wp2
    go_ret
    rw [HF.out.1]
    exact ModEnd.of_below HG0.out HF.out.2

end Go.Proofs.YtgjgcbemgmkncaaGreatDoor
namespace Go.Proofs.YtgjgcbemgmkncaaGreatDoor
open Go.RowKit
set_option linter.unusedVariables false

/-- The row's kids are those of f. -/
structure FewO.rep (o : FewO) (f : Kids) : Prop where
  n : o.n = (kidsOf f).length
  bs : o.bs.take o.n = (kidsOf f).map (fun x => (x.1 : Int))
  rs : o.rs.take o.n = (kidsOf f).map (·.2)

theorem findIdx_mapF {α β : Type} (g : α → β) (p : β → Bool) : ∀ l : List α, (l.map g).findIdx p = l.findIdx (fun x => p (g x))
  | [] => rfl
  | x :: l => by
    rw [List.map_cons, List.findIdx_cons, List.findIdx_cons, findIdx_mapF g p l]
theorem findIdx_congrF {α : Type} {p q : α → Bool} : ∀ {l : List α}, (∀ x ∈ l, p x = q x) → l.findIdx p = l.findIdx q
  | [], _ => rfl
  | x :: l, h => by
    rw [List.findIdx_cons, List.findIdx_cons, h x (by simp), findIdx_congrF (l := l) (fun y hy => h y (by simp [hy]))]
/-- A number brought into 0 to 256. -/
def clampK (k : Int) : Nat := if k ≤ 0 then 0 else if 256 ≤ k then 256 else k.toNat
theorem clampK_le (k : Int) : clampK k ≤ 256 := by unfold clampK; split <;> (try split) <;> omega
theorem clampK_nat {b : Nat} (h : b ≤ 256) : clampK b = b := by unfold clampK; split <;> (try split) <;> omega
theorem clampK_iff {k : Int} {x : Nat} (h : x < 256) : k ≤ (x : Int) ↔ clampK k ≤ x := by unfold clampK; split <;> (try split) <;> omega
theorem idx_rep {o : FewO} {f : Kids} (h : o.rep f) (k : Int) : o.idx k = (lowK f (clampK k)).length := by
  unfold FewO.idx
  rw [h.bs, findIdx_mapF, ← idx_of f (clampK k) (clampK_le k)]
  refine findIdx_congrF fun x hx => ?_
  have := (mem_kids hx).1
  exact decide_eq_decide.2 (clampK_iff this)
theorem n_split {o : FewO} {f : Kids} (h : o.rep f) (b : Nat) (hb : b ≤ 256) : o.n = (lowK f b).length + (highK f b).length := by
  rw [h.n, kids_split f b hb, List.length_append]
/-- The kid from a byte on. -/
theorem at_high {o : FewO} {f : Kids} (h : o.rep f) (ho : o.ok) {b : Nat} (hb : b ≤ 256) : o.bs[(lowK f b).length]? = ((highK f b).head?.map fun x => (x.1 : Int)) ∨ highK f b = [] := by
  rcases hh : highK f b with _ | ⟨x, l⟩
  · exact .inr rfl
  · refine .inl ?_
    have hn := n_split h b hb
    rw [hh, List.length_cons] at hn
    have h1 : (o.bs.take o.n)[(lowK f b).length]? = some (x.1 : Int) := by
      rw [h.bs, kids_split f b hb, hh, List.map_append, List.getElem?_append_right (by simp)]
      simp
    rw [List.getElem?_take, if_pos (by omega)] at h1
    exact h1
theorem rs_high {o : FewO} {f : Kids} (h : o.rep f) (ho : o.ok) {b : Nat} (hb : b ≤ 256) {x : Nat × (Int × Int)} {l : List (Nat × (Int × Int))} (hh : highK f b = x :: l) : o.bs[(lowK f b).length]? = some (x.1 : Int) ∧ o.rs[(lowK f b).length]? = some x.2 ∧ (lowK f b).length < o.n := by
  have hn := n_split h b hb
  rw [hh, List.length_cons] at hn
  have h1 : (o.bs.take o.n)[(lowK f b).length]? = some (x.1 : Int) := by
    rw [h.bs, kids_split f b hb, hh, List.map_append, List.getElem?_append_right (by simp)]
    simp
  have h2 : (o.rs.take o.n)[(lowK f b).length]? = some x.2 := by
    rw [h.rs, kids_split f b hb, hh, List.map_append, List.getElem?_append_right (by simp)]
    simp
  rw [List.getElem?_take, if_pos (by omega)] at h1 h2
  exact ⟨h1, h2, by omega⟩
theorem has_rep {o : FewO} {f : Kids} (h : o.rep f) (ho : o.ok) {b : Nat} (hb : b < 256) : o.has b = (f b).isSome := by
  have hi : o.idx (b : Int) = (lowK f b).length := by rw [idx_rep h, clampK_nat (by omega)]
  unfold FewO.has
  rw [hi]
  rcases hh : highK f b with _ | ⟨x, l⟩
  · have hn := n_split h b (by omega)
    rw [hh] at hn
    have hf : f b = none := by
      rw [high_succ f b hb] at hh
      cases hfb : f b with
      | none => rfl
      | some r => rw [hfb] at hh; simp at hh
    rw [hf]
    simp
    intro h1
    simp at hn
    omega
  · obtain ⟨h1, h2, h3⟩ := rs_high h ho (by omega) hh
    rw [List.getD_eq_getElem?_getD, h1, decide_eq_true h3]
    rw [high_succ f b hb] at hh
    cases hfb : f b with
    | none =>
      rw [hfb] at hh
      simp only [Option.map_none, Option.toList_none, List.nil_append] at hh
      have := (mem_high (f := f) (b := b + 1) (x := x) (by rw [hh]; simp)).1
      simp
      omega
    | some r =>
      rw [hfb] at hh
      simp at hh
      simp [← hh.1]
theorem find_rep {o : FewO} {f : Kids} (h : o.rep f) (ho : o.ok) {b : Nat} (hb : b < 256) : o.find b = f b := by
  unfold FewO.find
  rw [has_rep h ho hb]
  cases hfb : f b with
  | none => simp
  | some r =>
    have hi : o.idx (b : Int) = (lowK f b).length := by rw [idx_rep h, clampK_nat (by omega)]
    have hh := high_succ f b hb
    rw [hfb] at hh
    obtain ⟨h1, h2, h3⟩ := rs_high h ho (b := b) (by omega) (x := (b, r)) (l := highK f (b + 1)) (by rw [hh]; rfl)
    simp only [Option.isSome_some, if_true]
    rw [hi, h2]
theorem put_rep {o : FewO} {f : Kids} (h : o.rep f) (ho : o.ok) {b : Nat} (hb : b < 256) (hf : f b = none) (hn : o.n < 16) (r : Int × Int) : (o.put (o.idx b) b r).rep (setK f b (some r)) := by
  have hi : o.idx (b : Int) = (lowK f b).length := by rw [idx_rep h, clampK_nat (by omega)]
  have hk := kids_at f b hb
  rw [hf] at hk
  simp only [Option.map_none, Option.toList_none, List.nil_append] at hk
  have hs := kids_set f b (some r) hb
  simp only [Option.map_some, Option.toList_some] at hs
  have hle : o.idx (b : Int) ≤ o.n := FewO.idx_le ho b
  refine ⟨?_, ?_, ?_⟩
  · show o.n + 1 = _
    rw [hs, h.n, hk]
    simp
    omega
  · show (insL o.bs (o.idx b) o.n (b : Int)).take (o.n + 1) = _
    rw [insL_take hle (by rw [ho.lb]; exact hn), h.bs, hs, hk, hi, List.map_append, List.map_append, List.take_append_of_le_length (by simp), List.drop_append_of_le_length (by simp), List.take_of_length_le (by simp), List.drop_eq_nil_of_le (by simp)]
    simp
  · show (insL o.rs (o.idx b) o.n r).take (o.n + 1) = _
    rw [insL_take hle (by rw [ho.lr]; exact hn), h.rs, hs, hk, hi, List.map_append, List.map_append, List.take_append_of_le_length (by simp), List.drop_append_of_le_length (by simp), List.take_of_length_le (by simp), List.drop_eq_nil_of_le (by simp)]
    simp
theorem take_rep {o : FewO} {f : Kids} (h : o.rep f) (ho : o.ok) {b : Nat} (hb : b < 256) {r : Int × Int} (hf : f b = some r) : (o.take (o.idx b)).rep (setK f b none) := by
  have hi : o.idx (b : Int) = (lowK f b).length := by rw [idx_rep h, clampK_nat (by omega)]
  have hk := kids_at f b hb
  rw [hf] at hk
  simp only [Option.map_some, Option.toList_some] at hk
  have hs := kids_set f b none hb
  simp only [Option.map_none, Option.toList_none, List.nil_append] at hs
  have hn : o.n = (lowK f b).length + 1 + (highK f (b + 1)).length := by rw [h.n, hk]; simp; omega
  have hlt : o.idx (b : Int) < o.n := by omega
  have hln := ho.ln
  refine ⟨?_, ?_, ?_⟩
  · show o.n - 1 = _
    rw [hs, hn]
    simp <;> omega
  · show (delL o.bs (o.idx b) o.n).take (o.n - 1) = _
    rw [delL_take hlt (by rw [ho.lb]; exact hln), h.bs, hs, hk, hi, List.map_append, List.map_append, List.take_append_of_le_length (by simp), List.take_of_length_le (by simp), List.drop_append, List.drop_eq_nil_of_le (by simp)]
    simp
  · show (delL o.rs (o.idx b) o.n).take (o.n - 1) = _
    rw [delL_take hlt (by rw [ho.lr]; exact hln), h.rs, hs, hk, hi, List.map_append, List.map_append, List.take_append_of_le_length (by simp), List.take_of_length_le (by simp), List.drop_append, List.drop_eq_nil_of_le (by simp)]
    simp
theorem turn_rep {o : FewO} {f : Kids} (h : o.rep f) (ho : o.ok) {b : Nat} (hb : b < 256) {q : Int × Int} (hf : f b = some q) (r : Int × Int) : (o.turn (o.idx b) r).rep (setK f b (some r)) := by
  have hi : o.idx (b : Int) = (lowK f b).length := by rw [idx_rep h, clampK_nat (by omega)]
  have hk := kids_at f b hb
  rw [hf] at hk
  simp only [Option.map_some, Option.toList_some] at hk
  have hs := kids_set f b (some r) hb
  simp only [Option.map_some, Option.toList_some] at hs
  refine ⟨?_, ?_, ?_⟩
  · show o.n = _
    rw [hs, h.n, hk]
    simp
  · show o.bs.take o.n = _
    rw [h.bs, hs, hk]
    simp
  · show (o.rs.set (o.idx b) r).take o.n = _
    rw [List.take_set, h.rs, hs, hk, hi, List.map_append, List.set_append_right _ _ (by simp)]
    simp
theorem ok_put {o : FewO} {f : Kids} (h : o.rep f) (ho : o.fits) {b : Nat} (hb : b < 256) {r : Int × Int} (hn : (o.n : Int) ≠ o.room) : (o.put (o.idx b) b r).fits := by
  obtain ⟨h1, h2, h3, h4⟩ := ho
  exact ⟨FewO.put_ok h1 (FewO.idx_le h1 b) (by omega) ⟨by omega, by omega⟩, h2, h3, by simp only [FewO.put]; omega⟩
theorem ok_take {o : FewO} (ho : o.fits) {i : Nat} (hi : i < o.n) : (o.take i).fits := by
  obtain ⟨h1, h2, h3, h4⟩ := ho
  exact ⟨FewO.take_ok h1 hi, h2, h3, by simp only [FewO.take]; omega⟩
theorem ok_turn {o : FewO} (ho : o.fits) {i : Nat} {r : Int × Int} : (o.turn i r).fits := by
  obtain ⟨h1, h2, h3, h4⟩ := ho
  exact ⟨⟨h1.lb, by simp only [FewO.turn]; rw [List.length_set]; exact h1.lr, h1.ln, h1.bb⟩, h2, h3, h4⟩

/-- The row in block g has room for so many, and the kids f. -/
def FewAt (W : World) (g : Nat) (room : Int) (f : Kids) : Prop := ∃ o : FewO, o.fits ∧ o.rep f ∧ o.room = room ∧ Blk W g 106 o.cells.toArray
theorem FewAt.below {W W' : World} {g : Nat} {room : Int} {f : Kids} (h : FewAt W g room f) (hb : Below W.heap.size W W') : FewAt W' g room f := by
  obtain ⟨o, h1, h2, h3, h4⟩ := h
  exact ⟨o, h1, h2, h3, h4.below hb h4.lt⟩
/-- How many kids. -/
def cntK (f : Kids) : Nat := (kidsOf f).length
/-- What the methods come to. -/
def putK (room : Int) (f : Kids) (b : Nat) (r : Int × Int) : Int × Kids := if (f b).isSome = true then (8, f) else if (cntK f : Int) = room then (14, f) else (0, setK f b (some r))
def turnK (f : Kids) (b : Nat) (r : Int × Int) : Int × Kids := if (f b).isSome = true then (0, setK f b (some r)) else (5, f)
def takeK (f : Kids) (b : Nat) : ((Int × Int) × Int) × Kids := match f b with
  | some r => ((r, 0), setK f b none)
  | none => (((0, 0), 5), f)
def nextK (f : Kids) (k : Int) : Int × ((Int × Int) × Bool) := match highK f (clampK k) with
  | x :: _ => ((x.1 : Int), (x.2, true))
  | [] => (0, ((0, 0), false))
/-- The row has turned. -/
def FewEnd (v : Value) (g : Nat) (room : Int) (f : Kids) (w : World) (e : Ending) (w' : World) : Prop := e = .returned v ∧ FewAt w' g room f ∧ w.grownBy w' (some g)
theorem next_rep {o : FewO} {f : Kids} (h : o.rep f) (ho : o.ok) (k : Int) : o.next k = nextK f k := by
  have hi := idx_rep h k
  unfold FewO.next nextK
  rw [hi]
  rcases hh : highK f (clampK k) with _ | ⟨x, l⟩
  · have hn := n_split h (clampK k) (clampK_le k)
    rw [hh] at hn
    rw [if_neg (by simp at hn; omega)]
  · obtain ⟨h1, h2, h3⟩ := rs_high h ho (clampK_le k) hh
    rw [if_pos h3, List.getD_eq_getElem?_getD, h1, List.getD_eq_getElem?_getD, h2]
    rfl

theorem Put_k (g : Nat) (room : Int) (f : Kids) (b : Nat) (r : Int × Int) (w : World) (h : FewAt w g room f) (hb : b < 256) :
    Calls Tryz.prog 112 #[.pointer (some ⟨g, 0, none⟩), .int .u8 (b : Int), refV r] w (FewEnd (.int .i64 (putK room f b r).1) g room (putK room f b r).2 w) := by
  obtain ⟨o, ho, hr, rfl, hg⟩ := h
  refine (Put_any o b r g w ho hg ⟨by omega, by omega⟩).mono ?_
  rintro e w' ⟨rfl, h1, h2⟩
  have hhas := has_rep hr ho.1 hb
  have hn := hr.n
  cases hf : f b with
  | some q =>
    have e1 : o.putM b r = (8, o) := by unfold FewO.putM; rw [hhas, hf]; rfl
    have e2 : putK o.room f b r = (8, f) := by unfold putK; rw [hf]; rfl
    rw [e1] at h1 ⊢
    rw [e2]
    exact ⟨rfl, ⟨o, ho, hr, rfl, h1⟩, h2⟩
  | none =>
    have hno : ¬ o.has (b : Int) = true := by rw [hhas, hf]; simp
    by_cases hroom : (o.n : Int) = o.room
    · have e1 : o.putM b r = (14, o) := by unfold FewO.putM; rw [if_neg hno, if_pos hroom]
      have e2 : putK o.room f b r = (14, f) := by unfold putK cntK; rw [hf, ← hn, if_pos hroom]; rfl
      rw [e1] at h1 ⊢
      rw [e2]
      exact ⟨rfl, ⟨o, ho, hr, rfl, h1⟩, h2⟩
    · have e1 : o.putM b r = (0, o.put (o.idx b) b r) := by unfold FewO.putM; rw [if_neg hno, if_neg hroom]
      have e2 : putK o.room f b r = (0, setK f b (some r)) := by unfold putK cntK; rw [hf, ← hn, if_neg hroom]; rfl
      rw [e1] at h1 ⊢
      rw [e2]
      exact ⟨rfl, ⟨_, ok_put hr ho hb hroom, put_rep hr ho.1 hb hf (by have := ho.2; omega) r, rfl, h1⟩, h2⟩
theorem Turn_k (g : Nat) (room : Int) (f : Kids) (b : Nat) (r : Int × Int) (w : World) (h : FewAt w g room f) (hb : b < 256) :
    Calls Tryz.prog 114 #[.pointer (some ⟨g, 0, none⟩), .int .u8 (b : Int), refV r] w (FewEnd (.int .i64 (turnK f b r).1) g room (turnK f b r).2 w) := by
  obtain ⟨o, ho, hr, rfl, hg⟩ := h
  refine (Turn_any o b r g w ho hg ⟨by omega, by omega⟩).mono ?_
  rintro e w' ⟨rfl, h1, h2⟩
  have hhas := has_rep hr ho.1 hb
  cases hf : f b with
  | some q =>
    have e1 : o.turnM b r = (0, o.turn (o.idx b) r) := by unfold FewO.turnM; rw [hhas, hf]; rfl
    have e2 : turnK f b r = (0, setK f b (some r)) := by unfold turnK; rw [hf]; rfl
    rw [e1] at h1 ⊢
    rw [e2]
    exact ⟨rfl, ⟨_, ok_turn ho, turn_rep hr ho.1 hb hf r, rfl, h1⟩, h2⟩
  | none =>
    have e1 : o.turnM b r = (5, o) := by unfold FewO.turnM; rw [if_neg (by rw [hhas, hf]; simp)]
    have e2 : turnK f b r = (5, f) := by unfold turnK; rw [hf]; rfl
    rw [e1] at h1 ⊢
    rw [e2]
    exact ⟨rfl, ⟨o, ho, hr, rfl, h1⟩, h2⟩
theorem Take_k (g : Nat) (room : Int) (f : Kids) (b : Nat) (w : World) (h : FewAt w g room f) (hb : b < 256) :
    Calls Tryz.prog 113 #[.pointer (some ⟨g, 0, none⟩), .int .u8 (b : Int)] w (FewEnd (.tuple #[refV (takeK f b).1.1, .int .i64 (takeK f b).1.2]) g room (takeK f b).2 w) := by
  obtain ⟨o, ho, hr, rfl, hg⟩ := h
  refine (Take_any o b g w ho hg ⟨by omega, by omega⟩).mono ?_
  rintro e w' ⟨rfl, h1, h2⟩
  have hhas := has_rep hr ho.1 hb
  have hfind := find_rep hr ho.1 hb
  cases hf : f b with
  | some q =>
    have hh : o.has (b : Int) = true := by rw [hhas, hf]; rfl
    have hq : o.rs.getD (o.idx b) (0, 0) = q := by
      unfold FewO.find at hfind
      rw [if_pos hh, hf] at hfind
      rw [List.getD_eq_getElem?_getD, hfind]; rfl
    have e1 : o.takeM b = ((q, 0), o.take (o.idx b)) := by unfold FewO.takeM; rw [if_pos hh, hq]
    have e2 : takeK f b = ((q, 0), setK f b none) := by unfold takeK; rw [hf]
    rw [e1] at h1 ⊢
    rw [e2]
    exact ⟨rfl, ⟨_, ok_take ho (FewO.has_lt hh), take_rep hr ho.1 hb hf, rfl, h1⟩, h2⟩
  | none =>
    have e1 : o.takeM b = (((0, 0), 5), o) := by unfold FewO.takeM; rw [if_neg (by rw [hhas, hf]; simp)]
    have e2 : takeK f b = (((0, 0), 5), f) := by unfold takeK; rw [hf]
    rw [e1] at h1 ⊢
    rw [e2]
    exact ⟨rfl, ⟨o, ho, hr, rfl, h1⟩, h2⟩
theorem Find_k (g : Nat) (room : Int) (f : Kids) (b : Nat) (w : World) (h : FewAt w g room f) (hb : b < 256) :
    Calls Tryz.prog 109 #[.pointer (some ⟨g, 0, none⟩), .int .u8 (b : Int)] w (TwoEnd (optV (f b)) (.bool (f b).isSome) w) := by
  obtain ⟨o, ho, hr, rfl, hg⟩ := h
  have := find_any o b g w ho.1 ho.2.1 hg ⟨by omega, by omega⟩
  rw [find_rep hr ho.1 hb] at this
  exact this
theorem Next_k (g : Nat) (room : Int) (f : Kids) (k : Int) (w : World) (h : FewAt w g room f) :
    Calls Tryz.prog 111 #[.pointer (some ⟨g, 0, none⟩), .int .i64 k] w (ThreeEnd (.int .u8 (nextK f k).1) (refV (nextK f k).2.1) (.bool (nextK f k).2.2) w) := by
  obtain ⟨o, ho, hr, rfl, hg⟩ := h
  have := next_any o k g w ho.1 ho.2.1 hg
  rw [next_rep hr ho.1] at this
  exact this
end Go.Proofs.YtgjgcbemgmkncaaGreatDoor
namespace Go.Proofs.YtgjgcbemgmkncaaGreatDoor
open Go.RowKit
set_option linter.unusedVariables false
set_option linter.unusedSimpArgs false

theorem FewAt.drew {W : World} {g : Nat} {room : Int} {f : Kids} (h : FewAt W g room f) : FewAt W.drew g room f := h
def noKids : Kids := fun _ => none
def emptyO (room : Int) : FewO := ⟨List.replicate 16 0, List.replicate 16 (0, 0), 0, room⟩
theorem empty_ok (room : Int) (h0 : 0 < room) (h1 : room ≤ 16) : (emptyO room).fits := by
  refine ⟨⟨by simp [emptyO], by simp [emptyO], by simp [emptyO], ?_⟩, h0, h1, by simp [emptyO]; omega⟩
  intro b hb
  simp [emptyO] at hb
  omega
theorem kids_no : kidsOf noKids = [] := by
  have : ∀ l : List Nat, kidsIn noKids l = [] := by
    intro l
    induction l with
    | nil => rfl
    | cons x l ih => unfold kidsIn at ih ⊢; rw [List.filterMap_cons]; simp [noKids]
  exact this _
theorem empty_rep (room : Int) : (emptyO room).rep noKids := ⟨by rw [kids_no]; rfl, by rw [kids_no]; rfl, by rw [kids_no]; rfl⟩
/-- What New comes to: a new row without kids. -/
def NewEnd (room : Int) (w : World) (e : Ending) (w' : World) : Prop := ∃ g, e = .returned (.tuple #[.pointer (some ⟨g, 0, none⟩), .int .i64 0]) ∧ FewAt w' g room noKids ∧ w.heap.size ≤ g ∧ Below w.heap.size w w'
theorem new_cells (room : Int) (w : World) : FewAt (w.alloc (.cells (emptyO room).cells.toArray 106)) w.heap.size room noKids ↔ (0 < room ∧ room ≤ 16) ∨ FewAt (w.alloc (.cells (emptyO room).cells.toArray 106)) w.heap.size room noKids := by
  constructor
  · exact fun h => .inr h
  · rintro (⟨h0, h1⟩ | h)
    · exact ⟨emptyO room, empty_ok room h0 h1, empty_rep room, rfl, Blk.new _ _ _⟩
    · exact h
theorem new_4 (w : World) : Calls Tryz.prog 72 #[.int .i64 4] w (NewEnd 4 w) := by
  have h := (new_cells 4 w).2 (.inl ⟨by decide, by decide⟩)
  have hb := below_box w (.cells (emptyO 4).cells.toArray 106)
  have H := Lib.hid (And.intro h hb)
  clear h hb
  go_enter Tryz.func72, Tryz.ntmps72
  go_wp2
  go_ret2
  exact ⟨w.heap.size, rfl, H.out.1, Nat.le_refl _, H.out.2⟩
theorem new_16 (w : World) : Calls Tryz.prog 72 #[.int .i64 16] w (NewEnd 16 w) := by
  have h := (new_cells 16 w).2 (.inl ⟨by decide, by decide⟩)
  have hb := below_box w (.cells (emptyO 16).cells.toArray 106)
  have H := Lib.hid (And.intro h hb)
  clear h hb
  go_enter Tryz.func72, Tryz.ntmps72
  go_wp2
  go_ret2
  exact ⟨w.heap.size, rfl, H.out.1, Nat.le_refl _, H.out.2⟩
theorem new_no (room : Int) (w : World) (h4 : room ≠ 4) (h16 : room ≠ 16) : Calls Tryz.prog 72 #[.int .i64 room] w (StayEnd (.tuple #[.pointer none, .int .i64 2]) w) := by
  have b4 : (room != 4) = true := by rw [bne_iff_ne]; exact h4
  have b16 : (room != 16) = true := by rw [bne_iff_ne]; exact h16
  clear h4 h16
  go_enter Tryz.func72, Tryz.ntmps72
  go_wp2
  go_ret2
  exact ⟨rfl, rfl⟩

def pickM (n : Int) (len : Int) : Int := if len < 1 then 0 else if n.tmod len < 0 then n.tmod len + len else n.tmod len
def nrow (b : Nat) : List Value := [.int .u8 (b : Int)]
theorem nrow_len (b : Nat) : (nrow b).length = 1 := rfl
/-- A slice of bytes: a byte at an index. -/
theorem byte_at {w : World} {B k : Nat} {A : Option Addr} {l : List Nat} (h : Reads w B 1 A l.length (l.flatMap nrow)) (hk : k < l.length) : ∃ ad, A = some ad ∧ ad.block < B ∧ w.cell? (ad.add k) = some (.int .u8 (l[k] : Int)) := by
  obtain ⟨ad, u, h1, h2, h3, h4⟩ := h.at_ hk
  have hu : (l.flatMap nrow)[k]? = some (.int .u8 (l[k] : Int)) := by
    have : l.flatMap nrow = l.map (fun (b : Nat) => Value.int .u8 (b : Int)) := by
      clear h h3 hk
      induction l with
      | nil => rfl
      | cons x l ih => simp [nrow, ih]
    rw [this, List.getElem?_map, List.getElem?_eq_getElem hk]; rfl
  rw [hu] at h3
  injection h3 with h3
  exact ⟨ad, h1, h2, by rw [h3]; exact h4⟩
/-- row's kids and errors. -/
def rowStep (s : Kids × Nat) (b : Nat) : Kids × Nat := ((putK 16 s.1 b ((b : Int), 1)).2, if (putK 16 s.1 b ((b : Int), 1)).1 = 0 then s.2 else s.2 + 1)
def rowK (l : List Nat) : Kids × Nat := l.foldl rowStep (noKids, 0)
def RowEnd (l : List Nat) (w : World) (e : Ending) (w' : World) : Prop := ∃ g, e = .returned (.tuple #[.pointer (some ⟨g, 0, none⟩), .int .i64 ((rowK l).2 : Int)]) ∧ FewAt w' g 16 (rowK l).1 ∧ w.heap.size ≤ g ∧ Below w.heap.size w w'
end Go.Proofs.YtgjgcbemgmkncaaGreatDoor
namespace Go.Proofs.YtgjgcbemgmkncaaGreatDoor
open Go.RowKit
set_option linter.unusedVariables false
set_option linter.unusedSimpArgs false

def k1 : Kids := setK noKids 9 (some (1, 1))
def k2 : Kids := setK k1 3 (some (1, 1))
def k3 : Kids := setK k2 7 (some (1, 1))
def k4 : Kids := setK k3 1 (some (1, 1))
def k5 : Kids := setK k4 3 none
end Go.Proofs.YtgjgcbemgmkncaaGreatDoor
namespace Go.Proofs.YtgjgcbemgmkncaaGreatDoor
open Go.RowKit Go.Shelf
set_option linter.unusedVariables false
set_option linter.unusedSimpArgs false
attribute [local go_sem] Oper.semAt_some

/-- A kid: its byte and its Ref. -/
abbrev Kid := Fin 256 × (Int × Int)
def kidsF (f : Kids) : List Kid := (List.finRange 256).filterMap fun b => (f b.val).map fun r => (b, r)
theorem fin_range (n : Nat) : (List.finRange n).map (·.val) = List.range n := by
  apply List.ext_getElem
  · simp
  · intro i h1 h2
    simp
theorem kidsF_map (f : Kids) : (kidsF f).map (fun x => (x.1.val, x.2)) = kidsOf f := by
  have h : ∀ l : List (Fin 256), (l.filterMap fun b => (f b.val).map fun r => (b, r)).map (fun x : Kid => (x.1.val, x.2)) = kidsIn f (l.map (·.val)) := by
    intro l
    induction l with
    | nil => rfl
    | cons b l ih =>
      unfold kidsIn at ih ⊢
      rw [List.filterMap_cons, List.map_cons, List.filterMap_cons]
      cases hf : f b.val with
      | none => simpa [hf] using ih
      | some r => simpa [hf] using ih
  unfold kidsF kidsOf
  rw [h, fin_range]
theorem kidsF_len (f : Kids) : (kidsF f).length = (kidsOf f).length := by rw [← kidsF_map f, List.length_map]
abbrev encK (x : Kid) : Array Value := #[.int .u8 (x.1.val : Int), refV x.2]

/-- A round keeps the rows ('few.row') that lay at or beyond block B. -/
structure KeepsB (B : Nat) (W W' : World) : Prop where
  size : W.heap.size ≤ W'.heap.size
  same : ∀ (k : Nat) (cs : Array Value), B ≤ k → Blk W k 104 cs → Blk W' k 104 cs
section
variable {P : Program}
theorem wpList_store_row {ops : Array Oper} {rest : List Oper} {op : Oper} {a : Act} {w : World} {Q : Exit → Act → World → Prop} (hgd : op.guard = none) (ty : TypeId) (x y : Operand) (ho : op.op = .store ty x y)
    (g : Nat) (cells cur : List Value) (t : TypeId) (hx : a.eval x = .pointer (some ⟨g, 0, none⟩)) (hy : a.eval y = .agg cells.toArray) (hg : Blk w g t cur.toArray) (hs : cur.length = cells.length)
    (hi : (P.info? ty).map (·.size) = some cells.length) (h1 : ∀ v ∈ cells, v.oneCell' = true)
    (h : ∀ w', Hid (Blk w' g t cells.toArray ∧ w.grownBy w' (some g)) → wpList P ops Q rest (a.put op.dst undef) w') : wpList P ops Q (op :: rest) a w :=
  wpList_plain hgd fun K hK => by
    have hst := run_storeCells_at P g 0 t cells 0 cur.toArray w hg (by simp [hs]) h1
    have hst2 : (storeCells ⟨g, 0, none⟩ cells 0).run P w = .ok () (w.setRow g cells.toArray) := by
      rw [hst]
      congr 2
      simp [hs]
    cases hq : P.info? ty with
    | none => simp [hq] at hi
    | some i =>
      have hsz : cells.length = i.size := by simp [hq] at hi; omega
      unfold Oper.wp execOp
      simp [ho, hx, hy, Instr.storeAt, Instr.sureAddr, storeVar, sizeOf, typeInfo, hq, Value.cells, hsz, hst2]
      have hb := setRow_heap w g cur.toArray cells.toArray t (0, 0) hg
      exact hK _ _ (h _ (Lib.hid ⟨hb, grown_setRow w g _⟩))
end
def FewO.row (o : FewO) : List Value := o.cells.take 49
theorem FewO.row_len {o : FewO} (h : o.ok) : o.row.length = 49 := by unfold FewO.row; rw [List.length_take, FewO.len h]; rfl
theorem FewO.row_at {o : FewO} {k : Nat} (hk : k < 49) : o.row[k]? = o.cells[k]? := by unfold FewO.row; rw [List.getElem?_take, if_pos hk]
theorem cells_one (o : FewO) : ∀ v ∈ o.cells, v.oneCell' = true := by
  intro v hv
  unfold FewO.cells at hv
  rw [List.mem_append, List.mem_append] at hv
  rcases hv with hv | hv | hv
  · exact u8_one _ v hv
  · exact ref_one _ v hv
  · simp at hv
    rcases hv with rfl | rfl <;> rfl
theorem row_one (o : FewO) : ∀ v ∈ o.row, v.oneCell' = true := fun v hv => cells_one o v (List.mem_of_mem_take hv)
theorem row_range {o : FewO} {W : World} {g : Nat} {t : TypeId} (ho : o.ok) (h : Blk W g t o.cells.toArray) : W.rangeAt g 0 o.row := by
  intro j v hv
  have hj : j < 49 := by have := (List.getElem?_eq_some_iff.1 hv).1; rw [FewO.row_len ho] at this; exact this
  rw [FewO.row_at hj] at hv
  rw [Nat.zero_add]
  exact (h.cell j).trans (by rw [List.getElem?_toArray]; exact hv)
theorem kid_at {o : FewO} {f : Kids} (h : o.rep f) {k : Nat} (hk : k < o.n) {x : Kid} (hx : (kidsF f)[k]? = some x) : o.bs[k]? = some (x.1.val : Int) ∧ o.rs[k]? = some x.2 := by
  have h1 : (kidsOf f)[k]? = some (x.1.val, x.2) := by rw [← kidsF_map, List.getElem?_map, hx]; rfl
  have hb := h.bs
  have hr := h.rs
  constructor
  · have : (o.bs.take o.n)[k]? = some (x.1.val : Int) := by rw [hb, List.getElem?_map, h1]; rfl
    rwa [List.getElem?_take, if_pos hk] at this
  · have : (o.rs.take o.n)[k]? = some x.2 := by rw [hr, List.getElem?_map, h1]; rfl
    rwa [List.getElem?_take, if_pos hk] at this
theorem World.grownBy_of_below {w w' : World} (h : Below w.heap.size w w') : w.grownBy w' none := ⟨h.os, h.tape, h.output, h.size, fun i hi _ => h.block i hi⟩
def zero49 : List Value := (emptyO 0).row
theorem infoRow : (Tryz.prog.info? 104).map (·.size) = some 49 := by kernel_rfl

/-- All's value: a closure over a box. -/
theorem All_any (p : Option Addr) (w : World) : Calls Tryz.prog 108 #[.pointer p] w fun e w' => e = .returned (.func (.func 115) #[] #[.pointer (some ⟨w.heap.size, 0, none⟩)]) ∧ w' = w.alloc (.cells #[.pointer p] 88) := by
  go_enter Tryz.func108, Tryz.ntmps108
  go_wp2
  go_ret
  exact ⟨rfl, rfl⟩

end Go.Proofs.YtgjgcbemgmkncaaGreatDoor
