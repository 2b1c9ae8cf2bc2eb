/-
  A range over an iterator that keeps its place in a cell of a block of its own, and that may end by a panic. Over any program.
  Package code: next.
  Package code: the iterator over a code's bytes: it stops, or panics.
  Package code: the closure that Decode defers.
  Package code: Decode.
  Package code: Is; package node: a leaf; Right of every node.
-/
import Derived.Test.YtgjgcbemgmkncaaDoorGc
import Derived.RecoverIn
import Derived.Test.YtgjgcbemgmkncaaDoorGd
namespace Go.Proofs.YtgjgcbemgmkncaaDoor
open Go.RowKit Go.Shelf
set_option linter.unusedVariables false

/-- The reader's block: the text, the place. -/
def rdC (s : ByteArray) (k : Nat) : Array Value := #[.string s, .int .i64 (k : Int)]
/-- A round keeps the reader and the box that leads there. -/
def KeepsR (gc gb : Nat) (W W' : World) : Prop := ∀ (t : TypeId) (cs : Array Value), (Blk W gc t cs → Blk W' gc t cs) ∧ (Blk W gb t cs → Blk W' gb t cs)
theorem KeepsR.trans {gc gb : Nat} {A B C : World} (h : KeepsR gc gb A B) (k : KeepsR gc gb B C) : KeepsR gc gb A C := fun t cs => ⟨fun hi => (k t cs).1 ((h t cs).1 hi), fun hi => (k t cs).2 ((h t cs).2 hi)⟩
theorem KeepsR.put {gc gb : Nat} (W : World) {l : Nat} (o o' : Obj) (h : W.heap[l]? = some o) (hc : o.isCells = false) : KeepsR gc gb W (W.putObj l o') := fun t cs => by
  have hone : ∀ g, Blk W g t cs → Blk (W.putObj l o') g t cs := fun g hk => by
    by_cases e : g = l
    · subst e
      unfold Blk at hk
      rw [h] at hk
      injection hk with hk
      subst hk
      cases hc
    · exact (World.putObj_heap_other e).trans hk
  exact ⟨hone gc, hone gb⟩
/-- Such an iterator's contract. -/
def SeqStopsP {α : Type} (F : Fence) (n : Nat) (P : Program) (g : Nat) (lb : Array Value) (encs : α → Array Value) (gc gb : Nat) (tr : TypeId) (s : ByteArray) (S : List α → Nat → Prop) (Sp : List α → Prop) (Sq : List PanicEntry → List α → Prop) (N : Nat) (w : World) (B0 : Nat) : Prop :=
  ∀ (l : Nat) (J Jx : List α → World → Prop) (W : World), Below w.heap.size w W → B0 ≤ W.heap.size → OwnFrom W.heap.size J → OwnFrom W.heap.size Jx → (∀ pre V v, J pre V → J pre (V.setCell ⟨gc, 1, none⟩ v)) →
    (∀ pre x W1, J pre W1 → pre.length < N → YieldAt F (n - 1) P l (encs x) W1 fun e W' => KeepsFrom B0 W1 W' ∧
      ((e = .returned (.bool true) ∧ J (pre ++ [x]) W' ∧ KeepsR gc gb W1 W') ∨ (e = .returned (.bool false) ∧ Jx (pre ++ [x]) W'))) →
    (∀ pre V, J pre V → pre.length < N) →
    J [] W → Blk W gc tr (rdC s 0) →
    CallsIn F n P g (#[.func (.yield l) #[] #[]] ++ lb) W fun e W' => ((∃ v, e = .returned v) ∧ ((∃ xs k, S xs k ∧ J xs W' ∧ Blk W' gc tr (rdC s k)) ∨ (∃ pre, Sp pre ∧ Jx pre W'))) ∨ (∃ ch pre, e = .panicked ch ∧ Sq ch pre ∧ J pre W')

section
variable {F : Fence} {n : Nat} {P : Program}
theorem wpIn_range_P {α : Type} {g : Operand} {ps : Array Tmp} {assign body : Code} {Q : Exit → Act → World → Prop} {a : Act} {w : World}
    (hro : F.round = none) (h1 : 1 ≤ n) {gf : Nat} {lb : Array Value} (hg : a.eval g = .func (.func gf) #[] lb) (hFg : F.fn gf) (eg : ∀ args w, (callFunc gf args).run P w = .ok (.enter gf args) w)
    {encs : α → Array Value} {gc gb : Nat} {tr : TypeId} {s : ByteArray} {S : List α → Nat → Prop} {Sp : List α → Prop} {Sq : List PanicEntry → List α → Prop} {N : Nat} {w0 : World} (hseq : SeqStopsP F (n - 1) P gf lb encs gc gb tr s S Sp Sq N w0 (w.heap.size + 2)) (hG0 : Blk w gc tr (rdC s 0)) (hb0 : Below w0.heap.size w0 w) (hps : ∀ x, (encs x).size = ps.size)
    (I : List α → World → Prop) (Ix : Code → List α → World → Prop) (hI : OwnFrom w.heap.size I) (hIx : ∀ c, OwnFrom w.heap.size (Ix c)) (hIg : ∀ pre V v, I pre V → I pre (V.setCell ⟨gc, 1, none⟩ v)) (hIn : ∀ pre V, I pre V → pre.length < N) (h0 : I [] w) (Ax : α → Act → World → Prop) (hAx : ∀ x a', OwnFrom w.heap.size (fun (_ : Unit) W => Ax x a' W))
    (hassign : ∀ (l : Nat) (pre : List α) (x : α) (W : World) (K : Act → World → Prop), I pre W → (∀ a' W', KeepsFrom w.heap.size W W' → KeepsR gc gb W W' → I pre W' → Ax x a' W' → K a' W') →
      assign.wpIn (F.inRound l) (n - 1 - 1) P (Exit.then K (fun _ _ _ => False)) { tmps := (ps.zip (encs x)).foldl (fun t (p, v) => t.setIfInBounds p v) a.tmps, defers := [] } W)
    (hbody : ∀ (l : Nat) (pre : List α) (x : α) (a' : Act) (W : World), w.heap.size ≤ l → (∃ r, W.heap[l]? = some (.loop r)) → I pre W → Ax x a' W → pre.length < N → body.wpIn (F.inRound l) (n - 1 - 1) P (ownPostG w.heap.size (KeepsR gc gb) I Ix (pre ++ [x]) W) a' W)
    (hdone : ∀ (D : Nat) (xs : List α) (k : Nat) (W : World), w.heap.size ≤ D → S xs k → I xs W → Blk W gc tr (rdC s k) → W.heap[D]? = some (.deferred (some [])) → Q .normal { a with defers := { target := .collected D, args := #[] } :: a.defers } W)
    (hstop : ∀ (D : Nat) (c : Code) (pre : List α) (W : World), w.heap.size ≤ D → Sp pre → Ix c pre W → W.heap[D]? = some (.deferred (some [])) → c.wpIn F n P Q { a with defers := { target := .collected D, args := #[] } :: a.defers } W)
    (hpanic : ∀ (D : Nat) (ch : List PanicEntry) (pre : List α) (W : World), w.heap.size ≤ D → Sq ch pre → I pre W → W.heap[D]? = some (.deferred (some [])) → Q (.panic ch) { a with defers := { target := .collected D, args := #[] } :: a.defers } W) :
    (Code.rangeFunc g ps assign body).wpIn F n P Q a w := by
  refine wpIn_rangeFunc fun fn hfn => ?_
  rw [hro]
  obtain ⟨mk, hmk⟩ : ∃ mk : LoopState → Option Code → Loop, ∀ s j, mk s j = { state := s, pending := j, fn, tmps := a.tmps, params := ps, assign, body, defers := w.heap.size } := ⟨_, fun _ _ => rfl⟩
  have hW : ∃ W1 : World, (Instr.enterLoop fn a.tmps ps assign body none).run P w = .ok (w.heap.size + 1, [{ target := .collected w.heap.size, args := #[] }]) W1 ∧ Kept2 w.heap.size (mk .ready none) W1 ∧ I [] W1 ∧ Below w0.heap.size w0 W1 ∧ w.heap.size + 2 ≤ W1.heap.size ∧ Blk W1 gc tr (rdC s 0) := by
    refine ⟨_, run_enterLoop_outer _ _ _ _ _, ⟨?_, ?_⟩, hI.alloc _ (hI.alloc _ h0), ?_, by simp, (hG0.alloc _).alloc _⟩
    · rw [hmk]
      have k := World.alloc_heap_new (w.alloc (.deferred (some []))) (.loop { state := .ready, pending := none, fn, tmps := a.tmps, params := ps, assign, body, defers := w.heap.size })
      rwa [World.size_alloc] at k
    · exact (Below.heap_alloc _ _ _ (by simp)).trans (World.alloc_heap_new w _)
    · exact (hb0.alloc hb0.size _).alloc (hb0.alloc hb0.size _).size _
  obtain ⟨W1, hent, hk1, hi1, hb1, hs1, hg1⟩ := hW
  have hgcl := hG0.lt
  refine ⟨_, _, W1, { target := .fn (.func gf) lb, args := #[.func (.yield (w.heap.size + 1)) #[] #[]] }, W1, gf, #[.func (.yield (w.heap.size + 1)) #[] #[]] ++ lb, W1, hent, ?_, ?_, ?_, fun _ => h1, ?_⟩
  · simp only [resolve, hg]
    simp [go_sem]
  · intro f' hf'
    simp [Target.leads] at hf'
    subst hf'
    exact hFg
  · simp [invoke, go_sem, eg]
  refine (hseq (w.heap.size + 1) (fun pre W => I pre W ∧ Kept2 w.heap.size (mk .ready none) W) (fun pre W => ∃ c, Ix c pre W ∧ Kept2 w.heap.size (mk .done (some c)) W) W1 hb1 hs1 ?_ ?_ ?_ ?_ (fun pre V hv => hIn pre V hv.1) ⟨hi1, hk1⟩ hg1).mono ?_
  · intro s A B row hs hgr hr
    exact ⟨hI s A B row hs.1 hgr (fun k e => ⟨by have := (hr k e).1; omega, (hr k e).2⟩), hs.2.own hgr (fun k e => by have := (hr k e).1; omega)⟩
  · intro s A B row hs hgr hr
    obtain ⟨c, hc, hk⟩ := hs
    exact ⟨c, hIx c s A B row hc hgr (fun k e => ⟨by have := (hr k e).1; omega, (hr k e).2⟩), hk.own hgr (fun k e => by have := (hr k e).1; omega)⟩
  · rintro pre V v ⟨hi, hk⟩
    exact ⟨hIg pre V v hi, ⟨(Below.heap_setCell _ _ _ _ (by have h1 : gc < w.heap.size := hgcl; show w.heap.size + 1 ≠ gc; omega)).trans hk.rec_, (Below.heap_setCell _ _ _ _ (by have h1 : gc < w.heap.size := hgcl; show w.heap.size ≠ gc; omega)).trans hk.def_⟩⟩
  · rintro pre x W ⟨hi, hk⟩ hlen
    have hy := run_yield (P := P) (args := encs x) hk.rec_ (by rw [hmk]; exact hps x)
    rw [hmk] at hy
    refine ⟨fn, _, assign, body, hy, roundIn_of_wpIn hfn (hassign _ pre x W _ hi fun a' Wa hkf hkp hia hax => ?_)⟩
    have hka := hk.from_ hkf
    refine ⟨_, run_beginRound hka.rec_ (by rw [hmk]), ?_⟩
    have hbusy : ({ mk .ready none with state := LoopState.busy } : Loop) = mk .busy none := by rw [hmk, hmk]
    rw [hbusy]
    have hkb := hka.put (mk .busy none)
    have hkp2 : KeepsR gc gb Wa (Wa.putObj (w.heap.size + 1) (.loop (mk .busy none))) := KeepsR.put _ _ _ hka.rec_ rfl
    refine wpIn_mono (hbody _ pre x a' _ (Nat.le_succ _) ⟨_, hkb.rec_⟩ (hI.putObj _ hia (Nat.le_succ _) hka.rec_ rfl) ((hAx x a').putObj (s := ()) _ hax (Nat.le_succ _) hka.rec_ rfl) hlen) ?_
    have kfin : ∀ {W3 : World}, KeepsFrom w.heap.size (Wa.putObj (w.heap.size + 1) (.loop (mk .busy none))) W3 → ∀ o, KeepsFrom (w.heap.size + 2) W (W3.putObj (w.heap.size + 1) o) := fun hk3 o =>
      (((keepsFrom_le hkf (by omega)).trans (keepsFrom_put _ _ (by omega))).trans (keepsFrom_le hk3 (by omega))).trans (keepsFrom_put _ _ (by omega))
    have leave : ∀ (c : Code) (W3 : World), KeepsFrom w.heap.size (Wa.putObj (w.heap.size + 1) (.loop (mk .busy none))) W3 → Ix c (pre ++ [x]) W3 →
        ∃ v w', (Instr.endRound (w.heap.size + 1) (some c)).run P W3 = .ok v w' ∧ KeepsFrom (w.heap.size + 2) W w' ∧ ((Ending.returned v = .returned (.bool true) ∧ (I (pre ++ [x]) w' ∧ Kept2 w.heap.size (mk .ready none) w') ∧ KeepsR gc gb W w') ∨ (Ending.returned v = .returned (.bool false) ∧ ∃ c, Ix c (pre ++ [x]) w' ∧ Kept2 w.heap.size (mk .done (some c)) w')) := by
      intro c W3 hk3 hx3
      have h3 := hkb.from_ hk3
      refine ⟨_, _, run_endRound (some c) h3.rec_, kfin hk3 _, .inr ⟨rfl, c, (hIx c).putObj _ hx3 (Nat.le_succ _) h3.rec_ rfl, ?_⟩⟩
      have : ({ mk .busy none with state := if (some c).isNone = true then LoopState.ready else LoopState.done, pending := some c } : Loop) = mk .done (some c) := by rw [hmk, hmk]; rfl
      rw [this]
      exact h3.put _
    intro e a3 W3 hp
    cases e with
    | normal =>
      obtain ⟨hk3, hkp3, hi3⟩ := hp
      have h3 := hkb.from_ hk3
      refine ⟨_, _, run_endRound none h3.rec_, kfin hk3 _, .inl ⟨rfl, ⟨hI.putObj _ hi3 (Nat.le_succ _) h3.rec_ rfl, ?_⟩, hkp.trans (hkp2.trans (KeepsR.trans hkp3 (KeepsR.put _ _ _ h3.rec_ rfl)))⟩⟩
      have : ({ mk .busy none with state := if (none : Option Code).isNone = true then LoopState.ready else LoopState.done, pending := none } : Loop) = mk .ready none := by rw [hmk, hmk]; rfl
      rw [this]
      exact h3.put _
    | ret => exact leave _ W3 hp.1 hp.2
    | exit id => exact leave _ W3 hp.1 hp.2
    | goto t => exact leave _ W3 hp.1 hp.2
    | panic ch => exact hp.elim
    | outgrown => exact hp.elim
  · rintro e W2 (⟨⟨v, rfl⟩, ⟨xs, kk, hS, ⟨hi, hk⟩, hgk⟩ | ⟨pre, hSp, c, hi, hk⟩⟩ | ⟨ch, pre, rfl, hSq, hi, hk⟩)
    · refine ⟨none, _, ?_, hdone _ xs kk _ (Nat.le_refl _) hS (hI.putObj (.loop { mk .ready none with state := .exhausted }) hi (Nat.le_succ _) hk.rec_ rfl) ((KeepsR.put (gc := gc) (gb := gb) _ _ (.loop { mk .ready none with state := .exhausted }) hk.rec_ rfl _ _).1 hgk) ((World.putObj_heap_other (by omega)).trans hk.def_)⟩
      have k := run_endLoop (P := P) hk.rec_ (by rw [hmk]; simp)
      rw [k, hmk]
    · refine ⟨some c, _, ?_, hstop _ c pre _ (Nat.le_refl _) hSp ((hIx c).putObj (.loop { mk .done (some c) with state := .exhausted }) hi (Nat.le_succ _) hk.rec_ rfl) ((World.putObj_heap_other (by omega)).trans hk.def_)⟩
      have k := run_endLoop (P := P) hk.rec_ (by rw [hmk]; simp)
      rw [k, hmk]
    · exact hpanic _ ch pre _ (Nat.le_refl _) hSq hi hk.def_
end
end Go.Proofs.YtgjgcbemgmkncaaDoor
namespace Go.Proofs.YtgjgcbemgmkncaaDoor
open Go.RowKit Go.Shelf
set_option linter.unusedVariables false
set_option linter.unusedSimpArgs false

/-- What the reader panics with. -/
def shapeP : List PanicEntry := [{ v := .iface 30 (.int .i64 4), recovered := false }]
set_option maxHeartbeats 1600000 in
theorem next_ok (g : Nat) (s : ByteArray) (k : Nat) (w : World) (h : Blk w g 100 (rdC s k)) (hk : k < s.size) (hs : s.size ≤ 9223372036854775807) :
    Calls Tryd.prog 56 #[.pointer (some ⟨g, 0, none⟩)] w (fun e w' => e = .returned (.int .u8 (s[k].toNat : Int)) ∧ ∃ a b, w' = (((w.drewN a).setCell ⟨g, 1, none⟩ (.int .i64 ((k : Int) + 1))).drewN b)) := by
  have c0 : w.cell? ⟨g, 0, none⟩ = some (.string s) := h.cell 0
  have c1 : w.cell? ⟨g, 1, none⟩ = some (.int .i64 (k : Int)) := h.cell 1
  have f1 := h.frozen 1
  have l1 := h.lt
  have e0 : (w.setCell ⟨g, 1, none⟩ (.int .i64 ((k : Int) + 1))).cell? ⟨g, 0, none⟩ = some (.string s) := (h.set_ 1 _).cell 0
  have e1 : (w.setCell ⟨g, 1, none⟩ (.int .i64 ((k : Int) + 1))).cell? ⟨g, 1, none⟩ = some (.int .i64 ((k : Int) + 1)) := (h.set_ 1 _).cell 1
  have i1 : ¬ ((k : Int) ≥ (s.size : Int)) := by omega
  have i2 : (0 : Int) ≤ (k : Int) := by omega
  have i3 : (k : Int) < (s.size : Int) := by omega
  have sw : IntKind.i64.wrap ((k : Int) + 1) = (k : Int) + 1 := IntWalk.i64_in _ (by omega)
  have sw2 : IntKind.i64.wrap ((k : Int) + 1 - 1) = (k : Int) := by rw [show (k : Int) + 1 - 1 = (k : Int) by omega]; exact IntWalk.i64_in _ (by omega)
  clear h
  go_enter Tryd.func56, Tryd.ntmps56
  go_wp2_with fail
  go_quiet (fail)
  go_wp2_with fail
  go_quiet (fail)
  go_wp2
  go_ret
  exact ⟨rfl, _, _, rfl⟩
set_option maxHeartbeats 1600000 in
theorem next_no (g : Nat) (s : ByteArray) (k : Nat) (w : World) (h : Blk w g 100 (rdC s k)) (hk : ¬ k < s.size) :
    Calls Tryd.prog 56 #[.pointer (some ⟨g, 0, none⟩)] w (fun e w' => e = .panicked shapeP ∧ ∃ a, w' = w.drewN a) := by
  have c0 : w.cell? ⟨g, 0, none⟩ = some (.string s) := h.cell 0
  have c1 : w.cell? ⟨g, 1, none⟩ = some (.int .i64 (k : Int)) := h.cell 1
  have i1 : (k : Int) ≥ (s.size : Int) := by omega
  clear h
  go_enter Tryd.func56, Tryd.ntmps56
  go_wp2_with fail
  go_quiet (fail)
  go_wp2
  exact ⟨rfl, rfl, _, rfl⟩
end Go.Proofs.YtgjgcbemgmkncaaDoor
namespace Go.Proofs.YtgjgcbemgmkncaaDoor
open Go.RowKit Go.Shelf
set_option linter.unusedVariables false
set_option linter.unusedSimpArgs false
attribute [local go_sem] Oper.semAt_some

/-- What a reader does at a place. -/
inductive RS where
  | panic
  | stop (p : Nat)
  | give (b : Fin 256) (p : Nat)
theorem u8_lt (b : UInt8) : b.toNat < 256 := b.toNat_lt
def rdStep (s : ByteArray) (p : Nat) : RS :=
  if h : p < s.size then
    if s[p].toNat = 0 then
      if h2 : p + 1 < s.size then
        if s[p + 1].toNat = 0 then .stop (p + 2) else if s[p + 1].toNat = 1 then .give 0 (p + 2) else .panic
      else .panic
    else .give ⟨s[p].toNat, u8_lt _⟩ (p + 1)
  else .panic
/-- Behind so many bytes it stands there. -/
inductive RdAt (s : ByteArray) : List (Fin 256) → Nat → Prop
  | nil : RdAt s [] 0
  | snoc {pre : List (Fin 256)} {p q : Nat} {b : Fin 256} : RdAt s pre p → rdStep s p = .give b q → RdAt s (pre ++ [b]) q
abbrev encC (b : Fin 256) : Array Value := #[.int .u8 (b.val : Int)]
def placeR (gc : Nat) (W : World) : Nat := match W.cell? ⟨gc, 1, none⟩ with
  | some (.int _ k) => k.toNat
  | _ => 0
theorem blk_drewN {W : World} {g : Nat} {t : TypeId} {cs : Array Value} (h : Blk W g t cs) (k : Nat) : Blk (W.drewN k) g t cs := h
/-- A byte has been read. -/
theorem read_one {gc gb : Nat} {s : ByteArray} {k a b : Nat} {W : World} (h : Blk W gc 100 (rdC s k)) (hb : Blk W gb 96 #[.pointer (some ⟨gc, 0, none⟩)]) :
    Blk (((W.drewN a).setCell ⟨gc, 1, none⟩ (.int .i64 ((k : Int) + 1))).drewN b) gc 100 (rdC s (k + 1)) ∧ Blk (((W.drewN a).setCell ⟨gc, 1, none⟩ (.int .i64 ((k : Int) + 1))).drewN b) gb 96 #[.pointer (some ⟨gc, 0, none⟩)] := by
  have hne : gc ≠ gb := blk_neF h hb (by decide)
  constructor
  · have q := (blk_drewN h a).set_ 1 (.int .i64 ((k : Int) + 1))
    have q2 := blk_drewN q b
    simpa [rdC] using q2
  · exact blk_drewN ((blk_drewN hb a).far (p := ⟨gc, 1, none⟩) (Ne.symm hne) _) b
theorem own_drewN {α : Type} {B : Nat} {J : List α → World → Prop} (h : OwnFrom B J) {pre : List α} {W : World} (hj : J pre W) (k : Nat) : J pre (W.drewN k) := h pre W (W.drewN k) none hj ⟨rfl, rfl, rfl, Nat.le_refl _, fun _ _ _ => rfl⟩ (fun r e => by cases e)
theorem read_J {α : Type} {B gc k a b : Nat} {J : List α → World → Prop} (h : OwnFrom B J) (hg : ∀ (pre : List α) (V : World) (v : Value), J pre V → J pre (V.setCell ⟨gc, 1, none⟩ v)) {pre : List α} {W : World} (hj : J pre W) :
    J pre (((W.drewN a).setCell ⟨gc, 1, none⟩ (.int .i64 ((k : Int) + 1))).drewN b) := own_drewN h (hg _ _ _ (own_drewN h hj a)) b
set_option maxHeartbeats 3200000 in
set_option maxRecDepth 100000 in
theorem key_stops (gc gb n N B0 : Nat) (s : ByteArray) (w : World) (hs : s.size ≤ 9223372036854775807) (hn : 2 ≤ n) (hgb : Blk w gb 96 #[.pointer (some ⟨gc, 0, none⟩)]) :
    SeqStopsP Fence.wide n Tryd.prog 55 #[.pointer (some ⟨gb, 0, none⟩)] encC gc gb 100 s (fun xs k => ∃ p, RdAt s xs p ∧ rdStep s p = .stop k) (fun pre => ∃ q, RdAt s pre q) (fun ch pre => ch = shapeP ∧ ∃ p, RdAt s pre p ∧ rdStep s p = .panic) N w B0 := fun l J Jx W hW hsz hJ hJx hJg hY hJn h0 hg0 => by
  have hgb1 := hgb.below hW hgb.lt
  have HJ := Lib.hid (And.intro hJ (And.intro hJx (And.intro hJg (And.intro hY (And.intro hJn h0)))))
  have HG := Lib.hid (And.intro hg0 hgb1)
  clear hJ hJx hJg hY hJn h0 hg0 hgb1 hgb
  refine callsIn_of_wp Tryd.func55 rfl trivial ?_ rfl
  simp only [Tryd.ntmps55, List.size_toArray, List.length_cons, List.length_nil, Nat.reduceAdd, Nat.reduceSub, Array.replicate_succ, Array.replicate_zero, List.push_toArray, List.append_toArray, List.nil_append, List.cons_append]
  gi_wp2_with (fail)
  gi_loopw [3] (fun _ wr => ∃ (pre : List (Fin 256)) (p : Nat), Hid (RdAt s pre p ∧ J pre wr ∧ Blk wr gc 100 (rdC s p) ∧ Blk wr gb 96 #[.pointer (some ⟨gc, 0, none⟩)])) (fun _ wr => s.size - placeR gc wr)
  case atStart => exact ⟨[], 0, Lib.hid ⟨.nil, HJ.out.2.2.2.2.2, HG.out.1, HG.out.2⟩⟩
  case round =>
    obtain ⟨pre, p, HW⟩ := hrel
    have cb : wr.cell? ⟨gb, 0, none⟩ = some (.pointer (some ⟨gc, 0, none⟩)) := HW.out.2.2.2.cell 0
    by_cases hp : p < s.size
    · have hc := next_ok gc s p wr HW.out.2.2.1 hp (by omega)
      by_cases hz : s[p].toNat = 0
      · rw [hz] at hc
        gi_wp2_with (fail)
        refine ⟨trivial, fun _ => by omega, ?_⟩
        refine (callsIn_wide.2 hc).mono ?_
        rintro e wn ⟨rfl, a1, b1, rfl⟩
        obtain ⟨g1, g2⟩ := read_one (a := a1) (b := b1) HW.out.2.2.1 HW.out.2.2.2
        have hJ1 := read_J (k := p) (a := a1) (b := b1) HJ.out.1 HJ.out.2.2.1 HW.out.2.1
        obtain ⟨V1, hV1⟩ : ∃ V1, V1 = (((wr.drewN a1).setCell ⟨gc, 1, none⟩ (.int .i64 ((p : Int) + 1))).drewN b1) := ⟨_, rfl⟩
        rw [← hV1] at g1 g2 hJ1 ⊢
        have HP0 := Lib.hid (And.intro hJ1 (And.intro g1 g2))
        have cb1 : V1.cell? ⟨gb, 0, none⟩ = some (.pointer (some ⟨gc, 0, none⟩)) := g2.cell 0
        clear hV1 g1 g2 hJ1 hc cb
        by_cases hp2 : p + 1 < s.size
        · have hc := next_ok gc s (p + 1) V1 HP0.out.2.1 hp2 (by omega)
          by_cases hy0 : s[p + 1].toNat = 0
          · rw [hy0] at hc
            have STEP : Hid (rdStep s p = .stop (p + 2)) := Lib.hid (by unfold rdStep; rw [dif_pos hp, if_pos hz, dif_pos hp2, if_pos hy0])
            clear hz hy0
            gi_wp2_with (fail)
            refine ⟨trivial, fun _ => by omega, ?_⟩
            refine (callsIn_wide.2 hc).mono ?_
            rintro e wn ⟨rfl, a2, b2, rfl⟩
            obtain ⟨g1, g2⟩ := read_one (a := a2) (b := b2) HP0.out.2.1 HP0.out.2.2
            have hJ1 := read_J (k := p + 1) (a := a2) (b := b2) HJ.out.1 HJ.out.2.2.1 HP0.out.1
            have HN := Lib.hid (And.intro hJ1 g1)
            clear g1 g2 hJ1 hc cb1
            gi_wp2
            refine bodyPost_ret (results_none rfl _ _ _) rfl ?_
            exact .inl ⟨⟨_, rfl⟩, .inl ⟨pre, p + 2, ⟨p, HW.out.1, STEP.out⟩, HN.out.1, HN.out.2⟩⟩
          · by_cases hy1 : s[p + 1].toNat = 1
            · rw [hy1] at hc
              have STEP : Hid (rdStep s p = .give 0 (p + 2)) := Lib.hid (by unfold rdStep; rw [dif_pos hp, if_pos hz, dif_pos hp2, if_neg hy0, if_pos hy1])
              clear hz hy0 hy1
              gi_wp2_with (fail)
              refine ⟨trivial, fun _ => by omega, ?_⟩
              refine (callsIn_wide.2 hc).mono ?_
              rintro e wn ⟨rfl, a2, b2, rfl⟩
              obtain ⟨g1, g2⟩ := read_one (a := a2) (b := b2) HP0.out.2.1 HP0.out.2.2
              have hJ1 := read_J (k := p + 1) (a := a2) (b := b2) HJ.out.1 HJ.out.2.2.1 HP0.out.1
              obtain ⟨V2, hV2⟩ : ∃ V2, V2 = (((V1.drewN a2).setCell ⟨gc, 1, none⟩ (.int .i64 (((p + 1 : Nat) : Int) + 1))).drewN b2) := ⟨_, rfl⟩
              rw [← hV2] at g1 g2 hJ1 ⊢
              have HP1 := Lib.hid (And.intro hJ1 (And.intro g1 g2))
              clear hV2 g1 g2 hJ1 hc cb1 HP0
              have hYd : YieldAt Fence.wide (n - 1) Tryd.prog l (encC (0 : Fin 256)) V2 (fun e W' => ∃ b : Bool, e = .returned (.bool b) ∧ Hid ((b = true → J (pre ++ [(0 : Fin 256)]) W' ∧ KeepsR gc gb V2 W') ∧ (b = false → Jx (pre ++ [(0 : Fin 256)]) W'))) :=
                (HJ.out.2.2.2.1 pre (0 : Fin 256) V2 HP1.out.1 (HJ.out.2.2.2.2.1 pre V2 HP1.out.1)).mono (fun e W' h => by
                  rcases h.2 with ⟨rfl, h1, h2⟩ | ⟨rfl, h1⟩
                  · exact ⟨true, rfl, Lib.hid ⟨fun _ => ⟨h1, h2⟩, fun e => by cases e⟩⟩
                  · exact ⟨false, rfl, Lib.hid ⟨fun e => by (cases e), fun _ => h1⟩⟩)
              obtain ⟨fn, tmps, assign, body, hy, hR⟩ := hYd
              dsimp only [encC] at hy
              try rw [show (((0 : Fin 256).val : Nat) : Int) = 0 from rfl] at hy
              have hn1 : 1 ≤ n := by omega
              gi_wp2_with (fail)
              refine hR.mono ?_
              rintro e W3 ⟨b, rfl, hP⟩
              cases b with
              | true =>
                obtain ⟨hJ3, hk3⟩ := hP.out.1 rfl
                have HN := Lib.hid (And.intro hJ3 (And.intro ((hk3 _ _).1 HP1.out.2.1) ((hk3 _ _).2 HP1.out.2.2)))
                have hpl : placeR gc W3 = (p + 2) := by unfold placeR; rw [show W3.cell? ⟨gc, 1, none⟩ = some (.int .i64 (((p + 2) : Nat) : Int)) from ((hk3 _ _).1 HP1.out.2.1).cell 1]; dsimp only; omega
                have hpl0 : placeR gc wr = p := by unfold placeR; rw [show wr.cell? ⟨gc, 1, none⟩ = some (.int .i64 (p : Int)) from HW.out.2.2.1.cell 1]; dsimp only; omega
                clear hJ3 hk3 hP hR hy
                gi_wp2
                go_roundw
                case rel => exact ⟨pre ++ [(0 : Fin 256)], (p + 2), Lib.hid ⟨.snoc HW.out.1 STEP.out, HN.out⟩⟩
                case measure => rw [hpl, hpl0]; omega
              | false =>
                have hx3 := hP.out.2 rfl
                have HN := Lib.hid hx3
                clear hx3 hP hR hy
                gi_wp2
                refine bodyPost_ret (results_none rfl _ _ _) rfl ?_
                exact .inl ⟨⟨_, rfl⟩, .inr ⟨pre ++ [(0 : Fin 256)], ⟨_, .snoc HW.out.1 STEP.out⟩, HN.out⟩⟩
            · have hy3 : s[p + 1].toNat < 256 := u8_lt _
              have STEP : Hid (rdStep s p = .panic) := Lib.hid (by unfold rdStep; rw [dif_pos hp, if_pos hz, dif_pos hp2, if_neg hy0, if_neg hy1])
              have n0 : ((s[p + 1].toNat : Int) == 0) = false := by simp; omega
              have n1 : ((s[p + 1].toNat : Int) == 1) = false := by simp; omega
              clear hz hy0 hy1 hy3
              gi_wp2_with (fail)
              refine ⟨trivial, fun _ => by omega, ?_⟩
              refine (callsIn_wide.2 hc).mono ?_
              rintro e wn ⟨rfl, a2, b2, rfl⟩
              have hJ1 := read_J (k := p + 1) (a := a2) (b := b2) HJ.out.1 HJ.out.2.2.1 HP0.out.1
              have HN := Lib.hid hJ1
              clear hJ1 hc cb1
              gi_wp2
              exact ⟨rfl, .inr ⟨shapeP, pre, rfl, ⟨rfl, p, HW.out.1, STEP.out⟩, HN.out⟩⟩
        · have hc := next_no gc s (p + 1) V1 HP0.out.2.1 hp2
          have STEP : Hid (rdStep s p = .panic) := Lib.hid (by unfold rdStep; rw [dif_pos hp, if_pos hz, dif_neg hp2])
          clear hz
          gi_wp2_with (fail)
          refine ⟨trivial, fun _ => by omega, ?_⟩
          refine (callsIn_wide.2 hc).mono ?_
          rintro e wn ⟨rfl, a2, rfl⟩
          have HN := Lib.hid (own_drewN HJ.out.1 HP0.out.1 a2)
          exact ⟨rfl, .inr ⟨shapeP, pre, rfl, ⟨rfl, p, HW.out.1, STEP.out⟩, HN.out⟩⟩
      · have STEP : Hid (rdStep s p = .give ⟨s[p].toNat, u8_lt _⟩ (p + 1)) := Lib.hid (by unfold rdStep; rw [dif_pos hp, if_neg hz])
        have z1 : ((s[p].toNat : Int) == 0) = false := by simp; omega
        clear hz
        gi_wp2_with (fail)
        refine ⟨trivial, fun _ => by omega, ?_⟩
        refine (callsIn_wide.2 hc).mono ?_
        rintro e wn ⟨rfl, a1, b1, rfl⟩
        obtain ⟨g1, g2⟩ := read_one (a := a1) (b := b1) HW.out.2.2.1 HW.out.2.2.2
        have hJ1 := read_J (k := p) (a := a1) (b := b1) HJ.out.1 HJ.out.2.2.1 HW.out.2.1
        obtain ⟨V1, hV1⟩ : ∃ V1, V1 = (((wr.drewN a1).setCell ⟨gc, 1, none⟩ (.int .i64 ((p : Int) + 1))).drewN b1) := ⟨_, rfl⟩
        rw [← hV1] at g1 g2 hJ1 ⊢
        have HP1 := Lib.hid (And.intro hJ1 (And.intro g1 g2))
        clear hV1 g1 g2 hJ1 hc cb
        have hYd : YieldAt Fence.wide (n - 1) Tryd.prog l (encC (⟨s[p].toNat, u8_lt s[p]⟩ : Fin 256)) V1 (fun e W' => ∃ b : Bool, e = .returned (.bool b) ∧ Hid ((b = true → J (pre ++ [(⟨s[p].toNat, u8_lt s[p]⟩ : Fin 256)]) W' ∧ KeepsR gc gb V1 W') ∧ (b = false → Jx (pre ++ [(⟨s[p].toNat, u8_lt s[p]⟩ : Fin 256)]) W'))) :=
          (HJ.out.2.2.2.1 pre (⟨s[p].toNat, u8_lt s[p]⟩ : Fin 256) V1 HP1.out.1 (HJ.out.2.2.2.2.1 pre V1 HP1.out.1)).mono (fun e W' h => by
            rcases h.2 with ⟨rfl, h1, h2⟩ | ⟨rfl, h1⟩
            · exact ⟨true, rfl, Lib.hid ⟨fun _ => ⟨h1, h2⟩, fun e => by cases e⟩⟩
            · exact ⟨false, rfl, Lib.hid ⟨fun e => by (cases e), fun _ => h1⟩⟩)
        obtain ⟨fn, tmps, assign, body, hy, hR⟩ := hYd
        dsimp only [encC] at hy
        try rw [show (((0 : Fin 256).val : Nat) : Int) = 0 from rfl] at hy
        have hn1 : 1 ≤ n := by omega
        gi_wp2_with (fail)
        refine hR.mono ?_
        rintro e W3 ⟨b, rfl, hP⟩
        cases b with
        | true =>
          obtain ⟨hJ3, hk3⟩ := hP.out.1 rfl
          have HN := Lib.hid (And.intro hJ3 (And.intro ((hk3 _ _).1 HP1.out.2.1) ((hk3 _ _).2 HP1.out.2.2)))
          have hpl : placeR gc W3 = (p + 1) := by unfold placeR; rw [show W3.cell? ⟨gc, 1, none⟩ = some (.int .i64 (((p + 1) : Nat) : Int)) from ((hk3 _ _).1 HP1.out.2.1).cell 1]; dsimp only; omega
          have hpl0 : placeR gc wr = p := by unfold placeR; rw [show wr.cell? ⟨gc, 1, none⟩ = some (.int .i64 (p : Int)) from HW.out.2.2.1.cell 1]; dsimp only; omega
          clear hJ3 hk3 hP hR hy
          gi_wp2
          go_roundw
          case rel => exact ⟨pre ++ [(⟨s[p].toNat, u8_lt s[p]⟩ : Fin 256)], (p + 1), Lib.hid ⟨.snoc HW.out.1 STEP.out, HN.out⟩⟩
          case measure => rw [hpl, hpl0]; omega
        | false =>
          have hx3 := hP.out.2 rfl
          have HN := Lib.hid hx3
          clear hx3 hP hR hy
          gi_wp2
          refine bodyPost_ret (results_none rfl _ _ _) rfl ?_
          exact .inl ⟨⟨_, rfl⟩, .inr ⟨pre ++ [(⟨s[p].toNat, u8_lt s[p]⟩ : Fin 256)], ⟨_, .snoc HW.out.1 STEP.out⟩, HN.out⟩⟩
    · have hc := next_no gc s p wr HW.out.2.2.1 hp
      have STEP : Hid (rdStep s p = .panic) := Lib.hid (by unfold rdStep; rw [dif_neg hp])
      gi_wp2_with (fail)
      refine ⟨trivial, fun _ => by omega, ?_⟩
      refine (callsIn_wide.2 hc).mono ?_
      rintro e wn ⟨rfl, a1, rfl⟩
      have HN := Lib.hid (own_drewN HJ.out.1 HW.out.2.1 a1)
      exact ⟨rfl, .inr ⟨shapeP, pre, rfl, ⟨rfl, p, HW.out.1, STEP.out⟩, HN.out⟩⟩
end Go.Proofs.YtgjgcbemgmkncaaDoor
namespace Go.Proofs.YtgjgcbemgmkncaaDoor
open Go.RowKit Go.Shelf
set_option linter.unusedVariables false
set_option linter.unusedSimpArgs false

theorem assert_yes (k : Int) (W : World) : (Instr.typeAssert (.iface 30 (.int .i64 k)) 20 30 true).run Tryd.prog W = .ok (.tuple #[.int .i64 k, .bool true]) W := by kernel_rfl
theorem assert_no (W : World) : (Instr.typeAssert .nilIface 20 30 true).run Tryd.prog W = .ok (.tuple #[.int .i64 0, .bool false]) W := by kernel_rfl
set_option maxRecDepth 100000 in
theorem catch_panic (b2 b3 n : Nat) (k0 : ByteArray) (e0 : Int) (w : World) (hk : Blk w b2 9 #[.string k0]) (he : Blk w b3 30 #[.int .i64 e0]) :
    CallsDIn Fence.wide n Tryd.prog 53 #[.pointer (some ⟨b2, 0, none⟩), .pointer (some ⟨b3, 0, none⟩)] (.panicking shapeP) w fun e u' w' =>
      e = .returned (.tuple #[]) ∧ u' = .panicking [{ v := .iface 30 (.int .i64 4), recovered := true }] ∧ w' = (w.setCell ⟨b2, 0, none⟩ (.string { data := #[] })).setCell ⟨b3, 0, none⟩ (.int .i64 4) := by
  have c2 : w.cell? ⟨b2, 0, none⟩ = some (.string k0) := hk.cell 0
  have c3 : w.cell? ⟨b3, 0, none⟩ = some (.int .i64 e0) := he.cell 0
  have z2 := hk.frozen 0
  have z3 := he.frozen 0
  have l2 := hk.lt
  have l3 := he.lt
  have hne : b2 ≠ b3 := blk_neF hk he (by decide)
  refine callsDIn_of_wpSIn Tryd.func53 rfl trivial fun c₀ cs hu => ?_
  unfold shapeP at hu
  apply wpSIn_seq
  apply wpSIn_region
  simp [wpOpsSIn, go_sem, recoverD, hu, Tryd.ntmps53, Exit.thenS, assert_yes]
  refine wpSIn_of_wpIn rfl (wpIn_wide.2 ?_)
  simp only [Array.replicate_succ, Array.replicate_zero, List.push_toArray, List.setIfInBounds_toArray, List.set_cons_zero, List.set_cons_succ, List.append_toArray, List.nil_append, List.cons_append]
  have q3 : (w.setCell ⟨b2, 0, none⟩ (.string { data := #[] })).cell? ⟨b3, 0, none⟩ = some (.int .i64 e0) := (he.far (p := ⟨b2, 0, none⟩) (Ne.symm hne) _).cell 0
  have q4 := (he.far (p := ⟨b2, 0, none⟩) (Ne.symm hne) (.string { data := #[] })).frozen 0
  have q5 := (he.far (p := ⟨b2, 0, none⟩) (Ne.symm hne) (.string { data := #[] })).lt
  have hut := hu
  clear hk he
  go_wp2
  simp [bodyPostS, results, Tryd.results53, go_sem]
theorem catch_idle (b2 b3 n : Nat) (w : World) :
    CallsDIn Fence.wide n Tryd.prog 53 #[.pointer (some ⟨b2, 0, none⟩), .pointer (some ⟨b3, 0, none⟩)] .returning w fun e u' w' => e = .returned (.tuple #[]) ∧ u' = .returning ∧ w' = w := by
  refine callsDIn_of_wpSIn Tryd.func53 rfl trivial fun c₀ cs hu => ?_
  apply wpSIn_seq
  apply wpSIn_region
  simp [wpOpsSIn, go_sem, recoverD, hu, Tryd.ntmps53, Exit.thenS, assert_no]
  refine wpSIn_of_wpIn rfl (wpIn_wide.2 ?_)
  simp only [Array.replicate_succ, Array.replicate_zero, List.push_toArray, List.setIfInBounds_toArray, List.set_cons_zero, List.set_cons_succ, List.append_toArray, List.nil_append, List.cons_append]
  go_wp2
  cases c₀
  simp_all [bodyPostS, results, Tryd.results53, go_sem]
end Go.Proofs.YtgjgcbemgmkncaaDoor
namespace Go.Proofs.YtgjgcbemgmkncaaDoor
open Go.RowKit Go.Shelf
set_option linter.unusedVariables false
set_option linter.unusedSimpArgs false
attribute [local go_sem] Oper.semAt_some

theorem key_any (p : Option Addr) (w : World) : Calls Tryd.prog 54 #[.pointer p] w fun e w' => e = .returned (.func (.func 55) #[] #[.pointer (some ⟨w.heap.size, 0, none⟩)]) ∧ w' = w.alloc (.cells #[.pointer p] 96) := by
  go_enter Tryd.func54, Tryd.ntmps54
  go_wp2
  go_ret
  exact ⟨rfl, rfl⟩
/-! ### What Decode comes to (no program in sight) -/
theorem rdStep_give {s : ByteArray} {p q : Nat} {b : Fin 256} (h : rdStep s p = .give b q) : p < s.size ∧ p < q := by
  unfold rdStep at h
  split at h
  · rename_i hp
    split at h
    · split at h
      · split at h
        · cases h
        · split at h
          · injection h with _ h; omega
          · cases h
      · cases h
    · injection h with _ h; omega
  · cases h
def rdFrom (s : ByteArray) (p : Nat) : Option (List (Fin 256) × Nat) := match h : rdStep s p with
  | .panic => none
  | .stop k => some ([], k)
  | .give b q => (rdFrom s q).map fun x => (b :: x.1, x.2)
termination_by s.size - p
decreasing_by have := rdStep_give h; omega
theorem rdFrom_panic {s : ByteArray} {p : Nat} (h : rdStep s p = .panic) : rdFrom s p = none := by
  rw [rdFrom]; split <;> simp_all
theorem rdFrom_stop {s : ByteArray} {p k : Nat} (h : rdStep s p = .stop k) : rdFrom s p = some ([], k) := by
  rw [rdFrom]; split <;> simp_all
theorem rdFrom_give {s : ByteArray} {p q : Nat} {b : Fin 256} (h : rdStep s p = .give b q) : rdFrom s p = (rdFrom s q).map fun x => (b :: x.1, x.2) := by
  rw [rdFrom]; split <;> simp_all
theorem rdAt_from {s : ByteArray} {pre : List (Fin 256)} {p : Nat} (h : RdAt s pre p) : rdFrom s 0 = (rdFrom s p).map fun x => (pre ++ x.1, x.2) := by
  induction h with
  | nil => cases rdFrom s 0 <;> simp
  | snoc _ hs ih =>
    rw [ih, rdFrom_give hs, Option.map_map]
    congr 1
    funext x
    simp
def bytesA (xs : List (Fin 256)) : ByteArray := ⟨(xs.map fun b => UInt8.ofNat b.val).toArray⟩
def decodeN (s : ByteArray) : ByteArray × Int := match rdFrom s 0 with
  | some (l, k) => if l.length ≤ 16 ∧ k = s.size then (bytesA l, 0) else ({ data := #[] }, 4)
  | none => ({ data := #[] }, 4)
theorem decode_long {s : ByteArray} {pre : List (Fin 256)} {p : Nat} (h : RdAt s pre p) (hl : 16 < pre.length) : decodeN s = ({ data := #[] }, 4) := by
  unfold decodeN
  rw [rdAt_from h]
  cases rdFrom s p with
  | none => rfl
  | some x => simp only [Option.map_some]; rw [if_neg (by simp; omega)]
theorem decode_panic {s : ByteArray} {pre : List (Fin 256)} {p : Nat} (h : RdAt s pre p) (hp : rdStep s p = .panic) : decodeN s = ({ data := #[] }, 4) := by
  unfold decodeN
  rw [rdAt_from h, rdFrom_panic hp]
  rfl
theorem decode_stop {s : ByteArray} {pre : List (Fin 256)} {p k : Nat} (h : RdAt s pre p) (hp : rdStep s p = .stop k) (hl : pre.length ≤ 16) : decodeN s = if k = s.size then (bytesA pre, 0) else ({ data := #[] }, 4) := by
  unfold decodeN
  rw [rdAt_from h, rdFrom_stop hp]
  simp [hl]
theorem stop_le {s : ByteArray} {p k : Nat} (h : rdStep s p = .stop k) : k ≤ s.size := by
  unfold rdStep at h
  split at h
  · split at h
    · split at h
      · split at h
        · injection h with h; omega
        · split at h <;> cases h
      · cases h
    · cases h
  · cases h
/-! ### The loop's invariants -/
def rowF (l : List (Fin 256)) : List Value := l.map fun b => .int .u8 (b.val : Int)
theorem rowF_snoc (l : List (Fin 256)) (b : Fin 256) : rowF (l ++ [b]) = rowF l ++ [.int .u8 (b.val : Int)] := by simp [rowF]
theorem rowF_u8s (l : List (Fin 256)) : rowF l = u8s (l.map fun b => UInt8.ofNat b.val) := by
  unfold rowF u8s
  rw [List.map_map]
  refine List.map_congr_left fun b _ => ?_
  have : (UInt8.ofNat b.val).toNat = b.val := by simp [Nat.mod_eq_of_lt b.isLt]
  simp [this]
structure DecR (w : World) (e : Int) (W : World) : Prop where
  below : Below w.heap.size w W
  key : Blk W w.heap.size 9 #[.string { data := #[] }]
  err : Blk W (w.heap.size + 1) 30 #[.int .i64 e]
structure DecI (w : World) (lo : Nat) (pre : List (Fin 256)) (W : World) : Prop where
  rest : DecR w 0 W
  row : ∃ v, Blk W (w.heap.size + 1 + 1 + 1) 22 #[v] ∧ W.ownsRow lo 5 1 v pre.length (rowF pre)
  size : lo ≤ W.heap.size
  len : pre.length ≤ 16
section
variable {w W W' : World} {e : Int} {lo : Nat} {pre : List (Fin 256)} {row : Option Nat}
theorem DecR.turn (h : DecR w e W) (hg : W.grownBy W' row) (hr : ∀ k, row = some k → (w.heap.size + 1 + 1 + 1) ≤ k ∨ k = (w.heap.size + 1 + 1)) : DecR w e W' :=
  ⟨h.below.grown hg h.below.size (fun k e => by rcases hr k e with h | h <;> omega), h.key.grown hg (fun e => by rcases hr _ e.symm with h | h <;> omega), h.err.grown hg (fun e => by rcases hr _ e.symm with h | h <;> omega)⟩
theorem decI_own (hlo : (w.heap.size + 1 + 1 + 1 + 1) + 1 ≤ lo) : OwnFrom lo (DecI w lo) := by
  intro s W W' row hs hg hr
  obtain ⟨h1, ⟨v, h2, h3⟩, h4, h5⟩ := hs
  have hr' := fun r e => (hr r e).2
  exact ⟨h1.turn hg (fun k e => .inl (by have := (hr k e).1; omega)), ⟨v, h2.own_ hg hr', ownsRow_own h3 hg hr'⟩, Nat.le_trans h4 hg.size, h5⟩
theorem decI_reader (hlo : (w.heap.size + 1 + 1 + 1 + 1) + 1 ≤ lo) (V : World) (v : Value) (h : DecI w lo pre V) : DecI w lo pre (V.setCell ⟨(w.heap.size + 1 + 1), 1, none⟩ v) := by
  have hg : V.grownBy (V.setCell ⟨(w.heap.size + 1 + 1), 1, none⟩ v) (some (w.heap.size + 1 + 1)) := grown_setCell ⟨rfl, rfl, rfl, Nat.le_refl _, fun _ _ _ => rfl⟩ 1 v
  obtain ⟨h1, ⟨u, h2, h3⟩, h4, h5⟩ := h
  refine ⟨h1.turn hg (fun k e => .inr (by injection e with e; exact e.symm)), ⟨u, h2.grown hg (fun e => by injection e with e; omega), h3.kept hg ?_⟩, Nat.le_trans h4 hg.size, h5⟩
  cases hu : u.ownBlock with
  | none => exact .inl rfl
  | some g => exact .inr (fun e => by injection e with e; have := (h3.lt g hu).1; omega)
theorem dec_start (w : World) (s : ByteArray) : DecI w ((((((w.alloc (.cells #[.string { data := #[] }] 9)).alloc (.cells #[.int .i64 0] 30)).alloc (.cells #[.string s, .int .i64 0] 100)).alloc (.cells #[.slice none 0 0] 22)).alloc (.cells #[.pointer (some ⟨w.heap.size + 1 + 1, 0, none⟩)] 96))).heap.size [] ((((((w.alloc (.cells #[.string { data := #[] }] 9)).alloc (.cells #[.int .i64 0] 30)).alloc (.cells #[.string s, .int .i64 0] 100)).alloc (.cells #[.slice none 0 0] 22)).alloc (.cells #[.pointer (some ⟨w.heap.size + 1 + 1, 0, none⟩)] 96))) ∧ Blk ((((((w.alloc (.cells #[.string { data := #[] }] 9)).alloc (.cells #[.int .i64 0] 30)).alloc (.cells #[.string s, .int .i64 0] 100)).alloc (.cells #[.slice none 0 0] 22)).alloc (.cells #[.pointer (some ⟨w.heap.size + 1 + 1, 0, none⟩)] 96))) (w.heap.size + 1 + 1) 100 (rdC s 0) ∧ Blk ((((((w.alloc (.cells #[.string { data := #[] }] 9)).alloc (.cells #[.int .i64 0] 30)).alloc (.cells #[.string s, .int .i64 0] 100)).alloc (.cells #[.slice none 0 0] 22)).alloc (.cells #[.pointer (some ⟨w.heap.size + 1 + 1, 0, none⟩)] 96))) (w.heap.size + 1 + 1 + 1 + 1) 96 #[.pointer (some ⟨w.heap.size + 1 + 1, 0, none⟩)] ∧ ((((((w.alloc (.cells #[.string { data := #[] }] 9)).alloc (.cells #[.int .i64 0] 30)).alloc (.cells #[.string s, .int .i64 0] 100)).alloc (.cells #[.slice none 0 0] 22)).alloc (.cells #[.pointer (some ⟨w.heap.size + 1 + 1, 0, none⟩)] 96))).heap.size = (w.heap.size + 1 + 1 + 1 + 1) + 1 := by
  have h2 := ((((Blk.new w 9 #[.string { data := #[] }]).alloc (.cells #[.int .i64 0] 30)).alloc (.cells #[.string s, .int .i64 0] 100)).alloc (.cells #[.slice none 0 0] 22)).alloc (.cells #[.pointer (some ⟨w.heap.size + 1 + 1, 0, none⟩)] 96)
  have h3 := (((Blk.new (w.alloc (.cells #[.string { data := #[] }] 9)) 30 #[.int .i64 0]).alloc (.cells #[.string s, .int .i64 0] 100)).alloc (.cells #[.slice none 0 0] 22)).alloc (.cells #[.pointer (some ⟨w.heap.size + 1 + 1, 0, none⟩)] 96)
  have h4 := ((Blk.new ((w.alloc (.cells #[.string { data := #[] }] 9)).alloc (.cells #[.int .i64 0] 30)) 100 #[.string s, .int .i64 0]).alloc (.cells #[.slice none 0 0] 22)).alloc (.cells #[.pointer (some ⟨w.heap.size + 1 + 1, 0, none⟩)] 96)
  have h5 := (Blk.new (((w.alloc (.cells #[.string { data := #[] }] 9)).alloc (.cells #[.int .i64 0] 30)).alloc (.cells #[.string s, .int .i64 0] 100)) 22 #[.slice none 0 0]).alloc (.cells #[.pointer (some ⟨w.heap.size + 1 + 1, 0, none⟩)] 96)
  have h6 := Blk.new ((((w.alloc (.cells #[.string { data := #[] }] 9)).alloc (.cells #[.int .i64 0] 30)).alloc (.cells #[.string s, .int .i64 0] 100)).alloc (.cells #[.slice none 0 0] 22)) 96 #[.pointer (some ⟨w.heap.size + 1 + 1, 0, none⟩)]
  have hb : Below w.heap.size w ((((((w.alloc (.cells #[.string { data := #[] }] 9)).alloc (.cells #[.int .i64 0] 30)).alloc (.cells #[.string s, .int .i64 0] 100)).alloc (.cells #[.slice none 0 0] 22)).alloc (.cells #[.pointer (some ⟨w.heap.size + 1 + 1, 0, none⟩)] 96))) := (((((Below.refl _ w).alloc (Nat.le_refl _) _).alloc (by simp) _).alloc (by simp; omega) _).alloc (by simp; omega) _).alloc (by simp; omega) _
  simp only [World.size_alloc] at h2 h3 h4 h5 h6
  exact ⟨⟨⟨hb, h2, h3⟩, ⟨_, h5, World.ownsRow_nil _ _ _ _⟩, Nat.le_refl _, Nat.zero_le _⟩, h4, h6, by simp⟩
end
/-- Behind an append and the store. -/
theorem dec_app {w W w1 : World} {lo : Nat} {pre : List (Fin 256)} {x : Fin 256} {v v' : Value} {tmp : Obj} (hlo : (w.heap.size + 1 + 1 + 1 + 1) + 1 ≤ lo) (hR : DecR w 0 W) (hsz : lo ≤ W.heap.size) (hv : Blk W (w.heap.size + 1 + 1 + 1) 22 #[v]) (hrow : W.ownsRow lo 5 1 v pre.length (rowF pre))
    (hown' : w1.ownsRow lo 5 1 v' (pre.length + 1) (rowF pre ++ [.int .u8 (x.val : Int)])) (hgrow : (W.alloc tmp).grownBy w1 v.ownBlock) :
    Blk w1 (w.heap.size + 1 + 1 + 1) 22 #[v] ∧ DecR w 0 (w1.setCell ⟨(w.heap.size + 1 + 1 + 1), 0, none⟩ v') ∧ Blk (w1.setCell ⟨(w.heap.size + 1 + 1 + 1), 0, none⟩ v') (w.heap.size + 1 + 1 + 1) 22 #[v'] ∧ (w1.setCell ⟨(w.heap.size + 1 + 1 + 1), 0, none⟩ v').ownsRow lo 5 1 v' (pre ++ [x]).length (rowF (pre ++ [x])) ∧ lo ≤ (w1.setCell ⟨(w.heap.size + 1 + 1 + 1), 0, none⟩ v').heap.size ∧ KeepsFrom lo W (w1.setCell ⟨(w.heap.size + 1 + 1 + 1), 0, none⟩ v') ∧ KeepsR (w.heap.size + 1 + 1) (w.heap.size + 1 + 1 + 1 + 1) W (w1.setCell ⟨(w.heap.size + 1 + 1 + 1), 0, none⟩ v') := by
  have hlt := hrow.lt
  have hn : some (w.heap.size + 1 + 1 + 1) ≠ v.ownBlock := fun e => by have := (hlt _ e.symm).1; omega
  have hv1 : Blk w1 (w.heap.size + 1 + 1 + 1) 22 #[v] := (hv.alloc tmp).grown hgrow hn
  have hg2 : w1.grownBy (w1.setCell ⟨(w.heap.size + 1 + 1 + 1), 0, none⟩ v') (some (w.heap.size + 1 + 1 + 1)) := grown_setCell ⟨rfl, rfl, rfl, Nat.le_refl _, fun _ _ _ => rfl⟩ 0 v'
  have hown : ∀ g, v.ownBlock = some g → ∃ cs, Blk (W.alloc tmp) g 5 cs := by
    intro g hg
    rcases (hrow.alloc tmp).2 with ⟨rfl, _⟩ | ⟨g', cap, cur, rfl, _, hgb, _⟩
    · simp [Value.ownBlock] at hg
    · obtain rfl : g' = g := by simpa [Value.ownBlock] using hg
      exact ⟨cur, hgb⟩
  have hsame : ∀ k, k < lo → k ≠ (w.heap.size + 1 + 1 + 1) → (w1.setCell ⟨(w.heap.size + 1 + 1 + 1), 0, none⟩ v').heap[k]? = W.heap[k]? := fun k hk hne => by
    rw [Below.heap_setCell w1 ⟨(w.heap.size + 1 + 1 + 1), 0, none⟩ v' k hne, hgrow.block k (by simp; omega) (fun e => by have := (hlt k e.symm).1; omega), Below.heap_alloc W tmp k (by omega)]
  refine ⟨hv1, ((hR.turn (World.grownBy_alloc W tmp none) (fun k e => by cases e)).turn hgrow (fun k e => .inl (by have := (hlt k e).1; omega))).turn hg2 (fun k e => .inl (by injection e with e; omega)), by simpa using hv1.set_ 0 v', ?_, ?_, ?_, ?_⟩
  · rw [rowF_snoc, List.length_append]
    refine hown'.kept hg2 ?_
    cases hv' : v'.ownBlock with
    | none => exact .inl rfl
    | some g => exact .inr (fun e => by injection e with e; have := (hown'.lt g hv').1; omega)
  · have h1 := hgrow.size
    simp at h1
    simp [World.setCell]
    omega
  · refine (((KeepsOthers.alloc W tmp).trans (KeepsOthers.of_grownBy hgrow fun j o ej hj => ?_)).trans (KeepsOthers.setCell _ _ _)).from _
    obtain ⟨cs, hcs⟩ := hown j ej
    unfold Blk at hcs
    rw [hcs] at hj
    cases hj; rfl
  · intro t cs
    unfold Blk
    rw [hsame (w.heap.size + 1 + 1) (by omega) (by omega), hsame (w.heap.size + 1 + 1 + 1 + 1) (by omega) (by omega)]
    exact ⟨id, id⟩
/-- The two results of a failure are stored. -/
theorem dec_fail {w W : World} {e : Int} (h : DecR w e W) : DecR w 4 ((W.setCell ⟨w.heap.size, 0, none⟩ (.string { data := #[] })).setCell ⟨(w.heap.size + 1), 0, none⟩ (.int .i64 4)) ∧ ∀ B, KeepsFrom B W ((W.setCell ⟨w.heap.size, 0, none⟩ (.string { data := #[] })).setCell ⟨(w.heap.size + 1), 0, none⟩ (.int .i64 4)) := by
  have n1 : (w.heap.size + 1) ≠ w.heap.size := by omega
  have n2 : w.heap.size ≠ (w.heap.size + 1) := by omega
  refine ⟨⟨(h.below.setCell (p := ⟨w.heap.size, 0, none⟩) (Nat.le_refl _) _).setCell (p := ⟨(w.heap.size + 1), 0, none⟩) (by show w.heap.size ≤ (w.heap.size + 1); omega) _, ?_, ?_⟩, fun B => ((KeepsOthers.setCell _ _ _).trans (KeepsOthers.setCell _ _ _)).from _⟩
  · have q := (h.key.set_ 0 (.string { data := #[] })).far (p := ⟨(w.heap.size + 1), 0, none⟩) n2 (.int .i64 4)
    simpa using q
  · have q := (h.err.far (p := ⟨w.heap.size, 0, none⟩) n1 (.string { data := #[] })).set_ 0 (.int .i64 4)
    simpa using q
/-- Two results are stored; then the loop's block is shut. -/
theorem dec_put {w W : World} {e : Int} (h : DecR w e W) (kk : ByteArray) (ee : Int) : True ∧ Blk (W.setCell ⟨w.heap.size, 0, none⟩ (.string kk)) (w.heap.size + 1) 30 #[.int .i64 e] ∧
    (∀ D, (w.heap.size + 1) < D → ((((W.setCell ⟨w.heap.size, 0, none⟩ (.string kk)).setCell ⟨(w.heap.size + 1), 0, none⟩ (.int .i64 ee)).putObj D (.deferred none)).cell? ⟨w.heap.size, 0, none⟩ = some (.string kk) ∧ (((W.setCell ⟨w.heap.size, 0, none⟩ (.string kk)).setCell ⟨(w.heap.size + 1), 0, none⟩ (.int .i64 ee)).putObj D (.deferred none)).cell? ⟨(w.heap.size + 1), 0, none⟩ = some (.int .i64 ee) ∧ Below w.heap.size w (((W.setCell ⟨w.heap.size, 0, none⟩ (.string kk)).setCell ⟨(w.heap.size + 1), 0, none⟩ (.int .i64 ee)).putObj D (.deferred none)))) ∧
    (∀ D, (w.heap.size + 1) < D → W.heap[D]? = some (.deferred (some [])) → ((W.setCell ⟨w.heap.size, 0, none⟩ (.string kk)).setCell ⟨(w.heap.size + 1), 0, none⟩ (.int .i64 ee)).heap[D]? = some (.deferred (some []))) := by
  have n1 : (w.heap.size + 1) ≠ w.heap.size := by omega
  have n2 : w.heap.size ≠ (w.heap.size + 1) := by omega
  refine ⟨trivial, h.err.far (p := ⟨w.heap.size, 0, none⟩) n1 _, fun D hD => ?_, fun D hD hd => (Below.heap_setCell _ _ _ _ (by show D ≠ (w.heap.size + 1); omega)).trans ((Below.heap_setCell _ _ _ _ (by show D ≠ w.heap.size; omega)).trans hd)⟩
  have q2 := (h.key.set_ 0 (.string kk)).far (p := ⟨(w.heap.size + 1), 0, none⟩) n2 (.int .i64 ee)
  have q3 := (h.err.far (p := ⟨w.heap.size, 0, none⟩) n1 (.string kk)).set_ 0 (.int .i64 ee)
  have hb := (h.below.setCell (p := ⟨w.heap.size, 0, none⟩) (Nat.le_refl _) (.string kk)).setCell (p := ⟨(w.heap.size + 1), 0, none⟩) (by show w.heap.size ≤ (w.heap.size + 1); omega) (.int .i64 ee)
  have hg := grownBy_putObj' ((W.setCell ⟨w.heap.size, 0, none⟩ (.string kk)).setCell ⟨(w.heap.size + 1), 0, none⟩ (.int .i64 ee)) D (.deferred none)
  refine ⟨?_, ?_, hb.grown hg hb.size (fun k e => by injection e with e; omega)⟩
  · have := (q2.grown hg (fun e => by injection e with e; omega)).cell 0
    simpa using this
  · have := (q3.grown hg (fun e => by injection e with e; omega)).cell 0
    simpa using this
theorem reads_ownC {W : World} {base size n c : Nat} {e : TypeId} {A : Option Addr} {xs : List Value} (h : W.ownsRow base e size (.slice A n c) n xs) : Reads W W.heap.size size A n xs := by
  refine ⟨h.1, fun hn => ?_⟩
  rcases h.2 with ⟨e1, e2⟩ | ⟨g, cap, cur, e1, _, hg, _⟩
  · omega
  · injection e1 with e1 e2 e3
    subst e1
    exact ⟨_, rfl, (Array.getElem?_eq_some_iff.1 hg).1, h.cells rfl⟩
def DecEnd (s : ByteArray) (w : World) (e : Ending) (w' : World) : Prop := e = .returned (.tuple #[.string (decodeN s).1, .int .i64 (decodeN s).2]) ∧ Below w.heap.size w w'
theorem info5 : (Tryd.prog.info? 5).map (fun i => (i.zero, i.size, i.bytes)) = some (some (.int .u8 0), 1, 1) := by kernel_rfl
set_option maxHeartbeats 3200000 in
set_option maxRecDepth 100000 in
theorem decode_n (s : ByteArray) (w : World) (hs : s.size ≤ 9223372036854775807) : Calls Tryd.prog 51 #[.string s] w (DecEnd s w) := by
  have hmf : ∀ (fn : Fn) (first cap : Array Value) (w : World), (Instr.makeFunc fn first cap).run Tryd.prog w = .ok (.func fn first cap) w := fun _ _ _ _ => rfl
  obtain ⟨i0, hi, hz0, hz1, hz2⟩ := info_parts info5
  refine (callsIn_wide (n := 10)).1 (callsIn_of_wp_marks Tryd.func51 rfl trivial (wpIn_wide.2 ?_) rfl)
  simp only [Tryd.ntmps51, List.size_toArray, List.length_cons, List.length_nil, Nat.reduceAdd, Nat.reduceSub, Array.replicate_succ, Array.replicate_zero, List.push_toArray, List.append_toArray, List.nil_append, List.cons_append]
  go_wp2_with fail
  refine (key_any _ _).mono ?_
  rintro e w1 ⟨rfl, rfl⟩
  have h0 := dec_start w s
  go_wp2_with fail
  generalize (((((w.alloc (.cells #[.string { data := #[] }] 9)).alloc (.cells #[.int .i64 0] 30)).alloc (.cells #[.string s, .int .i64 0] 100)).alloc (.cells #[.slice none 0 0] 22)).alloc (.cells #[.pointer (some ⟨w.heap.size + 1 + 1, 0, none⟩)] 96)) = wx at h0 ⊢
  obtain ⟨hI0, hG0, hb6, hsz⟩ := h0
  have hlo : (w.heap.size + 1 + 1 + 1 + 1) + 1 ≤ wx.heap.size := by omega
  have HSZ := Lib.hid hsz
  clear hsz
  refine (wpIn_wide (n := 10)).1 ?_
  refine wpIn_range_P rfl (by decide) (gf := 55) (lb := #[.pointer (some ⟨w.heap.size + 1 + 1 + 1 + 1, 0, none⟩)]) rfl trivial (enters_of Tryd.func55 (by kernel_rfl) rfl)
    (key_stops (w.heap.size + 1 + 1) (w.heap.size + 1 + 1 + 1 + 1) 9 17 (wx.heap.size + 2) s wx hs (by decide) hb6) hG0 (Below.refl _ _) (fun _ => rfl)
    (DecI w wx.heap.size) (fun c pre W => c = .ret ∧ 16 < pre.length ∧ DecR w 4 W) (decI_own hlo) (fun c s W W' row hs hg hr => ⟨hs.1, hs.2.1, hs.2.2.turn hg (fun k e => .inl (by have := (hr k e).1; omega))⟩) (fun pre V v h => decI_reader hlo V v h) (fun pre V h => by have := h.len; omega) hI0
    (fun x a' W => a' = ⟨#[.string s, undef, .pointer (some ⟨w.heap.size, 0, none⟩), .pointer (some ⟨w.heap.size + 1, 0, none⟩), .pointer (some ⟨w.heap.size + 1 + 1, 0, none⟩), .pointer (some ⟨w.heap.size + 1 + 1 + 1, 0, none⟩), .int .u8 (x.val : Int), .func (.func 53) #[] #[.pointer (some ⟨w.heap.size, 0, none⟩), .pointer (some ⟨w.heap.size + 1, 0, none⟩)], .string s, .agg #[.string s, .int .i64 0], .agg #[.string s, .int .i64 0], .pointer (some ⟨w.heap.size + 1 + 1, 0, none⟩), .pointer (some ⟨w.heap.size + 1 + 1, 0, none⟩), .func (.func 55) #[] #[.pointer (some ⟨w.heap.size + 1 + 1 + 1 + 1, 0, none⟩)], .int .u8 (x.val : Int), undef, undef, undef, undef, undef, undef, undef, undef, undef, undef, undef, undef, undef, undef, undef, undef, undef], []⟩) (fun x a' s W W' row hs hg hr => hs) ?assign ?body ?done ?stop ?panic
  case assign =>
    rintro l pre x W K hi hK
    have hfin : K ⟨#[.string s, undef, .pointer (some ⟨w.heap.size, 0, none⟩), .pointer (some ⟨w.heap.size + 1, 0, none⟩), .pointer (some ⟨w.heap.size + 1 + 1, 0, none⟩), .pointer (some ⟨w.heap.size + 1 + 1 + 1, 0, none⟩), .int .u8 (x.val : Int), .func (.func 53) #[] #[.pointer (some ⟨w.heap.size, 0, none⟩), .pointer (some ⟨w.heap.size + 1, 0, none⟩)], .string s, .agg #[.string s, .int .i64 0], .agg #[.string s, .int .i64 0], .pointer (some ⟨w.heap.size + 1 + 1, 0, none⟩), .pointer (some ⟨w.heap.size + 1 + 1, 0, none⟩), .func (.func 55) #[] #[.pointer (some ⟨w.heap.size + 1 + 1 + 1 + 1, 0, none⟩)], .int .u8 (x.val : Int), undef, undef, undef, undef, undef, undef, undef, undef, undef, undef, undef, undef, undef, undef, undef, undef, undef], []⟩ W := hK _ _ (KeepsFrom.refl _ _) (fun t cs => ⟨id, id⟩) hi rfl
    have HF := Lib.hid hfin
    clear hfin hK
    gi_wp2
    exact HF.out
  case body =>
    rintro l pre x a' W hl ⟨rec, hrec⟩ ⟨hR, ⟨v, hv, hrow⟩, hsz2, hlen0⟩ rfl hlen
    have ex := hv.cell 0
    simp at ex
    have HO := Lib.hid (And.intro hR (And.intro hv (And.intro hrow (And.intro hsz2 hlo))))
    have hx0 : (0 : Int) ≤ (x.val : Int) := by omega
    have hx1 : (x.val : Int) ≤ 255 := by have := x.isLt; omega
    have n1 : 1 ≤ 8 := by decide
    obtain ⟨A, c, rfl, hA0, hnc, hcm⟩ := own_form hrow
    clear hv hrow hR hsz2 hlo
    by_cases h16 : pre.length + 1 ≤ 16
    · have hle : ¬ (((pre.length + 1 : Nat) : Int) > 16) := by omega
      have hle2 : ¬ ((pre.length : Int) + 1 > 16) := by omega
      gi_wp2_with (gi_at_builtin; refine wpListIn_append_own _ rfl _ _ 22 rfl wx.heap.size 5 i0 (.int .u8 0) 1 1 Tryd.underlying22 hi hz0 hz1 hz2 rfl (by decide) _ _ _ rfl (HO.out.2.2.1.alloc _) ⟨W.heap.size, 0, none⟩ 1 1 [.int .u8 (x.val : Int)] rfl rfl (cell_one_new _ _ _) (by simp [Value.oneCell']) (by unfold maxLen; omega) (by omega) (by have := HO.out.2.2.2.1; simp; omega) ?_; intro v' w1 hown' hgrow _; obtain ⟨g', cap', rfl⟩ := ownsRow_succ hown'; obtain ⟨hv1, hR1, hv2, hr2, hs2, hk2, hb2⟩ := dec_app HO.out.2.2.2.2 HO.out.1 HO.out.2.2.2.1 HO.out.2.1 HO.out.2.2.1 hown' hgrow; have HN := Lib.hid (And.intro hR1 (And.intro hv2 (And.intro hr2 (And.intro hs2 (And.intro hk2 hb2))))); have hc1 := hv1.cell 0; have hf1 := hv1.frozen 0; have hl1 := hv1.lt; simp at hc1; clear hv1 hR1 hv2 hr2 hs2 hk2 hb2 hown' hgrow)
      exact ⟨HN.out.2.2.2.2.1, HN.out.2.2.2.2.2, HN.out.1, ⟨_, HN.out.2.1, HN.out.2.2.1⟩, HN.out.2.2.2.1, by simpa using h16⟩
    · have hle2 : (pre.length : Int) + 1 > 16 := by omega
      gi_wp2_with (gi_at_builtin; refine wpListIn_append_own _ rfl _ _ 22 rfl wx.heap.size 5 i0 (.int .u8 0) 1 1 Tryd.underlying22 hi hz0 hz1 hz2 rfl (by decide) _ _ _ rfl (HO.out.2.2.1.alloc _) ⟨W.heap.size, 0, none⟩ 1 1 [.int .u8 (x.val : Int)] rfl rfl (cell_one_new _ _ _) (by simp [Value.oneCell']) (by unfold maxLen; omega) (by omega) (by have := HO.out.2.2.2.1; simp; omega) ?_; intro v' w1 hown' hgrow _; obtain ⟨g', cap', rfl⟩ := ownsRow_succ hown'; obtain ⟨hv1, hR1, hv2, hr2, hs2, hk2, hb2⟩ := dec_app HO.out.2.2.2.2 HO.out.1 HO.out.2.2.2.1 HO.out.2.1 HO.out.2.2.1 hown' hgrow; have hfin := dec_fail hR1; have HN := Lib.hid (And.intro hfin.1 (hk2.trans (hfin.2 _))); have hc1 := hv1.cell 0; have hf1 := hv1.frozen 0; have hl1 := hv1.lt; simp at hc1; have q1 := hR1.key.cell 0; have q2 := hR1.key.frozen 0; have q3 := hR1.key.lt; have q4 := (hR1.err.far (p := ⟨w.heap.size, 0, none⟩) (by show (w.heap.size + 1) ≠ w.heap.size; omega) (.string { data := #[] })).cell 0; have q5 := (hR1.err.far (p := ⟨w.heap.size, 0, none⟩) (by show (w.heap.size + 1) ≠ w.heap.size; omega) (.string { data := #[] })).frozen 0; have q6 := (hR1.err.far (p := ⟨w.heap.size, 0, none⟩) (by show (w.heap.size + 1) ≠ w.heap.size; omega) (.string { data := #[] })).lt; simp at q1 q4; clear hv1 hR1 hv2 hr2 hs2 hk2 hb2 hown' hgrow hfin)
      exact ⟨HN.out.2, rfl, by simp; omega, HN.out.1⟩
  case done =>
    rintro D xs k W hD ⟨p, hp1, hp2⟩ ⟨hR, ⟨v, hv, hrow⟩, hsz2, hlen0⟩ hgc hdef
    have hkl := stop_le hp2
    have hdec := decode_stop hp1 hp2 hlen0
    have c4 : W.cell? ⟨w.heap.size + 1 + 1, 1, none⟩ = some (.int .i64 (k : Int)) := hgc.cell 1
    obtain ⟨A, c, rfl, hA0, hnc, hcm⟩ := own_form hrow
    have k2 := hR.key.cell 0
    have z2 := hR.key.frozen 0
    have l2 := hR.key.lt
    have c5 := hv.cell 0
    simp at k2 c5
    have hD2 : w.heap.size + 1 + 1 + 1 + 1 + 1 ≤ D := by omega
    by_cases hk : k = s.size
    · rw [if_pos hk] at hdec
      have HD := Lib.hid hdec
      have i1 : ¬ ((k : Int) < (s.size : Int)) := by omega
      have hcv : (convert 22 9 (.slice A xs.length c)).run Tryd.prog W = .ok (.string (bytesA xs)) W := run_string_of_reads _ _ 5 Tryd.underlying22 Tryd.underlying5 Tryd.underlying9 (fun e => (hA0 e).2) (by have := reads_ownC hrow; rw [rowF_u8s] at this; exact this)
      obtain ⟨m1, m2, m3⟩ := dec_put hR (bytesA xs) 0
      have k3 := m2.cell 0
      have z3 := m2.frozen 0
      have l3 := m2.lt
      simp at k3
      have HDEF := Lib.hid (m3.2 D (by omega) hdef)
      have HC := Lib.hid (m3.1 D (by omega))
      clear hdec hrow hR hv hgc hdef m1 m2 m3
      refine (‹∀ (a : Act) (w : World), Code.wp Tryd.prog _ _ a w → _› _ _ ?_)
      go_wp2
      refine ⟨by simp, .inl ⟨_, _, rfl, run_takeDeferred HDEF.out, ?_⟩⟩
      refine ⟨by simp, .inr ⟨fun _ => by decide, _, _, 53, #[.pointer (some ⟨w.heap.size, 0, none⟩), .pointer (some ⟨w.heap.size + 1, 0, none⟩)], rfl, by simp [invoke, go_sem, enters_of Tryd.func53 (by kernel_rfl) rfl], fun g _ => trivial, ?_⟩⟩
      refine (catch_idle _ _ _ _).mono ?_
      rintro e u' w' ⟨rfl, rfl, rfl⟩
      refine ⟨.tuple #[.string (bytesA xs), .int .i64 0], by simp [results, Tryd.results51, go_sem, HC.out.1, HC.out.2.1], ?_, HC.out.2.2⟩
      rw [HD.out]
    · rw [if_neg hk] at hdec
      have HD := Lib.hid hdec
      have i1 : (k : Int) < (s.size : Int) := by omega
      obtain ⟨m1, m2, m3⟩ := dec_put hR { data := #[] } 4
      have k3 := m2.cell 0
      have z3 := m2.frozen 0
      have l3 := m2.lt
      simp at k3
      have HDEF := Lib.hid (m3.2 D (by omega) hdef)
      have HC := Lib.hid (m3.1 D (by omega))
      clear hdec hrow hR hv hgc hdef m1 m2 m3
      refine (‹∀ (a : Act) (w : World), Code.wp Tryd.prog _ _ a w → _› _ _ ?_)
      go_wp2
      refine ⟨by simp, .inl ⟨_, _, rfl, run_takeDeferred HDEF.out, ?_⟩⟩
      refine ⟨by simp, .inr ⟨fun _ => by decide, _, _, 53, #[.pointer (some ⟨w.heap.size, 0, none⟩), .pointer (some ⟨w.heap.size + 1, 0, none⟩)], rfl, by simp [invoke, go_sem, enters_of Tryd.func53 (by kernel_rfl) rfl], fun g _ => trivial, ?_⟩⟩
      refine (catch_idle _ _ _ _).mono ?_
      rintro e u' w' ⟨rfl, rfl, rfl⟩
      refine ⟨.tuple #[.string { data := #[] }, .int .i64 4], by simp [results, Tryd.results51, go_sem, HC.out.1, HC.out.2.1], ?_, HC.out.2.2⟩
      rw [HD.out]
  case stop =>
    rintro D c pre W hD ⟨q, hq⟩ ⟨rfl, hlen, hR⟩ hdef
    have hR2 : DecR w 4 (W.putObj D (.deferred none)) := hR.turn (grownBy_putObj' W D _) (fun k e => .inl (by injection e with e; omega))
    have c2 := hR2.key.cell 0
    have c3 := hR2.err.cell 0
    simp at c2 c3
    have HD := Lib.hid (decode_long hq hlen)
    gi_wp2
    refine ⟨by simp, .inl ⟨_, _, rfl, run_takeDeferred hdef, ?_⟩⟩
    refine ⟨by simp, .inr ⟨fun _ => by decide, _, _, 53, #[.pointer (some ⟨w.heap.size, 0, none⟩), .pointer (some ⟨w.heap.size + 1, 0, none⟩)], rfl, by simp [invoke, go_sem, enters_of Tryd.func53 (by kernel_rfl) rfl], fun g _ => trivial, ?_⟩⟩
    refine (catch_idle _ _ _ _).mono ?_
    rintro e u' w' ⟨rfl, rfl, rfl⟩
    refine ⟨.tuple #[.string { data := #[] }, .int .i64 4], by simp [results, Tryd.results51, go_sem, c2, c3], ?_, hR2.below⟩
    rw [HD.out]
  case panic =>
    rintro D ch pre W hD ⟨rfl, p, hp1, hp2⟩ ⟨hR, ⟨v, hv, hrow⟩, hsz2, hlen0⟩ hdef
    have hR2 : DecR w 0 (W.putObj D (.deferred none)) := hR.turn (grownBy_putObj' W D _) (fun k e => .inl (by injection e with e; omega))
    have hR3 := dec_fail hR2
    have c2 := hR3.1.key.cell 0
    have c3 := hR3.1.err.cell 0
    simp at c2 c3
    have HD := Lib.hid (decode_panic hp1 hp2)
    show LeavesInM _ _ _ _ _ _ _ _ _
    refine ⟨by simp, .inl ⟨_, _, rfl, run_takeDeferred hdef, ?_⟩⟩
    refine ⟨by simp, .inr ⟨fun _ => by decide, _, _, 53, #[.pointer (some ⟨w.heap.size, 0, none⟩), .pointer (some ⟨w.heap.size + 1, 0, none⟩)], rfl, by simp [invoke, go_sem, enters_of Tryd.func53 (by kernel_rfl) rfl], fun g _ => trivial, ?_⟩⟩
    refine (catch_panic _ _ _ _ _ _ hR2.key hR2.err).mono ?_
    rintro e u' w' ⟨rfl, rfl, rfl⟩
    refine ⟨.tuple #[.string { data := #[] }, .int .i64 4], by simp [results, Tryd.results51, go_sem, c2, c3], ?_, hR3.1.below⟩
    rw [HD.out]
end Go.Proofs.YtgjgcbemgmkncaaDoor
namespace Go.Proofs.YtgjgcbemgmkncaaDoor
open Go.RowKit Go.Shelf
set_option linter.unusedVariables false
set_option linter.unusedSimpArgs false

def isCode (s : ByteArray) : Bool := (decodeN s).2 == 0
theorem is_n (s : ByteArray) (w : World) (hs : s.size ≤ 9223372036854775807) : Calls Tryd.prog 47 #[.string s] w (BoolEnd (isCode s) w) := by
  have HD := Lib.hid (decode_n s w hs)
  go_enter Tryd.func47, Tryd.ntmps47
  go_wp2_with fail
  refine HD.out.mono ?_
  rintro e w1 ⟨rfl, hb⟩
  have HB := Lib.hid hb
  clear hb
  go_wp2
  go_ret
  exact ⟨ret_bool (by unfold isCode; rfl), HB.out⟩
def Nd.codedN (x : Nd) : Bool := isCode x.code && decide ((x.value.size : Int) ≤ 32)
theorem coded_n (x : Nd) (V : Value) (w : World) (h : NdAt w x V) (hc : x.code.size ≤ 9223372036854775807) : Calls Tryd.prog 34 #[V] w (BoolEnd x.codedN w) := by
  obtain ⟨hwf, Ab, cb, Ak, ck, rfl, _, _⟩ := h
  unfold Nd.v
  have b1 := below_box w (.cells #[.int .i64 x.kind, .string x.code, .string x.value, .string x.path, .slice Ab x.bytes.length cb, .slice Ak x.kids.length ck] 49)
  have q1 := Blk.new w 49 #[.int .i64 x.kind, .string x.code, .string x.value, .string x.path, .slice Ab x.bytes.length cb, .slice Ak x.kids.length ck]
  have HI := Lib.hid (is_n x.code (w.alloc (.cells #[.int .i64 x.kind, .string x.code, .string x.value, .string x.path, .slice Ab x.bytes.length cb, .slice Ak x.kids.length ck] 49)) hc)
  have HB := Lib.hid (And.intro b1 q1)
  clear b1 q1
  have E : Hid (x.codedN = (isCode x.code && decide ((x.value.size : Int) ≤ 32))) := Lib.hid rfl
  cases hi : isCode x.code with
  | false =>
    rw [hi] at HI E
    clear hi
    go_enter Tryd.func34, Tryd.ntmps34
    go_wp2_with fail
    refine HI.out.mono ?_
    rintro e w1 ⟨rfl, hb⟩
    have HF := Lib.hid (HB.out.1.trans (hb.mono HB.out.1.size))
    clear hb HB HI
    go_wp2
    go_ret
    exact ⟨ret_bool (by rw [E.out]; rfl), HF.out⟩
  | true =>
    rw [hi] at HI E
    clear hi
    go_enter Tryd.func34, Tryd.ntmps34
    go_wp2_with fail
    refine HI.out.mono ?_
    rintro e w1 ⟨rfl, hb⟩
    have HF := Lib.hid (HB.out.1.trans (hb.mono HB.out.1.size))
    obtain ⟨c0, c1, c2, c3, c4, c5⟩ := cells6 (HB.out.2.below hb (by simp))
    clear hb HB HI
    go_wp2
    go_ret
    exact ⟨ret_bool (by rw [E.out, Bool.true_and]), HF.out⟩
def Nd.isLeafN (x : Nd) : Bool := x.leafN && x.codedN && x.emptyN
def Nd.rightN (x : Nd) : Bool := x.isLeafN || x.isRight
theorem isLeaf_asks2 (x : Nd) (V : Value) (hc : x.code.size ≤ 9223372036854775807) : Asks [33, 34, 35] [x.leafN, x.codedN, x.emptyN] V (NdP x V) := by
  refine ⟨rfl, ?_, ndP_on x V, ?_⟩
  · intro f hf
    simp only [List.mem_cons, List.not_mem_nil, or_false] at hf
    rcases hf with rfl | rfl | rfl <;> first | exact enters_of Tryd.func33 (by kernel_rfl) rfl | exact enters_of Tryd.func34 (by kernel_rfl) rfl | exact enters_of Tryd.func35 (by kernel_rfl) rfl
  · intro i f b hf hb hj W hW
    rcases i with _ | _ | _ | i
    · obtain rfl := Option.some.inj hf; obtain rfl := Option.some.inj hb; exact leaf_n x V W hW.1
    · obtain rfl := Option.some.inj hf; obtain rfl := Option.some.inj hb; exact coded_n x V W hW.1 hc
    · obtain rfl := Option.some.inj hf; obtain rfl := Option.some.inj hb; exact empty_n x V W hW.1
    · cases hf
set_option maxHeartbeats 1600000 in
theorem isLeaf_n (x : Nd) (V : Value) (w : World) (h : NdAt w x V) (hr : RoomsAt w) (hc : x.code.size ≤ 9223372036854775807) : Calls Tryd.prog 25 #[V] w (BoolEnd x.isLeafN w) := by
  have h' := h
  obtain ⟨hwf, Ab, cb, Ak, ck, rfl, _, _⟩ := h'
  have b1 := below_box w (.cells #[.int .i64 x.kind, .string x.code, .string x.value, .string x.path, .slice Ab x.bytes.length cb, .slice Ak x.kids.length ck] 49)
  have b2 := b1.alloc b1.size (.cells #[.func (.func 33) #[.agg #[.int .i64 x.kind, .string x.code, .string x.value, .string x.path, .slice Ab x.bytes.length cb, .slice Ak x.kids.length ck]] #[], .func (.func 34) #[.agg #[.int .i64 x.kind, .string x.code, .string x.value, .string x.path, .slice Ab x.bytes.length cb, .slice Ak x.kids.length ck]] #[], .func (.func 35) #[.agg #[.int .i64 x.kind, .string x.code, .string x.value, .string x.path, .slice Ab x.bytes.length cb, .slice Ak x.kids.length ck]] #[]] 23)
  have HA := Lib.hid (all_n _ _ _ _ (isLeaf_asks2 x (x.v Ab cb Ak ck) hc) (w.heap.size + 1) 3 _ (ndP_on x _ w _ ⟨h, hr⟩ b2) (by have k := Blk.new (w.alloc (.cells #[.int .i64 x.kind, .string x.code, .string x.value, .string x.path, .slice Ab x.bytes.length cb, .slice Ak x.kids.length ck] 49)) 23 #[.func (.func 33) #[.agg #[.int .i64 x.kind, .string x.code, .string x.value, .string x.path, .slice Ab x.bytes.length cb, .slice Ak x.kids.length ck]] #[], .func (.func 34) #[.agg #[.int .i64 x.kind, .string x.code, .string x.value, .string x.path, .slice Ab x.bytes.length cb, .slice Ak x.kids.length ck]] #[], .func (.func 35) #[.agg #[.int .i64 x.kind, .string x.code, .string x.value, .string x.path, .slice Ab x.bytes.length cb, .slice Ak x.kids.length ck]] #[]]; rw [World.size_alloc] at k; exact k) (by simp))
  have HB := Lib.hid b2
  clear b1 b2 h hr hwf hc
  unfold Nd.v at HA ⊢
  simp only [List.length_cons, List.length_nil, Nat.zero_add, Nat.reduceAdd] at HA
  go_enter Tryd.func25, Tryd.ntmps25
  go_wp2_with fail
  refine HA.out.mono ?_
  rintro e w1 ⟨rfl, hb⟩
  have HE := Lib.hid (HB.out.trans (hb.mono HB.out.size))
  clear hb HA HB
  go_wp2
  go_ret
  exact ⟨ret_bool (by simp [Nd.isLeafN, Bool.and_assoc]), HE.out⟩
set_option maxHeartbeats 1600000 in
theorem Right_n (x : Nd) (V : Value) (w : World) (h : NdAt w x V) (hr : RoomsAt w) (hc : x.code.size ≤ 9223372036854775807) : Calls Tryd.prog 11 #[V] w (BoolEnd x.rightN w) := by
  have h' := h
  obtain ⟨hwf, Ab, cb, Ak, ck, rfl, _, _⟩ := h'
  have b1 := below_box w (.cells #[.int .i64 x.kind, .string x.code, .string x.value, .string x.path, .slice Ab x.bytes.length cb, .slice Ak x.kids.length ck] 27)
  have b2 := b1.alloc b1.size (.cells #[.int .i64 x.kind, .string x.code, .string x.value, .string x.path, .slice Ab x.bytes.length cb, .slice Ak x.kids.length ck] 49)
  have q2 := Blk.new (w.alloc (.cells #[.int .i64 x.kind, .string x.code, .string x.value, .string x.path, .slice Ab x.bytes.length cb, .slice Ak x.kids.length ck] 27)) 49 #[.int .i64 x.kind, .string x.code, .string x.value, .string x.path, .slice Ab x.bytes.length cb, .slice Ak x.kids.length ck]
  have HL := Lib.hid (isLeaf_n x _ _ (h.below b2) (hr.on b2) hc)
  have HB := Lib.hid (And.intro b2 (And.intro q2 (And.intro h hr)))
  clear b1 b2 q2 h hr hwf hc
  unfold Nd.v at HL HB ⊢
  have E0 : x.rightN = (x.isLeafN || x.isRight) := rfl
  have E := Lib.hid E0
  clear E0
  obtain ⟨lf, hlf⟩ : ∃ lf, lf = x.isLeafN := ⟨_, rfl⟩
  rw [← hlf] at HL E
  clear hlf
  cases lf with
  | true =>
    go_enter Tryd.func11, Tryd.ntmps11
    go_wp2_with fail
    refine HL.out.mono ?_
    rintro e w1 ⟨rfl, hb⟩
    have HE := Lib.hid (HB.out.1.trans (hb.mono HB.out.1.size))
    clear hb HL HB
    go_wp2
    go_ret
    exact ⟨ret_bool (by rw [E.out, Bool.true_or]), HE.out⟩
  | false =>
    go_enter Tryd.func11, Tryd.ntmps11
    go_wp2_with fail
    refine HL.out.mono ?_
    rintro e w1 ⟨rfl, hb⟩
    have hbw := HB.out.1.trans (hb.mono HB.out.1.size)
    have HA := Lib.hid (isRight_n x _ w1 (HB.out.2.2.1.below hbw) (HB.out.2.2.2.on hbw))
    unfold Nd.v at HA
    obtain ⟨c0, c1, c2, c3, c4, c5⟩ := cells6 (HB.out.2.1.below hb (by simp))
    rw [World.size_alloc] at c0 c1 c2 c3 c4 c5
    have HE := Lib.hid hbw
    clear hb HL HB hbw
    go_wp2_with fail
    refine HA.out.mono ?_
    rintro e w2 ⟨rfl, hb⟩
    have HF := Lib.hid (HE.out.trans (hb.mono HE.out.size))
    clear hb HA HE
    go_wp2
    go_ret
    exact ⟨ret_bool (by rw [E.out, Bool.false_or]), HF.out⟩
end Go.Proofs.YtgjgcbemgmkncaaDoor
