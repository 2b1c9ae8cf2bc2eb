/-
  A range over an iterator that itself ranges over an iterator: the iterator's contract may rely on it that the caller's invariants abide every turn of a block that is no cells and lies at or beyond the heap's end. Over any program.
-/
import Derived.Test.YtmcpfhhggapkcaaFewAll
namespace Go.Proofs.Ytmcpfhhggapkcaa
open Go.RowKit Go.Shelf
set_option linter.unusedVariables false

/-- An iterator's contract, for callers whose invariants speak of cells, or of what lay there. A round keeps whatever is no cells from B0 on. -/
def SeqStopsO {α : Type} (F : Fence) (n : Nat) (P : Program) (g : Nat) (lb : Array Value) (encs : α → Array Value) (Kp : World → World → Prop) (S Sp : List α → Prop) (N : Nat) (w : World) (B0 : Nat) : Prop :=
  ∀ (l : Nat) (J Jx : List α → World → Prop) (W : World), Below w.heap.size w W → B0 ≤ W.heap.size → OwnFrom W.heap.size J → OwnFrom W.heap.size Jx →
    (∀ pre x W1, J pre W1 → pre.length < N → YieldAt F (n - 1) P l (encs x) W1 fun e W' => KeepsFrom B0 W1 W' ∧
      ((e = .returned (.bool true) ∧ J (pre ++ [x]) W' ∧ Kp W1 W') ∨ (e = .returned (.bool false) ∧ Jx (pre ++ [x]) W'))) →
    J [] W →
    CallsIn F n P g (#[.func (.yield l) #[] #[]] ++ lb) W fun e W' => (∃ v, e = .returned v) ∧ ((∃ xs, S xs ∧ J xs W') ∨ (∃ pre, Sp pre ∧ Jx pre W'))
theorem ownFrom_abides {β : Type} {B : Nat} {I : β → World → Prop} (h : OwnFrom B I) : AbidesFrom B I := fun s W W' row hs hg hr =>
  h s W W' row hs hg (fun r e => ⟨(hr r e).1, by obtain ⟨o, ho, hw⟩ := (hr r e).2; exact ⟨o, ho, Obj.not_cells_of_walk hw⟩⟩)
theorem seqStopsK_O {α : Type} {F : Fence} {n : Nat} {P : Program} {g : Nat} {lb : Array Value} {encs : α → Array Value} {Kp : World → World → Prop} {S Sp : List α → Prop} {N : Nat} {w : World} (B0 : Nat)
    (h : SeqStopsK F n P g lb encs Kp S Sp N w) : SeqStopsO F n P g lb encs Kp S Sp N w B0 := fun l J Jx W hW _ hJ hJx hY h0 => h l J Jx W hW (ownFrom_abides hJ) (ownFrom_abides hJx) (fun pre x W1 h1 h2 => (hY pre x W1 h1 h2).mono fun e W' h => h.2) h0
theorem keepsFrom_le {B B' : Nat} {W W' : World} (h : KeepsFrom B W W') (hB : B ≤ B') : KeepsFrom B' W W' := ⟨h.size, fun k o hk h1 h2 => h.same k o (Nat.le_trans hB hk) h1 h2⟩
theorem keepsFrom_put {B : Nat} (W : World) {l : Nat} (o : Obj) (h : l < B) : KeepsFrom B W (W.putObj l o) := ⟨by simp, fun k o2 hk h1 h2 => (World.putObj_heap_other (by omega)).trans h1⟩

/-- The two blocks that the loop lays: its record at D + 1, the block for deferred calls at D. -/
structure Kept2 (D : Nat) (r : Loop) (W : World) : Prop where
  rec_ : W.heap[D + 1]? = some (.loop r)
  def_ : W.heap[D]? = some (.deferred (some []))
theorem Kept2.lt {D : Nat} {r : Loop} {W : World} (h : Kept2 D r W) : D + 2 ≤ W.heap.size := (Array.getElem?_eq_some_iff.1 h.rec_).1
theorem Kept2.from_ {D : Nat} {r : Loop} {W W' : World} (h : Kept2 D r W) (k : KeepsFrom D W W') : Kept2 D r W' := ⟨k.same _ _ (Nat.le_succ D) h.rec_ rfl, k.same _ _ (Nat.le_refl D) h.def_ rfl⟩
theorem Kept2.put {D : Nat} {r : Loop} {W : World} (h : Kept2 D r W) (r' : Loop) : Kept2 D r' (W.putObj (D + 1) (.loop r')) :=
  ⟨World.putObj_heap_same h.lt, (World.putObj_heap_other (by omega)).trans h.def_⟩
theorem Kept2.own {D : Nat} {r : Loop} {W W' : World} {row : Option Nat} (h : Kept2 D r W) (hg : W.grownBy W' row) (hr : ∀ k, row = some k → D + 2 ≤ k) : Kept2 D r W' :=
  ⟨(hg.block _ (by have := h.lt; omega) (fun e => by have := hr _ e.symm; omega)).trans h.rec_, (hg.block _ (by have := h.lt; omega) (fun e => by have := hr _ e.symm; omega)).trans h.def_⟩

section
variable {F : Fence} {n : Nat} {P : Program}
theorem wpIn_range_O {α : Type} {g : Operand} {ps : Array Tmp} {assign body : Code} {Q : Exit → Act → World → Prop} {a : Act} {w : World}
    (hro : F.round = none) (h1 : 1 ≤ n) {gf : Nat} {lb : Array Value} (hg : a.eval g = .func (.func gf) #[] lb) (hFg : F.fn gf) (eg : ∀ args w, (callFunc gf args).run P w = .ok (.enter gf args) w)
    {encs : α → Array Value} {Kp : World → World → Prop} {S Sp : List α → Prop} {N : Nat} {w0 : World} (hseq : SeqStopsO F (n - 1) P gf lb encs Kp S Sp N w0 (w.heap.size + 2))
    (hKt : ∀ {A B C : World}, Kp A B → Kp B C → Kp A C) (hKb : ∀ (W : World) (o o' : Obj), W.heap[w.heap.size + 1]? = some o → o.isCells = false → o'.isCells = false → Kp W (W.putObj (w.heap.size + 1) o')) (hb0 : Below w0.heap.size w0 w) (hps : ∀ x, (encs x).size = ps.size)
    (I : List α → World → Prop) (Ix : Code → List α → World → Prop) (hI : OwnFrom w.heap.size I) (hIx : ∀ c, OwnFrom w.heap.size (Ix c)) (h0 : I [] w) (Ax : α → Act → World → Prop) (hAx : ∀ x a', OwnFrom w.heap.size (fun (_ : Unit) W => Ax x a' W))
    (hassign : ∀ (l : Nat) (pre : List α) (x : α) (W : World) (K : Act → World → Prop), I pre W → (∀ a' W', KeepsFrom w.heap.size W W' → Kp W W' → I pre W' → Ax x a' W' → K a' W') →
      assign.wpIn (F.inRound l) (n - 1 - 1) P (Exit.then K (fun _ _ _ => False)) { tmps := (ps.zip (encs x)).foldl (fun t (p, v) => t.setIfInBounds p v) a.tmps, defers := [] } W)
    (hbody : ∀ (l : Nat) (pre : List α) (x : α) (a' : Act) (W : World), w.heap.size ≤ l → (∃ r, W.heap[l]? = some (.loop r)) → I pre W → Ax x a' W → pre.length < N → body.wpIn (F.inRound l) (n - 1 - 1) P (ownPostG w.heap.size Kp I Ix (pre ++ [x]) W) a' W)
    (hdone : ∀ (D : Nat) (xs : List α) (W : World), w.heap.size ≤ D → S xs → I xs W → W.heap[D]? = some (.deferred (some [])) → Q .normal { a with defers := { target := .collected D, args := #[] } :: a.defers } W)
    (hstop : ∀ (D : Nat) (c : Code) (pre : List α) (W : World), w.heap.size ≤ D → Sp pre → Ix c pre W → W.heap[D]? = some (.deferred (some [])) → c.wpIn F n P Q { a with defers := { target := .collected D, args := #[] } :: a.defers } W) :
    (Code.rangeFunc g ps assign body).wpIn F n P Q a w := by
  refine wpIn_rangeFunc fun fn hfn => ?_
  rw [hro]
  obtain ⟨mk, hmk⟩ : ∃ mk : LoopState → Option Code → Loop, ∀ s j, mk s j = { state := s, pending := j, fn, tmps := a.tmps, params := ps, assign, body, defers := w.heap.size } := ⟨_, fun _ _ => rfl⟩
  have hW : ∃ W1 : World, (Instr.enterLoop fn a.tmps ps assign body none).run P w = .ok (w.heap.size + 1, [{ target := .collected w.heap.size, args := #[] }]) W1 ∧ Kept2 w.heap.size (mk .ready none) W1 ∧ I [] W1 ∧ Below w0.heap.size w0 W1 ∧ w.heap.size + 2 ≤ W1.heap.size := by
    refine ⟨_, run_enterLoop_outer _ _ _ _ _, ⟨?_, ?_⟩, hI.alloc _ (hI.alloc _ h0), ?_, by simp⟩
    · rw [hmk]
      have k := World.alloc_heap_new (w.alloc (.deferred (some []))) (.loop { state := .ready, pending := none, fn, tmps := a.tmps, params := ps, assign, body, defers := w.heap.size })
      rwa [World.size_alloc] at k
    · exact (Below.heap_alloc _ _ _ (by simp)).trans (World.alloc_heap_new w _)
    · exact (hb0.alloc hb0.size _).alloc (hb0.alloc hb0.size _).size _
  obtain ⟨W1, hent, hk1, hi1, hb1, hs1⟩ := hW
  refine ⟨_, _, W1, { target := .fn (.func gf) lb, args := #[.func (.yield (w.heap.size + 1)) #[] #[]] }, W1, gf, #[.func (.yield (w.heap.size + 1)) #[] #[]] ++ lb, W1, hent, ?_, ?_, ?_, fun _ => h1, ?_⟩
  · simp only [resolve, hg]
    simp [go_sem]
  · intro f' hf'
    simp [Target.leads] at hf'
    subst hf'
    exact hFg
  · simp [invoke, go_sem, eg]
  refine (hseq (w.heap.size + 1) (fun pre W => I pre W ∧ Kept2 w.heap.size (mk .ready none) W) (fun pre W => ∃ c, Ix c pre W ∧ Kept2 w.heap.size (mk .done (some c)) W) W1 hb1 hs1 ?_ ?_ ?_ ⟨hi1, hk1⟩).mono ?_
  · intro s A B row hs hgr hr
    exact ⟨hI s A B row hs.1 hgr (fun k e => ⟨by have := (hr k e).1; omega, (hr k e).2⟩), hs.2.own hgr (fun k e => by have := (hr k e).1; omega)⟩
  · intro s A B row hs hgr hr
    obtain ⟨c, hc, hk⟩ := hs
    exact ⟨c, hIx c s A B row hc hgr (fun k e => ⟨by have := (hr k e).1; omega, (hr k e).2⟩), hk.own hgr (fun k e => by have := (hr k e).1; omega)⟩
  · rintro pre x W ⟨hi, hk⟩ hlen
    have hy := run_yield (P := P) (args := encs x) hk.rec_ (by rw [hmk]; exact hps x)
    rw [hmk] at hy
    refine ⟨fn, _, assign, body, hy, roundIn_of_wpIn hfn (hassign _ pre x W _ hi fun a' Wa hkf hkp hia hax => ?_)⟩
    have hka := hk.from_ hkf
    refine ⟨_, run_beginRound hka.rec_ (by rw [hmk]), ?_⟩
    have hbusy : ({ mk .ready none with state := LoopState.busy } : Loop) = mk .busy none := by rw [hmk, hmk]
    rw [hbusy]
    have hkb := hka.put (mk .busy none)
    have hkp2 : Kp Wa (Wa.putObj (w.heap.size + 1) (.loop (mk .busy none))) := hKb _ _ _ hka.rec_ rfl rfl
    refine wpIn_mono (hbody _ pre x a' _ (Nat.le_succ _) ⟨_, hkb.rec_⟩ (hI.putObj _ hia (Nat.le_succ _) hka.rec_ rfl) ((hAx x a').putObj (s := ()) _ hax (Nat.le_succ _) hka.rec_ rfl) hlen) ?_
    have kfin : ∀ {W3 : World}, KeepsFrom w.heap.size (Wa.putObj (w.heap.size + 1) (.loop (mk .busy none))) W3 → ∀ o, KeepsFrom (w.heap.size + 2) W (W3.putObj (w.heap.size + 1) o) := fun hk3 o =>
      (((keepsFrom_le hkf (by omega)).trans (keepsFrom_put _ _ (by omega))).trans (keepsFrom_le hk3 (by omega))).trans (keepsFrom_put _ _ (by omega))
    have leave : ∀ (c : Code) (W3 : World), KeepsFrom w.heap.size (Wa.putObj (w.heap.size + 1) (.loop (mk .busy none))) W3 → Ix c (pre ++ [x]) W3 →
        ∃ v w', (Instr.endRound (w.heap.size + 1) (some c)).run P W3 = .ok v w' ∧ KeepsFrom (w.heap.size + 2) W w' ∧ ((Ending.returned v = .returned (.bool true) ∧ (I (pre ++ [x]) w' ∧ Kept2 w.heap.size (mk .ready none) w') ∧ Kp W w') ∨ (Ending.returned v = .returned (.bool false) ∧ ∃ c, Ix c (pre ++ [x]) w' ∧ Kept2 w.heap.size (mk .done (some c)) w')) := by
      intro c W3 hk3 hx3
      have h3 := hkb.from_ hk3
      refine ⟨_, _, run_endRound (some c) h3.rec_, kfin hk3 _, .inr ⟨rfl, c, (hIx c).putObj _ hx3 (Nat.le_succ _) h3.rec_ rfl, ?_⟩⟩
      have : ({ mk .busy none with state := if (some c).isNone = true then LoopState.ready else LoopState.done, pending := some c } : Loop) = mk .done (some c) := by rw [hmk, hmk]; rfl
      rw [this]
      exact h3.put _
    intro e a3 W3 hp
    cases e with
    | normal =>
      obtain ⟨hk3, hkp3, hi3⟩ := hp
      have h3 := hkb.from_ hk3
      refine ⟨_, _, run_endRound none h3.rec_, kfin hk3 _, .inl ⟨rfl, ⟨hI.putObj _ hi3 (Nat.le_succ _) h3.rec_ rfl, ?_⟩, hKt hkp (hKt hkp2 (hKt hkp3 (hKb _ _ _ h3.rec_ rfl rfl)))⟩⟩
      have : ({ mk .busy none with state := if (none : Option Code).isNone = true then LoopState.ready else LoopState.done, pending := none } : Loop) = mk .ready none := by rw [hmk, hmk]; rfl
      rw [this]
      exact h3.put _
    | ret => exact leave _ W3 hp.1 hp.2
    | exit id => exact leave _ W3 hp.1 hp.2
    | goto t => exact leave _ W3 hp.1 hp.2
    | panic ch => exact hp.elim
    | outgrown => exact hp.elim
  · rintro e W2 ⟨⟨v, rfl⟩, ⟨xs, hS, hi, hk⟩ | ⟨pre, hSp, c, hi, hk⟩⟩
    · refine ⟨none, _, ?_, hdone _ xs _ (Nat.le_refl _) hS (hI.putObj (.loop { mk .ready none with state := .exhausted }) hi (Nat.le_succ _) hk.rec_ rfl) ((World.putObj_heap_other (by omega)).trans hk.def_)⟩
      have k := run_endLoop (P := P) hk.rec_ (by rw [hmk]; simp)
      rw [k, hmk]
    · refine ⟨some c, _, ?_, hstop _ c pre _ (Nat.le_refl _) hSp ((hIx c).putObj (.loop { mk .done (some c) with state := .exhausted }) hi (Nat.le_succ _) hk.rec_ rfl) ((World.putObj_heap_other (by omega)).trans hk.def_)⟩
      have k := run_endLoop (P := P) hk.rec_ (by rw [hmk]; simp)
      rw [k, hmk]
end
end Go.Proofs.Ytmcpfhhggapkcaa
