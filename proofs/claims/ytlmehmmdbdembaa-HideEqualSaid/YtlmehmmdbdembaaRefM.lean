/-
  Plain model of the reference's Times.
-/
import Derived.Test.YtlmehmmdbdembaaRefCurW
namespace Go.Proofs.Ytlmehmmdbdembaa
open Go.RowKit
set_option linter.unusedVariables false

/-- The entries that may be picked, one a session that has any. -/
def canM (b : Int) (es : List Ent) (had : List Int) : Nat → List Int
  | 0 => []
  | k + 1 => canM b es had k ++ (if 0 ≤ curFrom b k 0 es had then [curFrom b k 0 es had] else [])
theorem canM_len (b : Int) (es : List Ent) (had : List Int) : ∀ n, (canM b es had n).length ≤ n
  | 0 => Nat.le_refl _
  | k + 1 => by
    have := canM_len b es had k
    unfold canM
    rw [List.length_append]
    split <;> simp <;> omega
theorem curFrom_range (b k : Int) : ∀ (es : List Ent) (had : List Int) (i : Nat), curFrom b k i es had = -1 ∨ ((i : Int) ≤ curFrom b k i es had ∧ curFrom b k i es had < i + es.length ∧ curFrom b k i es had < i + had.length)
  | [], _, i => Or.inl rfl
  | _ :: _, [], i => Or.inl rfl
  | e :: es, h :: hs, i => by
    unfold curFrom
    split
    · exact Or.inr ⟨Int.le_refl _, by simp only [List.length_cons]; omega, by simp only [List.length_cons]; omega⟩
    · rcases curFrom_range b k es hs (i + 1) with h1 | ⟨h1, h2, h3⟩
      · exact Or.inl h1
      · exact Or.inr ⟨by omega, by simp only [List.length_cons]; omega, by simp only [List.length_cons]; omega⟩
theorem canM_mem {b : Int} {es : List Ent} {had : List Int} : ∀ {n : Nat} {c : Int}, c ∈ canM b es had n → 0 ≤ c ∧ c < es.length ∧ c < had.length
  | 0, c, h => by simp [canM] at h
  | k + 1, c, h => by
    unfold canM at h
    rcases List.mem_append.1 h with h | h
    · exact canM_mem h
    · split at h
      · rename_i h0
        simp only [List.mem_singleton] at h
        subst h
        rcases curFrom_range b k es had 0 with h1 | ⟨h1, h2, h3⟩
        · omega
        · exact ⟨h0, by omega, by omega⟩
      · simp at h

/-- The reference's run. -/
def refRun (b : Int) (es : List Ent) (n : Nat) : Nat → List Int → List Int → List Int → List Spn → List Spn
  | _, _, _, [], out => out
  | i, had, frm, p :: ps, out =>
    if (canM b es had n).length = 0 then out else
    match (canM b es had n)[(bring p (canM b es had n).length).toNat]? with
    | none => out
    | some c =>
      match es[c.toNat]?, had[c.toNat]?, frm[c.toNat]? with
      | some e, some h, some f =>
        if h + 1 = takes b e.r then refRun b es n (i + 1) (had.set c.toNat (h + 1)) (frm.set c.toNat (if h = 0 then (i : Int) else f)) ps (out ++ [⟨c, if h = 0 then (i : Int) else f, i⟩])
        else refRun b es n (i + 1) (had.set c.toNat (h + 1)) (frm.set c.toNat (if h = 0 then (i : Int) else f)) ps out
      | _, _, _ => out

/-- The reference's Times. -/
def refTimesM (s b : Int) (es : List Ent) (ps : List Int) : List Spn × Int :=
  if 4096 < es.length ∨ 65536 < ps.length then ([], 3)
  else if s < 1 ∨ 64 < s ∨ b < 2 ∨ 4096 < b then ([], 2)
  else if es.all (fun e => decide (0 ≤ e.ses ∧ e.ses < s)) then (refRun b es s.toNat 0 (List.replicate es.length 0) (List.replicate es.length 0) ps [], 0) else ([], 6)
/-- One step, where an entry c is picked. -/
theorem refRun_step {b : Int} {es : List Ent} {n i : Nat} {had frm : List Int} {p : Int} {ps : List Int} {out : List Spn} {c h f : Int} {e : Ent} (h0 : 0 < (canM b es had n).length)
    (hc : (canM b es had n)[(bring p (canM b es had n).length).toNat]? = some c) (he : es[c.toNat]? = some e) (hh : had[c.toNat]? = some h) (hf : frm[c.toNat]? = some f) :
    refRun b es n i had frm (p :: ps) out = if h + 1 = takes b e.r then refRun b es n (i + 1) (had.set c.toNat (h + 1)) (frm.set c.toNat (if h = 0 then (i : Int) else f)) ps (out ++ [⟨c, if h = 0 then (i : Int) else f, i⟩])
        else refRun b es n (i + 1) (had.set c.toNat (h + 1)) (frm.set c.toNat (if h = 0 then (i : Int) else f)) ps out := by
  rw [refRun, if_neg (by omega)]
  simp only [hc, he, hh, hf]
theorem refRun_none {b : Int} {es : List Ent} {n i : Nat} {had frm : List Int} {p : Int} {ps : List Int} {out : List Spn} (h0 : (canM b es had n).length = 0) : refRun b es n i had frm (p :: ps) out = out := by
  rw [refRun, if_pos h0]
end Go.Proofs.Ytlmehmmdbdembaa
