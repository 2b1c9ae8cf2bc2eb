/-
  Layer 23: WeaveTurns: what holds between picks.
-/
import Derived.Test.YtagcbihjejjmnaaWvP
namespace Go.Proofs.Ytagcbihjejjmnaa
set_option linter.unusedVariables false
set_option linter.unusedSimpArgs false

/-- The picks that a job is asked to take. -/
def tkW (ts : List Int) (j : Nat) : Nat := match ts[j]? with
  | some t => 1 + (t % 9).toNat
  | none => 1
/-- The jobs that were asked for. -/
def jobW (xs ts : List Int) (k : Nat) : List Jb := (List.range k).map fun j => ⟨(xs.getD j 0 % 5).toNat, tkW ts j, 0⟩
theorem jobW_len (xs ts : List Int) (k : Nat) : (jobW xs ts k).length = k := by simp [jobW]
theorem jobW_succ (xs ts : List Int) (k : Nat) : jobW xs ts (k + 1) = jobW xs ts k ++ [⟨(xs.getD k 0 % 5).toNat, tkW ts k, 0⟩] := by
  unfold jobW
  rw [List.range_succ, List.map_append, List.map_singleton]
theorem tkW_le (ts : List Int) (j : Nat) : 1 ≤ tkW ts j ∧ tkW ts j ≤ 9 := by
  unfold tkW
  split <;> omega
theorem jobW_at (xs ts : List Int) (k i : Nat) (x : Jb) (h : (jobW xs ts k)[i]? = some x) : x.s = (xs.getD i 0 % 5).toNat ∧ x.h = 0 := by
  unfold jobW at h
  rw [List.getElem?_map] at h
  obtain ⟨hi, hv⟩ := List.getElem?_eq_some_iff.1 (show (List.range k)[i]? = some i by
    cases hq : (List.range k)[i]? with
    | none => rw [hq] at h; cases h
    | some y =>
      have := (List.getElem?_eq_some_iff.1 hq).2
      rw [List.getElem_range] at this
      rw [this])
  rw [List.getElem?_eq_getElem hi, hv] at h
  obtain rfl := Option.some.inj h
  exact ⟨rfl, rfl⟩
/-- Between two picks: the sessions' last jobs and whether they are open. -/
structure TuI (xs : List Int) (J : List Jb) (la : Nat → Int) (op : Nat → Bool) : Prop where
  ok : JbOk J
  ss : ∀ i x, J[i]? = some x → x.s = (xs.getD i 0 % 5).toNat
  o : ∀ s, op s = begJ J s
  l1 : ∀ s m l, pendJ J s = m :: l → begJ J s = true → la s = m
  l2 : ∀ s, begJ J s = false → ∀ m ∈ pendJ J s, la s < m
theorem pend_sorted (J : List Jb) (s : Nat) : (pendJ J s).Pairwise (· < ·) := List.Pairwise.filter _ List.pairwise_lt_range
theorem beg_zero {J : List Jb} (h : ∀ (i : Nat) (x : Jb), J[i]? = some x → x.h = 0) (s : Nat) : begJ J s = false := by
  unfold begJ
  cases hp : pendJ J s with
  | nil => rfl
  | cons m l =>
    obtain ⟨x, h1, _⟩ := pend_mem.1 (show m ∈ pendJ J s by rw [hp]; simp)
    simp [h1, h m x h1]
theorem tuI_start (xs ts : List Int) (k : Nat) (hok : JbOk (jobW xs ts k)) : TuI xs (jobW xs ts k) (fun _ => -1) (fun _ => false) := by
  have hb := fun s => beg_zero (J := jobW xs ts k) (fun i x h => (jobW_at xs ts k i x h).2) s
  refine ⟨hok, fun i x h => (jobW_at xs ts k i x h).1, fun s => (hb s).symm, fun s m l _ h => ?_, fun s _ m _ => by omega⟩
  rw [hb s] at h
  cases h
theorem TuI.step {xs : List Int} {J : List Jb} {la : Nat → Int} {op : Nat → Bool} (h : TuI xs J la op) {s m : Nat} {l : List Nat} {j : Jb} (hp : pendJ J s = m :: l) (hj : J[m]? = some j) :
    TuI xs (hadJ J m) (fun s' => if s' = s then (m : Int) else la s') (fun s' => if s' = s then !decide (j.t ≤ j.h + 1) else op s') := by
  obtain ⟨j', q1, hjs, hjt⟩ := pend_mem.1 (show m ∈ pendJ J s by rw [hp]; simp)
  rw [hj] at q1
  obtain rfl := Option.some.inj q1
  have hbs := beg_had h.ok hp hj
  have hps := pend_had hp hj
  refine ⟨h.ok.had hp, fun i x hx => ?_, fun s' => ?_, fun s' m' l' h1 h2 => ?_, fun s' h1 m' h2 => ?_⟩
  · by_cases e : m = i
    · subst e
      rw [had_get hj] at hx
      obtain rfl := Option.some.inj hx
      exact h.ss m j hj
    · rw [had_ne e] at hx
      exact h.ss i x hx
  · by_cases e : s' = s
    · subst e
      rw [if_pos rfl, hbs]
      by_cases hd : j.t ≤ j.h + 1
      · rw [decide_eq_true hd, decide_eq_false (by omega)]
        rfl
      · rw [decide_eq_false hd, decide_eq_true (by omega)]
        rfl
    · rw [if_neg e, beg_had_other hj (fun e2 => e (e2.symm.trans hjs))]
      exact h.o s'
  · by_cases e : s' = s
    · subst e
      rw [if_pos rfl]
      rw [hbs] at h2
      rw [hps, if_pos (of_decide_eq_true h2)] at h1
      injection h1 with h1
      rw [h1]
    · rw [if_neg e]
      rw [pend_had_other hj (fun e2 => e (e2.symm.trans hjs))] at h1
      rw [beg_had_other hj (fun e2 => e (e2.symm.trans hjs))] at h2
      exact h.l1 s' m' l' h1 h2
  · by_cases e : s' = s
    · subst e
      rw [if_pos rfl]
      rw [hbs] at h1
      rw [hps, if_neg (by simpa using h1)] at h2
      have hs := pend_sorted J s'
      rw [hp] at hs
      have := (List.pairwise_cons.1 hs).1 m' h2
      omega
    · rw [if_neg e]
      rw [pend_had_other hj (fun e2 => e (e2.symm.trans hjs))] at h2
      rw [beg_had_other hj (fun e2 => e (e2.symm.trans hjs))] at h1
      exact h.l2 s' h1 m' h2
end Go.Proofs.Ytagcbihjejjmnaa
