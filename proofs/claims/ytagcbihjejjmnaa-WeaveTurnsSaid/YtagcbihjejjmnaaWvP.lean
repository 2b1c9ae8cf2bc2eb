/-
  Layer 23: weave: sessions with jobs, as plain data.
-/
import Derived.Test.YtagcbihjejjmnaaBase
namespace Go.Proofs.Ytagcbihjejjmnaa
set_option linter.unusedVariables false

/-- A job: whose it is, how many picks it takes, how many it had. -/
structure Jb where
  s : Nat
  t : Nat
  h : Nat
def liveJ (J : List Jb) (s i : Nat) : Bool := match J[i]? with
  | some j => decide (j.s = s) && decide (j.h < j.t)
  | none => false
/-- The jobs of a session that have not ended. -/
def pendJ (J : List Jb) (s : Nat) : List Nat := (List.range J.length).filter (liveJ J s)
/-- Whether the first of them has begun. -/
def begJ (J : List Jb) (s : Nat) : Bool := match pendJ J s with
  | [] => false
  | i :: _ => match J[i]? with
    | some j => decide (0 < j.h)
    | none => false
def canJ (S : Nat) (J : List Jb) : List Nat := (List.range S).filter fun s => !(pendJ J s).isEmpty
/-- One more pick of a job. -/
def hadJ (J : List Jb) (n : Nat) : List Jb := J.modify n fun j => { j with h := j.h + 1 }
/-- What holds of the jobs. -/
structure JbOk (J : List Jb) : Prop where
  le : ∀ j ∈ J, 1 ≤ j.t ∧ j.h ≤ j.t
  tl : ∀ s i, i ∈ (pendJ J s).tail → ∀ j, J[i]? = some j → j.h = 0

theorem pend_mem {J : List Jb} {s i : Nat} : i ∈ pendJ J s ↔ ∃ j, J[i]? = some j ∧ j.s = s ∧ j.h < j.t := by
  unfold pendJ
  rw [List.mem_filter, List.mem_range]
  unfold liveJ
  constructor
  · rintro ⟨h1, h2⟩
    rw [List.getElem?_eq_getElem h1] at h2
    simp only [Bool.and_eq_true, decide_eq_true_eq] at h2
    exact ⟨_, List.getElem?_eq_getElem h1, h2⟩
  · rintro ⟨j, h1, h2, h3⟩
    refine ⟨(List.getElem?_eq_some_iff.1 h1).1, ?_⟩
    rw [h1]
    simp [h2, h3]
theorem pend_lt {J : List Jb} {s i : Nat} (h : i ∈ pendJ J s) : i < J.length := by
  obtain ⟨j, h1, _⟩ := pend_mem.1 h
  exact (List.getElem?_eq_some_iff.1 h1).1
theorem pend_len (J : List Jb) (s : Nat) : (pendJ J s).length ≤ J.length := by
  unfold pendJ
  exact Nat.le_trans (List.length_filter_le _ _) (by simp)
theorem pend_nodup (J : List Jb) (s : Nat) : (pendJ J s).Nodup := List.Pairwise.filter _ List.nodup_range
theorem pend_nil (s : Nat) : pendJ [] s = [] := rfl
/-- A job is asked for. -/
theorem pend_ask (J : List Jb) (s s' t : Nat) (ht : 1 ≤ t) : pendJ (J ++ [⟨s', t, 0⟩]) s = if s' = s then pendJ J s ++ [J.length] else pendJ J s := by
  unfold pendJ
  rw [List.length_append, List.length_singleton, List.range_succ, List.filter_append]
  have h1 : (List.range J.length).filter (liveJ (J ++ [⟨s', t, 0⟩]) s) = (List.range J.length).filter (liveJ J s) := by
    refine List.filter_congr fun i hi => ?_
    unfold liveJ
    rw [List.getElem?_append_left (List.mem_range.1 hi)]
  have h2 : liveJ (J ++ [⟨s', t, 0⟩]) s J.length = decide (s' = s) := by
    unfold liveJ
    rw [List.getElem?_append_right (Nat.le_refl _), Nat.sub_self]
    have : decide (0 < t) = true := decide_eq_true (by omega)
    simp [this]
  rw [h1, List.filter_cons, h2, List.filter_nil]
  by_cases h : s' = s <;> simp [h]
theorem had_len (J : List Jb) (n : Nat) : (hadJ J n).length = J.length := by simp [hadJ]
theorem had_at (J : List Jb) (n i : Nat) : (hadJ J n)[i]? = (J[i]?).map fun j => if n = i then { j with h := j.h + 1 } else j := by
  unfold hadJ
  rw [List.getElem?_modify]
  by_cases h : n = i <;> simp [h]
theorem had_get {J : List Jb} {n : Nat} {j : Jb} (h : J[n]? = some j) : (hadJ J n)[n]? = some { j with h := j.h + 1 } := by rw [had_at, h]; simp
theorem had_ne {J : List Jb} {n i : Nat} (h : n ≠ i) : (hadJ J n)[i]? = J[i]? := by
  rw [had_at]
  cases J[i]? <;> simp [h]
/-- The others' jobs are as they were. -/
theorem pend_had_other {J : List Jb} {n s : Nat} {j : Jb} (hj : J[n]? = some j) (hs : j.s ≠ s) : pendJ (hadJ J n) s = pendJ J s := by
  unfold pendJ
  rw [had_len]
  refine List.filter_congr fun i hi => ?_
  unfold liveJ
  by_cases h : n = i
  · subst h
    rw [had_get hj, hj]
    simp [hs]
  · rw [had_ne h]
/-- A session's first job has had a pick. -/
theorem pend_had {J : List Jb} {n s : Nat} {l : List Nat} {j : Jb} (hp : pendJ J s = n :: l) (hj : J[n]? = some j) : pendJ (hadJ J n) s = if j.h + 1 < j.t then n :: l else l := by
  obtain ⟨j', h1, h2, h3⟩ := pend_mem.1 (show n ∈ pendJ J s by rw [hp]; simp)
  rw [hj] at h1
  obtain rfl : j = j' := Option.some.inj h1
  by_cases hlt : j.h + 1 < j.t
  · rw [if_pos hlt, ← hp]
    unfold pendJ
    rw [had_len]
    refine List.filter_congr fun i hi => ?_
    unfold liveJ
    by_cases h : n = i
    · subst h
      rw [had_get hj, hj]
      simp [hlt, h3]
    · rw [had_ne h]
  · rw [if_neg hlt]
    have e : pendJ (hadJ J n) s = (pendJ J s).filter fun i => decide (i ≠ n) := by
      unfold pendJ
      rw [had_len, List.filter_filter]
      refine List.filter_congr fun i hi => ?_
      unfold liveJ
      by_cases h : n = i
      · subst h
        rw [had_get hj]
        simp [hlt]
      · rw [had_ne h]
        have : decide (i ≠ n) = true := decide_eq_true (fun e => h e.symm)
        rw [this]
        simp
    have hnd := pend_nodup J s
    rw [hp] at hnd
    obtain ⟨hn, _⟩ := List.nodup_cons.1 hnd
    rw [e, hp, List.filter_cons]
    simp only [ne_eq, not_true_eq_false, decide_false, Bool.false_eq_true, if_false]
    refine List.filter_eq_self.2 fun i hi => decide_eq_true (fun e => hn (e ▸ hi))
theorem can_mem {S : Nat} {J : List Jb} {s : Nat} : s ∈ canJ S J ↔ s < S ∧ pendJ J s ≠ [] := by
  unfold canJ
  rw [List.mem_filter, List.mem_range]
  simp
theorem can_len (S : Nat) (J : List Jb) : (canJ S J).length ≤ S := by
  unfold canJ
  exact Nat.le_trans (List.length_filter_le _ _) (by simp)
/-- Asking keeps what holds. -/
theorem JbOk.ask {J : List Jb} (h : JbOk J) (s t : Nat) (ht : 1 ≤ t) : JbOk (J ++ [⟨s, t, 0⟩]) := by
  refine ⟨fun j hj => ?_, fun s' i hi j hj => ?_⟩
  · rcases List.mem_append.1 hj with hj | hj
    · exact h.le j hj
    · obtain rfl := List.mem_singleton.1 hj
      exact ⟨ht, Nat.zero_le _⟩
  · rw [pend_ask J s' s t ht] at hi
    by_cases hlt : i < J.length
    · rw [List.getElem?_append_left hlt] at hj
      refine h.tl s' i ?_ j hj
      by_cases hs : s = s'
      · rw [if_pos hs] at hi
        cases hp : pendJ J s' with
        | nil => rw [hp] at hi; simp at hi
        | cons x r =>
          rw [hp] at hi
          simp only [List.cons_append, List.tail_cons, List.mem_append, List.mem_singleton] at hi
          rcases hi with hi | hi
          · simpa using hi
          · omega
      · rw [if_neg hs] at hi
        exact hi
    · rw [List.getElem?_append_right (by omega)] at hj
      have h0 : i - J.length = 0 := by
        have := (List.getElem?_eq_some_iff.1 hj).1
        simp at this
        omega
      rw [h0] at hj
      obtain rfl := Option.some.inj hj
      rfl
/-- A pick keeps what holds. -/
theorem JbOk.had {J : List Jb} (h : JbOk J) {n s : Nat} {l : List Nat} (hp : pendJ J s = n :: l) : JbOk (hadJ J n) := by
  obtain ⟨j, h1, h2, h3⟩ := pend_mem.1 (show n ∈ pendJ J s by rw [hp]; simp)
  refine ⟨fun x hx => ?_, fun s' i hi x hx => ?_⟩
  · obtain ⟨i, hi⟩ := List.mem_iff_getElem?.1 hx
    by_cases hn : n = i
    · subst hn
      rw [had_get h1] at hi
      obtain rfl := Option.some.inj hi
      exact ⟨(h.le j (List.mem_of_getElem? h1)).1, h3⟩
    · rw [had_ne hn] at hi
      exact h.le x (List.mem_of_getElem? hi)
  · have hin : n ≠ i ∧ i ∈ (pendJ J s').tail := by
      by_cases hs : s = s'
      · subst hs
        have hnd := pend_nodup J s
        rw [hp] at hnd
        obtain ⟨hn, hl⟩ := List.nodup_cons.1 hnd
        rw [pend_had hp h1] at hi
        rw [hp]
        have hil : i ∈ l := by
          split at hi
          · simpa using hi
          · exact List.mem_of_mem_tail hi
        exact ⟨fun e => hn (e ▸ hil), by simpa using hil⟩
      · rw [pend_had_other h1 (fun e => hs (h2.symm.trans e))] at hi
        refine ⟨fun e => ?_, hi⟩
        obtain ⟨j', g1, g2, _⟩ := pend_mem.1 (List.mem_of_mem_tail hi)
        rw [← e, h1] at g1
        obtain rfl := Option.some.inj g1
        exact hs (h2.symm.trans g2)
    rw [had_ne hin.1] at hx
    exact h.tl s' i hin.2 x hx
theorem jbOk_nil : JbOk [] := ⟨fun _ h => by simp at h, fun s i h => by simp [pend_nil] at h⟩
/-- Whether the next job of a session has begun. -/
theorem beg_cons {J : List Jb} {n s : Nat} {l : List Nat} {j : Jb} (hp : pendJ J s = n :: l) (hj : J[n]? = some j) : begJ J s = decide (0 < j.h) := by
  unfold begJ
  rw [hp]
  simp only [hj]
theorem beg_had {J : List Jb} (h : JbOk J) {n s : Nat} {l : List Nat} {j : Jb} (hp : pendJ J s = n :: l) (hj : J[n]? = some j) : begJ (hadJ J n) s = decide (j.h + 1 < j.t) := by
  have hq := pend_had hp hj
  by_cases hlt : j.h + 1 < j.t
  · rw [if_pos hlt] at hq
    rw [beg_cons hq (had_get hj), decide_eq_true hlt]
    simp
  · rw [if_neg hlt] at hq
    rw [decide_eq_false hlt]
    cases l with
    | nil => unfold begJ; rw [hq]
    | cons m r =>
      have hm : m ∈ pendJ J s := by rw [hp]; simp
      obtain ⟨x, g1, _⟩ := pend_mem.1 hm
      have hnd := pend_nodup J s
      rw [hp] at hnd
      obtain ⟨hn, _⟩ := List.nodup_cons.1 hnd
      have hne : n ≠ m := fun e => hn (by rw [e]; simp)
      have h0 := h.tl s m (by rw [hp]; simp) x g1
      rw [beg_cons hq ((had_ne hne).trans g1), h0]
      rfl
theorem beg_had_other {J : List Jb} {n s : Nat} {j : Jb} (hj : J[n]? = some j) (hs : j.s ≠ s) : begJ (hadJ J n) s = begJ J s := by
  unfold begJ
  rw [pend_had_other hj hs]
  cases hp : pendJ J s with
  | nil => rfl
  | cons m r =>
    obtain ⟨x, g1, g2, _⟩ := pend_mem.1 (show m ∈ pendJ J s by rw [hp]; simp)
    have hne : n ≠ m := fun e => by
      rw [← e, hj] at g1
      obtain rfl := Option.some.inj g1
      exact hs g2
    simp only [had_ne hne]
theorem beg_ask {J : List Jb} (s s' t : Nat) (ht : 1 ≤ t) : begJ (J ++ [⟨s', t, 0⟩]) s = begJ J s := by
  unfold begJ
  rw [pend_ask J s s' t ht]
  by_cases h : s' = s
  · rw [if_pos h]
    cases hp : pendJ J s with
    | nil => simp
    | cons m r =>
      have hm := pend_lt (show m ∈ pendJ J s by rw [hp]; simp)
      simp only [List.cons_append, List.getElem?_append_left hm]
  · rw [if_neg h]
    cases hp : pendJ J s with
    | nil => rfl
    | cons m r =>
      have hm := pend_lt (show m ∈ pendJ J s by rw [hp]; simp)
      simp only [List.getElem?_append_left hm]
end Go.Proofs.Ytagcbihjejjmnaa
