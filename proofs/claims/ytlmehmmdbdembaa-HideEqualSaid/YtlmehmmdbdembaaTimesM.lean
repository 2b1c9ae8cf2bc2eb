/-
  Plain models of layer 28's Times: rows of jobs, one row a session; which session is picked; the spans.
-/
import Derived.Test.YtlmehmmdbdembaaReqM
namespace Go.Proofs.Ytlmehmmdbdembaa
set_option linter.unusedVariables false

/-- An entry. -/
structure Ent where
  ses : Int
  r : Req
def Ent.row (e : Ent) : List Value := .int .i64 e.ses :: e.r.row
/-- A job. -/
structure Job where
  entry : Int
  left : Int
  start : Int
def Job.row (j : Job) : List Value := [.int .i64 j.entry, .int .i64 j.left, .int .i64 j.start]
/-- A span. -/
structure Spn where
  entry : Int
  start : Int
  stop : Int
deriving DecidableEq
def Spn.row (s : Spn) : List Value := [.int .i64 s.entry, .int .i64 s.start, .int .i64 s.stop]

/-- How many picks a request takes. -/
def takes (b : Int) (r : Req) : Int := if 1 ≤ r.deed ∧ r.deed ≤ 5 then picksOf r b else 1

/-- The jobs of a session. -/
def jobsFrom (b k : Int) : Nat → List Ent → List Job
  | _, [] => []
  | i, e :: es => if e.ses = k then ⟨(i : Int), takes b e.r, -1⟩ :: jobsFrom b k (i + 1) es else jobsFrom b k (i + 1) es
theorem jobsFrom_snoc (b k : Int) (e : Ent) : ∀ (es : List Ent) (i : Nat), jobsFrom b k i (es ++ [e]) = jobsFrom b k i es ++ (if e.ses = k then [⟨((i + es.length : Nat) : Int), takes b e.r, -1⟩] else [])
  | [], i => by simp only [List.nil_append, jobsFrom, List.length_nil, Nat.add_zero]
  | x :: es, i => by
    simp only [List.cons_append, jobsFrom, List.length_cons]
    have h := jobsFrom_snoc b k e es (i + 1)
    rw [h, show i + 1 + es.length = i + (es.length + 1) by omega]
    split <;> simp

/-- How many rows are not empty. -/
def countPos : List Nat → Nat
  | [] => 0
  | n :: ns => if 0 < n then countPos ns + 1 else countPos ns
/-- The index of the q-th row that is not empty, from k on; -1 if there is none. -/
def nthPos : Nat → List Nat → Nat → Int
  | _, [], _ => -1
  | q, n :: ns, k => if 0 < n then (if q = 0 then (k : Int) else nthPos (q - 1) ns (k + 1)) else nthPos q ns (k + 1)
/-- A number brought into 0 to n - 1. -/
def bring (p : Int) (n : Nat) : Int := (p.tmod n + n).tmod n
/-- The row that is picked. -/
def nextOf (lens : List Nat) (p : Int) : Int := if countPos lens = 0 then -1 else nthPos (bring p (countPos lens)).toNat lens 0

theorem countPos_append : ∀ (a b : List Nat), countPos (a ++ b) = countPos a + countPos b
  | [], b => by simp [countPos]
  | n :: a, b => by
    simp only [List.cons_append, countPos, countPos_append a b]
    split <;> omega
theorem countPos_le : ∀ (a : List Nat), countPos a ≤ a.length
  | [] => Nat.le_refl _
  | n :: a => by
    have := countPos_le a
    simp only [countPos, List.length_cons]
    split <;> omega

theorem bring_range (p : Int) (n : Nat) (h : 0 < n) : 0 ≤ bring p n ∧ bring p n < n := by
  unfold bring
  have h1 := Int.tmod_lt_of_pos p (show (0 : Int) < n by omega)
  have h2 : -(n : Int) < p.tmod n := by
    have := Int.lt_tmod_of_pos p (show (0 : Int) < n by omega)
    omega
  have h3 := Int.tmod_nonneg (n : Int) (show 0 ≤ p.tmod n + n by omega)
  have h4 := Int.tmod_lt_of_pos (p.tmod n + n) (show (0 : Int) < n by omega)
  omega
/-- One pick less for a job, begun if it had not begun. -/
def pick1 (i : Int) (j : Job) : Job := ⟨j.entry, j.left - 1, if j.start < 0 then i else j.start⟩
/-- The spans of the picks from number i on. -/
def runM : Nat → List (List Job) → List Int → List Spn → List Spn
  | _, _, [], out => out
  | i, rows, p :: ps, out =>
    if nextOf (rows.map List.length) p < 0 then out else
    match rows[(nextOf (rows.map List.length) p).toNat]? with
    | some (j :: js) =>
      if j.left - 1 = 0 then runM (i + 1) (rows.set (nextOf (rows.map List.length) p).toNat js) ps (out ++ [⟨j.entry, (pick1 i j).start, i⟩])
      else runM (i + 1) (rows.set (nextOf (rows.map List.length) p).toNat (pick1 i j :: js)) ps out
    | _ => out

theorem nthPos_spec : ∀ (ns : List Nat) (q k : Nat), nthPos q ns k = -1 ∨ ∃ (r n : Nat), nthPos q ns k = (k : Int) + r ∧ ns[r]? = some n ∧ 0 < n
  | [], q, k => Or.inl rfl
  | n :: ns, q, k => by
    unfold nthPos
    split
    · split
      · exact Or.inr ⟨0, n, by simp, by simp, by assumption⟩
      · rcases nthPos_spec ns (q - 1) (k + 1) with h | ⟨r, m, h1, h2, h3⟩
        · exact Or.inl h
        · exact Or.inr ⟨r + 1, m, by rw [h1]; push_cast; omega, by simpa using h2, h3⟩
    · rcases nthPos_spec ns q (k + 1) with h | ⟨r, m, h1, h2, h3⟩
      · exact Or.inl h
      · exact Or.inr ⟨r + 1, m, by rw [h1]; push_cast; omega, by simpa using h2, h3⟩
theorem nextOf_spec (rows : List (List Job)) (p : Int) : nextOf (rows.map List.length) p = -1 ∨ ∃ (r : Nat) (j : Job) (js : List Job), nextOf (rows.map List.length) p = (r : Int) ∧ rows[r]? = some (j :: js) := by
  unfold nextOf
  split
  · exact Or.inl rfl
  · rcases nthPos_spec (rows.map List.length) (bring p (countPos (rows.map List.length))).toNat 0 with h | ⟨r, n, h1, h2, h3⟩
    · exact Or.inl h
    · simp only [List.getElem?_map, Option.map_eq_some_iff] at h2
      obtain ⟨l, hl, rfl⟩ := h2
      cases l with
      | nil => simp at h3
      | cons j js => exact Or.inr ⟨r, j, js, by rw [h1]; simp, hl⟩

/-- The rows of n sessions. -/
def rowsOf (b : Int) (es : List Ent) (n : Nat) : List (List Job) := (List.range n).map fun (k : Nat) => jobsFrom b k 0 es
/-- Times: the spans and the number of the error. -/
def timesM (s b : Int) (es : List Ent) (ps : List Int) : List Spn × Int :=
  if 4096 < es.length ∨ 65536 < ps.length then ([], 3)
  else if s < 1 ∨ 64 < s ∨ b < 2 ∨ 4096 < b then ([], 2)
  else if es.all (fun e => decide (0 ≤ e.ses ∧ e.ses < s)) then (runM 0 (rowsOf b es s.toNat) ps [], 0) else ([], 6)

theorem rowsOf_length (b : Int) (es : List Ent) (n : Nat) : (rowsOf b es n).length = n := by simp [rowsOf]
theorem rowsOf_snoc {b : Int} {es : List Ent} {e : Ent} {n : Nat} {js : List Job} (h0 : 0 ≤ e.ses) (h1 : e.ses < n) (hj : (rowsOf b es n)[e.ses.toNat]? = some js) :
    rowsOf b (es ++ [e]) n = (rowsOf b es n).set e.ses.toNat (js ++ [⟨(es.length : Int), takes b e.r, -1⟩]) := by
  apply List.ext_getElem?
  intro k
  by_cases hk : k < n
  · have hr : ∀ l : List Ent, (rowsOf b l n)[k]? = some (jobsFrom b k 0 l) := fun l => by simp [rowsOf, hk]
    rw [hr, jobsFrom_snoc]
    by_cases e1 : e.ses.toNat = k
    · subst e1
      rw [List.getElem?_set_self (by simpa [rowsOf] using hk)]
      have := (hr es).symm.trans hj
      simp only [Option.some.injEq] at this
      rw [this, if_pos (by omega), Nat.zero_add]
    · rw [List.getElem?_set_ne e1, hr, if_neg (by omega), List.append_nil]
  · rw [List.getElem?_eq_none (by simp [rowsOf]; omega), List.getElem?_eq_none (by simp [rowsOf]; omega)]
theorem rowsOf_at {b : Int} {es : List Ent} {n k : Nat} {js : List Job} (h : (rowsOf b es n)[k]? = some js) : js = jobsFrom b k 0 es := by
  have hk : k < n := by have := (List.getElem?_eq_some_iff.1 h).1; simpa [rowsOf] using this
  simp [rowsOf, hk] at h
  exact h.symm
theorem jobsFrom_length (b k : Int) : ∀ (es : List Ent) (i : Nat), (jobsFrom b k i es).length ≤ es.length
  | [], _ => Nat.le_refl _
  | e :: es, i => by
    have := jobsFrom_length b k es (i + 1)
    unfold jobsFrom
    split <;> simp <;> omega

/-- The job is not over, and its number is no great one. -/
def JobOk (j : Job) : Prop := 1 ≤ j.left ∧ j.left ≤ 1099511627776
theorem takes_ok {b : Int} (r : Req) (hb : 2 ≤ b ∧ b ≤ 4096) : 1 ≤ takes b r ∧ takes b r ≤ 1099511627776 := by
  unfold takes picksOf
  repeat' split
  all_goals first
    | omega
    | (rename_i h
       have h1 : 2 * 1 ≤ b * (r.lim + 1) := Int.mul_le_mul hb.1 (by omega) (by omega) (by omega)
       have h2 : b * (r.lim + 1) ≤ 4096 * 4097 := Int.mul_le_mul hb.2 (by omega) (by omega) (by omega)
       omega)
theorem jobsFrom_ok {b : Int} (hb : 2 ≤ b ∧ b ≤ 4096) (k : Int) : ∀ (es : List Ent) (i : Nat), ∀ j ∈ jobsFrom b k i es, JobOk j
  | [], _, j, h => by simp [jobsFrom] at h
  | e :: es, i, j, h => by
    unfold jobsFrom at h
    split at h
    · rcases List.mem_cons.1 h with rfl | h
      · exact takes_ok e.r hb
      · exact jobsFrom_ok hb k es (i + 1) j h
    · exact jobsFrom_ok hb k es (i + 1) j h
/-- All jobs of all rows are fine. -/
def RowsOk (rows : List (List Job)) : Prop := ∀ js ∈ rows, ∀ j ∈ js, JobOk j
theorem RowsOk.at_ {rows : List (List Job)} {k : Nat} {j : Job} {js : List Job} (h : RowsOk rows) (hk : rows[k]? = some (j :: js)) : JobOk j := h _ (List.mem_of_getElem? hk) j (by simp)
theorem RowsOk.drop_ {rows : List (List Job)} {k : Nat} {j : Job} {js : List Job} (h : RowsOk rows) (hk : rows[k]? = some (j :: js)) : RowsOk (rows.set k js) := by
  intro l hl
  rcases List.mem_or_eq_of_mem_set hl with h1 | rfl
  · exact h l h1
  · exact fun x hx => h _ (List.mem_of_getElem? hk) x (by simp [hx])
theorem RowsOk.head_ {rows : List (List Job)} {k : Nat} {j j' : Job} {js : List Job} (h : RowsOk rows) (hk : rows[k]? = some (j :: js)) (hj : JobOk j') : RowsOk (rows.set k (j' :: js)) := by
  intro l hl
  rcases List.mem_or_eq_of_mem_set hl with h1 | rfl
  · exact h l h1
  · intro x hx
    rcases List.mem_cons.1 hx with rfl | hx
    · exact hj
    · exact h _ (List.mem_of_getElem? hk) x (by simp [hx])
theorem rowsOf_ok {b : Int} (hb : 2 ≤ b ∧ b ≤ 4096) (es : List Ent) (n : Nat) : RowsOk (rowsOf b es n) := by
  intro l hl
  simp only [rowsOf, List.mem_map] at hl
  obtain ⟨k, _, rfl⟩ := hl
  exact jobsFrom_ok hb k es 0
end Go.Proofs.Ytlmehmmdbdembaa
