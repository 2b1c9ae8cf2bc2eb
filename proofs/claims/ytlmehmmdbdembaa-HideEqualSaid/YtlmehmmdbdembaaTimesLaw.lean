/-
  The plain law of HideTimes: the two models of Times are one.
-/
import Derived.Test.YtlmehmmdbdembaaRefM
namespace Go.Proofs.Ytlmehmmdbdembaa
open Go.RowKit
set_option linter.unusedVariables false

/-- The jobs of a session that are not over, by what each entry has had. -/
def liveFrom (b k : Int) : Nat → List Ent → List Int → List Int → List Job
  | i, e :: es, h :: hs, f :: fs => if e.ses = k ∧ h < takes b e.r then ⟨(i : Int), takes b e.r - h, if h = 0 then -1 else f⟩ :: liveFrom b k (i + 1) es hs fs else liveFrom b k (i + 1) es hs fs
  | _, _, _, _ => []
def headE : List Job → Option Int
  | [] => none
  | j :: _ => some j.entry

theorem live_zero {b : Int} (hb : 2 ≤ b ∧ b ≤ 4096) (k : Int) : ∀ (es : List Ent) (i : Nat), liveFrom b k i es (List.replicate es.length 0) (List.replicate es.length 0) = jobsFrom b k i es
  | [], i => rfl
  | e :: es, i => by
    have := takes_ok e.r hb
    simp only [List.length_cons, List.replicate_succ, liveFrom, jobsFrom, live_zero hb k es (i + 1)]
    by_cases h : e.ses = k
    · rw [if_pos ⟨h, by omega⟩, if_pos h]; simp
    · rw [if_neg (fun x => h x.1), if_neg h]
theorem cur_live (b k : Int) : ∀ (es : List Ent) (hs fs : List Int) (i : Nat), hs.length = es.length → fs.length = es.length →
    curFrom b k i es hs = match headE (liveFrom b k i es hs fs) with | none => -1 | some c => c
  | [], hs, fs, i, _, _ => by simp [curFrom, liveFrom, headE]
  | e :: es, [], fs, i, h, _ => by simp at h
  | e :: es, h :: hs, [], i, _, h2 => by simp at h2
  | e :: es, h :: hs, f :: fs, i, h1, h2 => by
    simp only [curFrom, liveFrom]
    split
    · rfl
    · exact cur_live b k es hs fs (i + 1) (by simpa using h1) (by simpa using h2)
theorem live_entry (b k : Int) : ∀ (es : List Ent) (hs fs : List Int) (i : Nat), ∀ j ∈ liveFrom b k i es hs fs, (i : Int) ≤ j.entry
  | [], hs, fs, i, j, h => by simp [liveFrom] at h
  | e :: es, [], fs, i, j, h => by simp [liveFrom] at h
  | e :: es, x :: hs, [], i, j, h => by simp [liveFrom] at h
  | e :: es, x :: hs, f :: fs, i, j, h => by
    simp only [liveFrom] at h
    split at h
    · rcases List.mem_cons.1 h with rfl | h
      · exact Int.le_refl _
      · have := live_entry b k es hs fs (i + 1) j h; omega
    · have := live_entry b k es hs fs (i + 1) j h; omega
/-- The head of a row: which entry it is; what becomes of the row. -/
theorem live_step (b k : Int) : ∀ (es : List Ent) (hs fs : List Int) (i : Nat) (j : Job) (js : List Job), hs.length = es.length → fs.length = es.length → liveFrom b k i es hs fs = j :: js →
    ∃ (d : Nat) (e : Ent) (h f : Int), es[d]? = some e ∧ hs[d]? = some h ∧ fs[d]? = some f ∧ e.ses = k ∧ h < takes b e.r ∧ j = ⟨((i + d : Nat) : Int), takes b e.r - h, if h = 0 then -1 else f⟩ ∧
      ∀ f', liveFrom b k i es (hs.set d (h + 1)) (fs.set d f') = if h + 1 < takes b e.r then ⟨((i + d : Nat) : Int), takes b e.r - (h + 1), if h + 1 = 0 then -1 else f'⟩ :: js else js
  | [], hs, fs, i, j, js, _, _, h => by simp [liveFrom] at h
  | e :: es, [], fs, i, j, js, h1, _, _ => by simp at h1
  | e :: es, h :: hs, [], i, j, js, _, h2, _ => by simp at h2
  | e :: es, h :: hs, f :: fs, i, j, js, h1, h2, hj => by
    simp only [liveFrom] at hj
    split at hj
    · rename_i hc
      simp only [List.cons.injEq] at hj
      obtain ⟨rfl, rfl⟩ := hj
      refine ⟨0, e, h, f, rfl, rfl, rfl, hc.1, hc.2, rfl, fun f' => ?_⟩
      simp only [List.set_cons_zero, liveFrom, Nat.add_zero]
      by_cases hh : h + 1 < takes b e.r
      · rw [if_pos ⟨hc.1, hh⟩, if_pos hh]
      · rw [if_neg (fun x => hh x.2), if_neg hh]
    · rename_i hc
      obtain ⟨d, e', h', f', g1, g2, g3, g4, g5, g6, g7⟩ := live_step b k es hs fs (i + 1) j js (by simpa using h1) (by simpa using h2) hj
      refine ⟨d + 1, e', h', f', by simpa using g1, by simpa using g2, by simpa using g3, g4, g5, by rw [g6, show i + 1 + d = i + (d + 1) by omega], fun y => ?_⟩
      simp only [List.set_cons_succ, liveFrom]
      rw [if_neg hc, g7 y, show i + 1 + d = i + (d + 1) by omega]
/-- The other rows stay. -/
theorem live_other (b k : Int) (x y : Int) : ∀ (es : List Ent) (hs fs : List Int) (i d : Nat) (e : Ent), es[d]? = some e → e.ses ≠ k → liveFrom b k i es (hs.set d x) (fs.set d y) = liveFrom b k i es hs fs
  | [], hs, fs, i, d, e, h, _ => by simp at h
  | e :: es, [], fs, i, d, e', _, _ => by simp [liveFrom]
  | e :: es, h :: hs, [], i, d, e', _, _ => by simp [liveFrom]
  | e :: es, h :: hs, f :: fs, i, 0, e', he, hk => by
    simp only [List.getElem?_cons_zero, Option.some.injEq] at he
    subst he
    simp only [List.set_cons_zero, liveFrom]
    rw [if_neg (fun z => hk z.1), if_neg (fun z => hk z.1)]
  | e :: es, h :: hs, f :: fs, i, d + 1, e', he, hk => by
    simp only [List.set_cons_succ, liveFrom]
    rw [live_other b k x y es hs fs (i + 1) d e' (by simpa using he) hk]

/-- The rows by what each entry has had. -/
def rowsL (b : Int) (es : List Ent) (had frm : List Int) (n : Nat) : List (List Job) := (List.range n).map fun (k : Nat) => liveFrom b k 0 es had frm
theorem can_rows (b : Int) (es : List Ent) (had frm : List Int) (h1 : had.length = es.length) (h2 : frm.length = es.length) : ∀ n, canM b es had n = (rowsL b es had frm n).filterMap headE
  | 0 => rfl
  | n + 1 => by
    have ih := can_rows b es had frm h1 h2 n
    unfold rowsL at ih ⊢
    rw [List.range_succ, List.map_append, List.filterMap_append, ← ih, canM]
    congr 1
    rw [cur_live b n es had frm 0 h1 h2]
    cases hl : liveFrom b n 0 es had frm with
    | nil => simp [headE, hl]
    | cons j js =>
      have hj := live_entry b n es had frm 0 j (by rw [hl]; simp)
      have hj2 : 0 ≤ j.entry := by simpa using hj
      simp [headE, hl, hj2, List.filterMap_cons]
theorem heads_len : ∀ (rows : List (List Job)), (rows.filterMap headE).length = countPos (rows.map List.length)
  | [] => rfl
  | [] :: rows => by simp [headE, countPos, heads_len rows, List.filterMap_cons]
  | (j :: js) :: rows => by simp [headE, countPos, heads_len rows, List.filterMap_cons]
theorem heads_at : ∀ (rows : List (List Job)) (q k : Nat), q < countPos (rows.map List.length) → ∃ r j js, nthPos q (rows.map List.length) k = ((k + r : Nat) : Int) ∧ rows[r]? = some (j :: js) ∧ (rows.filterMap headE)[q]? = some j.entry
  | [], q, k, h => by simp [countPos] at h
  | [] :: rows, q, k, h => by
    obtain ⟨r, j, js, h1, h2, h3⟩ := heads_at rows q (k + 1) (by simpa [countPos] using h)
    exact ⟨r + 1, j, js, by simp only [List.map_cons, nthPos, List.length_nil]; rw [if_neg (by omega), h1]; congr 1; omega, by simpa using h2, by simpa [headE, List.filterMap_cons] using h3⟩
  | (j :: js) :: rows, 0, k, h => ⟨0, j, js, by simp [nthPos], by simp, by simp [headE, List.filterMap_cons]⟩
  | (j :: js) :: rows, q + 1, k, h => by
    obtain ⟨r, j', js', h1, h2, h3⟩ := heads_at rows q (k + 1) (by simp [countPos] at h; omega)
    exact ⟨r + 1, j', js', by simp only [List.map_cons, nthPos, List.length_cons]; rw [if_pos (by omega), if_neg (by omega), Nat.add_sub_cancel, h1]; congr 1; omega, by simpa using h2, by simpa [headE, List.filterMap_cons] using h3⟩

/-- The two runs are one. -/
theorem run_eq (b : Int) (es : List Ent) (n : Nat) : ∀ (ps : List Int) (i : Nat) (had frm : List Int) (out : List Spn), had.length = es.length → frm.length = es.length → (∀ h ∈ had, 0 ≤ h) → (∀ f ∈ frm, 0 ≤ f) →
    runM i (rowsL b es had frm n) ps out = refRun b es n i had frm ps out
  | [], i, had, frm, out, _, _, _, _ => rfl
  | p :: ps, i, had, frm, out, h1, h2, h3, h4 => by
    have hc := can_rows b es had frm h1 h2 n
    have hl : (canM b es had n).length = countPos ((rowsL b es had frm n).map List.length) := by rw [hc, heads_len]
    by_cases h0 : (canM b es had n).length = 0
    · rw [refRun_none h0, runM, if_pos (by unfold nextOf; rw [if_pos (by omega)]; omega)]
    · have hbr := bring_range p _ (Nat.pos_of_ne_zero h0)
      obtain ⟨r, j, js, g1, g2, g3⟩ := heads_at (rowsL b es had frm n) (bring p (canM b es had n).length).toNat 0 (by omega)
      have hr : r < n := by have := (List.getElem?_eq_some_iff.1 g2).1; simpa [rowsL] using this
      have hlive : liveFrom b r 0 es had frm = j :: js := by simpa [rowsL, hr] using g2
      obtain ⟨d, e, h, f, e1, e2, e3, e4, e5, e6, e7⟩ := live_step b r es had frm 0 j js h1 h2 hlive
      have hnx : nextOf ((rowsL b es had frm n).map List.length) p = (r : Int) := by
        unfold nextOf
        rw [if_neg (by omega), ← hl, g1]
        simp
      have hh := h3 h (List.mem_of_getElem? e2)
      have hf := h4 f (List.mem_of_getElem? e3)
      have hje : j.entry = (d : Int) := by rw [e6]; simp
      have hst := refRun_step (b := b) (es := es) (n := n) (i := i) (had := had) (frm := frm) (p := p) (ps := ps) (out := out) (c := j.entry) (h := h) (f := f) (e := e) (Nat.pos_of_ne_zero h0) (by rw [hc] at g3 ⊢; exact g3) (by rw [hje]; simpa using e1) (by rw [hje]; simpa using e2) (by rw [hje]; simpa using e3)
      rw [hst, runM, if_neg (by rw [hnx]; omega)]
      simp only [hnx, Int.toNat_natCast, g2]
      have hstart : (pick1 (i : Int) j).start = if h = 0 then (i : Int) else f := by
        rw [e6]
        simp only [pick1]
        by_cases hz : h = 0
        · simp [hz]
        · rw [if_neg hz, if_neg (by omega), if_neg hz]
      have hdl : d < had.length := (List.getElem?_eq_some_iff.1 e2).1
      have hrows : ∀ (x y : Int) (l : List Job), liveFrom b r 0 es (had.set d x) (frm.set d y) = l → (rowsL b es had frm n).set r l = rowsL b es (had.set d x) (frm.set d y) n := by
        intro x y l hl2
        apply List.ext_getElem?
        intro k
        by_cases hk : k < n
        · have hg : ∀ a c, (rowsL b es a c n)[k]? = some (liveFrom b k 0 es a c) := fun a c => by simp [rowsL, hk]
          by_cases hkr : r = k
          · subst hkr
            rw [List.getElem?_set_self (by simpa [rowsL] using hk), hg, hl2]
          · rw [List.getElem?_set_ne hkr, hg, hg, live_other b k x y es had frm 0 d e e1 (by rw [e4]; omega)]
        · rw [List.getElem?_eq_none (by simp [rowsL]; omega), List.getElem?_eq_none (by simp [rowsL]; omega)]
      have hhs : ∀ y ∈ had.set d (h + 1), 0 ≤ y := by
        intro y hy
        rcases List.mem_or_eq_of_mem_set hy with z | rfl
        · exact h3 y z
        · omega
      have hfs : ∀ y ∈ frm.set d (if h = 0 then (i : Int) else f), 0 ≤ y := by
        intro y hy
        rcases List.mem_or_eq_of_mem_set hy with z | rfl
        · exact h4 y z
        · split <;> omega
      have hjn : j.entry.toNat = d := by rw [hje]; simp
      have hleft : j.left = takes b e.r - h := by rw [e6]
      rw [hjn]
      by_cases hz : h + 1 = takes b e.r
      · rw [if_pos hz, if_pos (by omega), hstart, hrows (h + 1) (if h = 0 then (i : Int) else f) js (by rw [e7, if_neg (by omega)])]
        exact run_eq b es n ps (i + 1) _ _ _ (by simpa using h1) (by simpa using h2) hhs hfs
      · rw [if_neg hz, if_neg (by omega), hrows (h + 1) (if h = 0 then (i : Int) else f) (pick1 i j :: js) (by
          rw [e7, if_pos (by omega)]
          congr 1
          rw [show pick1 (i : Int) j = ⟨j.entry, j.left - 1, (pick1 (i : Int) j).start⟩ from rfl, hstart, e6]
          simp only
          rw [if_neg (by omega)]
          congr 1
          omega)]
        exact run_eq b es n ps (i + 1) _ _ _ (by simpa using h1) (by simpa using h2) hhs hfs

theorem times_same (s b : Int) (es : List Ent) (ps : List Int) : refTimesM s b es ps = timesM s b es ps := by
  unfold refTimesM timesM
  split
  · rfl
  · split
    · rfl
    · rename_i h1 h2
      split
      · have hz : rowsL b es (List.replicate es.length 0) (List.replicate es.length 0) s.toNat = rowsOf b es s.toNat := by
          unfold rowsL rowsOf
          apply List.map_congr_left
          intro k hk
          exact live_zero (by omega) k es 0
        rw [← hz, run_eq b es s.toNat ps 0 _ _ [] (by simp) (by simp) (fun h hm => by rw [(List.mem_replicate.1 hm).2]; simp) (fun h hm => by rw [(List.mem_replicate.1 hm).2]; simp)]
      · rfl
end Go.Proofs.Ytlmehmmdbdembaa
