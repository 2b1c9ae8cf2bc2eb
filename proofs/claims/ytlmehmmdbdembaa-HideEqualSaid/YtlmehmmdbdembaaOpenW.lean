/-
  A script that came in, opened; lists of entries and of numbers that came in.
-/
import Derived.Test.YtlmehmmdbdembaaScriptW
namespace Go.Proofs.Ytlmehmmdbdembaa
open Go.ChangeShapes Go.WideShapes Go.ChangeAt Go.RowKit
set_option linter.unusedVariables false

theorem flatten_at {sz : Nat} : ∀ (rows : List (List Value)) (j : Nat) (u : Value), (∀ r ∈ rows, r.length = sz) → rows.flatten[j]? = some u → ∃ i cs r, rows[i]? = some cs ∧ cs[r]? = some u ∧ j = i * sz + r
  | [], j, u, _, h => by simp at h
  | r :: rows, j, u, hl, h => by
    have hr := hl r (by simp)
    rw [List.flatten_cons, List.getElem?_append] at h
    split at h
    · exact ⟨0, r, j, by simp, h, by omega⟩
    · rename_i hj
      obtain ⟨i, cs, k, h1, h2, h3⟩ := flatten_at rows (j - r.length) u (fun x hx => hl x (by simp [hx])) h
      exact ⟨i + 1, cs, k, by simpa using h1, h2, by rw [Nat.add_mul]; omega⟩
theorem flatten_len {sz : Nat} : ∀ (rows : List (List Value)), (∀ r ∈ rows, r.length = sz) → rows.flatten.length = rows.length * sz
  | [], _ => by simp
  | r :: rows, hl => by
    rw [List.flatten_cons, List.length_append, hl r (by simp), flatten_len rows (fun x hx => hl x (by simp [hx])), List.length_cons, Nat.add_mul]; omega
theorem SliceRows.reads {w : World} {A : Option Addr} {n cap sz : Nat} {rows : List (List Value)} (h : SliceRows w A n cap sz rows) : Reads w w.heap.size sz A n rows.flatten := by
  obtain ⟨h1, h2, h3, h4, h5, h6⟩ := h
  refine ⟨by rw [flatten_len rows h4, h1], fun hn => ?_⟩
  obtain ⟨a, ha, hb, hc⟩ := h6 0 rows[0] (List.getElem?_eq_getElem (by omega))
  refine ⟨a, ha, hb, fun j u hu => ?_⟩
  obtain ⟨i, cs, r, e1, e2, e3⟩ := flatten_at rows j u h4 hu
  obtain ⟨a', ha', _, hc'⟩ := h6 i cs e1
  rw [ha] at ha'
  simp only [Option.some.injEq] at ha'
  subst ha'
  rw [e3]
  exact hc' r u e2

def entLeaves : List L0 := .int .i64 :: reqLeaves
theorem ent_of_flat {cs : List Value} (h : Flat entLeaves cs) : ∃ e : Ent, (I64 e.ses ∧ e.r.ok) ∧ cs = e.row := by
  obtain ⟨v1, c1, rfl, ⟨n1, rfl, k1⟩, h1⟩ := Flat.cons_inv h
  obtain ⟨r, hr, rfl⟩ := req_of_flat h1
  exact ⟨⟨n1, r⟩, ⟨wf_i64 k1, hr⟩, rfl⟩
theorem ents_of_rows : ∀ (rows : List (List Value)), (∀ r ∈ rows, Flat entLeaves r) → ∃ es : List Ent, (∀ e ∈ es, I64 e.ses ∧ e.r.ok) ∧ es.length = rows.length ∧ rows.flatten = es.flatMap Ent.row
  | [], _ => ⟨[], by simp, rfl, rfl⟩
  | r :: rows, h => by
    obtain ⟨e, he, rfl⟩ := ent_of_flat (h r (by simp))
    obtain ⟨es, h1, h2, h3⟩ := ents_of_rows rows (fun x hx => h x (by simp [hx]))
    refine ⟨e :: es, ?_, by simp [h2], by simp [h3]⟩
    intro x hx
    rcases List.mem_cons.1 hx with rfl | hx
    · exact he
    · exact h1 x hx
theorem ints_of_rows : ∀ (rows : List (List Value)), (∀ r ∈ rows, Flat [.int .i64] r) → ∃ ps : List Int, (∀ p ∈ ps, I64 p) ∧ ps.length = rows.length ∧ rows.flatten = ps.flatMap irow
  | [], _ => ⟨[], by simp, rfl, rfl⟩
  | r :: rows, h => by
    obtain ⟨v1, c1, rfl, ⟨n1, rfl, k1⟩, h1⟩ := Flat.cons_inv (h r (by simp))
    obtain rfl := h1.nil_inv
    obtain ⟨ps, h1, h2, h3⟩ := ints_of_rows rows (fun x hx => h x (by simp [hx]))
    refine ⟨n1 :: ps, ?_, by simp [h2], by simp [h3, irow]⟩
    intro x hx
    rcases List.mem_cons.1 hx with rfl | hx
    · exact wf_i64 k1
    · exact h1 x hx

section
variable {H : Type} {enc : TypeId × Value → H} {w : World} {base : Nat} {spare : Nat → Bool} {held : Bool}
theorem open_ents {fuel : Nat} {cs : List Value} {x : DataW H × List MemPlace} (h : DataW.trod enc Try.prog w base spare held fuel 38 cs = some x) :
    ∃ (A : Option Addr) (c : Nat) (es : List Ent), cs = [.slice A es.length c] ∧ Reads w w.heap.size 13 A es.length (es.flatMap Ent.row) ∧ es.length ≤ 9223372036854775807 ∧ ∀ e ∈ es, I64 e.ses ∧ e.r.ok := by
  obtain ⟨A, n, cap, rows, rfl, hs, hf, _⟩ := open_flat_slice (ls := entLeaves) Try.underlying38 (by kernel_rfl) (by kernel_rfl) (by decide) h
  obtain ⟨es, h1, h2, h3⟩ := ents_of_rows rows hf
  have hr := hs.reads
  have hn : es.length = n := by rw [h2, hs.1]
  subst hn
  rw [h3] at hr
  have hle := Nat.le_trans hs.2.1 hs.2.2.1
  unfold maxLen at hle
  exact ⟨A, cap, es, rfl, hr, by omega, h1⟩
theorem open_nums {fuel : Nat} {cs : List Value} {x : DataW H × List MemPlace} (h : DataW.trod enc Try.prog w base spare held fuel 39 cs = some x) :
    ∃ (A : Option Addr) (c : Nat) (ps : List Int), cs = [.slice A ps.length c] ∧ Reads w w.heap.size 1 A ps.length (ps.flatMap irow) ∧ ps.length ≤ 9223372036854775807 ∧ ∀ p ∈ ps, I64 p := by
  obtain ⟨A, n, cap, rows, rfl, hs, hf, _⟩ := open_flat_slice (ls := [.int .i64]) Try.underlying39 (by kernel_rfl) (by kernel_rfl) (by decide) h
  obtain ⟨ps, h1, h2, h3⟩ := ints_of_rows rows hf
  have hr := hs.reads
  have hn : ps.length = n := by rw [h2, hs.1]
  subst hn
  rw [h3] at hr
  have hle := Nat.le_trans hs.2.1 hs.2.2.1
  unfold maxLen at hle
  exact ⟨A, cap, ps, rfl, hr, by omega, h1⟩
/-- A script, by value. -/
theorem open_script {r : Reach} {b0 : Nat} {v : Value} {d : DataW H} {p : List MemPlace} (hv : Value.okWide Try.prog w r b0 41 v) (h : DataW.Trod enc Try.prog w base spare held 41 v d p) :
    ∃ (A B : Option Addr) (c c' : Nat) (es : List Ent) (ps : List Int), v = .agg #[.slice A es.length c, .slice B ps.length c'] ∧ Reads w w.heap.size 13 A es.length (es.flatMap Ent.row) ∧ Reads w w.heap.size 1 B ps.length (ps.flatMap irow) ∧
      es.length ≤ 9223372036854775807 ∧ ps.length ≤ 9223372036854775807 ∧ (∀ e ∈ es, I64 e.ses ∧ e.r.ok) ∧ ∀ p ∈ ps, I64 p := by
  obtain ⟨cs, rfl, hsz⟩ := okWide_struct Try.underlying41 hv
  obtain ⟨l⟩ := cs
  have hC : Try.prog.cellsOf 41 = 2 := by kernel_rfl
  have hC1 : Try.prog.cellsOf 38 = 1 := by kernel_rfl
  have hC2 : Try.prog.cellsOf 39 = 1 := by kernel_rfl
  match l, hsz.trans hC with
  | [c0, c1], _ =>
    obtain ⟨fuel, hf⟩ := h
    obtain ⟨xs, n, _, hx, _, hlen, hg⟩ := DataW.trod_struct Try.underlying41 hf
    match xs, hlen with
    | [y0, y1], _ =>
      have g0 := hg 0 _ rfl
      have g1 := hg 1 _ rfl
      simp [Value.cells, hC1, hC2] at g0 g1
      obtain ⟨A, c, es, e1, e2, e3, e4⟩ := open_ents g0
      obtain ⟨B, c', ps, f1, f2, f3, f4⟩ := open_nums g1
      injection e1 with e1 _
      injection f1 with f1 _
      subst e1 f1
      exact ⟨A, B, c, c', es, ps, rfl, e2, f2, e3, f3, e4, f4⟩
end
end Go.Proofs.Ytlmehmmdbdembaa
