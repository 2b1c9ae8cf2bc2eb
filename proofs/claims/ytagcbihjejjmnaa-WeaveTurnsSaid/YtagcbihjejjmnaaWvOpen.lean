/-
  A list of numbers that came in.
-/
import Derived.Test.YtagcbihjejjmnaaWvT2
namespace Go.Proofs.Ytagcbihjejjmnaa
open Go.ChangeShapes Go.WideShapes Go.ChangeAt Go.RowKit
set_option linter.unusedVariables false

theorem flatten_at {sz : Nat} : ∀ (rows : List (List Value)) (j : Nat) (u : Value), (∀ r ∈ rows, r.length = sz) → rows.flatten[j]? = some u → ∃ i cs r, rows[i]? = some cs ∧ cs[r]? = some u ∧ j = i * sz + r
  | [], j, u, _, h => by simp at h
  | r :: rows, j, u, hl, h => by
    have hr := hl r (by simp)
    rw [List.flatten_cons, List.getElem?_append] at h
    split at h
    · exact ⟨0, r, j, by simp, h, by omega⟩
    · rename_i hj
      obtain ⟨i, cs, k, h1, h2, h3⟩ := flatten_at rows (j - r.length) u (fun x hx => hl x (by simp [hx])) h
      exact ⟨i + 1, cs, k, by simpa using h1, h2, by rw [Nat.add_mul]; omega⟩
theorem flatten_len {sz : Nat} : ∀ (rows : List (List Value)), (∀ r ∈ rows, r.length = sz) → rows.flatten.length = rows.length * sz
  | [], _ => by simp
  | r :: rows, hl => by
    rw [List.flatten_cons, List.length_append, hl r (by simp), flatten_len rows (fun x hx => hl x (by simp [hx])), List.length_cons, Nat.add_mul]; omega
theorem SliceRows.reads {w : World} {A : Option Addr} {n cap sz : Nat} {rows : List (List Value)} (h : SliceRows w A n cap sz rows) : Reads w w.heap.size sz A n rows.flatten := by
  obtain ⟨h1, h2, h3, h4, h5, h6⟩ := h
  refine ⟨by rw [flatten_len rows h4, h1], fun hn => ?_⟩
  obtain ⟨a, ha, hb, hc⟩ := h6 0 rows[0] (List.getElem?_eq_getElem (by omega))
  refine ⟨a, ha, hb, fun j u hu => ?_⟩
  obtain ⟨i, cs, r, e1, e2, e3⟩ := flatten_at rows j u h4 hu
  obtain ⟨a', ha', _, hc'⟩ := h6 i cs e1
  rw [ha] at ha'
  simp only [Option.some.injEq] at ha'
  subst ha'
  rw [e3]
  exact hc' r u e2

section
variable {H : Type} {enc : TypeId × Value → H} {P : Program} {w : World} {base : Nat} {spare : Nat → Bool} {held : Bool}
theorem open_rows {r : Reach} {b0 : Nat} {t e : TypeId} {ls : List L0} {v : Value} {d : DataW H} {p : List MemPlace} (ht : P.underlying t = some (.slice e)) (hls : leaves P 9 e = some ls) (hC : P.cellsOf e = ls.length) (hpos : 0 < ls.length)
    (hv : Value.okWide P w r b0 t v) (h : DataW.Trod enc P w base spare held t v d p) :
    ∃ (A : Option Addr) (n cap : Nat) (rows : List (List Value)), v = .slice A n cap ∧ rows.length = n ∧ Reads w w.heap.size ls.length A n rows.flatten ∧ (∀ r ∈ rows, Flat ls r) ∧ n ≤ cap ∧ cap ≤ 9223372036854775807 := by
  obtain ⟨a, len, cap, rfl⟩ := okWide_slice ht hv
  obtain ⟨fuel, hf⟩ := h
  obtain ⟨A, n, cap', rows, hc, hs, hfl, _⟩ := open_flat_slice ht hls hC hpos hf
  simp only [Value.cells, List.cons.injEq, Value.slice.injEq, and_true] at hc
  obtain ⟨rfl, rfl, rfl⟩ := hc
  have h2 := hs.2.2.1
  unfold maxLen at h2
  exact ⟨_, _, _, rows, rfl, hs.1, hs.reads, hfl, hs.2.1, by omega⟩
end

theorem wf_i64w {n : Int} (h : (Lit.int .i64 n).wf = true) : -9223372036854775808 ≤ n ∧ n ≤ 9223372036854775807 := by
  simpa [Lit.wf, IntKind.min, IntKind.max, IntKind.signed, IntKind.bits] using h
theorem ints_of_rows : ∀ (rows : List (List Value)), (∀ r ∈ rows, Flat [.int .i64] r) → ∃ l : List Int, l.length = rows.length ∧ rows.flatten = l.map intZ
  | [], _ => ⟨[], rfl, rfl⟩
  | r :: rows, h => by
    obtain ⟨v1, c1, rfl, ⟨n1, rfl, k1⟩, h1⟩ := Flat.cons_inv (h r (by simp))
    obtain rfl := h1.nil_inv
    obtain ⟨l, h2, h3⟩ := ints_of_rows rows (fun x hx => h x (by simp [hx]))
    exact ⟨n1 :: l, by simp [h2], by simp [h3, intZ]⟩
section
variable {H : Type} {enc : TypeId × Value → H} {w : World} {base : Nat} {spare : Nat → Bool} {held : Bool}
set_option maxRecDepth 100000 in
theorem open_intsW {r : Reach} {b0 : Nat} {v : Value} {d : DataW H} {p : List MemPlace} (hv : Value.okWide Try.prog w r b0 22 v) (h : DataW.Trod enc Try.prog w base spare held 22 v d p) :
    ∃ (A : Option Addr) (cap : Nat) (l : List Int), v = .slice A l.length cap ∧ Reads w w.heap.size 1 A l.length (l.map intZ) ∧ l.length ≤ cap ∧ cap ≤ 9223372036854775807 := by
  obtain ⟨A, n, cap, rows, rfl, hn, hr, hf, h1, h2⟩ := open_rows (ls := [.int .i64]) Try.underlying22 (by kernel_rfl) (by kernel_rfl) (by decide) hv h
  obtain ⟨l, g1, g2⟩ := ints_of_rows rows hf
  rw [g2] at hr
  obtain rfl : l.length = n := by omega
  exact ⟨A, cap, l, rfl, hr, h1, h2⟩
end
end Go.Proofs.Ytagcbihjejjmnaa
