/-
  Arguments of a slice type that are read as rows: slices of codes, of bytes, of requests.
-/
import Derived.Test.YtlmehmmdbdembaaOpenW
import Derived.Test.YtlmehmmdbdembaaHideOnlyW
namespace Go.Proofs.Ytlmehmmdbdembaa
open Go.ChangeShapes Go.WideShapes Go.ChangeAt Go.RowKit
set_option linter.unusedVariables false

section
variable {H : Type} {enc : TypeId × Value → H} {P : Program} {w : World} {base : Nat} {spare : Nat → Bool} {held : Bool}
theorem open_rows {r : Reach} {b0 : Nat} {t e : TypeId} {ls : List L0} {v : Value} {d : DataW H} {p : List MemPlace} (ht : P.underlying t = some (.slice e)) (hls : leaves P 9 e = some ls) (hC : P.cellsOf e = ls.length) (hpos : 0 < ls.length)
    (hv : Value.okWide P w r b0 t v) (h : DataW.Trod enc P w base spare held t v d p) :
    ∃ (A : Option Addr) (n cap : Nat) (rows : List (List Value)), v = .slice A n cap ∧ rows.length = n ∧ Reads w w.heap.size ls.length A n rows.flatten ∧ (∀ r ∈ rows, Flat ls r) ∧ n ≤ cap ∧ cap ≤ 9223372036854775807 := by
  obtain ⟨a, len, cap, rfl⟩ := okWide_slice ht hv
  obtain ⟨fuel, hf⟩ := h
  obtain ⟨A, n, cap', rows, hc, hs, hfl, _⟩ := open_flat_slice ht hls hC hpos hf
  simp only [Value.cells, List.cons.injEq, Value.slice.injEq, and_true] at hc
  obtain ⟨rfl, rfl, rfl⟩ := hc
  have h2 := hs.2.2.1
  unfold maxLen at h2
  exact ⟨_, _, _, rows, rfl, hs.1, hs.reads, hfl, hs.2.1, by omega⟩
end

def codLeaves : List L0 := [.int .u8, .int .u8, .int .u8, .int .u8, .int .u8, .int .u8]
theorem cods_of_rows : ∀ (rows : List (List Value)), (∀ r ∈ rows, Flat codLeaves r) → ∃ cs : List Cod, (∀ c ∈ cs, c.ok) ∧ cs.length = rows.length ∧ rows.flatten = cs.flatMap Cod.row
  | [], _ => ⟨[], by simp, rfl, rfl⟩
  | r :: rows, h => by
    obtain ⟨v1, c1, rfl, ⟨n1, rfl, k1⟩, h1⟩ := Flat.cons_inv (h r (by simp))
    obtain ⟨v2, c2, rfl, ⟨n2, rfl, k2⟩, h2⟩ := h1.cons_inv
    obtain ⟨v3, c3, rfl, ⟨n3, rfl, k3⟩, h3⟩ := h2.cons_inv
    obtain ⟨v4, c4, rfl, ⟨n4, rfl, k4⟩, h4⟩ := h3.cons_inv
    obtain ⟨v5, c5, rfl, ⟨n5, rfl, k5⟩, h5⟩ := h4.cons_inv
    obtain ⟨v6, c6, rfl, ⟨n6, rfl, k6⟩, h6⟩ := h5.cons_inv
    obtain rfl := h6.nil_inv
    obtain ⟨es, g1, g2, g3⟩ := cods_of_rows rows (fun x hx => h x (by simp [hx]))
    refine ⟨⟨n1, n2, n3, n4, n5, n6⟩ :: es, ?_, by simp [g2], by simp [g3, Cod.row]⟩
    intro x hx
    rcases List.mem_cons.1 hx with rfl | hx
    · exact ⟨wf_u8 k1, wf_u8 k2, wf_u8 k3, wf_u8 k4, wf_u8 k5, wf_u8 k6⟩
    · exact g1 x hx
theorem bytes_of_rows : ∀ (rows : List (List Value)), (∀ r ∈ rows, Flat [.int .u8] r) → ∃ ps : List Int, (∀ p ∈ ps, 0 ≤ p ∧ p ≤ 255) ∧ ps.length = rows.length ∧ rows.flatten = ps.flatMap brow
  | [], _ => ⟨[], by simp, rfl, rfl⟩
  | r :: rows, h => by
    obtain ⟨v1, c1, rfl, ⟨n1, rfl, k1⟩, h1⟩ := Flat.cons_inv (h r (by simp))
    obtain rfl := h1.nil_inv
    obtain ⟨ps, h1, h2, h3⟩ := bytes_of_rows rows (fun x hx => h x (by simp [hx]))
    refine ⟨n1 :: ps, ?_, by simp [h2], by simp [h3, brow]⟩
    intro x hx
    rcases List.mem_cons.1 hx with rfl | hx
    · exact wf_u8 k1
    · exact h1 x hx
theorem reqs_of_rows : ∀ (rows : List (List Value)), (∀ r ∈ rows, Flat reqLeaves r) → ∃ rs : List Req, (∀ r ∈ rs, r.ok) ∧ rs.length = rows.length ∧ rows.flatten = rs.flatMap Req.row
  | [], _ => ⟨[], by simp, rfl, rfl⟩
  | r :: rows, h => by
    obtain ⟨q, hq, rfl⟩ := req_of_flat (h r (by simp))
    obtain ⟨rs, h1, h2, h3⟩ := reqs_of_rows rows (fun x hx => h x (by simp [hx]))
    refine ⟨q :: rs, ?_, by simp [h2], by simp [h3]⟩
    intro x hx
    rcases List.mem_cons.1 hx with rfl | hx
    · exact hq
    · exact h1 x hx

section
variable {H : Type} {enc : TypeId × Value → H} {w : World} {base : Nat} {spare : Nat → Bool} {held : Bool}
theorem open_cods {r : Reach} {b0 : Nat} {v : Value} {d : DataW H} {p : List MemPlace} (hv : Value.okWide Try.prog w r b0 35 v) (h : DataW.Trod enc Try.prog w base spare held 35 v d p) :
    ∃ (A : Option Addr) (cap : Nat) (cs : List Cod), v = .slice A cs.length cap ∧ Reads w w.heap.size 6 A cs.length (cs.flatMap Cod.row) ∧ (∀ c ∈ cs, c.ok) ∧ cs.length ≤ cap ∧ cap ≤ 9223372036854775807 := by
  obtain ⟨A, n, cap, rows, rfl, hn, hr, hf, h1, h2⟩ := open_rows (ls := codLeaves) Try.underlying35 (by kernel_rfl) (by kernel_rfl) (by decide) hv h
  obtain ⟨cs, g1, g2, g3⟩ := cods_of_rows rows hf
  rw [g3] at hr
  obtain rfl : cs.length = n := by omega
  exact ⟨A, cap, cs, rfl, hr, g1, h1, h2⟩
theorem open_u8s {r : Reach} {b0 : Nat} {v : Value} {d : DataW H} {p : List MemPlace} (hv : Value.okWide Try.prog w r b0 36 v) (h : DataW.Trod enc Try.prog w base spare held 36 v d p) :
    ∃ (A : Option Addr) (cap : Nat) (bs : List Int), v = .slice A bs.length cap ∧ Reads w w.heap.size 1 A bs.length (bs.flatMap brow) ∧ (∀ b ∈ bs, 0 ≤ b ∧ b ≤ 255) ∧ bs.length ≤ cap ∧ cap ≤ 9223372036854775807 := by
  obtain ⟨A, n, cap, rows, rfl, hn, hr, hf, h1, h2⟩ := open_rows (ls := [.int .u8]) Try.underlying36 (by kernel_rfl) (by kernel_rfl) (by decide) hv h
  obtain ⟨cs, g1, g2, g3⟩ := bytes_of_rows rows hf
  rw [g3] at hr
  obtain rfl : cs.length = n := by omega
  exact ⟨A, cap, cs, rfl, hr, g1, h1, h2⟩
theorem open_reqs {r : Reach} {b0 : Nat} {v : Value} {d : DataW H} {p : List MemPlace} (hv : Value.okWide Try.prog w r b0 37 v) (h : DataW.Trod enc Try.prog w base spare held 37 v d p) :
    ∃ (A : Option Addr) (cap : Nat) (rs : List Req), v = .slice A rs.length cap ∧ Reads w w.heap.size 12 A rs.length (rs.flatMap Req.row) ∧ (∀ r ∈ rs, r.ok) ∧ rs.length ≤ cap ∧ cap ≤ 9223372036854775807 := by
  obtain ⟨A, n, cap, rows, rfl, hn, hr, hf, h1, h2⟩ := open_rows (ls := reqLeaves) Try.underlying37 (by kernel_rfl) (by kernel_rfl) (by decide) hv h
  obtain ⟨cs, g1, g2, g3⟩ := reqs_of_rows rows hf
  rw [g3] at hr
  obtain rfl : cs.length = n := by omega
  exact ⟨A, cap, cs, rfl, hr, g1, h1, h2⟩
end
end Go.Proofs.Ytlmehmmdbdembaa
