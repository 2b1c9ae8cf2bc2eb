/-
  Layer 7: a slice of operations that came in.
-/
import Derived.Test.YtmcpfhhggapkcaaFewF1
import Derived.Test.YtmcpfhhggapkcaaFewOpen
namespace Go.Proofs.Ytmcpfhhggapkcaa
open Go.ChangeShapes Go.WideShapes Go.ChangeAt Go.RowKit
set_option linter.unusedVariables false

def dedLeaves : List L0 := [.int .i64, .int .u8, .int .i64, .int .i64, .int .u32]
theorem ded_of_flat {cs : List Value} (h : Flat dedLeaves cs) : ∃ d : Ded, d.ok ∧ cs = d.row := by
  obtain ⟨v1, c1, rfl, ⟨n1, rfl, k1⟩, g1⟩ := Flat.cons_inv h
  obtain ⟨v2, c2, rfl, ⟨n2, rfl, k2⟩, g2⟩ := Flat.cons_inv g1
  obtain ⟨v3, c3, rfl, ⟨n3, rfl, k3⟩, g3⟩ := Flat.cons_inv g2
  obtain ⟨v4, c4, rfl, ⟨n4, rfl, k4⟩, g4⟩ := Flat.cons_inv g3
  obtain ⟨v5, c5, rfl, ⟨n5, rfl, k5⟩, g5⟩ := Flat.cons_inv g4
  obtain rfl := g5.nil_inv
  obtain ⟨b, rfl, hb⟩ := nat_u8 k2
  have h1 : -9223372036854775808 ≤ n1 ∧ n1 ≤ 9223372036854775807 := by simpa [Lit.wf, IntKind.min, IntKind.max, IntKind.signed, IntKind.bits] using k1
  exact ⟨⟨n1, b, n3, (n4, n5)⟩, ⟨hb, h1.1, h1.2⟩, rfl⟩
theorem deds_of_rows : ∀ (rows : List (List Value)), (∀ r ∈ rows, Flat dedLeaves r) → ∃ ds : List Ded, (∀ d ∈ ds, d.ok) ∧ ds.length = rows.length ∧ rows.flatten = ds.flatMap Ded.row
  | [], _ => ⟨[], by simp, rfl, rfl⟩
  | r :: rows, h => by
    obtain ⟨d, hd, rfl⟩ := ded_of_flat (h r (by simp))
    obtain ⟨ds, h1, h2, h3⟩ := deds_of_rows rows (fun x hx => h x (by simp [hx]))
    refine ⟨d :: ds, ?_, by simp [h2], by simp [h3]⟩
    intro x hx
    rcases List.mem_cons.1 hx with rfl | hx
    · exact hd
    · exact h1 x hx
section
variable {H : Type} {enc : TypeId × Value → H} {w : World} {base : Nat} {spare : Nat → Bool} {held : Bool}
theorem open_deds {r : Reach} {b0 : Nat} {v : Value} {d : DataW H} {p : List MemPlace} (hv : Value.okWide Try.prog w r b0 48 v) (h : DataW.Trod enc Try.prog w base spare held 48 v d p) :
    ∃ (A : Option Addr) (cap : Nat) (ds : List Ded), v = .slice A ds.length cap ∧ Reads w w.heap.size 5 A ds.length (ds.flatMap Ded.row) ∧ (∀ d ∈ ds, d.ok) ∧ ds.length ≤ cap ∧ cap ≤ 9223372036854775807 := by
  obtain ⟨A, n, cap, rows, rfl, hn, hr, hf, h1, h2⟩ := open_rows (ls := dedLeaves) Try.underlying48 (by kernel_rfl) (by kernel_rfl) (by decide) hv h
  obtain ⟨cs, g1, g2, g3⟩ := deds_of_rows rows hf
  rw [g3] at hr
  obtain rfl : cs.length = n := by omega
  exact ⟨A, cap, cs, rfl, hr, g1, h1, h2⟩
end
end Go.Proofs.Ytmcpfhhggapkcaa
