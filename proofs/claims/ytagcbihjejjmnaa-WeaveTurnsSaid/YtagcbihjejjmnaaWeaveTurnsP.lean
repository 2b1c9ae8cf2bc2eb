/-
  WeaveTurns: for every input the call returns true, and what was there stays as it was. No condition.
-/
import Derived.Test.YtagcbihjejjmnaaWvT6
import Derived.Test.YtagcbihjejjmnaaWvOpen
namespace Go.Proofs.Ytagcbihjejjmnaa.weaveTurnsLaw
open Go.ChangeShapes Go.WideShapes Go.ChangeAt Go.RowKit
set_option linter.unusedVariables false

theorem own : ownKnob Try.prog.godebug = none := by kernel_rfl
theorem laid : laidOutB Try.prog = true := by kernel_rfl

set_option maxRecDepth 100000 in
theorem lifted (os : Os) (started : os.Started) (H : Type) (enc : TypeId × Value → H) :
    ReturnsInHanded {} Try.checked os 3 .any (Rows.weaveTurnsSpec.pre6 enc Try.prog Try.f3 Rows.weaveTurnsRow.domain false) (Rows.weaveTurnsSpec.post enc Try.prog Try.f3 false true false false) := by
  refine returnsInHanded_of_change (C := Try.checked) own started (by kernel_rfl) Try.func3
    (ChangeSpec.witness6 (enc := enc) (C := Try.checked) false ⟨#[], #[.slice none 0 0, .slice none 0 0, .slice none 0 0], []⟩ 8 (by kernel_rfl) (by kernel_rfl) (by kernel_rfl) (by kernel_rfl)) ?_
  intro W base args ds gs before hval0 hW hcnd _
  refine law_post (fn := Try.f3) (s := Rows.weaveTurnsSpec) (n := 3) (tb := 4) laid rfl rfl Try.underlying4 (by kernel_rfl) (fun h => ?_) hW ?_
  · match ds, h with
    | [d0, d1, d2], _ => rfl
  · have hval : ∀ (j : Nat) t v, Try.f3.params[j]? = some t → args[j]? = some v → Value.okWide Try.prog W .any base t v := hval0
    obtain ⟨p, q, hA0, hV, rfl, hfz, hnd⟩ := hW
    have hA : DataW.TrodAll enc Try.prog W 0 (fun _ => true) true Try.f3.params.toList args.toList ds p := hA0
    rw [Try.params3] at hA hval
    obtain ⟨v0, vs0, d0, ds0, p0, q0, hargs, rfl, rfl, h0, r0⟩ := trodAll_cons hA
    obtain ⟨v1, vs1, d1, ds1, p1, q1, rfl, rfl, rfl, h1, r1⟩ := trodAll_cons r0
    obtain ⟨v2, vs2, d2, ds2, p2, q2, rfl, rfl, rfl, h2, r2⟩ := trodAll_cons r1
    obtain ⟨rfl, rfl, rfl⟩ := trodAll_nil r2
    obtain rfl : args = #[v0, v1, v2] := by cases args; simp_all
    clear hA0 hval0
    obtain ⟨A0, k0, l0, rfl, hr0, hl0, hc0⟩ := open_intsW (hval 0 22 v0 rfl rfl) h0
    obtain ⟨A1, k1, l1, rfl, hr1, hl1, hc1⟩ := open_intsW (hval 1 22 v1 rfl rfl) h1
    obtain ⟨A2, k2, l2, rfl, hr2, hl2, hc2⟩ := open_intsW (hval 2 22 v2 rfl rfl) h2
    exact turns_of W A0 A1 A2 k0 k1 k2 l0 l1 l2 hr0 hr1 hr2 (by omega)

theorem over : Rows.weaveTurnsRow.holds Try.pinned (OpenSpec.ofChange Rows.weaveTurnsSpec) :=
  OpenClaim.holds_of_wide 3 Try.f3 rfl rfl rfl rfl rfl rfl rfl ⟨rfl, rfl, rfl, rfl, rfl⟩ rfl rfl rfl rfl rfl (by kernel_rfl) Try.func3 (by kernel_rfl)
    (of_decide_eq_true (by kernel_rfl)) (by unfold Func.isWrapper; first | (rw [if_pos (by decide +kernel)]; kernel_rfl) | (rw [if_neg (by decide +kernel)]; exact ⟨rfl, rfl⟩))
    (fun os started H enc _ => lifted os started H enc)

theorem proved : Rows.WeaveTurnsSaid := over
#print axioms proved
end Go.Proofs.Ytagcbihjejjmnaa.weaveTurnsLaw
