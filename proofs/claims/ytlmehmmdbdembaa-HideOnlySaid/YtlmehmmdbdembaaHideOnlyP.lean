/-
  HideOnly: for every input the call returns true, and what was there stays as it was. No condition.
-/
import Derived.Test.YtlmehmmdbdembaaHideOnlyW
import Derived.Test.YtlmehmmdbdembaaOpenSW
namespace Go.Proofs.Ytlmehmmdbdembaa.hideOnlyLaw
open Go.ChangeShapes Go.WideShapes Go.ChangeAt Go.RowKit
set_option linter.unusedVariables false

theorem own : ownKnob Try.prog.godebug = none := by kernel_rfl
theorem laid : laidOutB Try.prog = true := by kernel_rfl

set_option maxRecDepth 100000 in
theorem lifted (os : Os) (started : os.Started) (H : Type) (enc : TypeId × Value → H) :
    ReturnsInHanded {} Try.checked os 4 .any (Rows.hideOnlySpec.pre6 enc Try.prog Try.f4 Rows.hideOnlyRow.domain false) (Rows.hideOnlySpec.post enc Try.prog Try.f4 false true false false) := by
  refine returnsInHanded_of_change (C := Try.checked) own started (by kernel_rfl) Try.func4
    (ChangeSpec.witness6 (enc := enc) (C := Try.checked) false ⟨#[], #[.slice none 0 0, .slice none 0 0, .int .u8 0, .slice none 0 0], []⟩ 8 (by kernel_rfl) (by kernel_rfl) (by kernel_rfl) (by kernel_rfl)) ?_
  intro W base args ds gs before hval0 hW hcnd _
  refine law_post (fn := Try.f4) (s := Rows.hideOnlySpec) (n := 4) (tb := 4) laid rfl rfl Try.underlying4 (by kernel_rfl) (fun h => ?_) hW ?_
  · match ds, h with
    | [d0, d1, d2, d3], _ => rfl
  · have hval : ∀ (j : Nat) t v, Try.f4.params[j]? = some t → args[j]? = some v → Value.okWide Try.prog W .any base t v := hval0
    obtain ⟨p, q, hA0, hV, rfl, hfz, hnd⟩ := hW
    have hA : DataW.TrodAll enc Try.prog W 0 (fun _ => true) true Try.f4.params.toList args.toList ds p := hA0
    rw [Try.params4] at hA hval
    obtain ⟨v0, vs0, d0, ds0, p0, q0, hargs, rfl, rfl, h0, r0⟩ := trodAll_cons hA
    obtain ⟨v1, vs1, d1, ds1, p1, q1, rfl, rfl, rfl, h1, r1⟩ := trodAll_cons r0
    obtain ⟨v2, vs2, d2, ds2, p2, q2, rfl, rfl, rfl, h2, r2⟩ := trodAll_cons r1
    obtain ⟨v3, vs3, d3, ds3, p3, q3, rfl, rfl, rfl, h3, r3⟩ := trodAll_cons r2
    obtain ⟨rfl, rfl, rfl⟩ := trodAll_nil r3
    obtain rfl : args = #[v0, v1, v2, v3] := by cases args; simp_all
    clear hA0 hval0
    obtain ⟨A0, k0, cs0, rfl, hr0, ho0, hl0, hc0⟩ := open_cods (hval 0 35 v0 rfl rfl) h0
    obtain ⟨A1, k1, bs1, rfl, hr1, ho1, hl1, hc1⟩ := open_u8s (hval 1 36 v1 rfl rfl) h1
    obtain ⟨n2, rfl, rfl, rfl, wf2⟩ := open_int Try.underlying5 (hval 2 5 v2 rfl rfl) h2
    obtain ⟨A3, k3, rs3, rfl, hr3, ho3, hl3, hc3⟩ := open_reqs (hval 3 37 v3 rfl rfl) h3
    exact hideOnly_law cs0 bs1 rs3 n2 A0 A1 A3 k0 k1 k3 W hr0 ho0 hl0 hc0 hr1 ho1 hl1 hc1 hr3 ho3 (by omega) (wf_u8 wf2)

theorem over : Rows.hideOnlyRow.holds Try.pinned (OpenSpec.ofChange Rows.hideOnlySpec) :=
  OpenClaim.holds_of_wide 4 Try.f4 rfl rfl rfl rfl rfl rfl rfl ⟨rfl, rfl, rfl, rfl, rfl⟩ rfl rfl rfl rfl rfl (by kernel_rfl) Try.func4 (by kernel_rfl)
    (of_decide_eq_true (by kernel_rfl)) (by unfold Func.isWrapper; first | (rw [if_pos (by decide +kernel)]; kernel_rfl) | (rw [if_neg (by decide +kernel)]; exact ⟨rfl, rfl⟩))
    (fun os started H enc _ => lifted os started H enc)

theorem proved : Rows.HideOnlySaid := over
#print axioms proved
end Go.Proofs.Ytlmehmmdbdembaa.hideOnlyLaw
