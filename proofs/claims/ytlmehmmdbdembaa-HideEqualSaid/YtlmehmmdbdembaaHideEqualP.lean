/-
  HideEqual: for every input the call returns true, and what was there stays as it was. No condition.
-/
import Derived.Test.YtlmehmmdbdembaaHideEqualW
import Derived.Test.YtlmehmmdbdembaaOpenSW
namespace Go.Proofs.Ytlmehmmdbdembaa.hideEqualLaw
open Go.ChangeShapes Go.WideShapes Go.ChangeAt Go.RowKit
set_option linter.unusedVariables false

theorem own : ownKnob Try.prog.godebug = none := by kernel_rfl
theorem laid : laidOutB Try.prog = true := by kernel_rfl

set_option maxRecDepth 100000 in
theorem lifted (os : Os) (started : os.Started) (H : Type) (enc : TypeId × Value → H) :
    ReturnsInHanded {} Try.checked os 7 .any (Rows.hideEqualSpec.pre6 enc Try.prog Try.f7 Rows.hideEqualRow.domain false) (Rows.hideEqualSpec.post enc Try.prog Try.f7 false true false false) := by
  refine returnsInHanded_of_change (C := Try.checked) own started (by kernel_rfl) Try.func7
    (ChangeSpec.witness6 (enc := enc) (C := Try.checked) false ⟨#[], #[.slice none 0 0, .slice none 0 0, .slice none 0 0, .slice none 0 0, .int .u8 0], []⟩ 8 (by kernel_rfl) (by kernel_rfl) (by kernel_rfl) (by kernel_rfl)) ?_
  intro W base args ds gs before hval0 hW hcnd _
  refine law_post (fn := Try.f7) (s := Rows.hideEqualSpec) (n := 7) (tb := 4) laid rfl rfl Try.underlying4 (by kernel_rfl) (fun h => ?_) hW ?_
  · match ds, h with
    | [d0, d1, d2, d3, d4], _ => rfl
  · have hval : ∀ (j : Nat) t v, Try.f7.params[j]? = some t → args[j]? = some v → Value.okWide Try.prog W .any base t v := hval0
    obtain ⟨p, q, hA0, hV, rfl, hfz, hnd⟩ := hW
    have hA : DataW.TrodAll enc Try.prog W 0 (fun _ => true) true Try.f7.params.toList args.toList ds p := hA0
    rw [Try.params7] at hA hval
    obtain ⟨v0, vs0, d0, ds0, p0, q0, hargs, rfl, rfl, h0, r0⟩ := trodAll_cons hA
    obtain ⟨v1, vs1, d1, ds1, p1, q1, rfl, rfl, rfl, h1, r1⟩ := trodAll_cons r0
    obtain ⟨v2, vs2, d2, ds2, p2, q2, rfl, rfl, rfl, h2, r2⟩ := trodAll_cons r1
    obtain ⟨v3, vs3, d3, ds3, p3, q3, rfl, rfl, rfl, h3, r3⟩ := trodAll_cons r2
    obtain ⟨v4, vs4, d4, ds4, p4, q4, rfl, rfl, rfl, h4, r4⟩ := trodAll_cons r3
    obtain ⟨rfl, rfl, rfl⟩ := trodAll_nil r4
    obtain rfl : args = #[v0, v1, v2, v3, v4] := by cases args; simp_all
    clear hA0 hval0
    obtain ⟨A0, k0, cs0, rfl, hr0, ho0, hl0, hc0⟩ := open_cods (hval 0 35 v0 rfl rfl) h0
    obtain ⟨A1, k1, cs1, rfl, hr1, ho1, hl1, hc1⟩ := open_cods (hval 1 35 v1 rfl rfl) h1
    obtain ⟨A2, k2, bs2, rfl, hr2, ho2, hl2, hc2⟩ := open_u8s (hval 2 36 v2 rfl rfl) h2
    obtain ⟨A3, k3, bs3, rfl, hr3, ho3, hl3, hc3⟩ := open_u8s (hval 3 36 v3 rfl rfl) h3
    obtain ⟨n4, rfl, rfl, rfl, wf4⟩ := open_int Try.underlying5 (hval 4 5 v4 rfl rfl) h4
    exact hideEqual_law cs0 cs1 bs2 bs3 n4 A0 A1 A2 A3 k0 k1 k2 k3 W hr0 ho0 hl0 hc0 hr1 ho1 hl1 hc1 hr2 ho2 hl2 hc2 hr3 ho3 hl3 hc3 (wf_u8 wf4)

theorem over : Rows.hideEqualRow.holds Try.pinned (OpenSpec.ofChange Rows.hideEqualSpec) :=
  OpenClaim.holds_of_wide 7 Try.f7 rfl rfl rfl rfl rfl rfl rfl ⟨rfl, rfl, rfl, rfl, rfl⟩ rfl rfl rfl rfl rfl (by kernel_rfl) Try.func7 (by kernel_rfl)
    (of_decide_eq_true (by kernel_rfl)) (by unfold Func.isWrapper; first | (rw [if_pos (by decide +kernel)]; kernel_rfl) | (rw [if_neg (by decide +kernel)]; exact ⟨rfl, rfl⟩))
    (fun os started H enc _ => lifted os started H enc)

theorem proved : Rows.HideEqualSaid := over
#print axioms proved
end Go.Proofs.Ytlmehmmdbdembaa.hideEqualLaw
