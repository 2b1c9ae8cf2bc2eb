/-
  HideAlikes: for every input the call returns true, and what was there stays as it was. No condition.
-/
import Derived.Test.YtlmehmmdbdembaaHideAlikesW
import Derived.Test.YtlmehmmdbdembaaOpenW
namespace Go.Proofs.Ytlmehmmdbdembaa.hideAlikesLaw
open Go.ChangeShapes Go.WideShapes Go.ChangeAt Go.RowKit
set_option linter.unusedVariables false

theorem own : ownKnob Try.prog.godebug = none := by kernel_rfl
theorem laid : laidOutB Try.prog = true := by kernel_rfl

set_option maxRecDepth 100000 in
theorem lifted (os : Os) (started : os.Started) (H : Type) (enc : TypeId × Value → H) :
    ReturnsInHanded {} Try.checked os 6 .any (Rows.hideAlikesSpec.pre6 enc Try.prog Try.f6 Rows.hideAlikesRow.domain false) (Rows.hideAlikesSpec.post enc Try.prog Try.f6 false true false false) := by
  refine returnsInHanded_of_change (C := Try.checked) own started (by kernel_rfl) Try.func6
    (ChangeSpec.witness6 (enc := enc) (C := Try.checked) false ⟨#[], #[.agg #[.slice none 0 0, .slice none 0 0], .agg #[.slice none 0 0, .slice none 0 0], .int .i64 0], []⟩ 8 (by kernel_rfl) (by kernel_rfl) (by kernel_rfl) (by kernel_rfl)) ?_
  intro W base args ds gs before hval0 hW hcnd _
  refine law_post (fn := Try.f6) (s := Rows.hideAlikesSpec) (n := 6) (tb := 4) laid rfl rfl Try.underlying4 (by kernel_rfl) (fun h => ?_) hW ?_
  · match ds, h with
    | [d0, d1, d2], _ => rfl
  · have hval : ∀ (j : Nat) t v, Try.f6.params[j]? = some t → args[j]? = some v → Value.okWide Try.prog W .any base t v := hval0
    obtain ⟨p, q, hA0, hV, rfl, hfz, hnd⟩ := hW
    have hA : DataW.TrodAll enc Try.prog W 0 (fun _ => true) true Try.f6.params.toList args.toList ds p := hA0
    rw [Try.params6] at hA hval
    obtain ⟨v0, vs0, d0, ds0, p0, q0, hargs, rfl, rfl, h0, r0⟩ := trodAll_cons hA
    obtain ⟨v1, vs1, d1, ds1, p1, q1, rfl, rfl, rfl, h1, r1⟩ := trodAll_cons r0
    obtain ⟨v2, vs2, d2, ds2, p2, q2, rfl, rfl, rfl, h2, r2⟩ := trodAll_cons r1
    obtain ⟨rfl, rfl, rfl⟩ := trodAll_nil r2
    obtain rfl : args = #[v0, v1, v2] := by cases args; simp_all
    clear hA0 hval0
    obtain ⟨A0, B0, c0, e0, es0, ps0, rfl, hE0, hP0, le0, lp0, oe0, op0⟩ := open_script (hval 0 41 v0 rfl rfl) h0
    obtain ⟨A1, B1, c1, e1, es1, ps1, rfl, hE1, hP1, le1, lp1, oe1, op1⟩ := open_script (hval 1 41 v1 rfl rfl) h1
    obtain ⟨n2, rfl, rfl, rfl, wf2⟩ := open_int Try.underlying3 (hval 2 3 v2 rfl rfl) h2
    exact hideAlikes_law A0 B0 A1 B1 c0 e0 c1 e1 es0 es1 ps0 ps1 n2 W hE0 hP0 le0 lp0 hE1 hP1 le1 lp1

theorem over : Rows.hideAlikesRow.holds Try.pinned (OpenSpec.ofChange Rows.hideAlikesSpec) :=
  OpenClaim.holds_of_wide 6 Try.f6 rfl rfl rfl rfl rfl rfl rfl ⟨rfl, rfl, rfl, rfl, rfl⟩ rfl rfl rfl rfl rfl (by kernel_rfl) Try.func6 (by kernel_rfl)
    (of_decide_eq_true (by kernel_rfl)) (by unfold Func.isWrapper; first | (rw [if_pos (by decide +kernel)]; kernel_rfl) | (rw [if_neg (by decide +kernel)]; exact ⟨rfl, rfl⟩))
    (fun os started H enc _ => lifted os started H enc)

theorem proved : Rows.HideAlikesSaid := over
#print axioms proved
end Go.Proofs.Ytlmehmmdbdembaa.hideAlikesLaw
