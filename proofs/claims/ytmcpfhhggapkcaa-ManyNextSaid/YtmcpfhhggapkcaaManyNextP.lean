/-
  ManyNext: for every input the call returns true, and what was there stays as it was. No condition.
-/
import Derived.Test.YtmcpfhhggapkcaaManyX
import Derived.Test.YtmcpfhhggapkcaaFewOpen
namespace Go.Proofs.Ytmcpfhhggapkcaa.manyNextLaw
open Go.ChangeShapes Go.WideShapes Go.ChangeAt Go.RowKit
set_option linter.unusedVariables false

theorem own : ownKnob Try.prog.godebug = none := by kernel_rfl
theorem laid : laidOutB Try.prog = true := by kernel_rfl

set_option maxRecDepth 100000 in
theorem lifted (os : Os) (started : os.Started) (H : Type) (enc : TypeId × Value → H) :
    ReturnsInHanded {} Try.checked os 5 .any (Rows.manyNextSpec.pre6 enc Try.prog Try.f5 Rows.manyNextRow.domain false) (Rows.manyNextSpec.post enc Try.prog Try.f5 false true false false) := by
  refine returnsInHanded_of_change (C := Try.checked) own started (by kernel_rfl) Try.func5
    (ChangeSpec.witness6 (enc := enc) (C := Try.checked) false ⟨#[], #[.slice none 0 0, .int .u8 0], []⟩ 8 (by kernel_rfl) (by kernel_rfl) (by kernel_rfl) (by kernel_rfl)) ?_
  intro W base args ds gs before hval0 hW hcnd _
  refine law_post (fn := Try.f5) (s := Rows.manyNextSpec) (n := 5) (tb := 4) laid rfl rfl Try.underlying4 (by kernel_rfl) (fun h => ?_) hW ?_
  · match ds, h with
    | [d0, d1], _ => rfl
  · have hval : ∀ (j : Nat) t v, Try.f5.params[j]? = some t → args[j]? = some v → Value.okWide Try.prog W .any base t v := hval0
    obtain ⟨p, q, hA0, hV, rfl, hfz, hnd⟩ := hW
    have hA : DataW.TrodAll enc Try.prog W 0 (fun _ => true) true Try.f5.params.toList args.toList ds p := hA0
    rw [Try.params5] at hA hval
    obtain ⟨v0, vs0, d0, ds0, p0, q0, hargs, rfl, rfl, h0, r0⟩ := trodAll_cons hA
    obtain ⟨v1, vs1, d1, ds1, p1, q1, rfl, rfl, rfl, h1, r1⟩ := trodAll_cons r0
    obtain ⟨rfl, rfl, rfl⟩ := trodAll_nil r1
    obtain rfl : args = #[v0, v1] := by cases args; simp_all
    clear hA0 hval0
    obtain ⟨A0, k0, bs0, rfl, hr0, ho0, hl0, hc0⟩ := open_nats (hval 0 22 v0 rfl rfl) h0
    obtain ⟨n1, rfl, rfl, rfl, wf1⟩ := open_int Try.underlying5 (hval 1 5 v1 rfl rfl) h1
    obtain ⟨b1, rfl, hb1⟩ := nat_u8 wf1
    exact ManyNext_any bs0 A0 k0 b1 W hr0 ho0 (by omega) hb1

theorem over : Rows.manyNextRow.holds Try.pinned (OpenSpec.ofChange Rows.manyNextSpec) :=
  OpenClaim.holds_of_wide 5 Try.f5 rfl rfl rfl rfl rfl rfl rfl ⟨rfl, rfl, rfl, rfl, rfl⟩ rfl rfl rfl rfl rfl (by kernel_rfl) Try.func5 (by kernel_rfl)
    (of_decide_eq_true (by kernel_rfl)) (by unfold Func.isWrapper; first | (rw [if_pos (by decide +kernel)]; kernel_rfl) | (rw [if_neg (by decide +kernel)]; exact ⟨rfl, rfl⟩))
    (fun os started H enc _ => lifted os started H enc)

theorem proved : Rows.ManyNextSaid := over
#print axioms proved
end Go.Proofs.Ytmcpfhhggapkcaa.manyNextLaw
