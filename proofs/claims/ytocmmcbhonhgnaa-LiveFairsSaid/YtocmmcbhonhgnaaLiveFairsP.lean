/-
  LiveFairs: for every input the call returns true, and what was there stays as it was. No condition.
-/
import Derived.Test.YtocmmcbhonhgnaaLiveFairsW
namespace Go.Proofs.Ytocmmcbhonhgnaa.liveFairsLaw
open Go.ChangeShapes Go.WideShapes Go.ChangeAt Go.RowKit
set_option linter.unusedVariables false

theorem own : ownKnob Try.prog.godebug = none := by kernel_rfl
theorem laid : laidOutB Try.prog = true := by kernel_rfl

set_option maxRecDepth 100000 in
theorem lifted (os : Os) (started : os.Started) (H : Type) (enc : TypeId × Value → H) :
    ReturnsInHanded {} Try.checked os 4 .any (Rows.liveFairsSpec.pre6 enc Try.prog Try.f4 Rows.liveFairsRow.domain false) (Rows.liveFairsSpec.post enc Try.prog Try.f4 false true false false) := by
  refine returnsInHanded_of_change (C := Try.checked) own started (by kernel_rfl) Try.func4
    (ChangeSpec.witness6 (enc := enc) (C := Try.checked) false ⟨#[], #[.agg #[.int .i64 0, .int .i64 0, .int .u32 0, .int .u8 0, .string ⟨#[]⟩, .string ⟨#[]⟩, .string ⟨#[]⟩, .int .i64 0, .int .i64 0, .int .u64 0, .int .u64 0, .int .u8 0], .agg #[.int .i64 0, .int .i64 0, .int .i64 0, .int .i64 0]], []⟩ 8 (by kernel_rfl) (by kernel_rfl) (by kernel_rfl) (by kernel_rfl)) ?_
  intro W base args ds gs before hval0 hW hcnd _
  refine law_post (fn := Try.f4) (s := Rows.liveFairsSpec) (n := 4) (tb := 4) laid rfl rfl Try.underlying4 (by kernel_rfl) (fun h => ?_) hW ?_
  · match ds, h with
    | [d0, d1], _ => rfl
  · have hval : ∀ (j : Nat) t v, Try.f4.params[j]? = some t → args[j]? = some v → Value.okWide Try.prog W .any base t v := hval0
    obtain ⟨p, q, hA0, hV, rfl, hfz, hnd⟩ := hW
    have hA : DataW.TrodAll enc Try.prog W 0 (fun _ => true) true Try.f4.params.toList args.toList ds p := hA0
    rw [Try.params4] at hA hval
    obtain ⟨v0, vs0, d0, ds0, p0, q0, hargs, rfl, rfl, h0, r0⟩ := trodAll_cons hA
    obtain ⟨v1, vs1, d1, ds1, p1, q1, rfl, rfl, rfl, h1, r1⟩ := trodAll_cons r0
    obtain ⟨rfl, rfl, rfl⟩ := trodAll_nil r1
    obtain rfl : args = #[v0, v1] := by cases args; simp_all
    clear hA0 hval0
    obtain ⟨cs0, rfl, hf0⟩ := open_flat_agg (ls := reqLeaves) Try.underlying31 (by kernel_rfl) (by kernel_rfl) (hval 0 31 v0 rfl rfl) h0
    obtain ⟨r100, ok0, rfl⟩ := req_of_flat hf0
    obtain ⟨cs1, rfl, hf1⟩ := open_flat_agg (ls := [.int .i64, .int .i64, .int .i64, .int .i64]) Try.underlying35 (by kernel_rfl) (by kernel_rfl) (hval 1 35 v1 rfl rfl) h1
    obtain ⟨x1, c1, rfl, ⟨n1, rfl, k1⟩, g1⟩ := hf1.cons_inv
    obtain ⟨x2, c2, rfl, ⟨n2, rfl, k2⟩, g2⟩ := g1.cons_inv
    obtain ⟨x3, c3, rfl, ⟨n3, rfl, k3⟩, g3⟩ := g2.cons_inv
    obtain ⟨x4, c4, rfl, ⟨n4, rfl, k4⟩, g4⟩ := g3.cons_inv
    obtain rfl := g4.nil_inv
    exact fairs_law r100 n1 n2 n3 n4 W

theorem over : Rows.liveFairsRow.holds Try.pinned (OpenSpec.ofChange Rows.liveFairsSpec) :=
  OpenClaim.holds_of_wide 4 Try.f4 rfl rfl rfl rfl rfl rfl rfl ⟨rfl, rfl, rfl, rfl, rfl⟩ rfl rfl rfl rfl rfl (by kernel_rfl) Try.func4 (by kernel_rfl)
    (of_decide_eq_true (by kernel_rfl)) (by unfold Func.isWrapper; first | (rw [if_pos (by decide +kernel)]; kernel_rfl) | (rw [if_neg (by decide +kernel)]; exact ⟨rfl, rfl⟩))
    (fun os started H enc _ => lifted os started H enc)

theorem proved : Rows.LiveFairsSaid := over
#print axioms proved
end Go.Proofs.Ytocmmcbhonhgnaa.liveFairsLaw
