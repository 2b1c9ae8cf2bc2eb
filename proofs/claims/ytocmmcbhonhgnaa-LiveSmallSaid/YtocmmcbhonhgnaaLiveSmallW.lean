/-
  Walks: LiveSmall, whole.
-/
import Derived.Test.YtocmmcbhonhgnaaLiveSmallW2
namespace Go.Proofs.Ytocmmcbhonhgnaa
open Go.RowKit
set_option linter.unusedVariables false

set_option maxHeartbeats 3200000 in
set_option maxRecDepth 100000 in
theorem small_law (w : World) : Calls Try.prog 5 #[] w (BoolEnd true w) := by
  go_enter Try.func5, Try.ntmps5
  refine wp_seq_k fun K hK => ?_
  have HK := Lib.hid hK
  clear hK
  go_wp2_with fail
  refine HK.out _ _ ?_
  refine wp_seq_k fun K2 hK2 => ?_
  have HK2 := Lib.hid hK2
  clear hK2
  go_wp2_with fail
  exact HK2.out _ _ (small2 ⟨#[]⟩ w _ rfl (Below.refl _ _))
end Go.Proofs.Ytocmmcbhonhgnaa
