/-
  No cell of these rows narrows 'for every input' (looked for: loops, veiled, ifaces, maps, wideKeys, modest, calm, conditions, laid).
  DERIVED. THE GIVEN ROWS OF THIS SEAT. 5 by the template 'for every input the law returns true; each argument reads behind the call as it read before'; 0 by the template 'total and deterministic' (their statements: YtlmehmmdbdembaaTotals.lean).
  GIVEN WITH THE SEED: the statements are not yours to turn. If you find one false, say at which input.
  Laid BY PROGRAM, IN A SANDBOX (cutbox-rows.mjs): the forced cells as the released guide's own fill.sh prints them over the translation a224539db8063960… (all of the seat's roots in one cut). By AI agents, Wed Nov 11 2026. No macro, syntax, notation, axiom, sorry.
-/
import Derived.Test.YtlmehmmdbdembaaChecked
import GoSem.Claim
import GoSem.ClaimJoined
import GoSem.ClaimMapViews
import Derived.JoinedTies
import Derived.KernelRfl
namespace Go.Proofs.Ytlmehmmdbdembaa
/- THE CELL 'sum', in the pinned program and in every row, IS THE sha256 OF THE DUMP (.gsa) THAT YtlmehmmdbdembaaProg.lean LOADS. Nothing in Lean hashes anything: it is a label: what it is worth is what the hold of that sum in a sandbox is worth. -/
noncomputable def Try.pinned : Pinned := { name := "ytlmehmmdbdembaa", sum := "a224539db806396098a42f39739450b9fc50ec9160fe41d3cea555641b7c06e7", checked := Try.checked }
namespace Rows
def none {H : Type} : Left H := { results := [], args := [] }

/-- 'burgagelaw28.HideOwners': WHATEVER THE INPUT: true; the input reads as it did. -/
def hideOwnersSpec : ChangeSpec := { name := "hideOwners", fn := fun _ => fun
  | [d] => { results := [.lit (.bool true)], args := [d] }
  | _ => none }
def hideOwnersRow : OpenClaim := { program := "ytlmehmmdbdembaa", sum := "a224539db806396098a42f39739450b9fc50ec9160fe41d3cea555641b7c06e7", func := "burgage/burgagelaw28.HideOwners", spec := "hideOwners", unfollowed := true, recurses := true, apart := false }
def HideOwnersSaid : Prop := hideOwnersRow.holds Try.pinned (OpenSpec.ofChange hideOwnersSpec)

/-- ITS FALSE NEIGHBOUR: 'it returns false'. Refute it at one input. -/
def hideOwnersWrong : ChangeSpec := { name := "hideOwners", fn := fun _ => fun
  | [d] => { results := [.lit (.bool false)], args := [d] }
  | _ => none }
def HideOwnersWrongFalsely : Prop := hideOwnersRow.holds Try.pinned (OpenSpec.ofChange hideOwnersWrong)

/-- 'burgagelaw28.HideOnly': WHATEVER THE INPUT: true; the input reads as it did. -/
def hideOnlySpec : ChangeSpec := { name := "hideOnly", fn := fun _ => fun
  | [d1, d2, d3, d4] => { results := [.lit (.bool true)], args := [d1, d2, d3, d4] }
  | _ => none }
def hideOnlyRow : OpenClaim := { program := "ytlmehmmdbdembaa", sum := "a224539db806396098a42f39739450b9fc50ec9160fe41d3cea555641b7c06e7", func := "burgage/burgagelaw28.HideOnly", spec := "hideOnly", unfollowed := true, recurses := true, apart := false }
def HideOnlySaid : Prop := hideOnlyRow.holds Try.pinned (OpenSpec.ofChange hideOnlySpec)

/-- ITS FALSE NEIGHBOUR: 'it returns false'. Refute it at one input. -/
def hideOnlyWrong : ChangeSpec := { name := "hideOnly", fn := fun _ => fun
  | [d1, d2, d3, d4] => { results := [.lit (.bool false)], args := [d1, d2, d3, d4] }
  | _ => none }
def HideOnlyWrongFalsely : Prop := hideOnlyRow.holds Try.pinned (OpenSpec.ofChange hideOnlyWrong)

/-- 'burgagelaw28.HideTimes': WHATEVER THE INPUT: true; the input reads as it did. -/
def hideTimesSpec : ChangeSpec := { name := "hideTimes", fn := fun _ => fun
  | [d1, d2, d3] => { results := [.lit (.bool true)], args := [d1, d2, d3] }
  | _ => none }
def hideTimesRow : OpenClaim := { program := "ytlmehmmdbdembaa", sum := "a224539db806396098a42f39739450b9fc50ec9160fe41d3cea555641b7c06e7", func := "burgage/burgagelaw28.HideTimes", spec := "hideTimes", unfollowed := true, recurses := true, apart := false }
def HideTimesSaid : Prop := hideTimesRow.holds Try.pinned (OpenSpec.ofChange hideTimesSpec)

/-- ITS FALSE NEIGHBOUR: 'it returns false'. Refute it at one input. -/
def hideTimesWrong : ChangeSpec := { name := "hideTimes", fn := fun _ => fun
  | [d1, d2, d3] => { results := [.lit (.bool false)], args := [d1, d2, d3] }
  | _ => none }
def HideTimesWrongFalsely : Prop := hideTimesRow.holds Try.pinned (OpenSpec.ofChange hideTimesWrong)

/-- 'burgagelaw28.HideAlikes': WHATEVER THE INPUT: true; the input reads as it did. -/
def hideAlikesSpec : ChangeSpec := { name := "hideAlikes", fn := fun _ => fun
  | [d1, d2, d3] => { results := [.lit (.bool true)], args := [d1, d2, d3] }
  | _ => none }
def hideAlikesRow : OpenClaim := { program := "ytlmehmmdbdembaa", sum := "a224539db806396098a42f39739450b9fc50ec9160fe41d3cea555641b7c06e7", func := "burgage/burgagelaw28.HideAlikes", spec := "hideAlikes", unfollowed := true, recurses := true, apart := false }
def HideAlikesSaid : Prop := hideAlikesRow.holds Try.pinned (OpenSpec.ofChange hideAlikesSpec)

/-- ITS FALSE NEIGHBOUR: 'it returns false'. Refute it at one input. -/
def hideAlikesWrong : ChangeSpec := { name := "hideAlikes", fn := fun _ => fun
  | [d1, d2, d3] => { results := [.lit (.bool false)], args := [d1, d2, d3] }
  | _ => none }
def HideAlikesWrongFalsely : Prop := hideAlikesRow.holds Try.pinned (OpenSpec.ofChange hideAlikesWrong)

/-- 'burgagelaw28.HideEqual': WHATEVER THE INPUT: true; the input reads as it did. -/
def hideEqualSpec : ChangeSpec := { name := "hideEqual", fn := fun _ => fun
  | [d1, d2, d3, d4, d5] => { results := [.lit (.bool true)], args := [d1, d2, d3, d4, d5] }
  | _ => none }
def hideEqualRow : OpenClaim := { program := "ytlmehmmdbdembaa", sum := "a224539db806396098a42f39739450b9fc50ec9160fe41d3cea555641b7c06e7", func := "burgage/burgagelaw28.HideEqual", spec := "hideEqual", unfollowed := true, recurses := true, apart := false }
def HideEqualSaid : Prop := hideEqualRow.holds Try.pinned (OpenSpec.ofChange hideEqualSpec)

/-- ITS FALSE NEIGHBOUR: 'it returns false'. Refute it at one input. -/
def hideEqualWrong : ChangeSpec := { name := "hideEqual", fn := fun _ => fun
  | [d1, d2, d3, d4, d5] => { results := [.lit (.bool false)], args := [d1, d2, d3, d4, d5] }
  | _ => none }
def HideEqualWrongFalsely : Prop := hideEqualRow.holds Try.pinned (OpenSpec.ofChange hideEqualWrong)

/- THE SECOND FORM. 'bulk': how many values and letters a reading holds, each counted each time it is reached (what is shared counts as often as it is met; a slice's spare places count too). A statement '..UptoSaid' is the law's where the arguments, and the package variables that the reading takes, are together of bulk at most 1048576: NARROWER than '..Said'. Prove '..Said' where nothing that the law and all that it calls make is longer than what came in: it says more and counts as full. Else prove '..UptoSaid'. A law counts once. -/
mutual
def uptoBulk {H : Type} : DataW H → Nat
  | .lit (.string bytes) => bytes.length + 1
  | .lit _ => 1
  | .nil => 1
  | .ptr d => uptoBulk d + 1
  | .slice elems spare => uptoBulkAll elems + uptoBulkAll spare + 1
  | .agg parts => uptoBulkAll parts + 1
  | .iface _ d => uptoBulk d + 1
  | .map entries => uptoBulkEntries entries + 1
  | .held _ => 1
def uptoBulkAll {H : Type} : List (DataW H) → Nat
  | [] => 0
  | d :: r => uptoBulk d + uptoBulkAll r
def uptoBulkEntries {H : Type} : List (Lit × DataW H) → Nat
  | [] => 0
  | x :: r => uptoBulkEntry x + uptoBulkEntries r
def uptoBulkEntry {H : Type} : Lit × DataW H → Nat
  | (.string bytes, d) => bytes.length + uptoBulk d + 1
  | (_, d) => uptoBulk d + 1
 end
def uptoSmall : (H : Type) → List (DataW H) → Bool := fun _ ds => decide (uptoBulkAll ds ≤ 1048576)
def OpenSpec.upto (s : _root_.Go.ChangeSpec) : _root_.Go.OpenSpec := { _root_.Go.OpenSpec.ofChange s with cond := some uptoSmall }

/-- 'burgagelaw28.HideOwners', WHERE WHAT IT READS IS OF BULK AT MOST 1048576: true; the input reads as it did. -/
def hideOwnersUptoRow : OpenClaim := { program := "ytlmehmmdbdembaa", sum := "a224539db806396098a42f39739450b9fc50ec9160fe41d3cea555641b7c06e7", func := "burgage/burgagelaw28.HideOwners", spec := "hideOwners", unfollowed := true, recurses := true, apart := false, narrowed := true }
def HideOwnersUptoSaid : Prop := hideOwnersUptoRow.holds Try.pinned (OpenSpec.upto hideOwnersSpec)

/-- 'burgagelaw28.HideOnly', WHERE WHAT IT READS IS OF BULK AT MOST 1048576: true; the input reads as it did. -/
def hideOnlyUptoRow : OpenClaim := { program := "ytlmehmmdbdembaa", sum := "a224539db806396098a42f39739450b9fc50ec9160fe41d3cea555641b7c06e7", func := "burgage/burgagelaw28.HideOnly", spec := "hideOnly", unfollowed := true, recurses := true, apart := false, narrowed := true }
def HideOnlyUptoSaid : Prop := hideOnlyUptoRow.holds Try.pinned (OpenSpec.upto hideOnlySpec)

/-- 'burgagelaw28.HideTimes', WHERE WHAT IT READS IS OF BULK AT MOST 1048576: true; the input reads as it did. -/
def hideTimesUptoRow : OpenClaim := { program := "ytlmehmmdbdembaa", sum := "a224539db806396098a42f39739450b9fc50ec9160fe41d3cea555641b7c06e7", func := "burgage/burgagelaw28.HideTimes", spec := "hideTimes", unfollowed := true, recurses := true, apart := false, narrowed := true }
def HideTimesUptoSaid : Prop := hideTimesUptoRow.holds Try.pinned (OpenSpec.upto hideTimesSpec)

/-- 'burgagelaw28.HideAlikes', WHERE WHAT IT READS IS OF BULK AT MOST 1048576: true; the input reads as it did. -/
def hideAlikesUptoRow : OpenClaim := { program := "ytlmehmmdbdembaa", sum := "a224539db806396098a42f39739450b9fc50ec9160fe41d3cea555641b7c06e7", func := "burgage/burgagelaw28.HideAlikes", spec := "hideAlikes", unfollowed := true, recurses := true, apart := false, narrowed := true }
def HideAlikesUptoSaid : Prop := hideAlikesUptoRow.holds Try.pinned (OpenSpec.upto hideAlikesSpec)

/-- 'burgagelaw28.HideEqual', WHERE WHAT IT READS IS OF BULK AT MOST 1048576: true; the input reads as it did. -/
def hideEqualUptoRow : OpenClaim := { program := "ytlmehmmdbdembaa", sum := "a224539db806396098a42f39739450b9fc50ec9160fe41d3cea555641b7c06e7", func := "burgage/burgagelaw28.HideEqual", spec := "hideEqual", unfollowed := true, recurses := true, apart := false, narrowed := true }
def HideEqualUptoSaid : Prop := hideEqualUptoRow.holds Try.pinned (OpenSpec.upto hideEqualSpec)

end Rows
end Go.Proofs.Ytlmehmmdbdembaa
