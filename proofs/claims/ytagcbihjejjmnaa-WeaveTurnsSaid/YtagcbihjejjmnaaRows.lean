/-
  No cell of these rows narrows 'for every input' (looked for: loops, veiled, ifaces, maps, wideKeys, modest, calm, conditions, laid).
  DERIVED. THE GIVEN ROWS OF THIS SEAT. 3 by the template 'for every input the law returns true; each argument reads behind the call as it read before'; 0 by the template 'total and deterministic' (their statements: YtagcbihjejjmnaaTotals.lean).
  GIVEN WITH THE SEED: the statements are not yours to turn. If you find one false, say at which input.
  Laid BY PROGRAM, IN A SANDBOX (cutbox-rows.mjs): the forced cells as the released guide's own fill.sh prints them over the translation b2a22bdea76bde8d… (all of the seat's roots in one cut). By AI agents, Wed Nov 11 2026. No macro, syntax, notation, axiom, sorry.
-/
import Derived.Test.YtagcbihjejjmnaaChecked
import GoSem.Claim
import GoSem.ClaimJoined
import GoSem.ClaimMapViews
import Derived.JoinedTies
import Derived.KernelRfl
namespace Go.Proofs.Ytagcbihjejjmnaa
/- THE CELL 'sum', in the pinned program and in every row, IS THE sha256 OF THE DUMP (.gsa) THAT YtagcbihjejjmnaaProg.lean LOADS. Nothing in Lean hashes anything: it is a label: what it is worth is what the hold of that sum in a sandbox is worth. -/
noncomputable def Try.pinned : Pinned := { name := "ytagcbihjejjmnaa", sum := "b2a22bdea76bde8d3ff3e0fc29b9db279700567628dec049132ad7ab7679760c", checked := Try.checked }
namespace Rows
def none {H : Type} : Left H := { results := [], args := [] }

/-- 'burgagelaw23.WeaveTurns': WHATEVER THE INPUT: true; the input reads as it did. -/
def weaveTurnsSpec : ChangeSpec := { name := "weaveTurns", fn := fun _ => fun
  | [d1, d2, d3] => { results := [.lit (.bool true)], args := [d1, d2, d3] }
  | _ => none }
def weaveTurnsRow : OpenClaim := { program := "ytagcbihjejjmnaa", sum := "b2a22bdea76bde8d3ff3e0fc29b9db279700567628dec049132ad7ab7679760c", func := "burgage/burgagelaw23.WeaveTurns", spec := "weaveTurns", unfollowed := true, recurses := true, apart := false }
def WeaveTurnsSaid : Prop := weaveTurnsRow.holds Try.pinned (OpenSpec.ofChange weaveTurnsSpec)

/-- ITS FALSE NEIGHBOUR: 'it returns false'. Refute it at one input. -/
def weaveTurnsWrong : ChangeSpec := { name := "weaveTurns", fn := fun _ => fun
  | [d1, d2, d3] => { results := [.lit (.bool false)], args := [d1, d2, d3] }
  | _ => none }
def WeaveTurnsWrongFalsely : Prop := weaveTurnsRow.holds Try.pinned (OpenSpec.ofChange weaveTurnsWrong)

/-- 'burgagelaw23.WeaveDoes': WHATEVER THE INPUT: true; the input reads as it did. -/
def weaveDoesSpec : ChangeSpec := { name := "weaveDoes", fn := fun _ => fun
  | [d1, d2] => { results := [.lit (.bool true)], args := [d1, d2] }
  | _ => none }
def weaveDoesRow : OpenClaim := { program := "ytagcbihjejjmnaa", sum := "b2a22bdea76bde8d3ff3e0fc29b9db279700567628dec049132ad7ab7679760c", func := "burgage/burgagelaw23.WeaveDoes", spec := "weaveDoes", unfollowed := true, recurses := true, apart := false }
def WeaveDoesSaid : Prop := weaveDoesRow.holds Try.pinned (OpenSpec.ofChange weaveDoesSpec)

/-- ITS FALSE NEIGHBOUR: 'it returns false'. Refute it at one input. -/
def weaveDoesWrong : ChangeSpec := { name := "weaveDoes", fn := fun _ => fun
  | [d1, d2] => { results := [.lit (.bool false)], args := [d1, d2] }
  | _ => none }
def WeaveDoesWrongFalsely : Prop := weaveDoesRow.holds Try.pinned (OpenSpec.ofChange weaveDoesWrong)

/-- 'burgagelaw23.WeaveSmall': WHATEVER THE INPUT: true; the input reads as it did. -/
def weaveSmallSpec : ChangeSpec := { name := "weaveSmall", fn := fun _ => fun
  | [] => { results := [.lit (.bool true)], args := [] }
  | _ => none }
def weaveSmallRow : OpenClaim := { program := "ytagcbihjejjmnaa", sum := "b2a22bdea76bde8d3ff3e0fc29b9db279700567628dec049132ad7ab7679760c", func := "burgage/burgagelaw23.WeaveSmall", spec := "weaveSmall", unfollowed := true, recurses := true, apart := false }
def WeaveSmallSaid : Prop := weaveSmallRow.holds Try.pinned (OpenSpec.ofChange weaveSmallSpec)

/-- ITS FALSE NEIGHBOUR: 'it returns false'. Refute it at one input. -/
def weaveSmallWrong : ChangeSpec := { name := "weaveSmall", fn := fun _ => fun
  | [] => { results := [.lit (.bool false)], args := [] }
  | _ => none }
def WeaveSmallWrongFalsely : Prop := weaveSmallRow.holds Try.pinned (OpenSpec.ofChange weaveSmallWrong)

/- THE SECOND FORM. 'bulk': how many values and letters a reading holds, each counted each time it is reached (what is shared counts as often as it is met; a slice's spare places count too). A statement '..UptoSaid' is the law's where the arguments, and the package variables that the reading takes, are together of bulk at most 1048576: NARROWER than '..Said'. Prove '..Said' where nothing that the law and all that it calls make is longer than what came in: it says more and counts as full. Else prove '..UptoSaid'. A law counts once. -/
mutual
def uptoBulk {H : Type} : DataW H → Nat
  | .lit (.string bytes) => bytes.length + 1
  | .lit _ => 1
  | .nil => 1
  | .ptr d => uptoBulk d + 1
  | .slice elems spare => uptoBulkAll elems + uptoBulkAll spare + 1
  | .agg parts => uptoBulkAll parts + 1
  | .iface _ d => uptoBulk d + 1
  | .map entries => uptoBulkEntries entries + 1
  | .held _ => 1
def uptoBulkAll {H : Type} : List (DataW H) → Nat
  | [] => 0
  | d :: r => uptoBulk d + uptoBulkAll r
def uptoBulkEntries {H : Type} : List (Lit × DataW H) → Nat
  | [] => 0
  | x :: r => uptoBulkEntry x + uptoBulkEntries r
def uptoBulkEntry {H : Type} : Lit × DataW H → Nat
  | (.string bytes, d) => bytes.length + uptoBulk d + 1
  | (_, d) => uptoBulk d + 1
 end
def uptoSmall : (H : Type) → List (DataW H) → Bool := fun _ ds => decide (uptoBulkAll ds ≤ 1048576)
def OpenSpec.upto (s : _root_.Go.ChangeSpec) : _root_.Go.OpenSpec := { _root_.Go.OpenSpec.ofChange s with cond := some uptoSmall }

/-- 'burgagelaw23.WeaveTurns', WHERE WHAT IT READS IS OF BULK AT MOST 1048576: true; the input reads as it did. -/
def weaveTurnsUptoRow : OpenClaim := { program := "ytagcbihjejjmnaa", sum := "b2a22bdea76bde8d3ff3e0fc29b9db279700567628dec049132ad7ab7679760c", func := "burgage/burgagelaw23.WeaveTurns", spec := "weaveTurns", unfollowed := true, recurses := true, apart := false, narrowed := true }
def WeaveTurnsUptoSaid : Prop := weaveTurnsUptoRow.holds Try.pinned (OpenSpec.upto weaveTurnsSpec)

/-- 'burgagelaw23.WeaveDoes', WHERE WHAT IT READS IS OF BULK AT MOST 1048576: true; the input reads as it did. -/
def weaveDoesUptoRow : OpenClaim := { program := "ytagcbihjejjmnaa", sum := "b2a22bdea76bde8d3ff3e0fc29b9db279700567628dec049132ad7ab7679760c", func := "burgage/burgagelaw23.WeaveDoes", spec := "weaveDoes", unfollowed := true, recurses := true, apart := false, narrowed := true }
def WeaveDoesUptoSaid : Prop := weaveDoesUptoRow.holds Try.pinned (OpenSpec.upto weaveDoesSpec)

/-- 'burgagelaw23.WeaveSmall', WHERE WHAT IT READS IS OF BULK AT MOST 1048576: true; the input reads as it did. -/
def weaveSmallUptoRow : OpenClaim := { program := "ytagcbihjejjmnaa", sum := "b2a22bdea76bde8d3ff3e0fc29b9db279700567628dec049132ad7ab7679760c", func := "burgage/burgagelaw23.WeaveSmall", spec := "weaveSmall", unfollowed := true, recurses := true, apart := false, narrowed := true }
def WeaveSmallUptoSaid : Prop := weaveSmallUptoRow.holds Try.pinned (OpenSpec.upto weaveSmallSpec)

end Rows
end Go.Proofs.Ytagcbihjejjmnaa
