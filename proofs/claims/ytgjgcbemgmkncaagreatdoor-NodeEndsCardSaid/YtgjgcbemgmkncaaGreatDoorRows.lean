/-
  NARROWER THAN 'FOR EVERY INPUT', by the rows' own cells (each row's printed sentence says how): NodeTells: laid · NodeEnds: laid.
  DERIVED. THE GIVEN ROWS OF THIS SEAT. 2 by the template 'for every input the law returns true; each argument reads behind the call as it read before'; 0 by the template 'total and deterministic' (their statements: YtgjgcbemgmkncaaGreatDoorTotals.lean).
  GIVEN WITH THE SEED: the statements are not yours to turn. If you find one false, say at which input.
  Laid BY PROGRAM, IN A SANDBOX (cutbox-rows.mjs): the forced cells as the released guide's own fill.sh prints them over the translation c4c830eb42a52650… (all of the seat's roots in one cut). By AI agents, Wed Nov 11 2026. No macro, syntax, notation, axiom, sorry.
-/
import Derived.Test.YtgjgcbemgmkncaaGreatDoorChecked
import GoSem.Claim
import GoSem.ClaimJoined
import GoSem.ClaimMapViews
import Derived.JoinedTies
import Derived.KernelRfl
namespace Go.Proofs.YtgjgcbemgmkncaaGreatDoor
/- THE CELL 'sum', in the pinned program and in every row, IS THE sha256 OF THE DUMP (.gsa) THAT YtgjgcbemgmkncaaGreatDoorProg.lean LOADS. Nothing in Lean hashes anything: it is a label: what it is worth is what the hold of that sum in a sandbox is worth. -/
noncomputable def Tryz.pinned : Pinned := { name := "ytgjgcbemgmkncaagreatdoor", sum := "c4c830eb42a52650d3a90a47b334b22a756d22870b575cee574b872d39c3ecc6", checked := Tryz.checked }
namespace Rows
def none {H : Type} : Left H := { results := [], args := [] }

/- WHAT THE LISTED PACKAGE-LEVEL VARIABLES READ AS WHEN THE CALL BEGINS. Each datum BY PROGRAM (the guide's laid-datum.mjs) off the statement by which the dump's own 'gosem.cut.vars' lays the variable. In a bare row this is a premise. The card (YtgjgcbemgmkncaaGreatDoorCards.lean) ties it to the program's text. -/
def laid_burgage_node_rooms {H : Type} : DataW H := .agg [.lit (.int .i64 0), .lit (.int .i64 0), .lit (.int .i64 4), .lit (.int .i64 16), .lit (.int .i64 48), .lit (.int .i64 256)]

/-- 'burgagelaw09.NodeTells': WHATEVER THE INPUT: true; the input reads as it did. -/
def nodeTellsSpec : ChangeSpec := { name := "nodeTells", fn := fun _ => fun
  | [d1, d2, d3, d4, d5] => { results := [.lit (.bool true)], args := [d1, d2, d3, d4, d5] }
  | _ => none }
def nodeTellsRow : OpenClaim := { program := "ytgjgcbemgmkncaagreatdoor", sum := "c4c830eb42a52650d3a90a47b334b22a756d22870b575cee574b872d39c3ecc6", func := "burgage/burgagelaw09.NodeTells", spec := "nodeTells", unfollowed := true, recurses := true, named := ["burgage/node.rooms"], apart := false, laid := [("burgage/node.rooms", laid_burgage_node_rooms)] }
def NodeTellsSaid : Prop := nodeTellsRow.holds Tryz.pinned (OpenSpec.ofChange nodeTellsSpec)

/-- ITS FALSE NEIGHBOUR: 'it returns false'. Refute it at one input. -/
def nodeTellsWrong : ChangeSpec := { name := "nodeTells", fn := fun _ => fun
  | [d1, d2, d3, d4, d5] => { results := [.lit (.bool false)], args := [d1, d2, d3, d4, d5] }
  | _ => none }
def NodeTellsWrongFalsely : Prop := nodeTellsRow.holds Tryz.pinned (OpenSpec.ofChange nodeTellsWrong)

/-- 'burgagelaw09.NodeEnds': WHATEVER THE INPUT: true; the input reads as it did. -/
def nodeEndsSpec : ChangeSpec := { name := "nodeEnds", fn := fun _ => fun
  | [] => { results := [.lit (.bool true)], args := [] }
  | _ => none }
def nodeEndsRow : OpenClaim := { program := "ytgjgcbemgmkncaagreatdoor", sum := "c4c830eb42a52650d3a90a47b334b22a756d22870b575cee574b872d39c3ecc6", func := "burgage/burgagelaw09.NodeEnds", spec := "nodeEnds", unfollowed := true, recurses := true, named := ["burgage/node.rooms"], apart := false, laid := [("burgage/node.rooms", laid_burgage_node_rooms)] }
def NodeEndsSaid : Prop := nodeEndsRow.holds Tryz.pinned (OpenSpec.ofChange nodeEndsSpec)

/-- ITS FALSE NEIGHBOUR: 'it returns false'. Refute it at one input. -/
def nodeEndsWrong : ChangeSpec := { name := "nodeEnds", fn := fun _ => fun
  | [] => { results := [.lit (.bool false)], args := [] }
  | _ => none }
def NodeEndsWrongFalsely : Prop := nodeEndsRow.holds Tryz.pinned (OpenSpec.ofChange nodeEndsWrong)

/- THE SECOND FORM. 'bulk': how many values and letters a reading holds, each counted each time it is reached (what is shared counts as often as it is met; a slice's spare places count too). A statement '..UptoSaid' is the law's where the arguments, and the package variables that the reading takes, are together of bulk at most 1048576: NARROWER than '..Said'. Prove '..Said' where nothing that the law and all that it calls make is longer than what came in: it says more and counts as full. Else prove '..UptoSaid'. A law counts once. -/
mutual
def uptoBulk {H : Type} : DataW H → Nat
  | .lit (.string bytes) => bytes.length + 1
  | .lit _ => 1
  | .nil => 1
  | .ptr d => uptoBulk d + 1
  | .slice elems spare => uptoBulkAll elems + uptoBulkAll spare + 1
  | .agg parts => uptoBulkAll parts + 1
  | .iface _ d => uptoBulk d + 1
  | .map entries => uptoBulkEntries entries + 1
  | .held _ => 1
def uptoBulkAll {H : Type} : List (DataW H) → Nat
  | [] => 0
  | d :: r => uptoBulk d + uptoBulkAll r
def uptoBulkEntries {H : Type} : List (Lit × DataW H) → Nat
  | [] => 0
  | x :: r => uptoBulkEntry x + uptoBulkEntries r
def uptoBulkEntry {H : Type} : Lit × DataW H → Nat
  | (.string bytes, d) => bytes.length + uptoBulk d + 1
  | (_, d) => uptoBulk d + 1
 end
def uptoSmall : (H : Type) → List (DataW H) → Bool := fun _ ds => decide (uptoBulkAll ds ≤ 1048576)
def OpenSpec.upto (s : _root_.Go.ChangeSpec) : _root_.Go.OpenSpec := { _root_.Go.OpenSpec.ofChange s with cond := some uptoSmall }

/-- 'burgagelaw09.NodeTells', WHERE WHAT IT READS IS OF BULK AT MOST 1048576: true; the input reads as it did. -/
def nodeTellsUptoRow : OpenClaim := { program := "ytgjgcbemgmkncaagreatdoor", sum := "c4c830eb42a52650d3a90a47b334b22a756d22870b575cee574b872d39c3ecc6", func := "burgage/burgagelaw09.NodeTells", spec := "nodeTells", unfollowed := true, recurses := true, named := ["burgage/node.rooms"], apart := false, laid := [("burgage/node.rooms", laid_burgage_node_rooms)], narrowed := true }
def NodeTellsUptoSaid : Prop := nodeTellsUptoRow.holds Tryz.pinned (OpenSpec.upto nodeTellsSpec)

/-- 'burgagelaw09.NodeEnds', WHERE WHAT IT READS IS OF BULK AT MOST 1048576: true; the input reads as it did. -/
def nodeEndsUptoRow : OpenClaim := { program := "ytgjgcbemgmkncaagreatdoor", sum := "c4c830eb42a52650d3a90a47b334b22a756d22870b575cee574b872d39c3ecc6", func := "burgage/burgagelaw09.NodeEnds", spec := "nodeEnds", unfollowed := true, recurses := true, named := ["burgage/node.rooms"], apart := false, laid := [("burgage/node.rooms", laid_burgage_node_rooms)], narrowed := true }
def NodeEndsUptoSaid : Prop := nodeEndsUptoRow.holds Tryz.pinned (OpenSpec.upto nodeEndsSpec)

end Rows
end Go.Proofs.YtgjgcbemgmkncaaGreatDoor
