/-
  DERIVED. GIVEN WITH THE SEED: THE CARDS: each row of YtgjgcbemgmkncaaDoorRows.lean that lists a variable, with what it lists TIED to the program's text (the seventh form; the later family's looks); each row that meets fmt, with fmt's text TOLD by the authors' own Lean function (tested against real Go, not proved from fmt's source: count such statements apart). THE CARD IS WHAT COUNTS. Prove the row's statement (the work); the ties are given (YtgjgcbemgmkncaaDoorTie.lean); close each card by the builder's one call (the guide's Derived/Test/ToyasCard.lean, 'card_holds'). Laid BY PROGRAM, IN A SANDBOX (cutbox-door.mjs). By AI agents, Wed Nov 11 2026. No macro, syntax, notation, axiom, sorry.
-/
import Derived.Test.YtgjgcbemgmkncaaDoorRows
import GoSem.ClaimSeven
namespace Go.Proofs.YtgjgcbemgmkncaaDoor
namespace Rows

/-- THE TIED CARD OF 'burgagelaw09.NodeGrows'. -/
def nodeGrowsCard : Claim7 := { stood := { row := nodeGrowsRow, standIns := [], harness := (true, "eed37613bfec621abfb482a3b9d6c609ad7bd24fda3c5b09e09d57a4168a99b8"), looks := true }, kinds := [], alts := [], laidByText := true, laidKinds := [.data], laidTests := true, laidLooks := .later }
def NodeGrowsCardSaid : Prop := Claim7.holds Tryd.pinned (.plain (OpenSpec.ofChange nodeGrowsSpec)) nodeGrowsCard

/-- THE TIED CARD OF 'burgagelaw09.NodeBack'. -/
def nodeBackCard : Claim7 := { stood := { row := nodeBackRow, standIns := [], harness := (true, "eed37613bfec621abfb482a3b9d6c609ad7bd24fda3c5b09e09d57a4168a99b8"), looks := true }, kinds := [], alts := [], laidByText := true, laidKinds := [.data], laidTests := true, laidLooks := .later }
def NodeBackCardSaid : Prop := Claim7.holds Tryd.pinned (.plain (OpenSpec.ofChange nodeBackSpec)) nodeBackCard

/-- THE SECOND FORM's CARD OF 'burgagelaw09.NodeGrows'. -/
def nodeGrowsUptoCard : Claim7 := { stood := { row := nodeGrowsUptoRow, standIns := [], harness := (true, "eed37613bfec621abfb482a3b9d6c609ad7bd24fda3c5b09e09d57a4168a99b8"), looks := true }, kinds := [], alts := [], laidByText := true, laidKinds := [.data], laidTests := true, laidLooks := .later }
def NodeGrowsUptoCardSaid : Prop := Claim7.holds Tryd.pinned (.plain (OpenSpec.upto nodeGrowsSpec)) nodeGrowsUptoCard

/-- THE SECOND FORM's CARD OF 'burgagelaw09.NodeBack'. -/
def nodeBackUptoCard : Claim7 := { stood := { row := nodeBackUptoRow, standIns := [], harness := (true, "eed37613bfec621abfb482a3b9d6c609ad7bd24fda3c5b09e09d57a4168a99b8"), looks := true }, kinds := [], alts := [], laidByText := true, laidKinds := [.data], laidTests := true, laidLooks := .later }
def NodeBackUptoCardSaid : Prop := Claim7.holds Tryd.pinned (.plain (OpenSpec.upto nodeBackSpec)) nodeBackUptoCard
end Rows
end Go.Proofs.YtgjgcbemgmkncaaDoor
