/-
  DERIVED. GIVEN WITH THE SEED: THE CARDS: each row of YtgjgcbemgmkncaaGreatDoorRows.lean that lists a variable, with what it lists TIED to the program's text (the seventh form; the later family's looks); each row that meets fmt, with fmt's text TOLD by the authors' own Lean function (tested against real Go, not proved from fmt's source: count such statements apart). THE CARD IS WHAT COUNTS. Prove the row's statement (the work); the ties are given (YtgjgcbemgmkncaaGreatDoorTie.lean); close each card by the builder's one call (the guide's Derived/Test/ToyasCard.lean, 'card_holds'). Laid BY PROGRAM, IN A SANDBOX (cutbox-door.mjs). By AI agents, Wed Nov 11 2026. No macro, syntax, notation, axiom, sorry.
-/
import Derived.Test.YtgjgcbemgmkncaaGreatDoorRows
import GoSem.ClaimSeven
namespace Go.Proofs.YtgjgcbemgmkncaaGreatDoor
namespace Rows

/-- THE TIED CARD OF 'burgagelaw09.NodeTells'. -/
def nodeTellsCard : Claim7 := { stood := { row := nodeTellsRow, standIns := [], harness := (true, "265d713297f47f1f92faab045d69917c4782ab53b34673aabc621a1993803fba"), looks := true }, kinds := [], alts := [], laidByText := true, laidKinds := [.data], laidTests := true, laidLooks := .later }
def NodeTellsCardSaid : Prop := Claim7.holds Tryz.pinned (.plain (OpenSpec.ofChange nodeTellsSpec)) nodeTellsCard

/-- THE TIED CARD OF 'burgagelaw09.NodeEnds'. -/
def nodeEndsCard : Claim7 := { stood := { row := nodeEndsRow, standIns := [], harness := (true, "265d713297f47f1f92faab045d69917c4782ab53b34673aabc621a1993803fba"), looks := true }, kinds := [], alts := [], laidByText := true, laidKinds := [.data], laidTests := true, laidLooks := .later }
def NodeEndsCardSaid : Prop := Claim7.holds Tryz.pinned (.plain (OpenSpec.ofChange nodeEndsSpec)) nodeEndsCard

/-- THE SECOND FORM's CARD OF 'burgagelaw09.NodeTells'. -/
def nodeTellsUptoCard : Claim7 := { stood := { row := nodeTellsUptoRow, standIns := [], harness := (true, "265d713297f47f1f92faab045d69917c4782ab53b34673aabc621a1993803fba"), looks := true }, kinds := [], alts := [], laidByText := true, laidKinds := [.data], laidTests := true, laidLooks := .later }
def NodeTellsUptoCardSaid : Prop := Claim7.holds Tryz.pinned (.plain (OpenSpec.upto nodeTellsSpec)) nodeTellsUptoCard

/-- THE SECOND FORM's CARD OF 'burgagelaw09.NodeEnds'. -/
def nodeEndsUptoCard : Claim7 := { stood := { row := nodeEndsUptoRow, standIns := [], harness := (true, "265d713297f47f1f92faab045d69917c4782ab53b34673aabc621a1993803fba"), looks := true }, kinds := [], alts := [], laidByText := true, laidKinds := [.data], laidTests := true, laidLooks := .later }
def NodeEndsUptoCardSaid : Prop := Claim7.holds Tryz.pinned (.plain (OpenSpec.upto nodeEndsSpec)) nodeEndsUptoCard
end Rows
end Go.Proofs.YtgjgcbemgmkncaaGreatDoor
