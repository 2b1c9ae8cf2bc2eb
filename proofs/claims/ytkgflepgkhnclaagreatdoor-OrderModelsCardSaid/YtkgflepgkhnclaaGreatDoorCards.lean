/-
  DERIVED. GIVEN WITH THE SEED: THE CARDS: each row of YtkgflepgkhnclaaGreatDoorRows.lean that lists a variable, with what it lists TIED to the program's text (the seventh form; the later family's looks); each row that meets fmt, with fmt's text TOLD by the authors' own Lean function (tested against real Go, not proved from fmt's source: count such statements apart). THE CARD IS WHAT COUNTS. Prove the row's statement (the work); the ties are given (YtkgflepgkhnclaaGreatDoorTie.lean); close each card by the builder's one call (the guide's Derived/Test/ToyasCard.lean, 'card_holds'). Laid BY PROGRAM, IN A SANDBOX (cutbox-door.mjs). By AI agents, Wed Nov 11 2026. No macro, syntax, notation, axiom, sorry.
-/
import Derived.Test.YtkgflepgkhnclaaGreatDoorRows
import GoSem.ClaimSeven
namespace Go.Proofs.YtkgflepgkhnclaaGreatDoor
namespace Rows

/-- THE TIED CARD OF 'burgagelaw27.OrderTenants'. -/
def orderTenantsCard : Claim7 := { stood := { row := orderTenantsRow, standIns := [], harness := (true, "3203c62b31f7452b18a8b4b2e724ae355659998d6ce7e64de5debc33216c8404"), looks := true }, kinds := [], alts := [], laidByText := true, laidKinds := [.data, .data, .data, .data, .pinned, .pinned, .pinned, .pinned, .pinned, .pinned], laidTests := true, laidLooks := .later }
def OrderTenantsCardSaid : Prop := Claim7.holds Tryz.pinned (.plain (OpenSpec.ofChange orderTenantsSpec)) orderTenantsCard

/-- THE TIED CARD OF 'burgagelaw27.OrderModels'. -/
def orderModelsCard : Claim7 := { stood := { row := orderModelsRow, standIns := [], harness := (true, "3203c62b31f7452b18a8b4b2e724ae355659998d6ce7e64de5debc33216c8404"), looks := true }, kinds := [], alts := [], laidByText := true, laidKinds := [.data, .data, .data, .data, .pinned, .pinned, .pinned, .pinned, .pinned, .pinned], laidTests := true, laidLooks := .later }
def OrderModelsCardSaid : Prop := Claim7.holds Tryz.pinned (.plain (OpenSpec.ofChange orderModelsSpec)) orderModelsCard

/-- THE TIED CARD OF 'burgagelaw27.OrderSmall'. -/
def orderSmallCard : Claim7 := { stood := { row := orderSmallRow, standIns := [], harness := (true, "3203c62b31f7452b18a8b4b2e724ae355659998d6ce7e64de5debc33216c8404"), looks := true }, kinds := [], alts := [], laidByText := true, laidKinds := [.data, .data, .data, .data, .pinned, .pinned, .pinned, .pinned, .pinned, .pinned], laidTests := true, laidLooks := .later }
def OrderSmallCardSaid : Prop := Claim7.holds Tryz.pinned (.plain (OpenSpec.ofChange orderSmallSpec)) orderSmallCard

/-- THE SECOND FORM's CARD OF 'burgagelaw27.OrderTenants'. -/
def orderTenantsUptoCard : Claim7 := { stood := { row := orderTenantsUptoRow, standIns := [], harness := (true, "3203c62b31f7452b18a8b4b2e724ae355659998d6ce7e64de5debc33216c8404"), looks := true }, kinds := [], alts := [], laidByText := true, laidKinds := [.data, .data, .data, .data, .pinned, .pinned, .pinned, .pinned, .pinned, .pinned], laidTests := true, laidLooks := .later }
def OrderTenantsUptoCardSaid : Prop := Claim7.holds Tryz.pinned (.plain (OpenSpec.upto orderTenantsSpec)) orderTenantsUptoCard

/-- THE SECOND FORM's CARD OF 'burgagelaw27.OrderModels'. -/
def orderModelsUptoCard : Claim7 := { stood := { row := orderModelsUptoRow, standIns := [], harness := (true, "3203c62b31f7452b18a8b4b2e724ae355659998d6ce7e64de5debc33216c8404"), looks := true }, kinds := [], alts := [], laidByText := true, laidKinds := [.data, .data, .data, .data, .pinned, .pinned, .pinned, .pinned, .pinned, .pinned], laidTests := true, laidLooks := .later }
def OrderModelsUptoCardSaid : Prop := Claim7.holds Tryz.pinned (.plain (OpenSpec.upto orderModelsSpec)) orderModelsUptoCard

/-- THE SECOND FORM's CARD OF 'burgagelaw27.OrderSmall'. -/
def orderSmallUptoCard : Claim7 := { stood := { row := orderSmallUptoRow, standIns := [], harness := (true, "3203c62b31f7452b18a8b4b2e724ae355659998d6ce7e64de5debc33216c8404"), looks := true }, kinds := [], alts := [], laidByText := true, laidKinds := [.data, .data, .data, .data, .pinned, .pinned, .pinned, .pinned, .pinned, .pinned], laidTests := true, laidLooks := .later }
def OrderSmallUptoCardSaid : Prop := Claim7.holds Tryz.pinned (.plain (OpenSpec.upto orderSmallSpec)) orderSmallUptoCard
end Rows
end Go.Proofs.YtkgflepgkhnclaaGreatDoor
