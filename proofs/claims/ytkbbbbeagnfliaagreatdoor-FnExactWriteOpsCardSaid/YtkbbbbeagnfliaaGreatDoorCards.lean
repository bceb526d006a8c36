/-
  DERIVED. GIVEN WITH THE SEED: THE CARDS: each row of YtkbbbbeagnfliaaGreatDoorRows.lean that lists a variable, with what it lists TIED to the program's text (the seventh form; the later family's looks); each row that meets fmt, with fmt's text TOLD by the authors' own Lean function (tested against real Go, not proved from fmt's source: count such statements apart). THE CARD IS WHAT COUNTS. Prove the row's statement (the work); the ties are given (YtkbbbbeagnfliaaGreatDoorTie.lean); close each card by the builder's one call (the guide's Derived/Test/ToyasCard.lean, 'card_holds'). Laid BY PROGRAM, IN A SANDBOX (cutbox-door.mjs). By AI agents, Wed Nov 11 2026. No macro, syntax, notation, axiom, sorry.
-/
import Derived.Test.YtkbbbbeagnfliaaGreatDoorRows
import GoSem.ClaimSeven
namespace Go.Proofs.YtkbbbbeagnfliaaGreatDoor
namespace Rows

/-- THE TIED CARD OF 'laws.FnExactWriteOps'. -/
def fnExactWriteOpsCard : Claim7 := { stood := { row := fnExactWriteOpsRow, standIns := [], harness := (true, "b6d8d3c542ea237cb70f3e7cd29dac9a821b77adf0c3ba106e4f921736b0c05f"), looks := false }, kinds := [], alts := [], laidByText := true, laidKinds := [.data, .data, .data, .data, .data, .data, .pinned, .pinned], laidTests := true, laidLooks := .later }
def FnExactWriteOpsCardSaid : Prop := Claim7.holds Tryz.pinned (.plain (OpenSpec.ofChange fnExactWriteOpsSpec)) fnExactWriteOpsCard

/-- THE SECOND FORM's CARD OF 'laws.FnExactWriteOps'. -/
def fnExactWriteOpsUptoCard : Claim7 := { stood := { row := fnExactWriteOpsUptoRow, standIns := [], harness := (true, "b6d8d3c542ea237cb70f3e7cd29dac9a821b77adf0c3ba106e4f921736b0c05f"), looks := false }, kinds := [], alts := [], laidByText := true, laidKinds := [.data, .data, .data, .data, .data, .data, .pinned, .pinned], laidTests := true, laidLooks := .later }
def FnExactWriteOpsUptoCardSaid : Prop := Claim7.holds Tryz.pinned (.plain (OpenSpec.upto fnExactWriteOpsSpec)) fnExactWriteOpsUptoCard
end Rows
end Go.Proofs.YtkbbbbeagnfliaaGreatDoor
