/-
  DERIVED. GIVEN WITH THE SEED: THE CARDS: each row of YtjljocncnibofaaGreatDoorRows.lean that lists a variable, with what it lists TIED to the program's text (the seventh form; the later family's looks); each row that meets fmt, with fmt's text TOLD by the authors' own Lean function (tested against real Go, not proved from fmt's source: count such statements apart). THE CARD IS WHAT COUNTS. Prove the row's statement (the work); the ties are given (YtjljocncnibofaaGreatDoorTie.lean); close each card by the builder's one call (the guide's Derived/Test/ToyasCard.lean, 'card_holds'). Laid BY PROGRAM, IN A SANDBOX (cutbox-door.mjs). By AI agents, Wed Nov 11 2026. No macro, syntax, notation, axiom, sorry.
-/
import Derived.Test.YtjljocncnibofaaGreatDoorRows
import GoSem.ClaimSeven
namespace Go.Proofs.YtjljocncnibofaaGreatDoor
namespace Rows

/-- THE TIED CARD OF 'laws.FnExactRename'. -/
def fnExactRenameCard : Claim7 := { stood := { row := fnExactRenameRow, standIns := [], harness := (true, "1d6c8facc24552acb4d3b0931a85eb481027d73abd9c01d1838a1f8841ac498f"), looks := false }, kinds := [], alts := [], laidByText := true, laidKinds := [.data, .data, .data, .pinned, .pinned], laidTests := true, laidLooks := .later }
def FnExactRenameCardSaid : Prop := Claim7.holds Tryz.pinned (.plain (OpenSpec.ofChange fnExactRenameSpec)) fnExactRenameCard

/-- THE TIED CARD OF 'laws.FnExactFitNode'. -/
def fnExactFitNodeCard : Claim7 := { stood := { row := fnExactFitNodeRow, standIns := [], harness := (true, "1d6c8facc24552acb4d3b0931a85eb481027d73abd9c01d1838a1f8841ac498f"), looks := false }, kinds := [], alts := [], laidByText := true, laidKinds := [.data, .data, .data, .pinned, .pinned], laidTests := true, laidLooks := .later }
def FnExactFitNodeCardSaid : Prop := Claim7.holds Tryz.pinned (.plain (OpenSpec.ofChange fnExactFitNodeSpec)) fnExactFitNodeCard

/-- THE SECOND FORM's CARD OF 'laws.FnExactRename'. -/
def fnExactRenameUptoCard : Claim7 := { stood := { row := fnExactRenameUptoRow, standIns := [], harness := (true, "1d6c8facc24552acb4d3b0931a85eb481027d73abd9c01d1838a1f8841ac498f"), looks := false }, kinds := [], alts := [], laidByText := true, laidKinds := [.data, .data, .data, .pinned, .pinned], laidTests := true, laidLooks := .later }
def FnExactRenameUptoCardSaid : Prop := Claim7.holds Tryz.pinned (.plain (OpenSpec.upto fnExactRenameSpec)) fnExactRenameUptoCard

/-- THE SECOND FORM's CARD OF 'laws.FnExactFitNode'. -/
def fnExactFitNodeUptoCard : Claim7 := { stood := { row := fnExactFitNodeUptoRow, standIns := [], harness := (true, "1d6c8facc24552acb4d3b0931a85eb481027d73abd9c01d1838a1f8841ac498f"), looks := false }, kinds := [], alts := [], laidByText := true, laidKinds := [.data, .data, .data, .pinned, .pinned], laidTests := true, laidLooks := .later }
def FnExactFitNodeUptoCardSaid : Prop := Claim7.holds Tryz.pinned (.plain (OpenSpec.upto fnExactFitNodeSpec)) fnExactFitNodeUptoCard
end Rows
end Go.Proofs.YtjljocncnibofaaGreatDoor
