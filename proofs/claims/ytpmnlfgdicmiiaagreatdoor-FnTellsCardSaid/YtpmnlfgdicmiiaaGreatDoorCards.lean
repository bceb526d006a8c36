/-
  DERIVED. GIVEN WITH THE SEED: THE CARDS: each row of YtpmnlfgdicmiiaaGreatDoorRows.lean that lists a variable, with what it lists TIED to the program's text (the seventh form; the later family's looks); each row that meets fmt, with fmt's text TOLD by the authors' own Lean function (tested against real Go, not proved from fmt's source: count such statements apart). THE CARD IS WHAT COUNTS. Prove the row's statement (the work); the ties are given (YtpmnlfgdicmiiaaGreatDoorTie.lean); close each card by the builder's one call (the guide's Derived/Test/ToyasCard.lean, 'card_holds'). Laid BY PROGRAM, IN A SANDBOX (cutbox-door.mjs). By AI agents, Wed Nov 11 2026. No macro, syntax, notation, axiom, sorry.
-/
import Derived.Test.YtpmnlfgdicmiiaaGreatDoorRows
import GoSem.ClaimSeven
namespace Go.Proofs.YtpmnlfgdicmiiaaGreatDoor
namespace Rows

/-- THE TIED CARD OF 'laws.FnExactFind'. -/
def fnExactFindCard : Claim7 := { stood := { row := fnExactFindRow, standIns := [], harness := (true, "09613f0420cf3ad545d637949619553777cbfa11a2b6f57ede853cfa85692973"), looks := false }, kinds := [], alts := [], laidByText := true, laidKinds := [.data, .data, .data, .pinned, .pinned], laidTests := true, laidLooks := .later }
def FnExactFindCardSaid : Prop := Claim7.holds Tryz.pinned (.plain (OpenSpec.ofChange fnExactFindSpec)) fnExactFindCard

/-- THE TIED CARD OF 'laws.FnAll'. -/
def fnAllCard : Claim7 := { stood := { row := fnAllRow, standIns := [], harness := (true, "09613f0420cf3ad545d637949619553777cbfa11a2b6f57ede853cfa85692973"), looks := false }, kinds := [], alts := [], laidByText := true, laidKinds := [.data, .data, .data, .pinned, .pinned], laidTests := true, laidLooks := .later }
def FnAllCardSaid : Prop := Claim7.holds Tryz.pinned (.plain (OpenSpec.ofChange fnAllSpec)) fnAllCard

/-- THE TIED CARD OF 'laws.FnTells'. -/
def fnTellsCard : Claim7 := { stood := { row := fnTellsRow, standIns := [], harness := (true, "09613f0420cf3ad545d637949619553777cbfa11a2b6f57ede853cfa85692973"), looks := false }, kinds := [], alts := [], laidByText := true, laidKinds := [.data, .data, .data, .data, .data, .data, .pinned, .pinned], laidTests := true, laidLooks := .later }
def FnTellsCardSaid : Prop := Claim7.holds Tryz.pinned (.plain (OpenSpec.ofChange fnTellsSpec)) fnTellsCard

/-- THE SECOND FORM's CARD OF 'laws.FnExactFind'. -/
def fnExactFindUptoCard : Claim7 := { stood := { row := fnExactFindUptoRow, standIns := [], harness := (true, "09613f0420cf3ad545d637949619553777cbfa11a2b6f57ede853cfa85692973"), looks := false }, kinds := [], alts := [], laidByText := true, laidKinds := [.data, .data, .data, .pinned, .pinned], laidTests := true, laidLooks := .later }
def FnExactFindUptoCardSaid : Prop := Claim7.holds Tryz.pinned (.plain (OpenSpec.upto fnExactFindSpec)) fnExactFindUptoCard

/-- THE SECOND FORM's CARD OF 'laws.FnAll'. -/
def fnAllUptoCard : Claim7 := { stood := { row := fnAllUptoRow, standIns := [], harness := (true, "09613f0420cf3ad545d637949619553777cbfa11a2b6f57ede853cfa85692973"), looks := false }, kinds := [], alts := [], laidByText := true, laidKinds := [.data, .data, .data, .pinned, .pinned], laidTests := true, laidLooks := .later }
def FnAllUptoCardSaid : Prop := Claim7.holds Tryz.pinned (.plain (OpenSpec.upto fnAllSpec)) fnAllUptoCard

/-- THE SECOND FORM's CARD OF 'laws.FnTells'. -/
def fnTellsUptoCard : Claim7 := { stood := { row := fnTellsUptoRow, standIns := [], harness := (true, "09613f0420cf3ad545d637949619553777cbfa11a2b6f57ede853cfa85692973"), looks := false }, kinds := [], alts := [], laidByText := true, laidKinds := [.data, .data, .data, .data, .data, .data, .pinned, .pinned], laidTests := true, laidLooks := .later }
def FnTellsUptoCardSaid : Prop := Claim7.holds Tryz.pinned (.plain (OpenSpec.upto fnTellsSpec)) fnTellsUptoCard
end Rows
end Go.Proofs.YtpmnlfgdicmiiaaGreatDoor
