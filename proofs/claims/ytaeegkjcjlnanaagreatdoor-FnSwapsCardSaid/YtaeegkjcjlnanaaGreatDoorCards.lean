/-
  DERIVED. GIVEN WITH THE SEED: THE CARDS: each row of YtaeegkjcjlnanaaGreatDoorRows.lean that lists a variable, with what it lists TIED to the program's text (the seventh form; the later family's looks); each row that meets fmt, with fmt's text TOLD by the authors' own Lean function (tested against real Go, not proved from fmt's source: count such statements apart). THE CARD IS WHAT COUNTS. Prove the row's statement (the work); the ties are given (YtaeegkjcjlnanaaGreatDoorTie.lean); close each card by the builder's one call (the guide's Derived/Test/ToyasCard.lean, 'card_holds'). Laid BY PROGRAM, IN A SANDBOX (cutbox-door.mjs). By AI agents, Wed Nov 11 2026. No macro, syntax, notation, axiom, sorry.
-/
import Derived.Test.YtaeegkjcjlnanaaGreatDoorRows
import GoSem.ClaimSeven
namespace Go.Proofs.YtaeegkjcjlnanaaGreatDoor
namespace Rows

/-- THE TIED CARD OF 'laws.FnSwaps'. -/
def fnSwapsCard : Claim7 := { stood := { row := fnSwapsRow, standIns := [], harness := (true, "fae1bb12082170cae13cd85c5b038fd19e4b4fc5ba756b9334eca02eb7ac302d"), looks := false }, kinds := [], alts := [], laidByText := true, laidKinds := [.data, .data, .data, .pinned, .pinned], laidTests := true, laidLooks := .later }
def FnSwapsCardSaid : Prop := Claim7.holds Tryz.pinned (.plain (OpenSpec.ofChange fnSwapsSpec)) fnSwapsCard

/-- THE TIED CARD OF 'laws.FnWalks'. -/
def fnWalksCard : Claim7 := { stood := { row := fnWalksRow, standIns := [], harness := (true, "fae1bb12082170cae13cd85c5b038fd19e4b4fc5ba756b9334eca02eb7ac302d"), looks := false }, kinds := [], alts := [], laidByText := true, laidKinds := [.data, .data, .data, .pinned, .pinned], laidTests := true, laidLooks := .later }
def FnWalksCardSaid : Prop := Claim7.holds Tryz.pinned (.plain (OpenSpec.ofChange fnWalksSpec)) fnWalksCard

/-- THE TIED CARD OF 'laws.FnAround'. -/
def fnAroundCard : Claim7 := { stood := { row := fnAroundRow, standIns := [], harness := (true, "fae1bb12082170cae13cd85c5b038fd19e4b4fc5ba756b9334eca02eb7ac302d"), looks := false }, kinds := [], alts := [], laidByText := true, laidKinds := [.data, .data, .data, .pinned, .pinned], laidTests := true, laidLooks := .later }
def FnAroundCardSaid : Prop := Claim7.holds Tryz.pinned (.plain (OpenSpec.ofChange fnAroundSpec)) fnAroundCard

/-- THE SECOND FORM's CARD OF 'laws.FnSwaps'. -/
def fnSwapsUptoCard : Claim7 := { stood := { row := fnSwapsUptoRow, standIns := [], harness := (true, "fae1bb12082170cae13cd85c5b038fd19e4b4fc5ba756b9334eca02eb7ac302d"), looks := false }, kinds := [], alts := [], laidByText := true, laidKinds := [.data, .data, .data, .pinned, .pinned], laidTests := true, laidLooks := .later }
def FnSwapsUptoCardSaid : Prop := Claim7.holds Tryz.pinned (.plain (OpenSpec.upto fnSwapsSpec)) fnSwapsUptoCard

/-- THE SECOND FORM's CARD OF 'laws.FnWalks'. -/
def fnWalksUptoCard : Claim7 := { stood := { row := fnWalksUptoRow, standIns := [], harness := (true, "fae1bb12082170cae13cd85c5b038fd19e4b4fc5ba756b9334eca02eb7ac302d"), looks := false }, kinds := [], alts := [], laidByText := true, laidKinds := [.data, .data, .data, .pinned, .pinned], laidTests := true, laidLooks := .later }
def FnWalksUptoCardSaid : Prop := Claim7.holds Tryz.pinned (.plain (OpenSpec.upto fnWalksSpec)) fnWalksUptoCard

/-- THE SECOND FORM's CARD OF 'laws.FnAround'. -/
def fnAroundUptoCard : Claim7 := { stood := { row := fnAroundUptoRow, standIns := [], harness := (true, "fae1bb12082170cae13cd85c5b038fd19e4b4fc5ba756b9334eca02eb7ac302d"), looks := false }, kinds := [], alts := [], laidByText := true, laidKinds := [.data, .data, .data, .pinned, .pinned], laidTests := true, laidLooks := .later }
def FnAroundUptoCardSaid : Prop := Claim7.holds Tryz.pinned (.plain (OpenSpec.upto fnAroundSpec)) fnAroundUptoCard
end Rows
end Go.Proofs.YtaeegkjcjlnanaaGreatDoor
