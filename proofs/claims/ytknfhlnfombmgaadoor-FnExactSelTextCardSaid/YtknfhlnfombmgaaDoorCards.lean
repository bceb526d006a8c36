/-
  DERIVED. GIVEN WITH THE SEED: THE CARDS: each row of YtknfhlnfombmgaaDoorRows.lean that lists a variable, with what it lists TIED to the program's text (the seventh form; the later family's looks); each row that meets fmt, with fmt's text TOLD by the authors' own Lean function (tested against real Go, not proved from fmt's source: count such statements apart). THE CARD IS WHAT COUNTS. Prove the row's statement (the work); the ties are given (YtknfhlnfombmgaaDoorTie.lean); close each card by the builder's one call (the guide's Derived/Test/ToyasCard.lean, 'card_holds'). Laid BY PROGRAM, IN A SANDBOX (cutbox-door.mjs). By AI agents, Wed Nov 11 2026. No macro, syntax, notation, axiom, sorry.
-/
import Derived.Test.YtknfhlnfombmgaaDoorRows
import GoSem.ClaimSeven
namespace Go.Proofs.YtknfhlnfombmgaaDoor
namespace Rows

/-- THE TIED CARD OF 'laws.FnExactSelText'. -/
def fnExactSelTextCard : Claim7 := { stood := { row := fnExactSelTextRow, standIns := [], harness := (true, "bbe35e5d1a57bc4ace62b22ea95ac247040876c0ca2c911817b21da7f3368914"), looks := false }, kinds := [], alts := [], laidByText := true, laidKinds := [.data, .data, .data, .data, .pinned], laidTests := true, laidLooks := .later }
def FnExactSelTextCardSaid : Prop := Claim7.holds Tryd.pinned (.plain (OpenSpec.ofChange fnExactSelTextSpec)) fnExactSelTextCard

/-- THE SECOND FORM's CARD OF 'laws.FnExactSelText'. -/
def fnExactSelTextUptoCard : Claim7 := { stood := { row := fnExactSelTextUptoRow, standIns := [], harness := (true, "bbe35e5d1a57bc4ace62b22ea95ac247040876c0ca2c911817b21da7f3368914"), looks := false }, kinds := [], alts := [], laidByText := true, laidKinds := [.data, .data, .data, .data, .pinned], laidTests := true, laidLooks := .later }
def FnExactSelTextUptoCardSaid : Prop := Claim7.holds Tryd.pinned (.plain (OpenSpec.upto fnExactSelTextSpec)) fnExactSelTextUptoCard
end Rows
end Go.Proofs.YtknfhlnfombmgaaDoor
