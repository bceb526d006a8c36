/-
  DERIVED. GIVEN WITH THE SEED: THE CARDS: each row of YticbpehiglfibaaDoorRows.lean that lists a variable, with what it lists TIED to the program's text (the seventh form; the later family's looks); each row that meets fmt, with fmt's text TOLD by the authors' own Lean function (tested against real Go, not proved from fmt's source: count such statements apart). THE CARD IS WHAT COUNTS. Prove the row's statement (the work); the ties are given (YticbpehiglfibaaDoorTie.lean); close each card by the builder's one call (the guide's Derived/Test/ToyasCard.lean, 'card_holds'). Laid BY PROGRAM, IN A SANDBOX (cutbox-door.mjs). By AI agents, Wed Nov 11 2026. No macro, syntax, notation, axiom, sorry.
-/
import Derived.Test.YticbpehiglfibaaDoorRows
import GoSem.ClaimSeven
namespace Go.Proofs.YticbpehiglfibaaDoor
namespace Rows

/-- THE TIED CARD OF 'laws.FnClasses'. -/
def fnClassesCard : Claim7 := { stood := { row := fnClassesRow, standIns := [], harness := (true, "c85cace5cf22141165fb59fdaa36cf05f367c6b4d45347d7c7a52fa3ceb43fab"), looks := false }, kinds := [], alts := [], laidByText := true, laidKinds := [.data, .pinned], laidTests := true, laidLooks := .later }
def FnClassesCardSaid : Prop := Claim7.holds Tryd.pinned (.plain (OpenSpec.ofChange fnClassesSpec)) fnClassesCard

/-- THE TIED CARD OF 'laws.FnExactSelOk'. -/
def fnExactSelOkCard : Claim7 := { stood := { row := fnExactSelOkRow, standIns := [], harness := (true, "c85cace5cf22141165fb59fdaa36cf05f367c6b4d45347d7c7a52fa3ceb43fab"), looks := false }, kinds := [], alts := [], laidByText := true, laidKinds := [.data, .pinned], laidTests := true, laidLooks := .later }
def FnExactSelOkCardSaid : Prop := Claim7.holds Tryd.pinned (.plain (OpenSpec.ofChange fnExactSelOkSpec)) fnExactSelOkCard

/-- THE SECOND FORM's CARD OF 'laws.FnClasses'. -/
def fnClassesUptoCard : Claim7 := { stood := { row := fnClassesUptoRow, standIns := [], harness := (true, "c85cace5cf22141165fb59fdaa36cf05f367c6b4d45347d7c7a52fa3ceb43fab"), looks := false }, kinds := [], alts := [], laidByText := true, laidKinds := [.data, .pinned], laidTests := true, laidLooks := .later }
def FnClassesUptoCardSaid : Prop := Claim7.holds Tryd.pinned (.plain (OpenSpec.upto fnClassesSpec)) fnClassesUptoCard

/-- THE SECOND FORM's CARD OF 'laws.FnExactSelOk'. -/
def fnExactSelOkUptoCard : Claim7 := { stood := { row := fnExactSelOkUptoRow, standIns := [], harness := (true, "c85cace5cf22141165fb59fdaa36cf05f367c6b4d45347d7c7a52fa3ceb43fab"), looks := false }, kinds := [], alts := [], laidByText := true, laidKinds := [.data, .pinned], laidTests := true, laidLooks := .later }
def FnExactSelOkUptoCardSaid : Prop := Claim7.holds Tryd.pinned (.plain (OpenSpec.upto fnExactSelOkSpec)) fnExactSelOkUptoCard
end Rows
end Go.Proofs.YticbpehiglfibaaDoor
