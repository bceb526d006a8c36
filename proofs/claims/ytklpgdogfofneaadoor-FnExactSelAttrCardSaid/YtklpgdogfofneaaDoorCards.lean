/-
  DERIVED. GIVEN WITH THE SEED: THE CARDS: each row of YtklpgdogfofneaaDoorRows.lean that lists a variable, with what it lists TIED to the program's text (the seventh form; the later family's looks); each row that meets fmt, with fmt's text TOLD by the authors' own Lean function (tested against real Go, not proved from fmt's source: count such statements apart). THE CARD IS WHAT COUNTS. Prove the row's statement (the work); the ties are given (YtklpgdogfofneaaDoorTie.lean); close each card by the builder's one call (the guide's Derived/Test/ToyasCard.lean, 'card_holds'). Laid BY PROGRAM, IN A SANDBOX (cutbox-door.mjs). By AI agents, Wed Nov 11 2026. No macro, syntax, notation, axiom, sorry.
-/
import Derived.Test.YtklpgdogfofneaaDoorRows
import GoSem.ClaimSeven
namespace Go.Proofs.YtklpgdogfofneaaDoor
namespace Rows

/-- THE TIED CARD OF 'laws.FnExactSelAttr'. -/
def fnExactSelAttrCard : Claim7 := { stood := { row := fnExactSelAttrRow, standIns := [], harness := (true, "1fdcb69c07dfbc3f84013b316d5f1e96816bc5befd6a5b0eb294701afbf296e4"), looks := false }, kinds := [], alts := [], laidByText := true, laidKinds := [.data, .pinned], laidTests := true, laidLooks := .later }
def FnExactSelAttrCardSaid : Prop := Claim7.holds Tryd.pinned (.plain (OpenSpec.ofChange fnExactSelAttrSpec)) fnExactSelAttrCard

/-- THE SECOND FORM's CARD OF 'laws.FnExactSelAttr'. -/
def fnExactSelAttrUptoCard : Claim7 := { stood := { row := fnExactSelAttrUptoRow, standIns := [], harness := (true, "1fdcb69c07dfbc3f84013b316d5f1e96816bc5befd6a5b0eb294701afbf296e4"), looks := false }, kinds := [], alts := [], laidByText := true, laidKinds := [.data, .pinned], laidTests := true, laidLooks := .later }
def FnExactSelAttrUptoCardSaid : Prop := Claim7.holds Tryd.pinned (.plain (OpenSpec.upto fnExactSelAttrSpec)) fnExactSelAttrUptoCard
end Rows
end Go.Proofs.YtklpgdogfofneaaDoor
