/-
  DERIVED. GIVEN WITH THE SEED: THE CARDS: each row of YtejfgkcjhmmjkaaDoorRows.lean that lists a variable, with what it lists TIED to the program's text (the seventh form; the later family's looks); each row that meets fmt, with fmt's text TOLD by the authors' own Lean function (tested against real Go, not proved from fmt's source: count such statements apart). THE CARD IS WHAT COUNTS. Prove the row's statement (the work); the ties are given (YtejfgkcjhmmjkaaDoorTie.lean); close each card by the builder's one call (the guide's Derived/Test/ToyasCard.lean, 'card_holds'). Laid BY PROGRAM, IN A SANDBOX (cutbox-door.mjs). By AI agents, Wed Nov 11 2026. No macro, syntax, notation, axiom, sorry.
-/
import Derived.Test.YtejfgkcjhmmjkaaDoorRows
import GoSem.ClaimSeven
namespace Go.Proofs.YtejfgkcjhmmjkaaDoor
namespace Rows

/-- THE TIED CARD OF 'laws.FnExactExpand'. -/
def fnExactExpandCard : Claim7 := { stood := { row := fnExactExpandRow, standIns := [], harness := (true, "5bb8c05dc3dbeb62b038da80b9ca6e203f9949b727ead4cdd37f9c915913f0e1"), looks := true }, kinds := [], alts := [], laidByText := true, laidKinds := [.data, .data, .data, .data, .sentinel, .sentinel, .pinned], laidTests := true, laidLooks := .later }
def FnExactExpandCardSaid : Prop := Claim7.holds Tryd.pinned (.plain (OpenSpec.ofChange fnExactExpandSpec)) fnExactExpandCard

/-- THE SECOND FORM's CARD OF 'laws.FnExactExpand'. -/
def fnExactExpandUptoCard : Claim7 := { stood := { row := fnExactExpandUptoRow, standIns := [], harness := (true, "5bb8c05dc3dbeb62b038da80b9ca6e203f9949b727ead4cdd37f9c915913f0e1"), looks := true }, kinds := [], alts := [], laidByText := true, laidKinds := [.data, .data, .data, .data, .sentinel, .sentinel, .pinned], laidTests := true, laidLooks := .later }
def FnExactExpandUptoCardSaid : Prop := Claim7.holds Tryd.pinned (.plain (OpenSpec.upto fnExactExpandSpec)) fnExactExpandUptoCard
end Rows
end Go.Proofs.YtejfgkcjhmmjkaaDoor
