/-
  DERIVED. GIVEN WITH THE SEED: THE CARDS: each row of YtejfgkcjhmmjkaaGreatDoorRows.lean that lists a variable, with what it lists TIED to the program's text (the seventh form; the later family's looks); each row that meets fmt, with fmt's text TOLD by the authors' own Lean function (tested against real Go, not proved from fmt's source: count such statements apart). THE CARD IS WHAT COUNTS. Prove the row's statement (the work); the ties are given (YtejfgkcjhmmjkaaGreatDoorTie.lean); close each card by the builder's one call (the guide's Derived/Test/ToyasCard.lean, 'card_holds'). Laid BY PROGRAM, IN A SANDBOX (cutbox-door.mjs). By AI agents, Wed Nov 11 2026. No macro, syntax, notation, axiom, sorry.
-/
import Derived.Test.YtejfgkcjhmmjkaaGreatDoorRows
import GoSem.ClaimSeven
namespace Go.Proofs.YtejfgkcjhmmjkaaGreatDoor
namespace Rows

/-- THE TIED CARD OF 'laws.FnRefs'. -/
def fnRefsCard : Claim7 := { stood := { row := fnRefsRow, standIns := [], harness := (true, "684063809fdba3c725516c37651b8c33710f6f3509747352d5f4014bfcfb3f2a"), looks := true }, kinds := [], alts := [], laidByText := true, laidKinds := [.data, .data, .data, .data, .sentinel, .sentinel, .pinned], laidTests := true, laidLooks := .later }
def FnRefsCardSaid : Prop := Claim7.holds Tryz.pinned (.plain (OpenSpec.ofChange fnRefsSpec)) fnRefsCard

/-- THE SECOND FORM's CARD OF 'laws.FnRefs'. -/
def fnRefsUptoCard : Claim7 := { stood := { row := fnRefsUptoRow, standIns := [], harness := (true, "684063809fdba3c725516c37651b8c33710f6f3509747352d5f4014bfcfb3f2a"), looks := true }, kinds := [], alts := [], laidByText := true, laidKinds := [.data, .data, .data, .data, .sentinel, .sentinel, .pinned], laidTests := true, laidLooks := .later }
def FnRefsUptoCardSaid : Prop := Claim7.holds Tryz.pinned (.plain (OpenSpec.upto fnRefsSpec)) fnRefsUptoCard
end Rows
end Go.Proofs.YtejfgkcjhmmjkaaGreatDoor
