/-
  DERIVED. GIVEN WITH THE SEED: THE CARDS: each row of YtjnjaaimgdjcgaaGreatDoorRows.lean that lists a variable, with what it lists TIED to the program's text (the seventh form; the later family's looks); each row that meets fmt, with fmt's text TOLD by the authors' own Lean function (tested against real Go, not proved from fmt's source: count such statements apart). THE CARD IS WHAT COUNTS. Prove the row's statement (the work); the ties are given (YtjnjaaimgdjcgaaGreatDoorTie.lean); close each card by the builder's one call (the guide's Derived/Test/ToyasCard.lean, 'card_holds'). Laid BY PROGRAM, IN A SANDBOX (cutbox-door.mjs). By AI agents, Wed Nov 11 2026. No macro, syntax, notation, axiom, sorry.
-/
import Derived.Test.YtjnjaaimgdjcgaaGreatDoorRows
import GoSem.ClaimSeven
namespace Go.Proofs.YtjnjaaimgdjcgaaGreatDoor
namespace Rows

/-- THE TIED CARD OF 'laws.FnExactWalkOk'. -/
def fnExactWalkOkCard : Claim7 := { stood := { row := fnExactWalkOkRow, standIns := [], harness := (true, "378b82e80b0a08b6312c9fd7c2b4238f04efa5e14450923405207c80ee893484"), looks := false }, kinds := [], alts := [], laidByText := true, laidKinds := [.data, .data, .data, .pinned, .pinned], laidTests := true, laidLooks := .later }
def FnExactWalkOkCardSaid : Prop := Claim7.holds Tryz.pinned (.plain (OpenSpec.ofChange fnExactWalkOkSpec)) fnExactWalkOkCard

/-- THE TIED CARD OF 'laws.FnExactDepth'. -/
def fnExactDepthCard : Claim7 := { stood := { row := fnExactDepthRow, standIns := [], harness := (true, "378b82e80b0a08b6312c9fd7c2b4238f04efa5e14450923405207c80ee893484"), looks := false }, kinds := [], alts := [], laidByText := true, laidKinds := [.data, .data, .data, .pinned, .pinned], laidTests := true, laidLooks := .later }
def FnExactDepthCardSaid : Prop := Claim7.holds Tryz.pinned (.plain (OpenSpec.ofChange fnExactDepthSpec)) fnExactDepthCard

/-- THE TIED CARD OF 'laws.FnExactHome'. -/
def fnExactHomeCard : Claim7 := { stood := { row := fnExactHomeRow, standIns := [], harness := (true, "378b82e80b0a08b6312c9fd7c2b4238f04efa5e14450923405207c80ee893484"), looks := false }, kinds := [], alts := [], laidByText := true, laidKinds := [.data, .data, .data, .pinned, .pinned], laidTests := true, laidLooks := .later }
def FnExactHomeCardSaid : Prop := Claim7.holds Tryz.pinned (.plain (OpenSpec.ofChange fnExactHomeSpec)) fnExactHomeCard

/-- THE TIED CARD OF 'laws.FnExactHere'. -/
def fnExactHereCard : Claim7 := { stood := { row := fnExactHereRow, standIns := [], harness := (true, "378b82e80b0a08b6312c9fd7c2b4238f04efa5e14450923405207c80ee893484"), looks := false }, kinds := [], alts := [], laidByText := true, laidKinds := [.data, .data, .data, .pinned, .pinned], laidTests := true, laidLooks := .later }
def FnExactHereCardSaid : Prop := Claim7.holds Tryz.pinned (.plain (OpenSpec.ofChange fnExactHereSpec)) fnExactHereCard

/-- THE TIED CARD OF 'laws.FnExactDown'. -/
def fnExactDownCard : Claim7 := { stood := { row := fnExactDownRow, standIns := [], harness := (true, "378b82e80b0a08b6312c9fd7c2b4238f04efa5e14450923405207c80ee893484"), looks := false }, kinds := [], alts := [], laidByText := true, laidKinds := [.data, .data, .data, .pinned, .pinned], laidTests := true, laidLooks := .later }
def FnExactDownCardSaid : Prop := Claim7.holds Tryz.pinned (.plain (OpenSpec.ofChange fnExactDownSpec)) fnExactDownCard

/-- THE TIED CARD OF 'laws.FnExactUp'. -/
def fnExactUpCard : Claim7 := { stood := { row := fnExactUpRow, standIns := [], harness := (true, "378b82e80b0a08b6312c9fd7c2b4238f04efa5e14450923405207c80ee893484"), looks := false }, kinds := [], alts := [], laidByText := true, laidKinds := [.data, .data, .data, .pinned, .pinned], laidTests := true, laidLooks := .later }
def FnExactUpCardSaid : Prop := Claim7.holds Tryz.pinned (.plain (OpenSpec.ofChange fnExactUpSpec)) fnExactUpCard

/-- THE TIED CARD OF 'laws.FnExactLeft'. -/
def fnExactLeftCard : Claim7 := { stood := { row := fnExactLeftRow, standIns := [], harness := (true, "378b82e80b0a08b6312c9fd7c2b4238f04efa5e14450923405207c80ee893484"), looks := false }, kinds := [], alts := [], laidByText := true, laidKinds := [.data, .data, .data, .pinned, .pinned], laidTests := true, laidLooks := .later }
def FnExactLeftCardSaid : Prop := Claim7.holds Tryz.pinned (.plain (OpenSpec.ofChange fnExactLeftSpec)) fnExactLeftCard

/-- THE TIED CARD OF 'laws.FnExactRight'. -/
def fnExactRightCard : Claim7 := { stood := { row := fnExactRightRow, standIns := [], harness := (true, "378b82e80b0a08b6312c9fd7c2b4238f04efa5e14450923405207c80ee893484"), looks := false }, kinds := [], alts := [], laidByText := true, laidKinds := [.data, .data, .data, .pinned, .pinned], laidTests := true, laidLooks := .later }
def FnExactRightCardSaid : Prop := Claim7.holds Tryz.pinned (.plain (OpenSpec.ofChange fnExactRightSpec)) fnExactRightCard

/-- THE TIED CARD OF 'laws.FnExactNext'. -/
def fnExactNextCard : Claim7 := { stood := { row := fnExactNextRow, standIns := [], harness := (true, "378b82e80b0a08b6312c9fd7c2b4238f04efa5e14450923405207c80ee893484"), looks := false }, kinds := [], alts := [], laidByText := true, laidKinds := [.data, .data, .data, .pinned, .pinned], laidTests := true, laidLooks := .later }
def FnExactNextCardSaid : Prop := Claim7.holds Tryz.pinned (.plain (OpenSpec.ofChange fnExactNextSpec)) fnExactNextCard

/-- THE TIED CARD OF 'laws.FnExactPrev'. -/
def fnExactPrevCard : Claim7 := { stood := { row := fnExactPrevRow, standIns := [], harness := (true, "378b82e80b0a08b6312c9fd7c2b4238f04efa5e14450923405207c80ee893484"), looks := false }, kinds := [], alts := [], laidByText := true, laidKinds := [.data, .data, .data, .pinned, .pinned], laidTests := true, laidLooks := .later }
def FnExactPrevCardSaid : Prop := Claim7.holds Tryz.pinned (.plain (OpenSpec.ofChange fnExactPrevSpec)) fnExactPrevCard

/-- THE TIED CARD OF 'laws.FnExactOpOk'. -/
def fnExactOpOkCard : Claim7 := { stood := { row := fnExactOpOkRow, standIns := [], harness := (true, "378b82e80b0a08b6312c9fd7c2b4238f04efa5e14450923405207c80ee893484"), looks := false }, kinds := [], alts := [], laidByText := true, laidKinds := [.data, .data, .data, .pinned, .pinned], laidTests := true, laidLooks := .later }
def FnExactOpOkCardSaid : Prop := Claim7.holds Tryz.pinned (.plain (OpenSpec.ofChange fnExactOpOkSpec)) fnExactOpOkCard

/-- THE TIED CARD OF 'laws.FnExactSwap'. -/
def fnExactSwapCard : Claim7 := { stood := { row := fnExactSwapRow, standIns := [], harness := (true, "378b82e80b0a08b6312c9fd7c2b4238f04efa5e14450923405207c80ee893484"), looks := false }, kinds := [], alts := [], laidByText := true, laidKinds := [.data, .data, .data, .pinned, .pinned], laidTests := true, laidLooks := .later }
def FnExactSwapCardSaid : Prop := Claim7.holds Tryz.pinned (.plain (OpenSpec.ofChange fnExactSwapSpec)) fnExactSwapCard

/-- THE SECOND FORM's CARD OF 'laws.FnExactWalkOk'. -/
def fnExactWalkOkUptoCard : Claim7 := { stood := { row := fnExactWalkOkUptoRow, standIns := [], harness := (true, "378b82e80b0a08b6312c9fd7c2b4238f04efa5e14450923405207c80ee893484"), looks := false }, kinds := [], alts := [], laidByText := true, laidKinds := [.data, .data, .data, .pinned, .pinned], laidTests := true, laidLooks := .later }
def FnExactWalkOkUptoCardSaid : Prop := Claim7.holds Tryz.pinned (.plain (OpenSpec.upto fnExactWalkOkSpec)) fnExactWalkOkUptoCard

/-- THE SECOND FORM's CARD OF 'laws.FnExactDepth'. -/
def fnExactDepthUptoCard : Claim7 := { stood := { row := fnExactDepthUptoRow, standIns := [], harness := (true, "378b82e80b0a08b6312c9fd7c2b4238f04efa5e14450923405207c80ee893484"), looks := false }, kinds := [], alts := [], laidByText := true, laidKinds := [.data, .data, .data, .pinned, .pinned], laidTests := true, laidLooks := .later }
def FnExactDepthUptoCardSaid : Prop := Claim7.holds Tryz.pinned (.plain (OpenSpec.upto fnExactDepthSpec)) fnExactDepthUptoCard

/-- THE SECOND FORM's CARD OF 'laws.FnExactHome'. -/
def fnExactHomeUptoCard : Claim7 := { stood := { row := fnExactHomeUptoRow, standIns := [], harness := (true, "378b82e80b0a08b6312c9fd7c2b4238f04efa5e14450923405207c80ee893484"), looks := false }, kinds := [], alts := [], laidByText := true, laidKinds := [.data, .data, .data, .pinned, .pinned], laidTests := true, laidLooks := .later }
def FnExactHomeUptoCardSaid : Prop := Claim7.holds Tryz.pinned (.plain (OpenSpec.upto fnExactHomeSpec)) fnExactHomeUptoCard

/-- THE SECOND FORM's CARD OF 'laws.FnExactHere'. -/
def fnExactHereUptoCard : Claim7 := { stood := { row := fnExactHereUptoRow, standIns := [], harness := (true, "378b82e80b0a08b6312c9fd7c2b4238f04efa5e14450923405207c80ee893484"), looks := false }, kinds := [], alts := [], laidByText := true, laidKinds := [.data, .data, .data, .pinned, .pinned], laidTests := true, laidLooks := .later }
def FnExactHereUptoCardSaid : Prop := Claim7.holds Tryz.pinned (.plain (OpenSpec.upto fnExactHereSpec)) fnExactHereUptoCard

/-- THE SECOND FORM's CARD OF 'laws.FnExactDown'. -/
def fnExactDownUptoCard : Claim7 := { stood := { row := fnExactDownUptoRow, standIns := [], harness := (true, "378b82e80b0a08b6312c9fd7c2b4238f04efa5e14450923405207c80ee893484"), looks := false }, kinds := [], alts := [], laidByText := true, laidKinds := [.data, .data, .data, .pinned, .pinned], laidTests := true, laidLooks := .later }
def FnExactDownUptoCardSaid : Prop := Claim7.holds Tryz.pinned (.plain (OpenSpec.upto fnExactDownSpec)) fnExactDownUptoCard

/-- THE SECOND FORM's CARD OF 'laws.FnExactUp'. -/
def fnExactUpUptoCard : Claim7 := { stood := { row := fnExactUpUptoRow, standIns := [], harness := (true, "378b82e80b0a08b6312c9fd7c2b4238f04efa5e14450923405207c80ee893484"), looks := false }, kinds := [], alts := [], laidByText := true, laidKinds := [.data, .data, .data, .pinned, .pinned], laidTests := true, laidLooks := .later }
def FnExactUpUptoCardSaid : Prop := Claim7.holds Tryz.pinned (.plain (OpenSpec.upto fnExactUpSpec)) fnExactUpUptoCard

/-- THE SECOND FORM's CARD OF 'laws.FnExactLeft'. -/
def fnExactLeftUptoCard : Claim7 := { stood := { row := fnExactLeftUptoRow, standIns := [], harness := (true, "378b82e80b0a08b6312c9fd7c2b4238f04efa5e14450923405207c80ee893484"), looks := false }, kinds := [], alts := [], laidByText := true, laidKinds := [.data, .data, .data, .pinned, .pinned], laidTests := true, laidLooks := .later }
def FnExactLeftUptoCardSaid : Prop := Claim7.holds Tryz.pinned (.plain (OpenSpec.upto fnExactLeftSpec)) fnExactLeftUptoCard

/-- THE SECOND FORM's CARD OF 'laws.FnExactRight'. -/
def fnExactRightUptoCard : Claim7 := { stood := { row := fnExactRightUptoRow, standIns := [], harness := (true, "378b82e80b0a08b6312c9fd7c2b4238f04efa5e14450923405207c80ee893484"), looks := false }, kinds := [], alts := [], laidByText := true, laidKinds := [.data, .data, .data, .pinned, .pinned], laidTests := true, laidLooks := .later }
def FnExactRightUptoCardSaid : Prop := Claim7.holds Tryz.pinned (.plain (OpenSpec.upto fnExactRightSpec)) fnExactRightUptoCard

/-- THE SECOND FORM's CARD OF 'laws.FnExactNext'. -/
def fnExactNextUptoCard : Claim7 := { stood := { row := fnExactNextUptoRow, standIns := [], harness := (true, "378b82e80b0a08b6312c9fd7c2b4238f04efa5e14450923405207c80ee893484"), looks := false }, kinds := [], alts := [], laidByText := true, laidKinds := [.data, .data, .data, .pinned, .pinned], laidTests := true, laidLooks := .later }
def FnExactNextUptoCardSaid : Prop := Claim7.holds Tryz.pinned (.plain (OpenSpec.upto fnExactNextSpec)) fnExactNextUptoCard

/-- THE SECOND FORM's CARD OF 'laws.FnExactPrev'. -/
def fnExactPrevUptoCard : Claim7 := { stood := { row := fnExactPrevUptoRow, standIns := [], harness := (true, "378b82e80b0a08b6312c9fd7c2b4238f04efa5e14450923405207c80ee893484"), looks := false }, kinds := [], alts := [], laidByText := true, laidKinds := [.data, .data, .data, .pinned, .pinned], laidTests := true, laidLooks := .later }
def FnExactPrevUptoCardSaid : Prop := Claim7.holds Tryz.pinned (.plain (OpenSpec.upto fnExactPrevSpec)) fnExactPrevUptoCard

/-- THE SECOND FORM's CARD OF 'laws.FnExactOpOk'. -/
def fnExactOpOkUptoCard : Claim7 := { stood := { row := fnExactOpOkUptoRow, standIns := [], harness := (true, "378b82e80b0a08b6312c9fd7c2b4238f04efa5e14450923405207c80ee893484"), looks := false }, kinds := [], alts := [], laidByText := true, laidKinds := [.data, .data, .data, .pinned, .pinned], laidTests := true, laidLooks := .later }
def FnExactOpOkUptoCardSaid : Prop := Claim7.holds Tryz.pinned (.plain (OpenSpec.upto fnExactOpOkSpec)) fnExactOpOkUptoCard

/-- THE SECOND FORM's CARD OF 'laws.FnExactSwap'. -/
def fnExactSwapUptoCard : Claim7 := { stood := { row := fnExactSwapUptoRow, standIns := [], harness := (true, "378b82e80b0a08b6312c9fd7c2b4238f04efa5e14450923405207c80ee893484"), looks := false }, kinds := [], alts := [], laidByText := true, laidKinds := [.data, .data, .data, .pinned, .pinned], laidTests := true, laidLooks := .later }
def FnExactSwapUptoCardSaid : Prop := Claim7.holds Tryz.pinned (.plain (OpenSpec.upto fnExactSwapSpec)) fnExactSwapUptoCard
end Rows
end Go.Proofs.YtjnjaaimgdjcgaaGreatDoor
