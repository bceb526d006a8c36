/-
  NARROWER THAN 'FOR EVERY INPUT', by the rows' own cells (each row's printed sentence says how): FnExactPutAt: loops · FnExactSelFor: loops.
  DERIVED. THE GIVEN ROWS OF THIS SEAT. 7 by the template 'for every input the law returns true; each argument reads behind the call as it read before'; 0 by the template 'total and deterministic' (their statements: YtdpdfjkjlkmjaaaTotals.lean).
  GIVEN WITH THE SEED: the statements are not yours to turn. If you find one false, say at which input.
  Laid BY PROGRAM, IN A SANDBOX (cutbox-rows.mjs): the forced cells as the released guide's own fill.sh prints them over the translation df63be1b5ce9c27f… (all of the seat's roots in one cut). By AI agents, Wed Nov 11 2026. No macro, syntax, notation, axiom, sorry.
-/
import Derived.Test.YtdpdfjkjlkmjaaaChecked
import GoSem.Claim
import GoSem.ClaimJoined
import GoSem.ClaimMapViews
import Derived.JoinedTies
import Derived.KernelRfl
namespace Go.Proofs.Ytdpdfjkjlkmjaaa
/- THE CELL 'sum', in the pinned program and in every row, IS THE sha256 OF THE DUMP (.gsa) THAT YtdpdfjkjlkmjaaaProg.lean LOADS. Nothing in Lean hashes anything: it is a label: what it is worth is what the hold of that sum in a sandbox is worth. -/
noncomputable def Try.pinned : Pinned := { name := "ytdpdfjkjlkmjaaa", sum := "df63be1b5ce9c27fff4786af190f5b697c5f2669a8d570c87f7918551d0ac405", checked := Try.checked }
namespace Rows
def none {H : Type} : Left H := { results := [], args := [] }

/-- 'laws.FnWayRound': WHATEVER THE INPUT: true; the input reads as it did. -/
def fnWayRoundSpec : ChangeSpec := { name := "fnWayRound", fn := fun _ => fun
  | [d] => { results := [.lit (.bool true)], args := [d] }
  | _ => none }
def fnWayRoundRow : OpenClaim := { program := "ytdpdfjkjlkmjaaa", sum := "df63be1b5ce9c27fff4786af190f5b697c5f2669a8d570c87f7918551d0ac405", func := "loop.example/g00484/laws.FnWayRound", spec := "fnWayRound", recurses := true, apart := false }
def FnWayRoundSaid : Prop := fnWayRoundRow.holds Try.pinned (OpenSpec.ofChange fnWayRoundSpec)

/-- ITS FALSE NEIGHBOUR: 'it returns false'. Refute it at one input. -/
def fnWayRoundWrong : ChangeSpec := { name := "fnWayRound", fn := fun _ => fun
  | [d] => { results := [.lit (.bool false)], args := [d] }
  | _ => none }
def FnWayRoundWrongFalsely : Prop := fnWayRoundRow.holds Try.pinned (OpenSpec.ofChange fnWayRoundWrong)

/-- 'laws.FnPlaces': WHATEVER THE INPUT: true; the input reads as it did. -/
def fnPlacesSpec : ChangeSpec := { name := "fnPlaces", fn := fun _ => fun
  | [d] => { results := [.lit (.bool true)], args := [d] }
  | _ => none }
def fnPlacesRow : OpenClaim := { program := "ytdpdfjkjlkmjaaa", sum := "df63be1b5ce9c27fff4786af190f5b697c5f2669a8d570c87f7918551d0ac405", func := "loop.example/g00484/laws.FnPlaces", spec := "fnPlaces", unfollowed := true, recurses := true, apart := false }
def FnPlacesSaid : Prop := fnPlacesRow.holds Try.pinned (OpenSpec.ofChange fnPlacesSpec)

/-- ITS FALSE NEIGHBOUR: 'it returns false'. Refute it at one input. -/
def fnPlacesWrong : ChangeSpec := { name := "fnPlaces", fn := fun _ => fun
  | [d] => { results := [.lit (.bool false)], args := [d] }
  | _ => none }
def FnPlacesWrongFalsely : Prop := fnPlacesRow.holds Try.pinned (OpenSpec.ofChange fnPlacesWrong)

/-- 'laws.FnAligns': WHATEVER THE INPUT: true; the input reads as it did. -/
def fnAlignsSpec : ChangeSpec := { name := "fnAligns", fn := fun _ => fun
  | [d] => { results := [.lit (.bool true)], args := [d] }
  | _ => none }
def fnAlignsRow : OpenClaim := { program := "ytdpdfjkjlkmjaaa", sum := "df63be1b5ce9c27fff4786af190f5b697c5f2669a8d570c87f7918551d0ac405", func := "loop.example/g00484/laws.FnAligns", spec := "fnAligns", unfollowed := true, recurses := true, apart := false }
def FnAlignsSaid : Prop := fnAlignsRow.holds Try.pinned (OpenSpec.ofChange fnAlignsSpec)

/-- ITS FALSE NEIGHBOUR: 'it returns false'. Refute it at one input. -/
def fnAlignsWrong : ChangeSpec := { name := "fnAligns", fn := fun _ => fun
  | [d] => { results := [.lit (.bool false)], args := [d] }
  | _ => none }
def FnAlignsWrongFalsely : Prop := fnAlignsRow.holds Try.pinned (OpenSpec.ofChange fnAlignsWrong)

/-- 'laws.FnExactPutAt': WHATEVER THE INPUT: true; the input reads as it did. -/
def fnExactPutAtSpec : ChangeSpec := { name := "fnExactPutAt", fn := fun _ => fun
  | [d1, d2, d3] => { results := [.lit (.bool true)], args := [d1, d2, d3] }
  | _ => none }
def fnExactPutAtRow : OpenClaim := { program := "ytdpdfjkjlkmjaaa", sum := "df63be1b5ce9c27fff4786af190f5b697c5f2669a8d570c87f7918551d0ac405", func := "loop.example/g00484/laws.FnExactPutAt", spec := "fnExactPutAt", unfollowed := true, recurses := true, loops := true, apart := false }
def FnExactPutAtSaid : Prop := fnExactPutAtRow.holds Try.pinned (OpenSpec.ofChange fnExactPutAtSpec)

/-- ITS FALSE NEIGHBOUR: 'it returns false'. Refute it at one input. -/
def fnExactPutAtWrong : ChangeSpec := { name := "fnExactPutAt", fn := fun _ => fun
  | [d1, d2, d3] => { results := [.lit (.bool false)], args := [d1, d2, d3] }
  | _ => none }
def FnExactPutAtWrongFalsely : Prop := fnExactPutAtRow.holds Try.pinned (OpenSpec.ofChange fnExactPutAtWrong)

/-- 'laws.FnEdits': WHATEVER THE INPUT: true; the input reads as it did. -/
def fnEditsSpec : ChangeSpec := { name := "fnEdits", fn := fun _ => fun
  | [d] => { results := [.lit (.bool true)], args := [d] }
  | _ => none }
def fnEditsRow : OpenClaim := { program := "ytdpdfjkjlkmjaaa", sum := "df63be1b5ce9c27fff4786af190f5b697c5f2669a8d570c87f7918551d0ac405", func := "loop.example/g00484/laws.FnEdits", spec := "fnEdits", unfollowed := true, recurses := true, apart := false }
def FnEditsSaid : Prop := fnEditsRow.holds Try.pinned (OpenSpec.ofChange fnEditsSpec)

/-- ITS FALSE NEIGHBOUR: 'it returns false'. Refute it at one input. -/
def fnEditsWrong : ChangeSpec := { name := "fnEdits", fn := fun _ => fun
  | [d] => { results := [.lit (.bool false)], args := [d] }
  | _ => none }
def FnEditsWrongFalsely : Prop := fnEditsRow.holds Try.pinned (OpenSpec.ofChange fnEditsWrong)

/-- 'laws.FnExactSelFor': WHATEVER THE INPUT: true; the input reads as it did. -/
def fnExactSelForSpec : ChangeSpec := { name := "fnExactSelFor", fn := fun _ => fun
  | [d1, d2] => { results := [.lit (.bool true)], args := [d1, d2] }
  | _ => none }
def fnExactSelForRow : OpenClaim := { program := "ytdpdfjkjlkmjaaa", sum := "df63be1b5ce9c27fff4786af190f5b697c5f2669a8d570c87f7918551d0ac405", func := "loop.example/g00484/laws.FnExactSelFor", spec := "fnExactSelFor", recurses := true, loops := true, apart := false }
def FnExactSelForSaid : Prop := fnExactSelForRow.holds Try.pinned (OpenSpec.ofChange fnExactSelForSpec)

/-- ITS FALSE NEIGHBOUR: 'it returns false'. Refute it at one input. -/
def fnExactSelForWrong : ChangeSpec := { name := "fnExactSelFor", fn := fun _ => fun
  | [d1, d2] => { results := [.lit (.bool false)], args := [d1, d2] }
  | _ => none }
def FnExactSelForWrongFalsely : Prop := fnExactSelForRow.holds Try.pinned (OpenSpec.ofChange fnExactSelForWrong)

/-- 'laws.FnGaps': WHATEVER THE INPUT: true; the input reads as it did. -/
def fnGapsSpec : ChangeSpec := { name := "fnGaps", fn := fun _ => fun
  | [d] => { results := [.lit (.bool true)], args := [d] }
  | _ => none }
def fnGapsRow : OpenClaim := { program := "ytdpdfjkjlkmjaaa", sum := "df63be1b5ce9c27fff4786af190f5b697c5f2669a8d570c87f7918551d0ac405", func := "loop.example/g00484/laws.FnGaps", spec := "fnGaps", unfollowed := true, recurses := true, apart := false }
def FnGapsSaid : Prop := fnGapsRow.holds Try.pinned (OpenSpec.ofChange fnGapsSpec)

/-- ITS FALSE NEIGHBOUR: 'it returns false'. Refute it at one input. -/
def fnGapsWrong : ChangeSpec := { name := "fnGaps", fn := fun _ => fun
  | [d] => { results := [.lit (.bool false)], args := [d] }
  | _ => none }
def FnGapsWrongFalsely : Prop := fnGapsRow.holds Try.pinned (OpenSpec.ofChange fnGapsWrong)

/- THE SECOND FORM. 'bulk': how many values and letters a reading holds, each counted each time it is reached (what is shared counts as often as it is met; a slice's spare places count too). A statement '..UptoSaid' is the law's where the arguments, and the package variables that the reading takes, are together of bulk at most 1048576: NARROWER than '..Said'. Prove '..Said' where nothing that the law and all that it calls make is longer than what came in: it says more and counts as full. Else prove '..UptoSaid'. A law counts once. -/
mutual
def uptoBulk {H : Type} : DataW H → Nat
  | .lit (.string bytes) => bytes.length + 1
  | .lit _ => 1
  | .nil => 1
  | .ptr d => uptoBulk d + 1
  | .slice elems spare => uptoBulkAll elems + uptoBulkAll spare + 1
  | .agg parts => uptoBulkAll parts + 1
  | .iface _ d => uptoBulk d + 1
  | .map entries => uptoBulkEntries entries + 1
  | .held _ => 1
def uptoBulkAll {H : Type} : List (DataW H) → Nat
  | [] => 0
  | d :: r => uptoBulk d + uptoBulkAll r
def uptoBulkEntries {H : Type} : List (Lit × DataW H) → Nat
  | [] => 0
  | x :: r => uptoBulkEntry x + uptoBulkEntries r
def uptoBulkEntry {H : Type} : Lit × DataW H → Nat
  | (.string bytes, d) => bytes.length + uptoBulk d + 1
  | (_, d) => uptoBulk d + 1
 end
def uptoSmall : (H : Type) → List (DataW H) → Bool := fun _ ds => decide (uptoBulkAll ds ≤ 1048576)
def OpenSpec.upto (s : _root_.Go.ChangeSpec) : _root_.Go.OpenSpec := { _root_.Go.OpenSpec.ofChange s with cond := some uptoSmall }

/-- 'laws.FnWayRound', WHERE WHAT IT READS IS OF BULK AT MOST 1048576: true; the input reads as it did. -/
def fnWayRoundUptoRow : OpenClaim := { program := "ytdpdfjkjlkmjaaa", sum := "df63be1b5ce9c27fff4786af190f5b697c5f2669a8d570c87f7918551d0ac405", func := "loop.example/g00484/laws.FnWayRound", spec := "fnWayRound", recurses := true, apart := false, narrowed := true }
def FnWayRoundUptoSaid : Prop := fnWayRoundUptoRow.holds Try.pinned (OpenSpec.upto fnWayRoundSpec)

/-- 'laws.FnPlaces', WHERE WHAT IT READS IS OF BULK AT MOST 1048576: true; the input reads as it did. -/
def fnPlacesUptoRow : OpenClaim := { program := "ytdpdfjkjlkmjaaa", sum := "df63be1b5ce9c27fff4786af190f5b697c5f2669a8d570c87f7918551d0ac405", func := "loop.example/g00484/laws.FnPlaces", spec := "fnPlaces", unfollowed := true, recurses := true, apart := false, narrowed := true }
def FnPlacesUptoSaid : Prop := fnPlacesUptoRow.holds Try.pinned (OpenSpec.upto fnPlacesSpec)

/-- 'laws.FnAligns', WHERE WHAT IT READS IS OF BULK AT MOST 1048576: true; the input reads as it did. -/
def fnAlignsUptoRow : OpenClaim := { program := "ytdpdfjkjlkmjaaa", sum := "df63be1b5ce9c27fff4786af190f5b697c5f2669a8d570c87f7918551d0ac405", func := "loop.example/g00484/laws.FnAligns", spec := "fnAligns", unfollowed := true, recurses := true, apart := false, narrowed := true }
def FnAlignsUptoSaid : Prop := fnAlignsUptoRow.holds Try.pinned (OpenSpec.upto fnAlignsSpec)

/-- 'laws.FnExactPutAt', WHERE WHAT IT READS IS OF BULK AT MOST 1048576: true; the input reads as it did. -/
def fnExactPutAtUptoRow : OpenClaim := { program := "ytdpdfjkjlkmjaaa", sum := "df63be1b5ce9c27fff4786af190f5b697c5f2669a8d570c87f7918551d0ac405", func := "loop.example/g00484/laws.FnExactPutAt", spec := "fnExactPutAt", unfollowed := true, recurses := true, loops := true, apart := false, narrowed := true }
def FnExactPutAtUptoSaid : Prop := fnExactPutAtUptoRow.holds Try.pinned (OpenSpec.upto fnExactPutAtSpec)

/-- 'laws.FnEdits', WHERE WHAT IT READS IS OF BULK AT MOST 1048576: true; the input reads as it did. -/
def fnEditsUptoRow : OpenClaim := { program := "ytdpdfjkjlkmjaaa", sum := "df63be1b5ce9c27fff4786af190f5b697c5f2669a8d570c87f7918551d0ac405", func := "loop.example/g00484/laws.FnEdits", spec := "fnEdits", unfollowed := true, recurses := true, apart := false, narrowed := true }
def FnEditsUptoSaid : Prop := fnEditsUptoRow.holds Try.pinned (OpenSpec.upto fnEditsSpec)

/-- 'laws.FnExactSelFor', WHERE WHAT IT READS IS OF BULK AT MOST 1048576: true; the input reads as it did. -/
def fnExactSelForUptoRow : OpenClaim := { program := "ytdpdfjkjlkmjaaa", sum := "df63be1b5ce9c27fff4786af190f5b697c5f2669a8d570c87f7918551d0ac405", func := "loop.example/g00484/laws.FnExactSelFor", spec := "fnExactSelFor", recurses := true, loops := true, apart := false, narrowed := true }
def FnExactSelForUptoSaid : Prop := fnExactSelForUptoRow.holds Try.pinned (OpenSpec.upto fnExactSelForSpec)

/-- 'laws.FnGaps', WHERE WHAT IT READS IS OF BULK AT MOST 1048576: true; the input reads as it did. -/
def fnGapsUptoRow : OpenClaim := { program := "ytdpdfjkjlkmjaaa", sum := "df63be1b5ce9c27fff4786af190f5b697c5f2669a8d570c87f7918551d0ac405", func := "loop.example/g00484/laws.FnGaps", spec := "fnGaps", unfollowed := true, recurses := true, apart := false, narrowed := true }
def FnGapsUptoSaid : Prop := fnGapsUptoRow.holds Try.pinned (OpenSpec.upto fnGapsSpec)

end Rows
end Go.Proofs.Ytdpdfjkjlkmjaaa
