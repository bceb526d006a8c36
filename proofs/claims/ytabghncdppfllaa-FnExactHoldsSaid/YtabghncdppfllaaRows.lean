/-
  NARROWER THAN 'FOR EVERY INPUT', by the rows' own cells (each row's printed sentence says how): FnExactNodes: loops · FnExactLeast: loops · FnExactWholeText: loops · FnExactSameName: loops · FnExactLongest: loops · FnExactHolds: loops · FnExactAlone: loops · FnExactAlign: loops · FnExactGap: loops.
  DERIVED. THE GIVEN ROWS OF THIS SEAT. 12 by the template 'for every input the law returns true; each argument reads behind the call as it read before'; 0 by the template 'total and deterministic' (their statements: YtabghncdppfllaaTotals.lean).
  GIVEN WITH THE SEED: the statements are not yours to turn. If you find one false, say at which input.
  Laid BY PROGRAM, IN A SANDBOX (cutbox-rows.mjs): the forced cells as the released guide's own fill.sh prints them over the translation 819757a0f58e3381… (all of the seat's roots in one cut). By AI agents, Wed Nov 11 2026. No macro, syntax, notation, axiom, sorry.
-/
import Derived.Test.YtabghncdppfllaaChecked
import GoSem.Claim
import GoSem.ClaimJoined
import GoSem.ClaimMapViews
import Derived.JoinedTies
import Derived.KernelRfl
namespace Go.Proofs.Ytabghncdppfllaa
/- THE CELL 'sum', in the pinned program and in every row, IS THE sha256 OF THE DUMP (.gsa) THAT YtabghncdppfllaaProg.lean LOADS. Nothing in Lean hashes anything: it is a label: what it is worth is what the hold of that sum in a sandbox is worth. -/
noncomputable def Try.pinned : Pinned := { name := "ytabghncdppfllaa", sum := "819757a0f58e33817571fad1458b27d46af287df7736fed941adcd345281de15", checked := Try.checked }
namespace Rows
def none {H : Type} : Left H := { results := [], args := [] }

/-- 'laws.FnExactCodeName': WHATEVER THE INPUT: true; the input reads as it did. -/
def fnExactCodeNameSpec : ChangeSpec := { name := "fnExactCodeName", fn := fun _ => fun
  | [d] => { results := [.lit (.bool true)], args := [d] }
  | _ => none }
def fnExactCodeNameRow : OpenClaim := { program := "ytabghncdppfllaa", sum := "819757a0f58e33817571fad1458b27d46af287df7736fed941adcd345281de15", func := "loop.example/g00484/laws.FnExactCodeName", spec := "fnExactCodeName", apart := false }
def FnExactCodeNameSaid : Prop := fnExactCodeNameRow.holds Try.pinned (OpenSpec.ofChange fnExactCodeNameSpec)

/-- ITS FALSE NEIGHBOUR: 'it returns false'. Refute it at one input. -/
def fnExactCodeNameWrong : ChangeSpec := { name := "fnExactCodeName", fn := fun _ => fun
  | [d] => { results := [.lit (.bool false)], args := [d] }
  | _ => none }
def FnExactCodeNameWrongFalsely : Prop := fnExactCodeNameRow.holds Try.pinned (OpenSpec.ofChange fnExactCodeNameWrong)

/-- 'laws.FnExactFold': WHATEVER THE INPUT: true; the input reads as it did. -/
def fnExactFoldSpec : ChangeSpec := { name := "fnExactFold", fn := fun _ => fun
  | [d1, d2] => { results := [.lit (.bool true)], args := [d1, d2] }
  | _ => none }
def fnExactFoldRow : OpenClaim := { program := "ytabghncdppfllaa", sum := "819757a0f58e33817571fad1458b27d46af287df7736fed941adcd345281de15", func := "loop.example/g00484/laws.FnExactFold", spec := "fnExactFold", apart := false }
def FnExactFoldSaid : Prop := fnExactFoldRow.holds Try.pinned (OpenSpec.ofChange fnExactFoldSpec)

/-- ITS FALSE NEIGHBOUR: 'it returns false'. Refute it at one input. -/
def fnExactFoldWrong : ChangeSpec := { name := "fnExactFold", fn := fun _ => fun
  | [d1, d2] => { results := [.lit (.bool false)], args := [d1, d2] }
  | _ => none }
def FnExactFoldWrongFalsely : Prop := fnExactFoldRow.holds Try.pinned (OpenSpec.ofChange fnExactFoldWrong)

/-- 'laws.FnExactSameSel': WHATEVER THE INPUT: true; the input reads as it did. -/
def fnExactSameSelSpec : ChangeSpec := { name := "fnExactSameSel", fn := fun _ => fun
  | [d1, d2] => { results := [.lit (.bool true)], args := [d1, d2] }
  | _ => none }
def fnExactSameSelRow : OpenClaim := { program := "ytabghncdppfllaa", sum := "819757a0f58e33817571fad1458b27d46af287df7736fed941adcd345281de15", func := "loop.example/g00484/laws.FnExactSameSel", spec := "fnExactSameSel", unfollowed := true, recurses := true, apart := false }
def FnExactSameSelSaid : Prop := fnExactSameSelRow.holds Try.pinned (OpenSpec.ofChange fnExactSameSelSpec)

/-- ITS FALSE NEIGHBOUR: 'it returns false'. Refute it at one input. -/
def fnExactSameSelWrong : ChangeSpec := { name := "fnExactSameSel", fn := fun _ => fun
  | [d1, d2] => { results := [.lit (.bool false)], args := [d1, d2] }
  | _ => none }
def FnExactSameSelWrongFalsely : Prop := fnExactSameSelRow.holds Try.pinned (OpenSpec.ofChange fnExactSameSelWrong)

/-- 'laws.FnExactNodes': WHATEVER THE INPUT: true; the input reads as it did. -/
def fnExactNodesSpec : ChangeSpec := { name := "fnExactNodes", fn := fun _ => fun
  | [d] => { results := [.lit (.bool true)], args := [d] }
  | _ => none }
def fnExactNodesRow : OpenClaim := { program := "ytabghncdppfllaa", sum := "819757a0f58e33817571fad1458b27d46af287df7736fed941adcd345281de15", func := "loop.example/g00484/laws.FnExactNodes", spec := "fnExactNodes", recurses := true, loops := true, apart := false }
def FnExactNodesSaid : Prop := fnExactNodesRow.holds Try.pinned (OpenSpec.ofChange fnExactNodesSpec)

/-- ITS FALSE NEIGHBOUR: 'it returns false'. Refute it at one input. -/
def fnExactNodesWrong : ChangeSpec := { name := "fnExactNodes", fn := fun _ => fun
  | [d] => { results := [.lit (.bool false)], args := [d] }
  | _ => none }
def FnExactNodesWrongFalsely : Prop := fnExactNodesRow.holds Try.pinned (OpenSpec.ofChange fnExactNodesWrong)

/-- 'laws.FnExactLeast': WHATEVER THE INPUT: true; the input reads as it did. -/
def fnExactLeastSpec : ChangeSpec := { name := "fnExactLeast", fn := fun _ => fun
  | [d1, d2] => { results := [.lit (.bool true)], args := [d1, d2] }
  | _ => none }
def fnExactLeastRow : OpenClaim := { program := "ytabghncdppfllaa", sum := "819757a0f58e33817571fad1458b27d46af287df7736fed941adcd345281de15", func := "loop.example/g00484/laws.FnExactLeast", spec := "fnExactLeast", recurses := true, loops := true, apart := false }
def FnExactLeastSaid : Prop := fnExactLeastRow.holds Try.pinned (OpenSpec.ofChange fnExactLeastSpec)

/-- ITS FALSE NEIGHBOUR: 'it returns false'. Refute it at one input. -/
def fnExactLeastWrong : ChangeSpec := { name := "fnExactLeast", fn := fun _ => fun
  | [d1, d2] => { results := [.lit (.bool false)], args := [d1, d2] }
  | _ => none }
def FnExactLeastWrongFalsely : Prop := fnExactLeastRow.holds Try.pinned (OpenSpec.ofChange fnExactLeastWrong)

/-- 'laws.FnExactWholeText': WHATEVER THE INPUT: true; the input reads as it did. -/
def fnExactWholeTextSpec : ChangeSpec := { name := "fnExactWholeText", fn := fun _ => fun
  | [d] => { results := [.lit (.bool true)], args := [d] }
  | _ => none }
def fnExactWholeTextRow : OpenClaim := { program := "ytabghncdppfllaa", sum := "819757a0f58e33817571fad1458b27d46af287df7736fed941adcd345281de15", func := "loop.example/g00484/laws.FnExactWholeText", spec := "fnExactWholeText", recurses := true, loops := true, apart := false }
def FnExactWholeTextSaid : Prop := fnExactWholeTextRow.holds Try.pinned (OpenSpec.ofChange fnExactWholeTextSpec)

/-- ITS FALSE NEIGHBOUR: 'it returns false'. Refute it at one input. -/
def fnExactWholeTextWrong : ChangeSpec := { name := "fnExactWholeText", fn := fun _ => fun
  | [d] => { results := [.lit (.bool false)], args := [d] }
  | _ => none }
def FnExactWholeTextWrongFalsely : Prop := fnExactWholeTextRow.holds Try.pinned (OpenSpec.ofChange fnExactWholeTextWrong)

/-- 'laws.FnExactSameName': WHATEVER THE INPUT: true; the input reads as it did. -/
def fnExactSameNameSpec : ChangeSpec := { name := "fnExactSameName", fn := fun _ => fun
  | [d1, d2] => { results := [.lit (.bool true)], args := [d1, d2] }
  | _ => none }
def fnExactSameNameRow : OpenClaim := { program := "ytabghncdppfllaa", sum := "819757a0f58e33817571fad1458b27d46af287df7736fed941adcd345281de15", func := "loop.example/g00484/laws.FnExactSameName", spec := "fnExactSameName", recurses := true, loops := true, apart := false }
def FnExactSameNameSaid : Prop := fnExactSameNameRow.holds Try.pinned (OpenSpec.ofChange fnExactSameNameSpec)

/-- ITS FALSE NEIGHBOUR: 'it returns false'. Refute it at one input. -/
def fnExactSameNameWrong : ChangeSpec := { name := "fnExactSameName", fn := fun _ => fun
  | [d1, d2] => { results := [.lit (.bool false)], args := [d1, d2] }
  | _ => none }
def FnExactSameNameWrongFalsely : Prop := fnExactSameNameRow.holds Try.pinned (OpenSpec.ofChange fnExactSameNameWrong)

/-- 'laws.FnExactLongest': WHATEVER THE INPUT: true; the input reads as it did. -/
def fnExactLongestSpec : ChangeSpec := { name := "fnExactLongest", fn := fun _ => fun
  | [d1, d2] => { results := [.lit (.bool true)], args := [d1, d2] }
  | _ => none }
def fnExactLongestRow : OpenClaim := { program := "ytabghncdppfllaa", sum := "819757a0f58e33817571fad1458b27d46af287df7736fed941adcd345281de15", func := "loop.example/g00484/laws.FnExactLongest", spec := "fnExactLongest", unfollowed := true, recurses := true, loops := true, apart := false }
def FnExactLongestSaid : Prop := fnExactLongestRow.holds Try.pinned (OpenSpec.ofChange fnExactLongestSpec)

/-- ITS FALSE NEIGHBOUR: 'it returns false'. Refute it at one input. -/
def fnExactLongestWrong : ChangeSpec := { name := "fnExactLongest", fn := fun _ => fun
  | [d1, d2] => { results := [.lit (.bool false)], args := [d1, d2] }
  | _ => none }
def FnExactLongestWrongFalsely : Prop := fnExactLongestRow.holds Try.pinned (OpenSpec.ofChange fnExactLongestWrong)

/-- 'laws.FnExactHolds': WHATEVER THE INPUT: true; the input reads as it did. -/
def fnExactHoldsSpec : ChangeSpec := { name := "fnExactHolds", fn := fun _ => fun
  | [d1, d2] => { results := [.lit (.bool true)], args := [d1, d2] }
  | _ => none }
def fnExactHoldsRow : OpenClaim := { program := "ytabghncdppfllaa", sum := "819757a0f58e33817571fad1458b27d46af287df7736fed941adcd345281de15", func := "loop.example/g00484/laws.FnExactHolds", spec := "fnExactHolds", recurses := true, loops := true, apart := false }
def FnExactHoldsSaid : Prop := fnExactHoldsRow.holds Try.pinned (OpenSpec.ofChange fnExactHoldsSpec)

/-- ITS FALSE NEIGHBOUR: 'it returns false'. Refute it at one input. -/
def fnExactHoldsWrong : ChangeSpec := { name := "fnExactHolds", fn := fun _ => fun
  | [d1, d2] => { results := [.lit (.bool false)], args := [d1, d2] }
  | _ => none }
def FnExactHoldsWrongFalsely : Prop := fnExactHoldsRow.holds Try.pinned (OpenSpec.ofChange fnExactHoldsWrong)

/-- 'laws.FnExactAlone': WHATEVER THE INPUT: true; the input reads as it did. -/
def fnExactAloneSpec : ChangeSpec := { name := "fnExactAlone", fn := fun _ => fun
  | [d] => { results := [.lit (.bool true)], args := [d] }
  | _ => none }
def fnExactAloneRow : OpenClaim := { program := "ytabghncdppfllaa", sum := "819757a0f58e33817571fad1458b27d46af287df7736fed941adcd345281de15", func := "loop.example/g00484/laws.FnExactAlone", spec := "fnExactAlone", recurses := true, loops := true, apart := false }
def FnExactAloneSaid : Prop := fnExactAloneRow.holds Try.pinned (OpenSpec.ofChange fnExactAloneSpec)

/-- ITS FALSE NEIGHBOUR: 'it returns false'. Refute it at one input. -/
def fnExactAloneWrong : ChangeSpec := { name := "fnExactAlone", fn := fun _ => fun
  | [d] => { results := [.lit (.bool false)], args := [d] }
  | _ => none }
def FnExactAloneWrongFalsely : Prop := fnExactAloneRow.holds Try.pinned (OpenSpec.ofChange fnExactAloneWrong)

/-- 'laws.FnExactAlign': WHATEVER THE INPUT: true; the input reads as it did. -/
def fnExactAlignSpec : ChangeSpec := { name := "fnExactAlign", fn := fun _ => fun
  | [d1, d2] => { results := [.lit (.bool true)], args := [d1, d2] }
  | _ => none }
def fnExactAlignRow : OpenClaim := { program := "ytabghncdppfllaa", sum := "819757a0f58e33817571fad1458b27d46af287df7736fed941adcd345281de15", func := "loop.example/g00484/laws.FnExactAlign", spec := "fnExactAlign", unfollowed := true, recurses := true, loops := true, apart := false }
def FnExactAlignSaid : Prop := fnExactAlignRow.holds Try.pinned (OpenSpec.ofChange fnExactAlignSpec)

/-- ITS FALSE NEIGHBOUR: 'it returns false'. Refute it at one input. -/
def fnExactAlignWrong : ChangeSpec := { name := "fnExactAlign", fn := fun _ => fun
  | [d1, d2] => { results := [.lit (.bool false)], args := [d1, d2] }
  | _ => none }
def FnExactAlignWrongFalsely : Prop := fnExactAlignRow.holds Try.pinned (OpenSpec.ofChange fnExactAlignWrong)

/-- 'laws.FnExactGap': WHATEVER THE INPUT: true; the input reads as it did. -/
def fnExactGapSpec : ChangeSpec := { name := "fnExactGap", fn := fun _ => fun
  | [d1, d2] => { results := [.lit (.bool true)], args := [d1, d2] }
  | _ => none }
def fnExactGapRow : OpenClaim := { program := "ytabghncdppfllaa", sum := "819757a0f58e33817571fad1458b27d46af287df7736fed941adcd345281de15", func := "loop.example/g00484/laws.FnExactGap", spec := "fnExactGap", recurses := true, loops := true, apart := false }
def FnExactGapSaid : Prop := fnExactGapRow.holds Try.pinned (OpenSpec.ofChange fnExactGapSpec)

/-- ITS FALSE NEIGHBOUR: 'it returns false'. Refute it at one input. -/
def fnExactGapWrong : ChangeSpec := { name := "fnExactGap", fn := fun _ => fun
  | [d1, d2] => { results := [.lit (.bool false)], args := [d1, d2] }
  | _ => none }
def FnExactGapWrongFalsely : Prop := fnExactGapRow.holds Try.pinned (OpenSpec.ofChange fnExactGapWrong)

/- THE SECOND FORM. 'bulk': how many values and letters a reading holds, each counted each time it is reached (what is shared counts as often as it is met; a slice's spare places count too). A statement '..UptoSaid' is the law's where the arguments, and the package variables that the reading takes, are together of bulk at most 1048576: NARROWER than '..Said'. Prove '..Said' where nothing that the law and all that it calls make is longer than what came in: it says more and counts as full. Else prove '..UptoSaid'. A law counts once. -/
mutual
def uptoBulk {H : Type} : DataW H → Nat
  | .lit (.string bytes) => bytes.length + 1
  | .lit _ => 1
  | .nil => 1
  | .ptr d => uptoBulk d + 1
  | .slice elems spare => uptoBulkAll elems + uptoBulkAll spare + 1
  | .agg parts => uptoBulkAll parts + 1
  | .iface _ d => uptoBulk d + 1
  | .map entries => uptoBulkEntries entries + 1
  | .held _ => 1
def uptoBulkAll {H : Type} : List (DataW H) → Nat
  | [] => 0
  | d :: r => uptoBulk d + uptoBulkAll r
def uptoBulkEntries {H : Type} : List (Lit × DataW H) → Nat
  | [] => 0
  | x :: r => uptoBulkEntry x + uptoBulkEntries r
def uptoBulkEntry {H : Type} : Lit × DataW H → Nat
  | (.string bytes, d) => bytes.length + uptoBulk d + 1
  | (_, d) => uptoBulk d + 1
 end
def uptoSmall : (H : Type) → List (DataW H) → Bool := fun _ ds => decide (uptoBulkAll ds ≤ 1048576)
def OpenSpec.upto (s : _root_.Go.ChangeSpec) : _root_.Go.OpenSpec := { _root_.Go.OpenSpec.ofChange s with cond := some uptoSmall }

/-- 'laws.FnExactCodeName', WHERE WHAT IT READS IS OF BULK AT MOST 1048576: true; the input reads as it did. -/
def fnExactCodeNameUptoRow : OpenClaim := { program := "ytabghncdppfllaa", sum := "819757a0f58e33817571fad1458b27d46af287df7736fed941adcd345281de15", func := "loop.example/g00484/laws.FnExactCodeName", spec := "fnExactCodeName", apart := false, narrowed := true }
def FnExactCodeNameUptoSaid : Prop := fnExactCodeNameUptoRow.holds Try.pinned (OpenSpec.upto fnExactCodeNameSpec)

/-- 'laws.FnExactFold', WHERE WHAT IT READS IS OF BULK AT MOST 1048576: true; the input reads as it did. -/
def fnExactFoldUptoRow : OpenClaim := { program := "ytabghncdppfllaa", sum := "819757a0f58e33817571fad1458b27d46af287df7736fed941adcd345281de15", func := "loop.example/g00484/laws.FnExactFold", spec := "fnExactFold", apart := false, narrowed := true }
def FnExactFoldUptoSaid : Prop := fnExactFoldUptoRow.holds Try.pinned (OpenSpec.upto fnExactFoldSpec)

/-- 'laws.FnExactSameSel', WHERE WHAT IT READS IS OF BULK AT MOST 1048576: true; the input reads as it did. -/
def fnExactSameSelUptoRow : OpenClaim := { program := "ytabghncdppfllaa", sum := "819757a0f58e33817571fad1458b27d46af287df7736fed941adcd345281de15", func := "loop.example/g00484/laws.FnExactSameSel", spec := "fnExactSameSel", unfollowed := true, recurses := true, apart := false, narrowed := true }
def FnExactSameSelUptoSaid : Prop := fnExactSameSelUptoRow.holds Try.pinned (OpenSpec.upto fnExactSameSelSpec)

/-- 'laws.FnExactNodes', WHERE WHAT IT READS IS OF BULK AT MOST 1048576: true; the input reads as it did. -/
def fnExactNodesUptoRow : OpenClaim := { program := "ytabghncdppfllaa", sum := "819757a0f58e33817571fad1458b27d46af287df7736fed941adcd345281de15", func := "loop.example/g00484/laws.FnExactNodes", spec := "fnExactNodes", recurses := true, loops := true, apart := false, narrowed := true }
def FnExactNodesUptoSaid : Prop := fnExactNodesUptoRow.holds Try.pinned (OpenSpec.upto fnExactNodesSpec)

/-- 'laws.FnExactLeast', WHERE WHAT IT READS IS OF BULK AT MOST 1048576: true; the input reads as it did. -/
def fnExactLeastUptoRow : OpenClaim := { program := "ytabghncdppfllaa", sum := "819757a0f58e33817571fad1458b27d46af287df7736fed941adcd345281de15", func := "loop.example/g00484/laws.FnExactLeast", spec := "fnExactLeast", recurses := true, loops := true, apart := false, narrowed := true }
def FnExactLeastUptoSaid : Prop := fnExactLeastUptoRow.holds Try.pinned (OpenSpec.upto fnExactLeastSpec)

/-- 'laws.FnExactWholeText', WHERE WHAT IT READS IS OF BULK AT MOST 1048576: true; the input reads as it did. -/
def fnExactWholeTextUptoRow : OpenClaim := { program := "ytabghncdppfllaa", sum := "819757a0f58e33817571fad1458b27d46af287df7736fed941adcd345281de15", func := "loop.example/g00484/laws.FnExactWholeText", spec := "fnExactWholeText", recurses := true, loops := true, apart := false, narrowed := true }
def FnExactWholeTextUptoSaid : Prop := fnExactWholeTextUptoRow.holds Try.pinned (OpenSpec.upto fnExactWholeTextSpec)

/-- 'laws.FnExactSameName', WHERE WHAT IT READS IS OF BULK AT MOST 1048576: true; the input reads as it did. -/
def fnExactSameNameUptoRow : OpenClaim := { program := "ytabghncdppfllaa", sum := "819757a0f58e33817571fad1458b27d46af287df7736fed941adcd345281de15", func := "loop.example/g00484/laws.FnExactSameName", spec := "fnExactSameName", recurses := true, loops := true, apart := false, narrowed := true }
def FnExactSameNameUptoSaid : Prop := fnExactSameNameUptoRow.holds Try.pinned (OpenSpec.upto fnExactSameNameSpec)

/-- 'laws.FnExactLongest', WHERE WHAT IT READS IS OF BULK AT MOST 1048576: true; the input reads as it did. -/
def fnExactLongestUptoRow : OpenClaim := { program := "ytabghncdppfllaa", sum := "819757a0f58e33817571fad1458b27d46af287df7736fed941adcd345281de15", func := "loop.example/g00484/laws.FnExactLongest", spec := "fnExactLongest", unfollowed := true, recurses := true, loops := true, apart := false, narrowed := true }
def FnExactLongestUptoSaid : Prop := fnExactLongestUptoRow.holds Try.pinned (OpenSpec.upto fnExactLongestSpec)

/-- 'laws.FnExactHolds', WHERE WHAT IT READS IS OF BULK AT MOST 1048576: true; the input reads as it did. -/
def fnExactHoldsUptoRow : OpenClaim := { program := "ytabghncdppfllaa", sum := "819757a0f58e33817571fad1458b27d46af287df7736fed941adcd345281de15", func := "loop.example/g00484/laws.FnExactHolds", spec := "fnExactHolds", recurses := true, loops := true, apart := false, narrowed := true }
def FnExactHoldsUptoSaid : Prop := fnExactHoldsUptoRow.holds Try.pinned (OpenSpec.upto fnExactHoldsSpec)

/-- 'laws.FnExactAlone', WHERE WHAT IT READS IS OF BULK AT MOST 1048576: true; the input reads as it did. -/
def fnExactAloneUptoRow : OpenClaim := { program := "ytabghncdppfllaa", sum := "819757a0f58e33817571fad1458b27d46af287df7736fed941adcd345281de15", func := "loop.example/g00484/laws.FnExactAlone", spec := "fnExactAlone", recurses := true, loops := true, apart := false, narrowed := true }
def FnExactAloneUptoSaid : Prop := fnExactAloneUptoRow.holds Try.pinned (OpenSpec.upto fnExactAloneSpec)

/-- 'laws.FnExactAlign', WHERE WHAT IT READS IS OF BULK AT MOST 1048576: true; the input reads as it did. -/
def fnExactAlignUptoRow : OpenClaim := { program := "ytabghncdppfllaa", sum := "819757a0f58e33817571fad1458b27d46af287df7736fed941adcd345281de15", func := "loop.example/g00484/laws.FnExactAlign", spec := "fnExactAlign", unfollowed := true, recurses := true, loops := true, apart := false, narrowed := true }
def FnExactAlignUptoSaid : Prop := fnExactAlignUptoRow.holds Try.pinned (OpenSpec.upto fnExactAlignSpec)

/-- 'laws.FnExactGap', WHERE WHAT IT READS IS OF BULK AT MOST 1048576: true; the input reads as it did. -/
def fnExactGapUptoRow : OpenClaim := { program := "ytabghncdppfllaa", sum := "819757a0f58e33817571fad1458b27d46af287df7736fed941adcd345281de15", func := "loop.example/g00484/laws.FnExactGap", spec := "fnExactGap", recurses := true, loops := true, apart := false, narrowed := true }
def FnExactGapUptoSaid : Prop := fnExactGapUptoRow.holds Try.pinned (OpenSpec.upto fnExactGapSpec)

end Rows
end Go.Proofs.Ytabghncdppfllaa
