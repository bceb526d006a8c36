import Derived.Test.YtgihjlfmnfbcaaaDoorRows
import Derived.JoinedOf
import Derived.SevenTiedAt
import Derived.KernelRfl
set_option maxRecDepth 100000
namespace Go.Proofs.YtgihjlfmnfbcaaaDoor.fnClasses
open Go
theorem fa0 : Rows.fnClassesRow.wf (OpenSpec.ofChange Rows.fnClassesSpec) = true := by kernel_rfl
theorem fa1 : laidOutB Tryd.pinned.checked.prog = true := by kernel_rfl
theorem fa2 : mapsRowed Tryd.pinned.checked.prog = true := by kernel_rfl
theorem fa3 : Tryd.f3.params.all (Tryd.pinned.checked.prog.readableRec ·) = true := by kernel_rfl
theorem fa4 : namedTie Tryd.pinned.checked.prog Rows.fnClassesRow.named Rows.fnClassesSpec.vars = true := by kernel_rfl
theorem fa5 : (Rows.fnClassesRow.stops == []) = true := by kernel_rfl
theorem fa6 : (Tryd.pinned.checked.prog.stops == []) = true := by kernel_rfl
theorem fa7 : (Rows.fnClassesRow.knobs == []) = true := by kernel_rfl
theorem fa8 : (Tryd.pinned.checked.prog.stopKnobs == []) = true := by kernel_rfl
theorem fa9 : (Rows.fnClassesRow.inPlace == Tryd.pinned.checked.prog.inPlace 3) = true := by kernel_rfl
theorem fa10 : (Rows.fnClassesRow.unfollowed == Tryd.pinned.checked.prog.unfollowed 3) = true := by kernel_rfl
theorem fa11 : (Rows.fnClassesRow.recurses == Tryd.pinned.checked.prog.recurses 3) = true := by kernel_rfl
theorem fa12 : (Rows.fnClassesRow.named == Tryd.pinned.checked.prog.varsNamed 3) = true := by kernel_rfl
theorem fa13 : (Rows.fnClassesRow.maps == (Tryd.f3.params.toList ++ Rows.fnClassesSpec.plain.varTypes Tryd.pinned.checked.prog).any (Tryd.pinned.checked.prog.mapsRec ·)) = true := by kernel_rfl
theorem fa14 : (Rows.fnClassesRow.ifaces == (Tryd.f3.params.toList ++ Rows.fnClassesSpec.plain.varTypes Tryd.pinned.checked.prog).any (Tryd.pinned.checked.prog.ifacesRec ·)) = true := by kernel_rfl
theorem fa15 : (Rows.fnClassesRow.mapsOut == Tryd.pinned.checked.prog.mapsAmong Tryd.f3.resultTypes.toList) = true := by kernel_rfl
theorem fa16 : (Rows.fnClassesRow.loops == (Tryd.f3.params.toList ++ Rows.fnClassesSpec.plain.varTypes Tryd.pinned.checked.prog).any (Tryd.pinned.checked.prog.loopsFrom ·)) = true := by kernel_rfl
theorem fa17 : (Rows.fnClassesRow.wideKeys == (Tryd.f3.params.toList ++ Rows.fnClassesSpec.plain.varTypes Tryd.pinned.checked.prog ++ Tryd.f3.resultTypes.toList).any (Tryd.pinned.checked.prog.wideKeysFrom ·)) = true := by kernel_rfl
theorem fa18 : Rows.fnClassesSpec.vars.all (Tryd.pinned.checked.prog.varReadable ·) = true := by kernel_rfl
theorem fa19 : Tryd.f3.resultTypes.all (fun t => Tryd.pinned.checked.prog.readableRec t && decide (t < Tryd.pinned.checked.prog.types.size)) = true := by kernel_rfl
theorem fa20 : (Rows.fnClassesRow.ifacesOut == Tryd.f3.resultTypes.toList.any (Tryd.pinned.checked.prog.ifacesRec ·)) = true := by kernel_rfl
theorem fa21 : (Rows.fnClassesRow.loopsOut == Tryd.f3.resultTypes.toList.any (Tryd.pinned.checked.prog.loopsFrom ·)) = true := by kernel_rfl
theorem fa22 : (Rows.fnClassesRow.plainKeys == Tryd.pinned.checked.prog.plainKeys) = true := by kernel_rfl
theorem fa23 : Rows.fnClassesRow.shortTexts.isNone = true := by kernel_rfl
theorem fa24 : Tryd.pinned.checked.prog.stopsHeard = true := by kernel_rfl
theorem fa25 : Tryd.pinned.checked.prog.mayEnter = true := by kernel_rfl
theorem fa26 : (Rows.fnClassesRow.lifted == Tryd.pinned.checked.prog.liftsFinal) = true := by kernel_rfl
theorem fa27 : (Tryd.pinned.checked.prog.make == some Rows.fnClassesRow.make) = true := by kernel_rfl
theorem fa28 : (Rows.fnClassesRow.kinds == (if Rows.fnClassesRow.domain.isEmpty then [] else Tryd.f3.params.toList.map fun t => match Tryd.pinned.checked.prog.underlying t with | some (.int k) => some k | _ => none)) = true := by kernel_rfl
theorem fa29 : (Rows.fnClassesRow.pinned == Rows.fnClassesRow.pinnedBy) = true := by kernel_rfl
theorem fa30 : (Rows.fnClassesRow.veiled == (Tryd.f3.params.toList ++ Rows.fnClassesSpec.plain.varTypes Tryd.pinned.checked.prog ++ Tryd.f3.resultTypes.toList).any (Tryd.pinned.checked.prog.veiledRec ·)) = true := by kernel_rfl
theorem fa31 : Rows.fnClassesRow.veiledFits Tryd.pinned.checked.prog Tryd.f3.params.toList (Tryd.f3.params.toList ++ Rows.fnClassesSpec.plain.varTypes Tryd.pinned.checked.prog ++ Tryd.f3.resultTypes.toList) = true := by kernel_rfl
set_option maxHeartbeats 2000000 in
theorem fa_closed : joinedFacts Tryd.pinned.checked.prog 3 Tryd.f3 Rows.fnClassesSpec Rows.fnClassesRow = true := by
 unfold joinedFacts
 simp only [Bool.and_eq_true]
 exact ⟨⟨⟨⟨⟨⟨⟨⟨⟨⟨⟨⟨⟨⟨⟨⟨⟨⟨⟨⟨⟨⟨⟨⟨⟨⟨⟨⟨⟨⟨⟨fa0, fa1⟩, fa2⟩, fa3⟩, fa4⟩, fa5⟩, fa6⟩, fa7⟩, fa8⟩, fa9⟩, fa10⟩, fa11⟩, fa12⟩, fa13⟩, fa14⟩, fa15⟩, fa16⟩, fa17⟩, fa18⟩, fa19⟩, fa20⟩, fa21⟩, fa22⟩, fa23⟩, fa24⟩, fa25⟩, fa26⟩, fa27⟩, fa28⟩, fa29⟩, fa30⟩, fa31⟩
theorem fa_named : Tryd.pinned.checked.prog.funcNamed Rows.fnClassesRow.func = some 3 := by kernel_rfl
theorem fa_inst : Tryd.f3.isInstance Tryd.pinned.checked.prog Rows.fnClassesRow.origin Rows.fnClassesRow.targs := of_decide_eq_true (by kernel_rfl)
theorem fa_wrap : Tryd.f3.isWrapper Tryd.pinned.checked.prog Rows.fnClassesRow.wrapper Rows.fnClassesRow.mainSum := by unfold Func.isWrapper; first | (rw [if_pos (by decide +kernel)]; kernel_rfl) | (rw [if_neg (by decide +kernel)]; exact ⟨rfl, rfl⟩)
theorem fa_text : Rows.fnClassesRow.wfByText (OpenSpec.ofChange Rows.fnClassesSpec) = true := by kernel_rfl
theorem fa_main : Tryd.pinned.checked.prog.mainIs = some ((true, "b3f9708c006612dae03eaa1d465e409e3c1e66f7fcf6bb0ada19b9d0362ec1f7").1, (true, "b3f9708c006612dae03eaa1d465e409e3c1e66f7fcf6bb0ada19b9d0362ec1f7").2.toList) := by kernel_rfl
theorem fa_looks : false = Tryd.pinned.checked.prog.looks [] := by kernel_rfl
theorem fa_plain : ([22].all fun u => !Tryd.prog.wantsStandIn u) = true := by kernel_rfl
theorem fa_goes : false = Rows.fnClassesRow.goesBy Tryd.pinned.checked.prog := by kernel_rfl
end Go.Proofs.YtgihjlfmnfbcaaaDoor.fnClasses
