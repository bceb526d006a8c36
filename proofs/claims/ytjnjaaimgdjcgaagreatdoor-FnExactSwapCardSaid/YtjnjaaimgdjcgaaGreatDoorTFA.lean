import Derived.Test.YtjnjaaimgdjcgaaGreatDoorRows
import Derived.JoinedOf
import Derived.SevenTiedAt
import Derived.KernelRfl
set_option maxRecDepth 100000
namespace Go.Proofs.YtjnjaaimgdjcgaaGreatDoor.fnExactSwap
open Go
theorem fa0 : Rows.fnExactSwapRow.wf (OpenSpec.ofChange Rows.fnExactSwapSpec) = true := by kernel_rfl
theorem fa1 : laidOutB Tryz.pinned.checked.prog = true := by kernel_rfl
theorem fa2 : mapsRowed Tryz.pinned.checked.prog = true := by kernel_rfl
theorem fa3 : Tryz.f14.params.all (Tryz.pinned.checked.prog.readableRec ·) = true := by kernel_rfl
theorem fa4 : namedTie Tryz.pinned.checked.prog Rows.fnExactSwapRow.named Rows.fnExactSwapSpec.vars = true := by kernel_rfl
theorem fa5 : (Rows.fnExactSwapRow.stops == []) = true := by kernel_rfl
theorem fa6 : (Tryz.pinned.checked.prog.stops == []) = true := by kernel_rfl
theorem fa7 : (Rows.fnExactSwapRow.knobs == []) = true := by kernel_rfl
theorem fa8 : (Tryz.pinned.checked.prog.stopKnobs == []) = true := by kernel_rfl
theorem fa9 : (Rows.fnExactSwapRow.inPlace == Tryz.pinned.checked.prog.inPlace 14) = true := by kernel_rfl
theorem fa10 : (Rows.fnExactSwapRow.unfollowed == Tryz.pinned.checked.prog.unfollowed 14) = true := by kernel_rfl
theorem fa11 : (Rows.fnExactSwapRow.recurses == Tryz.pinned.checked.prog.recurses 14) = true := by kernel_rfl
theorem fa12 : (Rows.fnExactSwapRow.named == Tryz.pinned.checked.prog.varsNamed 14) = true := by kernel_rfl
theorem fa13 : (Rows.fnExactSwapRow.maps == (Tryz.f14.params.toList ++ Rows.fnExactSwapSpec.plain.varTypes Tryz.pinned.checked.prog).any (Tryz.pinned.checked.prog.mapsRec ·)) = true := by kernel_rfl
theorem fa14 : (Rows.fnExactSwapRow.ifaces == (Tryz.f14.params.toList ++ Rows.fnExactSwapSpec.plain.varTypes Tryz.pinned.checked.prog).any (Tryz.pinned.checked.prog.ifacesRec ·)) = true := by kernel_rfl
theorem fa15 : (Rows.fnExactSwapRow.mapsOut == Tryz.pinned.checked.prog.mapsAmong Tryz.f14.resultTypes.toList) = true := by kernel_rfl
theorem fa16 : (Rows.fnExactSwapRow.loops == (Tryz.f14.params.toList ++ Rows.fnExactSwapSpec.plain.varTypes Tryz.pinned.checked.prog).any (Tryz.pinned.checked.prog.loopsFrom ·)) = true := by kernel_rfl
theorem fa17 : (Rows.fnExactSwapRow.wideKeys == (Tryz.f14.params.toList ++ Rows.fnExactSwapSpec.plain.varTypes Tryz.pinned.checked.prog ++ Tryz.f14.resultTypes.toList).any (Tryz.pinned.checked.prog.wideKeysFrom ·)) = true := by kernel_rfl
theorem fa18 : Rows.fnExactSwapSpec.vars.all (Tryz.pinned.checked.prog.varReadable ·) = true := by kernel_rfl
theorem fa19 : Tryz.f14.resultTypes.all (fun t => Tryz.pinned.checked.prog.readableRec t && decide (t < Tryz.pinned.checked.prog.types.size)) = true := by kernel_rfl
theorem fa20 : (Rows.fnExactSwapRow.ifacesOut == Tryz.f14.resultTypes.toList.any (Tryz.pinned.checked.prog.ifacesRec ·)) = true := by kernel_rfl
theorem fa21 : (Rows.fnExactSwapRow.loopsOut == Tryz.f14.resultTypes.toList.any (Tryz.pinned.checked.prog.loopsFrom ·)) = true := by kernel_rfl
theorem fa22 : (Rows.fnExactSwapRow.plainKeys == Tryz.pinned.checked.prog.plainKeys) = true := by kernel_rfl
theorem fa23 : Rows.fnExactSwapRow.shortTexts.isNone = true := by kernel_rfl
theorem fa24 : Tryz.pinned.checked.prog.stopsHeard = true := by kernel_rfl
theorem fa25 : Tryz.pinned.checked.prog.mayEnter = true := by kernel_rfl
theorem fa26 : (Rows.fnExactSwapRow.lifted == Tryz.pinned.checked.prog.liftsFinal) = true := by kernel_rfl
theorem fa27 : (Tryz.pinned.checked.prog.make == some Rows.fnExactSwapRow.make) = true := by kernel_rfl
theorem fa28 : (Rows.fnExactSwapRow.kinds == (if Rows.fnExactSwapRow.domain.isEmpty then [] else Tryz.f14.params.toList.map fun t => match Tryz.pinned.checked.prog.underlying t with | some (.int k) => some k | _ => none)) = true := by kernel_rfl
theorem fa29 : (Rows.fnExactSwapRow.pinned == Rows.fnExactSwapRow.pinnedBy) = true := by kernel_rfl
theorem fa30 : (Rows.fnExactSwapRow.veiled == (Tryz.f14.params.toList ++ Rows.fnExactSwapSpec.plain.varTypes Tryz.pinned.checked.prog ++ Tryz.f14.resultTypes.toList).any (Tryz.pinned.checked.prog.veiledRec ·)) = true := by kernel_rfl
theorem fa31 : Rows.fnExactSwapRow.veiledFits Tryz.pinned.checked.prog Tryz.f14.params.toList (Tryz.f14.params.toList ++ Rows.fnExactSwapSpec.plain.varTypes Tryz.pinned.checked.prog ++ Tryz.f14.resultTypes.toList) = true := by kernel_rfl
set_option maxHeartbeats 2000000 in
theorem fa_closed : joinedFacts Tryz.pinned.checked.prog 14 Tryz.f14 Rows.fnExactSwapSpec Rows.fnExactSwapRow = true := by
 unfold joinedFacts
 simp only [Bool.and_eq_true]
 exact ⟨⟨⟨⟨⟨⟨⟨⟨⟨⟨⟨⟨⟨⟨⟨⟨⟨⟨⟨⟨⟨⟨⟨⟨⟨⟨⟨⟨⟨⟨⟨fa0, fa1⟩, fa2⟩, fa3⟩, fa4⟩, fa5⟩, fa6⟩, fa7⟩, fa8⟩, fa9⟩, fa10⟩, fa11⟩, fa12⟩, fa13⟩, fa14⟩, fa15⟩, fa16⟩, fa17⟩, fa18⟩, fa19⟩, fa20⟩, fa21⟩, fa22⟩, fa23⟩, fa24⟩, fa25⟩, fa26⟩, fa27⟩, fa28⟩, fa29⟩, fa30⟩, fa31⟩
theorem fa_named : Tryz.pinned.checked.prog.funcNamed Rows.fnExactSwapRow.func = some 14 := by kernel_rfl
theorem fa_inst : Tryz.f14.isInstance Tryz.pinned.checked.prog Rows.fnExactSwapRow.origin Rows.fnExactSwapRow.targs := of_decide_eq_true (by kernel_rfl)
theorem fa_wrap : Tryz.f14.isWrapper Tryz.pinned.checked.prog Rows.fnExactSwapRow.wrapper Rows.fnExactSwapRow.mainSum := by unfold Func.isWrapper; first | (rw [if_pos (by decide +kernel)]; kernel_rfl) | (rw [if_neg (by decide +kernel)]; exact ⟨rfl, rfl⟩)
theorem fa_text : Rows.fnExactSwapRow.wfByText (OpenSpec.ofChange Rows.fnExactSwapSpec) = true := by kernel_rfl
theorem fa_main : Tryz.pinned.checked.prog.mainIs = some ((true, "378b82e80b0a08b6312c9fd7c2b4238f04efa5e14450923405207c80ee893484").1, (true, "378b82e80b0a08b6312c9fd7c2b4238f04efa5e14450923405207c80ee893484").2.toList) := by kernel_rfl
theorem fa_looks : false = Tryz.pinned.checked.prog.looks [] := by kernel_rfl
theorem fa_plain : ([26, 29].all fun u => !Tryz.prog.wantsStandIn u) = true := by kernel_rfl
theorem fa_goes : false = Rows.fnExactSwapRow.goesBy Tryz.pinned.checked.prog := by kernel_rfl
end Go.Proofs.YtjnjaaimgdjcgaaGreatDoor.fnExactSwap
