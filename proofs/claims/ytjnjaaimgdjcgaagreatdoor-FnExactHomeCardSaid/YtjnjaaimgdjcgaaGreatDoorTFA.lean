import Derived.Test.YtjnjaaimgdjcgaaGreatDoorRows
import Derived.JoinedOf
import Derived.SevenTiedAt
import Derived.KernelRfl
set_option maxRecDepth 100000
namespace Go.Proofs.YtjnjaaimgdjcgaaGreatDoor.fnExactHome
open Go
theorem fa0 : Rows.fnExactHomeRow.wf (OpenSpec.ofChange Rows.fnExactHomeSpec) = true := by kernel_rfl
theorem fa1 : laidOutB Tryz.pinned.checked.prog = true := by kernel_rfl
theorem fa2 : mapsRowed Tryz.pinned.checked.prog = true := by kernel_rfl
theorem fa3 : Tryz.f5.params.all (Tryz.pinned.checked.prog.readableRec ·) = true := by kernel_rfl
theorem fa4 : namedTie Tryz.pinned.checked.prog Rows.fnExactHomeRow.named Rows.fnExactHomeSpec.vars = true := by kernel_rfl
theorem fa5 : (Rows.fnExactHomeRow.stops == []) = true := by kernel_rfl
theorem fa6 : (Tryz.pinned.checked.prog.stops == []) = true := by kernel_rfl
theorem fa7 : (Rows.fnExactHomeRow.knobs == []) = true := by kernel_rfl
theorem fa8 : (Tryz.pinned.checked.prog.stopKnobs == []) = true := by kernel_rfl
theorem fa9 : (Rows.fnExactHomeRow.inPlace == Tryz.pinned.checked.prog.inPlace 5) = true := by kernel_rfl
theorem fa10 : (Rows.fnExactHomeRow.unfollowed == Tryz.pinned.checked.prog.unfollowed 5) = true := by kernel_rfl
theorem fa11 : (Rows.fnExactHomeRow.recurses == Tryz.pinned.checked.prog.recurses 5) = true := by kernel_rfl
theorem fa12 : (Rows.fnExactHomeRow.named == Tryz.pinned.checked.prog.varsNamed 5) = true := by kernel_rfl
theorem fa13 : (Rows.fnExactHomeRow.maps == (Tryz.f5.params.toList ++ Rows.fnExactHomeSpec.plain.varTypes Tryz.pinned.checked.prog).any (Tryz.pinned.checked.prog.mapsRec ·)) = true := by kernel_rfl
theorem fa14 : (Rows.fnExactHomeRow.ifaces == (Tryz.f5.params.toList ++ Rows.fnExactHomeSpec.plain.varTypes Tryz.pinned.checked.prog).any (Tryz.pinned.checked.prog.ifacesRec ·)) = true := by kernel_rfl
theorem fa15 : (Rows.fnExactHomeRow.mapsOut == Tryz.pinned.checked.prog.mapsAmong Tryz.f5.resultTypes.toList) = true := by kernel_rfl
theorem fa16 : (Rows.fnExactHomeRow.loops == (Tryz.f5.params.toList ++ Rows.fnExactHomeSpec.plain.varTypes Tryz.pinned.checked.prog).any (Tryz.pinned.checked.prog.loopsFrom ·)) = true := by kernel_rfl
theorem fa17 : (Rows.fnExactHomeRow.wideKeys == (Tryz.f5.params.toList ++ Rows.fnExactHomeSpec.plain.varTypes Tryz.pinned.checked.prog ++ Tryz.f5.resultTypes.toList).any (Tryz.pinned.checked.prog.wideKeysFrom ·)) = true := by kernel_rfl
theorem fa18 : Rows.fnExactHomeSpec.vars.all (Tryz.pinned.checked.prog.varReadable ·) = true := by kernel_rfl
theorem fa19 : Tryz.f5.resultTypes.all (fun t => Tryz.pinned.checked.prog.readableRec t && decide (t < Tryz.pinned.checked.prog.types.size)) = true := by kernel_rfl
theorem fa20 : (Rows.fnExactHomeRow.ifacesOut == Tryz.f5.resultTypes.toList.any (Tryz.pinned.checked.prog.ifacesRec ·)) = true := by kernel_rfl
theorem fa21 : (Rows.fnExactHomeRow.loopsOut == Tryz.f5.resultTypes.toList.any (Tryz.pinned.checked.prog.loopsFrom ·)) = true := by kernel_rfl
theorem fa22 : (Rows.fnExactHomeRow.plainKeys == Tryz.pinned.checked.prog.plainKeys) = true := by kernel_rfl
theorem fa23 : Rows.fnExactHomeRow.shortTexts.isNone = true := by kernel_rfl
theorem fa24 : Tryz.pinned.checked.prog.stopsHeard = true := by kernel_rfl
theorem fa25 : Tryz.pinned.checked.prog.mayEnter = true := by kernel_rfl
theorem fa26 : (Rows.fnExactHomeRow.lifted == Tryz.pinned.checked.prog.liftsFinal) = true := by kernel_rfl
theorem fa27 : (Tryz.pinned.checked.prog.make == some Rows.fnExactHomeRow.make) = true := by kernel_rfl
theorem fa28 : (Rows.fnExactHomeRow.kinds == (if Rows.fnExactHomeRow.domain.isEmpty then [] else Tryz.f5.params.toList.map fun t => match Tryz.pinned.checked.prog.underlying t with | some (.int k) => some k | _ => none)) = true := by kernel_rfl
theorem fa29 : (Rows.fnExactHomeRow.pinned == Rows.fnExactHomeRow.pinnedBy) = true := by kernel_rfl
theorem fa30 : (Rows.fnExactHomeRow.veiled == (Tryz.f5.params.toList ++ Rows.fnExactHomeSpec.plain.varTypes Tryz.pinned.checked.prog ++ Tryz.f5.resultTypes.toList).any (Tryz.pinned.checked.prog.veiledRec ·)) = true := by kernel_rfl
theorem fa31 : Rows.fnExactHomeRow.veiledFits Tryz.pinned.checked.prog Tryz.f5.params.toList (Tryz.f5.params.toList ++ Rows.fnExactHomeSpec.plain.varTypes Tryz.pinned.checked.prog ++ Tryz.f5.resultTypes.toList) = true := by kernel_rfl
set_option maxHeartbeats 2000000 in
theorem fa_closed : joinedFacts Tryz.pinned.checked.prog 5 Tryz.f5 Rows.fnExactHomeSpec Rows.fnExactHomeRow = true := by
 unfold joinedFacts
 simp only [Bool.and_eq_true]
 exact ⟨⟨⟨⟨⟨⟨⟨⟨⟨⟨⟨⟨⟨⟨⟨⟨⟨⟨⟨⟨⟨⟨⟨⟨⟨⟨⟨⟨⟨⟨⟨fa0, fa1⟩, fa2⟩, fa3⟩, fa4⟩, fa5⟩, fa6⟩, fa7⟩, fa8⟩, fa9⟩, fa10⟩, fa11⟩, fa12⟩, fa13⟩, fa14⟩, fa15⟩, fa16⟩, fa17⟩, fa18⟩, fa19⟩, fa20⟩, fa21⟩, fa22⟩, fa23⟩, fa24⟩, fa25⟩, fa26⟩, fa27⟩, fa28⟩, fa29⟩, fa30⟩, fa31⟩
theorem fa_named : Tryz.pinned.checked.prog.funcNamed Rows.fnExactHomeRow.func = some 5 := by kernel_rfl
theorem fa_inst : Tryz.f5.isInstance Tryz.pinned.checked.prog Rows.fnExactHomeRow.origin Rows.fnExactHomeRow.targs := of_decide_eq_true (by kernel_rfl)
theorem fa_wrap : Tryz.f5.isWrapper Tryz.pinned.checked.prog Rows.fnExactHomeRow.wrapper Rows.fnExactHomeRow.mainSum := by unfold Func.isWrapper; first | (rw [if_pos (by decide +kernel)]; kernel_rfl) | (rw [if_neg (by decide +kernel)]; exact ⟨rfl, rfl⟩)
theorem fa_text : Rows.fnExactHomeRow.wfByText (OpenSpec.ofChange Rows.fnExactHomeSpec) = true := by kernel_rfl
theorem fa_main : Tryz.pinned.checked.prog.mainIs = some ((true, "378b82e80b0a08b6312c9fd7c2b4238f04efa5e14450923405207c80ee893484").1, (true, "378b82e80b0a08b6312c9fd7c2b4238f04efa5e14450923405207c80ee893484").2.toList) := by kernel_rfl
theorem fa_looks : false = Tryz.pinned.checked.prog.looks [] := by kernel_rfl
theorem fa_plain : ([26].all fun u => !Tryz.prog.wantsStandIn u) = true := by kernel_rfl
theorem fa_goes : false = Rows.fnExactHomeRow.goesBy Tryz.pinned.checked.prog := by kernel_rfl
end Go.Proofs.YtjnjaaimgdjcgaaGreatDoor.fnExactHome
