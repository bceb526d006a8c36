import Derived.Test.YtaeegkjcjlnanaaGreatDoorRows
import Derived.JoinedOf
import Derived.SevenTiedAt
import Derived.KernelRfl
set_option maxRecDepth 100000
namespace Go.Proofs.YtaeegkjcjlnanaaGreatDoor.fnSwaps
open Go
theorem fa0 : Rows.fnSwapsRow.wf (OpenSpec.ofChange Rows.fnSwapsSpec) = true := by kernel_rfl
theorem fa1 : laidOutB Tryz.pinned.checked.prog = true := by kernel_rfl
theorem fa2 : mapsRowed Tryz.pinned.checked.prog = true := by kernel_rfl
theorem fa3 : Tryz.f3.params.all (Tryz.pinned.checked.prog.readableRec ·) = true := by kernel_rfl
theorem fa4 : namedTie Tryz.pinned.checked.prog Rows.fnSwapsRow.named Rows.fnSwapsSpec.vars = true := by kernel_rfl
theorem fa5 : (Rows.fnSwapsRow.stops == []) = true := by kernel_rfl
theorem fa6 : (Tryz.pinned.checked.prog.stops == []) = true := by kernel_rfl
theorem fa7 : (Rows.fnSwapsRow.knobs == []) = true := by kernel_rfl
theorem fa8 : (Tryz.pinned.checked.prog.stopKnobs == []) = true := by kernel_rfl
theorem fa9 : (Rows.fnSwapsRow.inPlace == Tryz.pinned.checked.prog.inPlace 3) = true := by kernel_rfl
theorem fa10 : (Rows.fnSwapsRow.unfollowed == Tryz.pinned.checked.prog.unfollowed 3) = true := by kernel_rfl
theorem fa11 : (Rows.fnSwapsRow.recurses == Tryz.pinned.checked.prog.recurses 3) = true := by kernel_rfl
theorem fa12 : (Rows.fnSwapsRow.named == Tryz.pinned.checked.prog.varsNamed 3) = true := by kernel_rfl
theorem fa13 : (Rows.fnSwapsRow.maps == (Tryz.f3.params.toList ++ Rows.fnSwapsSpec.plain.varTypes Tryz.pinned.checked.prog).any (Tryz.pinned.checked.prog.mapsRec ·)) = true := by kernel_rfl
theorem fa14 : (Rows.fnSwapsRow.ifaces == (Tryz.f3.params.toList ++ Rows.fnSwapsSpec.plain.varTypes Tryz.pinned.checked.prog).any (Tryz.pinned.checked.prog.ifacesRec ·)) = true := by kernel_rfl
theorem fa15 : (Rows.fnSwapsRow.mapsOut == Tryz.pinned.checked.prog.mapsAmong Tryz.f3.resultTypes.toList) = true := by kernel_rfl
theorem fa16 : (Rows.fnSwapsRow.loops == (Tryz.f3.params.toList ++ Rows.fnSwapsSpec.plain.varTypes Tryz.pinned.checked.prog).any (Tryz.pinned.checked.prog.loopsFrom ·)) = true := by kernel_rfl
theorem fa17 : (Rows.fnSwapsRow.wideKeys == (Tryz.f3.params.toList ++ Rows.fnSwapsSpec.plain.varTypes Tryz.pinned.checked.prog ++ Tryz.f3.resultTypes.toList).any (Tryz.pinned.checked.prog.wideKeysFrom ·)) = true := by kernel_rfl
theorem fa18 : Rows.fnSwapsSpec.vars.all (Tryz.pinned.checked.prog.varReadable ·) = true := by kernel_rfl
theorem fa19 : Tryz.f3.resultTypes.all (fun t => Tryz.pinned.checked.prog.readableRec t && decide (t < Tryz.pinned.checked.prog.types.size)) = true := by kernel_rfl
theorem fa20 : (Rows.fnSwapsRow.ifacesOut == Tryz.f3.resultTypes.toList.any (Tryz.pinned.checked.prog.ifacesRec ·)) = true := by kernel_rfl
theorem fa21 : (Rows.fnSwapsRow.loopsOut == Tryz.f3.resultTypes.toList.any (Tryz.pinned.checked.prog.loopsFrom ·)) = true := by kernel_rfl
theorem fa22 : (Rows.fnSwapsRow.plainKeys == Tryz.pinned.checked.prog.plainKeys) = true := by kernel_rfl
theorem fa23 : Rows.fnSwapsRow.shortTexts.isNone = true := by kernel_rfl
theorem fa24 : Tryz.pinned.checked.prog.stopsHeard = true := by kernel_rfl
theorem fa25 : Tryz.pinned.checked.prog.mayEnter = true := by kernel_rfl
theorem fa26 : (Rows.fnSwapsRow.lifted == Tryz.pinned.checked.prog.liftsFinal) = true := by kernel_rfl
theorem fa27 : (Tryz.pinned.checked.prog.make == some Rows.fnSwapsRow.make) = true := by kernel_rfl
theorem fa28 : (Rows.fnSwapsRow.kinds == (if Rows.fnSwapsRow.domain.isEmpty then [] else Tryz.f3.params.toList.map fun t => match Tryz.pinned.checked.prog.underlying t with | some (.int k) => some k | _ => none)) = true := by kernel_rfl
theorem fa29 : (Rows.fnSwapsRow.pinned == Rows.fnSwapsRow.pinnedBy) = true := by kernel_rfl
theorem fa30 : (Rows.fnSwapsRow.veiled == (Tryz.f3.params.toList ++ Rows.fnSwapsSpec.plain.varTypes Tryz.pinned.checked.prog ++ Tryz.f3.resultTypes.toList).any (Tryz.pinned.checked.prog.veiledRec ·)) = true := by kernel_rfl
theorem fa31 : Rows.fnSwapsRow.veiledFits Tryz.pinned.checked.prog Tryz.f3.params.toList (Tryz.f3.params.toList ++ Rows.fnSwapsSpec.plain.varTypes Tryz.pinned.checked.prog ++ Tryz.f3.resultTypes.toList) = true := by kernel_rfl
set_option maxHeartbeats 2000000 in
theorem fa_closed : joinedFacts Tryz.pinned.checked.prog 3 Tryz.f3 Rows.fnSwapsSpec Rows.fnSwapsRow = true := by
 unfold joinedFacts
 simp only [Bool.and_eq_true]
 exact ⟨⟨⟨⟨⟨⟨⟨⟨⟨⟨⟨⟨⟨⟨⟨⟨⟨⟨⟨⟨⟨⟨⟨⟨⟨⟨⟨⟨⟨⟨⟨fa0, fa1⟩, fa2⟩, fa3⟩, fa4⟩, fa5⟩, fa6⟩, fa7⟩, fa8⟩, fa9⟩, fa10⟩, fa11⟩, fa12⟩, fa13⟩, fa14⟩, fa15⟩, fa16⟩, fa17⟩, fa18⟩, fa19⟩, fa20⟩, fa21⟩, fa22⟩, fa23⟩, fa24⟩, fa25⟩, fa26⟩, fa27⟩, fa28⟩, fa29⟩, fa30⟩, fa31⟩
theorem fa_named : Tryz.pinned.checked.prog.funcNamed Rows.fnSwapsRow.func = some 3 := by kernel_rfl
theorem fa_inst : Tryz.f3.isInstance Tryz.pinned.checked.prog Rows.fnSwapsRow.origin Rows.fnSwapsRow.targs := of_decide_eq_true (by kernel_rfl)
theorem fa_wrap : Tryz.f3.isWrapper Tryz.pinned.checked.prog Rows.fnSwapsRow.wrapper Rows.fnSwapsRow.mainSum := by unfold Func.isWrapper; first | (rw [if_pos (by decide +kernel)]; kernel_rfl) | (rw [if_neg (by decide +kernel)]; exact ⟨rfl, rfl⟩)
theorem fa_text : Rows.fnSwapsRow.wfByText (OpenSpec.ofChange Rows.fnSwapsSpec) = true := by kernel_rfl
theorem fa_main : Tryz.pinned.checked.prog.mainIs = some ((true, "fae1bb12082170cae13cd85c5b038fd19e4b4fc5ba756b9334eca02eb7ac302d").1, (true, "fae1bb12082170cae13cd85c5b038fd19e4b4fc5ba756b9334eca02eb7ac302d").2.toList) := by kernel_rfl
theorem fa_looks : false = Tryz.pinned.checked.prog.looks [] := by kernel_rfl
theorem fa_plain : ([22].all fun u => !Tryz.prog.wantsStandIn u) = true := by kernel_rfl
theorem fa_goes : false = Rows.fnSwapsRow.goesBy Tryz.pinned.checked.prog := by kernel_rfl
end Go.Proofs.YtaeegkjcjlnanaaGreatDoor.fnSwaps
