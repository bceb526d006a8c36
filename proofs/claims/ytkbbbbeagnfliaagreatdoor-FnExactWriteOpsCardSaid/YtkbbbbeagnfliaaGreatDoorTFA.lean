import Derived.Test.YtkbbbbeagnfliaaGreatDoorRows
import Derived.JoinedOf
import Derived.SevenTiedAt
import Derived.KernelRfl
set_option maxRecDepth 100000
namespace Go.Proofs.YtkbbbbeagnfliaaGreatDoor.fnExactWriteOps
open Go
theorem fa0 : Rows.fnExactWriteOpsRow.wf (OpenSpec.ofChange Rows.fnExactWriteOpsSpec) = true := by kernel_rfl
theorem fa1 : laidOutB Tryz.pinned.checked.prog = true := by kernel_rfl
theorem fa2 : mapsRowed Tryz.pinned.checked.prog = true := by kernel_rfl
theorem fa3 : Tryz.f3.params.all (Tryz.pinned.checked.prog.readableRec ·) = true := by kernel_rfl
theorem fa4 : namedTie Tryz.pinned.checked.prog Rows.fnExactWriteOpsRow.named Rows.fnExactWriteOpsSpec.vars = true := by kernel_rfl
theorem fa5 : (Rows.fnExactWriteOpsRow.stops == []) = true := by kernel_rfl
theorem fa6 : (Tryz.pinned.checked.prog.stops == []) = true := by kernel_rfl
theorem fa7 : (Rows.fnExactWriteOpsRow.knobs == []) = true := by kernel_rfl
theorem fa8 : (Tryz.pinned.checked.prog.stopKnobs == []) = true := by kernel_rfl
theorem fa9 : (Rows.fnExactWriteOpsRow.inPlace == Tryz.pinned.checked.prog.inPlace 3) = true := by kernel_rfl
theorem fa10 : (Rows.fnExactWriteOpsRow.unfollowed == Tryz.pinned.checked.prog.unfollowed 3) = true := by kernel_rfl
theorem fa11 : (Rows.fnExactWriteOpsRow.recurses == Tryz.pinned.checked.prog.recurses 3) = true := by kernel_rfl
theorem fa12 : (Rows.fnExactWriteOpsRow.named == Tryz.pinned.checked.prog.varsNamed 3) = true := by kernel_rfl
theorem fa13 : (Rows.fnExactWriteOpsRow.maps == (Tryz.f3.params.toList ++ Rows.fnExactWriteOpsSpec.plain.varTypes Tryz.pinned.checked.prog).any (Tryz.pinned.checked.prog.mapsRec ·)) = true := by kernel_rfl
theorem fa14 : (Rows.fnExactWriteOpsRow.ifaces == (Tryz.f3.params.toList ++ Rows.fnExactWriteOpsSpec.plain.varTypes Tryz.pinned.checked.prog).any (Tryz.pinned.checked.prog.ifacesRec ·)) = true := by kernel_rfl
theorem fa15 : (Rows.fnExactWriteOpsRow.mapsOut == Tryz.pinned.checked.prog.mapsAmong Tryz.f3.resultTypes.toList) = true := by kernel_rfl
theorem fa16 : (Rows.fnExactWriteOpsRow.loops == (Tryz.f3.params.toList ++ Rows.fnExactWriteOpsSpec.plain.varTypes Tryz.pinned.checked.prog).any (Tryz.pinned.checked.prog.loopsFrom ·)) = true := by kernel_rfl
theorem fa17 : (Rows.fnExactWriteOpsRow.wideKeys == (Tryz.f3.params.toList ++ Rows.fnExactWriteOpsSpec.plain.varTypes Tryz.pinned.checked.prog ++ Tryz.f3.resultTypes.toList).any (Tryz.pinned.checked.prog.wideKeysFrom ·)) = true := by kernel_rfl
theorem fa18 : Rows.fnExactWriteOpsSpec.vars.all (Tryz.pinned.checked.prog.varReadable ·) = true := by kernel_rfl
theorem fa19 : Tryz.f3.resultTypes.all (fun t => Tryz.pinned.checked.prog.readableRec t && decide (t < Tryz.pinned.checked.prog.types.size)) = true := by kernel_rfl
theorem fa20 : (Rows.fnExactWriteOpsRow.ifacesOut == Tryz.f3.resultTypes.toList.any (Tryz.pinned.checked.prog.ifacesRec ·)) = true := by kernel_rfl
theorem fa21 : (Rows.fnExactWriteOpsRow.loopsOut == Tryz.f3.resultTypes.toList.any (Tryz.pinned.checked.prog.loopsFrom ·)) = true := by kernel_rfl
theorem fa22 : (Rows.fnExactWriteOpsRow.plainKeys == Tryz.pinned.checked.prog.plainKeys) = true := by kernel_rfl
theorem fa23 : Rows.fnExactWriteOpsRow.shortTexts.isNone = true := by kernel_rfl
theorem fa24 : Tryz.pinned.checked.prog.stopsHeard = true := by kernel_rfl
theorem fa25 : Tryz.pinned.checked.prog.mayEnter = true := by kernel_rfl
theorem fa26 : (Rows.fnExactWriteOpsRow.lifted == Tryz.pinned.checked.prog.liftsFinal) = true := by kernel_rfl
theorem fa27 : (Tryz.pinned.checked.prog.make == some Rows.fnExactWriteOpsRow.make) = true := by kernel_rfl
theorem fa28 : (Rows.fnExactWriteOpsRow.kinds == (if Rows.fnExactWriteOpsRow.domain.isEmpty then [] else Tryz.f3.params.toList.map fun t => match Tryz.pinned.checked.prog.underlying t with | some (.int k) => some k | _ => none)) = true := by kernel_rfl
theorem fa29 : (Rows.fnExactWriteOpsRow.pinned == Rows.fnExactWriteOpsRow.pinnedBy) = true := by kernel_rfl
theorem fa30 : (Rows.fnExactWriteOpsRow.veiled == (Tryz.f3.params.toList ++ Rows.fnExactWriteOpsSpec.plain.varTypes Tryz.pinned.checked.prog ++ Tryz.f3.resultTypes.toList).any (Tryz.pinned.checked.prog.veiledRec ·)) = true := by kernel_rfl
theorem fa31 : Rows.fnExactWriteOpsRow.veiledFits Tryz.pinned.checked.prog Tryz.f3.params.toList (Tryz.f3.params.toList ++ Rows.fnExactWriteOpsSpec.plain.varTypes Tryz.pinned.checked.prog ++ Tryz.f3.resultTypes.toList) = true := by kernel_rfl
set_option maxHeartbeats 2000000 in
theorem fa_closed : joinedFacts Tryz.pinned.checked.prog 3 Tryz.f3 Rows.fnExactWriteOpsSpec Rows.fnExactWriteOpsRow = true := by
 unfold joinedFacts
 simp only [Bool.and_eq_true]
 exact ⟨⟨⟨⟨⟨⟨⟨⟨⟨⟨⟨⟨⟨⟨⟨⟨⟨⟨⟨⟨⟨⟨⟨⟨⟨⟨⟨⟨⟨⟨⟨fa0, fa1⟩, fa2⟩, fa3⟩, fa4⟩, fa5⟩, fa6⟩, fa7⟩, fa8⟩, fa9⟩, fa10⟩, fa11⟩, fa12⟩, fa13⟩, fa14⟩, fa15⟩, fa16⟩, fa17⟩, fa18⟩, fa19⟩, fa20⟩, fa21⟩, fa22⟩, fa23⟩, fa24⟩, fa25⟩, fa26⟩, fa27⟩, fa28⟩, fa29⟩, fa30⟩, fa31⟩
theorem fa_named : Tryz.pinned.checked.prog.funcNamed Rows.fnExactWriteOpsRow.func = some 3 := by kernel_rfl
theorem fa_inst : Tryz.f3.isInstance Tryz.pinned.checked.prog Rows.fnExactWriteOpsRow.origin Rows.fnExactWriteOpsRow.targs := of_decide_eq_true (by kernel_rfl)
theorem fa_wrap : Tryz.f3.isWrapper Tryz.pinned.checked.prog Rows.fnExactWriteOpsRow.wrapper Rows.fnExactWriteOpsRow.mainSum := by unfold Func.isWrapper; first | (rw [if_pos (by decide +kernel)]; kernel_rfl) | (rw [if_neg (by decide +kernel)]; exact ⟨rfl, rfl⟩)
theorem fa_text : Rows.fnExactWriteOpsRow.wfByText (OpenSpec.ofChange Rows.fnExactWriteOpsSpec) = true := by kernel_rfl
theorem fa_main : Tryz.pinned.checked.prog.mainIs = some ((true, "b6d8d3c542ea237cb70f3e7cd29dac9a821b77adf0c3ba106e4f921736b0c05f").1, (true, "b6d8d3c542ea237cb70f3e7cd29dac9a821b77adf0c3ba106e4f921736b0c05f").2.toList) := by kernel_rfl
theorem fa_looks : false = Tryz.pinned.checked.prog.looks [] := by kernel_rfl
theorem fa_plain : ([22].all fun u => !Tryz.prog.wantsStandIn u) = true := by kernel_rfl
theorem fa_goes : false = Rows.fnExactWriteOpsRow.goesBy Tryz.pinned.checked.prog := by kernel_rfl
end Go.Proofs.YtkbbbbeagnfliaaGreatDoor.fnExactWriteOps
