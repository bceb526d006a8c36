import Derived.Test.YtpmnlfgdicmiiaaGreatDoorRows
import Derived.JoinedOf
import Derived.SevenTiedAt
import Derived.KernelRfl
set_option maxRecDepth 100000
namespace Go.Proofs.YtpmnlfgdicmiiaaGreatDoor.fnAll
open Go
theorem fa0 : Rows.fnAllRow.wf (OpenSpec.ofChange Rows.fnAllSpec) = true := by kernel_rfl
theorem fa1 : laidOutB Tryz.pinned.checked.prog = true := by kernel_rfl
theorem fa2 : mapsRowed Tryz.pinned.checked.prog = true := by kernel_rfl
theorem fa3 : Tryz.f4.params.all (Tryz.pinned.checked.prog.readableRec ·) = true := by kernel_rfl
theorem fa4 : namedTie Tryz.pinned.checked.prog Rows.fnAllRow.named Rows.fnAllSpec.vars = true := by kernel_rfl
theorem fa5 : (Rows.fnAllRow.stops == []) = true := by kernel_rfl
theorem fa6 : (Tryz.pinned.checked.prog.stops == []) = true := by kernel_rfl
theorem fa7 : (Rows.fnAllRow.knobs == []) = true := by kernel_rfl
theorem fa8 : (Tryz.pinned.checked.prog.stopKnobs == []) = true := by kernel_rfl
theorem fa9 : (Rows.fnAllRow.inPlace == Tryz.pinned.checked.prog.inPlace 4) = true := by kernel_rfl
theorem fa10 : (Rows.fnAllRow.unfollowed == Tryz.pinned.checked.prog.unfollowed 4) = true := by kernel_rfl
theorem fa11 : (Rows.fnAllRow.recurses == Tryz.pinned.checked.prog.recurses 4) = true := by kernel_rfl
theorem fa12 : (Rows.fnAllRow.named == Tryz.pinned.checked.prog.varsNamed 4) = true := by kernel_rfl
theorem fa13 : (Rows.fnAllRow.maps == (Tryz.f4.params.toList ++ Rows.fnAllSpec.plain.varTypes Tryz.pinned.checked.prog).any (Tryz.pinned.checked.prog.mapsRec ·)) = true := by kernel_rfl
theorem fa14 : (Rows.fnAllRow.ifaces == (Tryz.f4.params.toList ++ Rows.fnAllSpec.plain.varTypes Tryz.pinned.checked.prog).any (Tryz.pinned.checked.prog.ifacesRec ·)) = true := by kernel_rfl
theorem fa15 : (Rows.fnAllRow.mapsOut == Tryz.pinned.checked.prog.mapsAmong Tryz.f4.resultTypes.toList) = true := by kernel_rfl
theorem fa16 : (Rows.fnAllRow.loops == (Tryz.f4.params.toList ++ Rows.fnAllSpec.plain.varTypes Tryz.pinned.checked.prog).any (Tryz.pinned.checked.prog.loopsFrom ·)) = true := by kernel_rfl
theorem fa17 : (Rows.fnAllRow.wideKeys == (Tryz.f4.params.toList ++ Rows.fnAllSpec.plain.varTypes Tryz.pinned.checked.prog ++ Tryz.f4.resultTypes.toList).any (Tryz.pinned.checked.prog.wideKeysFrom ·)) = true := by kernel_rfl
theorem fa18 : Rows.fnAllSpec.vars.all (Tryz.pinned.checked.prog.varReadable ·) = true := by kernel_rfl
theorem fa19 : Tryz.f4.resultTypes.all (fun t => Tryz.pinned.checked.prog.readableRec t && decide (t < Tryz.pinned.checked.prog.types.size)) = true := by kernel_rfl
theorem fa20 : (Rows.fnAllRow.ifacesOut == Tryz.f4.resultTypes.toList.any (Tryz.pinned.checked.prog.ifacesRec ·)) = true := by kernel_rfl
theorem fa21 : (Rows.fnAllRow.loopsOut == Tryz.f4.resultTypes.toList.any (Tryz.pinned.checked.prog.loopsFrom ·)) = true := by kernel_rfl
theorem fa22 : (Rows.fnAllRow.plainKeys == Tryz.pinned.checked.prog.plainKeys) = true := by kernel_rfl
theorem fa23 : Rows.fnAllRow.shortTexts.isNone = true := by kernel_rfl
theorem fa24 : Tryz.pinned.checked.prog.stopsHeard = true := by kernel_rfl
theorem fa25 : Tryz.pinned.checked.prog.mayEnter = true := by kernel_rfl
theorem fa26 : (Rows.fnAllRow.lifted == Tryz.pinned.checked.prog.liftsFinal) = true := by kernel_rfl
theorem fa27 : (Tryz.pinned.checked.prog.make == some Rows.fnAllRow.make) = true := by kernel_rfl
theorem fa28 : (Rows.fnAllRow.kinds == (if Rows.fnAllRow.domain.isEmpty then [] else Tryz.f4.params.toList.map fun t => match Tryz.pinned.checked.prog.underlying t with | some (.int k) => some k | _ => none)) = true := by kernel_rfl
theorem fa29 : (Rows.fnAllRow.pinned == Rows.fnAllRow.pinnedBy) = true := by kernel_rfl
theorem fa30 : (Rows.fnAllRow.veiled == (Tryz.f4.params.toList ++ Rows.fnAllSpec.plain.varTypes Tryz.pinned.checked.prog ++ Tryz.f4.resultTypes.toList).any (Tryz.pinned.checked.prog.veiledRec ·)) = true := by kernel_rfl
theorem fa31 : Rows.fnAllRow.veiledFits Tryz.pinned.checked.prog Tryz.f4.params.toList (Tryz.f4.params.toList ++ Rows.fnAllSpec.plain.varTypes Tryz.pinned.checked.prog ++ Tryz.f4.resultTypes.toList) = true := by kernel_rfl
set_option maxHeartbeats 2000000 in
theorem fa_closed : joinedFacts Tryz.pinned.checked.prog 4 Tryz.f4 Rows.fnAllSpec Rows.fnAllRow = true := by
 unfold joinedFacts
 simp only [Bool.and_eq_true]
 exact ⟨⟨⟨⟨⟨⟨⟨⟨⟨⟨⟨⟨⟨⟨⟨⟨⟨⟨⟨⟨⟨⟨⟨⟨⟨⟨⟨⟨⟨⟨⟨fa0, fa1⟩, fa2⟩, fa3⟩, fa4⟩, fa5⟩, fa6⟩, fa7⟩, fa8⟩, fa9⟩, fa10⟩, fa11⟩, fa12⟩, fa13⟩, fa14⟩, fa15⟩, fa16⟩, fa17⟩, fa18⟩, fa19⟩, fa20⟩, fa21⟩, fa22⟩, fa23⟩, fa24⟩, fa25⟩, fa26⟩, fa27⟩, fa28⟩, fa29⟩, fa30⟩, fa31⟩
theorem fa_named : Tryz.pinned.checked.prog.funcNamed Rows.fnAllRow.func = some 4 := by kernel_rfl
theorem fa_inst : Tryz.f4.isInstance Tryz.pinned.checked.prog Rows.fnAllRow.origin Rows.fnAllRow.targs := of_decide_eq_true (by kernel_rfl)
theorem fa_wrap : Tryz.f4.isWrapper Tryz.pinned.checked.prog Rows.fnAllRow.wrapper Rows.fnAllRow.mainSum := by unfold Func.isWrapper; first | (rw [if_pos (by decide +kernel)]; kernel_rfl) | (rw [if_neg (by decide +kernel)]; exact ⟨rfl, rfl⟩)
theorem fa_text : Rows.fnAllRow.wfByText (OpenSpec.ofChange Rows.fnAllSpec) = true := by kernel_rfl
theorem fa_main : Tryz.pinned.checked.prog.mainIs = some ((true, "09613f0420cf3ad545d637949619553777cbfa11a2b6f57ede853cfa85692973").1, (true, "09613f0420cf3ad545d637949619553777cbfa11a2b6f57ede853cfa85692973").2.toList) := by kernel_rfl
theorem fa_looks : false = Tryz.pinned.checked.prog.looks [] := by kernel_rfl
theorem fa_plain : ([68].all fun u => !Tryz.prog.wantsStandIn u) = true := by kernel_rfl
theorem fa_goes : false = Rows.fnAllRow.goesBy Tryz.pinned.checked.prog := by kernel_rfl
end Go.Proofs.YtpmnlfgdicmiiaaGreatDoor.fnAll
