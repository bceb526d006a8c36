import Derived.Test.YtdpdfjkjlkmjaaaRows
import Derived.JoinedOf
import Derived.SevenTiedAt
import Derived.KernelRfl
set_option maxRecDepth 100000
namespace Go.Proofs.Ytdpdfjkjlkmjaaa.fnGaps
open Go
theorem fa0 : Rows.fnGapsRow.wf (OpenSpec.ofChange Rows.fnGapsSpec) = true := by kernel_rfl
theorem fa1 : laidOutB Try.pinned.checked.prog = true := by kernel_rfl
theorem fa2 : mapsRowed Try.pinned.checked.prog = true := by kernel_rfl
theorem fa3 : Try.f9.params.all (Try.pinned.checked.prog.readableRec ·) = true := by kernel_rfl
theorem fa4 : namedTie Try.pinned.checked.prog Rows.fnGapsRow.named Rows.fnGapsSpec.vars = true := by kernel_rfl
theorem fa5 : (Rows.fnGapsRow.stops == []) = true := by kernel_rfl
theorem fa6 : (Try.pinned.checked.prog.stops == []) = true := by kernel_rfl
theorem fa7 : (Rows.fnGapsRow.knobs == []) = true := by kernel_rfl
theorem fa8 : (Try.pinned.checked.prog.stopKnobs == []) = true := by kernel_rfl
theorem fa9 : (Rows.fnGapsRow.inPlace == Try.pinned.checked.prog.inPlace 9) = true := by kernel_rfl
theorem fa10 : (Rows.fnGapsRow.unfollowed == Try.pinned.checked.prog.unfollowed 9) = true := by kernel_rfl
theorem fa11 : (Rows.fnGapsRow.recurses == Try.pinned.checked.prog.recurses 9) = true := by kernel_rfl
theorem fa12 : (Rows.fnGapsRow.named == Try.pinned.checked.prog.varsNamed 9) = true := by kernel_rfl
theorem fa13 : (Rows.fnGapsRow.maps == (Try.f9.params.toList ++ Rows.fnGapsSpec.plain.varTypes Try.pinned.checked.prog).any (Try.pinned.checked.prog.mapsRec ·)) = true := by kernel_rfl
theorem fa14 : (Rows.fnGapsRow.ifaces == (Try.f9.params.toList ++ Rows.fnGapsSpec.plain.varTypes Try.pinned.checked.prog).any (Try.pinned.checked.prog.ifacesRec ·)) = true := by kernel_rfl
theorem fa15 : (Rows.fnGapsRow.mapsOut == Try.pinned.checked.prog.mapsAmong Try.f9.resultTypes.toList) = true := by kernel_rfl
theorem fa16 : (Rows.fnGapsRow.loops == (Try.f9.params.toList ++ Rows.fnGapsSpec.plain.varTypes Try.pinned.checked.prog).any (Try.pinned.checked.prog.loopsFrom ·)) = true := by kernel_rfl
theorem fa17 : (Rows.fnGapsRow.wideKeys == (Try.f9.params.toList ++ Rows.fnGapsSpec.plain.varTypes Try.pinned.checked.prog ++ Try.f9.resultTypes.toList).any (Try.pinned.checked.prog.wideKeysFrom ·)) = true := by kernel_rfl
theorem fa18 : Rows.fnGapsSpec.vars.all (Try.pinned.checked.prog.varReadable ·) = true := by kernel_rfl
theorem fa19 : Try.f9.resultTypes.all (fun t => Try.pinned.checked.prog.readableRec t && decide (t < Try.pinned.checked.prog.types.size)) = true := by kernel_rfl
theorem fa20 : (Rows.fnGapsRow.ifacesOut == Try.f9.resultTypes.toList.any (Try.pinned.checked.prog.ifacesRec ·)) = true := by kernel_rfl
theorem fa21 : (Rows.fnGapsRow.loopsOut == Try.f9.resultTypes.toList.any (Try.pinned.checked.prog.loopsFrom ·)) = true := by kernel_rfl
theorem fa22 : (Rows.fnGapsRow.plainKeys == Try.pinned.checked.prog.plainKeys) = true := by kernel_rfl
theorem fa23 : Rows.fnGapsRow.shortTexts.isNone = true := by kernel_rfl
theorem fa24 : Try.pinned.checked.prog.stopsHeard = true := by kernel_rfl
theorem fa25 : Try.pinned.checked.prog.mayEnter = true := by kernel_rfl
theorem fa26 : (Rows.fnGapsRow.lifted == Try.pinned.checked.prog.liftsFinal) = true := by kernel_rfl
theorem fa27 : (Try.pinned.checked.prog.make == some Rows.fnGapsRow.make) = true := by kernel_rfl
theorem fa28 : (Rows.fnGapsRow.kinds == (if Rows.fnGapsRow.domain.isEmpty then [] else Try.f9.params.toList.map fun t => match Try.pinned.checked.prog.underlying t with | some (.int k) => some k | _ => none)) = true := by kernel_rfl
theorem fa29 : (Rows.fnGapsRow.pinned == Rows.fnGapsRow.pinnedBy) = true := by kernel_rfl
theorem fa30 : (Rows.fnGapsRow.veiled == (Try.f9.params.toList ++ Rows.fnGapsSpec.plain.varTypes Try.pinned.checked.prog ++ Try.f9.resultTypes.toList).any (Try.pinned.checked.prog.veiledRec ·)) = true := by kernel_rfl
theorem fa31 : Rows.fnGapsRow.veiledFits Try.pinned.checked.prog Try.f9.params.toList (Try.f9.params.toList ++ Rows.fnGapsSpec.plain.varTypes Try.pinned.checked.prog ++ Try.f9.resultTypes.toList) = true := by kernel_rfl
set_option maxHeartbeats 2000000 in
theorem fa_closed : joinedFacts Try.pinned.checked.prog 9 Try.f9 Rows.fnGapsSpec Rows.fnGapsRow = true := by
 unfold joinedFacts
 simp only [Bool.and_eq_true]
 exact ⟨⟨⟨⟨⟨⟨⟨⟨⟨⟨⟨⟨⟨⟨⟨⟨⟨⟨⟨⟨⟨⟨⟨⟨⟨⟨⟨⟨⟨⟨⟨fa0, fa1⟩, fa2⟩, fa3⟩, fa4⟩, fa5⟩, fa6⟩, fa7⟩, fa8⟩, fa9⟩, fa10⟩, fa11⟩, fa12⟩, fa13⟩, fa14⟩, fa15⟩, fa16⟩, fa17⟩, fa18⟩, fa19⟩, fa20⟩, fa21⟩, fa22⟩, fa23⟩, fa24⟩, fa25⟩, fa26⟩, fa27⟩, fa28⟩, fa29⟩, fa30⟩, fa31⟩
theorem fa_named : Try.pinned.checked.prog.funcNamed Rows.fnGapsRow.func = some 9 := by kernel_rfl
theorem fa_inst : Try.f9.isInstance Try.pinned.checked.prog Rows.fnGapsRow.origin Rows.fnGapsRow.targs := of_decide_eq_true (by kernel_rfl)
theorem fa_wrap : Try.f9.isWrapper Try.pinned.checked.prog Rows.fnGapsRow.wrapper Rows.fnGapsRow.mainSum := by unfold Func.isWrapper; first | (rw [if_pos (by decide +kernel)]; kernel_rfl) | (rw [if_neg (by decide +kernel)]; exact ⟨rfl, rfl⟩)
end Go.Proofs.Ytdpdfjkjlkmjaaa.fnGaps
