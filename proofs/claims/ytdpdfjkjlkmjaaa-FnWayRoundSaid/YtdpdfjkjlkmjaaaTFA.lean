import Derived.Test.YtdpdfjkjlkmjaaaRows
import Derived.JoinedOf
import Derived.SevenTiedAt
import Derived.KernelRfl
set_option maxRecDepth 100000
namespace Go.Proofs.Ytdpdfjkjlkmjaaa.fnWayRound
open Go
theorem fa0 : Rows.fnWayRoundRow.wf (OpenSpec.ofChange Rows.fnWayRoundSpec) = true := by kernel_rfl
theorem fa1 : laidOutB Try.pinned.checked.prog = true := by kernel_rfl
theorem fa2 : mapsRowed Try.pinned.checked.prog = true := by kernel_rfl
theorem fa3 : Try.f3.params.all (Try.pinned.checked.prog.readableRec ·) = true := by kernel_rfl
theorem fa4 : namedTie Try.pinned.checked.prog Rows.fnWayRoundRow.named Rows.fnWayRoundSpec.vars = true := by kernel_rfl
theorem fa5 : (Rows.fnWayRoundRow.stops == []) = true := by kernel_rfl
theorem fa6 : (Try.pinned.checked.prog.stops == []) = true := by kernel_rfl
theorem fa7 : (Rows.fnWayRoundRow.knobs == []) = true := by kernel_rfl
theorem fa8 : (Try.pinned.checked.prog.stopKnobs == []) = true := by kernel_rfl
theorem fa9 : (Rows.fnWayRoundRow.inPlace == Try.pinned.checked.prog.inPlace 3) = true := by kernel_rfl
theorem fa10 : (Rows.fnWayRoundRow.unfollowed == Try.pinned.checked.prog.unfollowed 3) = true := by kernel_rfl
theorem fa11 : (Rows.fnWayRoundRow.recurses == Try.pinned.checked.prog.recurses 3) = true := by kernel_rfl
theorem fa12 : (Rows.fnWayRoundRow.named == Try.pinned.checked.prog.varsNamed 3) = true := by kernel_rfl
theorem fa13 : (Rows.fnWayRoundRow.maps == (Try.f3.params.toList ++ Rows.fnWayRoundSpec.plain.varTypes Try.pinned.checked.prog).any (Try.pinned.checked.prog.mapsRec ·)) = true := by kernel_rfl
theorem fa14 : (Rows.fnWayRoundRow.ifaces == (Try.f3.params.toList ++ Rows.fnWayRoundSpec.plain.varTypes Try.pinned.checked.prog).any (Try.pinned.checked.prog.ifacesRec ·)) = true := by kernel_rfl
theorem fa15 : (Rows.fnWayRoundRow.mapsOut == Try.pinned.checked.prog.mapsAmong Try.f3.resultTypes.toList) = true := by kernel_rfl
theorem fa16 : (Rows.fnWayRoundRow.loops == (Try.f3.params.toList ++ Rows.fnWayRoundSpec.plain.varTypes Try.pinned.checked.prog).any (Try.pinned.checked.prog.loopsFrom ·)) = true := by kernel_rfl
theorem fa17 : (Rows.fnWayRoundRow.wideKeys == (Try.f3.params.toList ++ Rows.fnWayRoundSpec.plain.varTypes Try.pinned.checked.prog ++ Try.f3.resultTypes.toList).any (Try.pinned.checked.prog.wideKeysFrom ·)) = true := by kernel_rfl
theorem fa18 : Rows.fnWayRoundSpec.vars.all (Try.pinned.checked.prog.varReadable ·) = true := by kernel_rfl
theorem fa19 : Try.f3.resultTypes.all (fun t => Try.pinned.checked.prog.readableRec t && decide (t < Try.pinned.checked.prog.types.size)) = true := by kernel_rfl
theorem fa20 : (Rows.fnWayRoundRow.ifacesOut == Try.f3.resultTypes.toList.any (Try.pinned.checked.prog.ifacesRec ·)) = true := by kernel_rfl
theorem fa21 : (Rows.fnWayRoundRow.loopsOut == Try.f3.resultTypes.toList.any (Try.pinned.checked.prog.loopsFrom ·)) = true := by kernel_rfl
theorem fa22 : (Rows.fnWayRoundRow.plainKeys == Try.pinned.checked.prog.plainKeys) = true := by kernel_rfl
theorem fa23 : Rows.fnWayRoundRow.shortTexts.isNone = true := by kernel_rfl
theorem fa24 : Try.pinned.checked.prog.stopsHeard = true := by kernel_rfl
theorem fa25 : Try.pinned.checked.prog.mayEnter = true := by kernel_rfl
theorem fa26 : (Rows.fnWayRoundRow.lifted == Try.pinned.checked.prog.liftsFinal) = true := by kernel_rfl
theorem fa27 : (Try.pinned.checked.prog.make == some Rows.fnWayRoundRow.make) = true := by kernel_rfl
theorem fa28 : (Rows.fnWayRoundRow.kinds == (if Rows.fnWayRoundRow.domain.isEmpty then [] else Try.f3.params.toList.map fun t => match Try.pinned.checked.prog.underlying t with | some (.int k) => some k | _ => none)) = true := by kernel_rfl
theorem fa29 : (Rows.fnWayRoundRow.pinned == Rows.fnWayRoundRow.pinnedBy) = true := by kernel_rfl
theorem fa30 : (Rows.fnWayRoundRow.veiled == (Try.f3.params.toList ++ Rows.fnWayRoundSpec.plain.varTypes Try.pinned.checked.prog ++ Try.f3.resultTypes.toList).any (Try.pinned.checked.prog.veiledRec ·)) = true := by kernel_rfl
theorem fa31 : Rows.fnWayRoundRow.veiledFits Try.pinned.checked.prog Try.f3.params.toList (Try.f3.params.toList ++ Rows.fnWayRoundSpec.plain.varTypes Try.pinned.checked.prog ++ Try.f3.resultTypes.toList) = true := by kernel_rfl
set_option maxHeartbeats 2000000 in
theorem fa_closed : joinedFacts Try.pinned.checked.prog 3 Try.f3 Rows.fnWayRoundSpec Rows.fnWayRoundRow = true := by
 unfold joinedFacts
 simp only [Bool.and_eq_true]
 exact ⟨⟨⟨⟨⟨⟨⟨⟨⟨⟨⟨⟨⟨⟨⟨⟨⟨⟨⟨⟨⟨⟨⟨⟨⟨⟨⟨⟨⟨⟨⟨fa0, fa1⟩, fa2⟩, fa3⟩, fa4⟩, fa5⟩, fa6⟩, fa7⟩, fa8⟩, fa9⟩, fa10⟩, fa11⟩, fa12⟩, fa13⟩, fa14⟩, fa15⟩, fa16⟩, fa17⟩, fa18⟩, fa19⟩, fa20⟩, fa21⟩, fa22⟩, fa23⟩, fa24⟩, fa25⟩, fa26⟩, fa27⟩, fa28⟩, fa29⟩, fa30⟩, fa31⟩
theorem fa_named : Try.pinned.checked.prog.funcNamed Rows.fnWayRoundRow.func = some 3 := by kernel_rfl
theorem fa_inst : Try.f3.isInstance Try.pinned.checked.prog Rows.fnWayRoundRow.origin Rows.fnWayRoundRow.targs := of_decide_eq_true (by kernel_rfl)
theorem fa_wrap : Try.f3.isWrapper Try.pinned.checked.prog Rows.fnWayRoundRow.wrapper Rows.fnWayRoundRow.mainSum := by unfold Func.isWrapper; first | (rw [if_pos (by decide +kernel)]; kernel_rfl) | (rw [if_neg (by decide +kernel)]; exact ⟨rfl, rfl⟩)
end Go.Proofs.Ytdpdfjkjlkmjaaa.fnWayRound
