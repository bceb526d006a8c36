import Derived.Test.YtdpdfjkjlkmjaaaRows
import Derived.JoinedOf
import Derived.SevenTiedAt
import Derived.KernelRfl
set_option maxRecDepth 100000
namespace Go.Proofs.Ytdpdfjkjlkmjaaa.fnExactPutAt
open Go
theorem fa0 : Rows.fnExactPutAtRow.wf (OpenSpec.ofChange Rows.fnExactPutAtSpec) = true := by kernel_rfl
theorem fa1 : laidOutB Try.pinned.checked.prog = true := by kernel_rfl
theorem fa2 : mapsRowed Try.pinned.checked.prog = true := by kernel_rfl
theorem fa3 : Try.f6.params.all (Try.pinned.checked.prog.readableRec ·) = true := by kernel_rfl
theorem fa4 : namedTie Try.pinned.checked.prog Rows.fnExactPutAtRow.named Rows.fnExactPutAtSpec.vars = true := by kernel_rfl
theorem fa5 : (Rows.fnExactPutAtRow.stops == []) = true := by kernel_rfl
theorem fa6 : (Try.pinned.checked.prog.stops == []) = true := by kernel_rfl
theorem fa7 : (Rows.fnExactPutAtRow.knobs == []) = true := by kernel_rfl
theorem fa8 : (Try.pinned.checked.prog.stopKnobs == []) = true := by kernel_rfl
theorem fa9 : (Rows.fnExactPutAtRow.inPlace == Try.pinned.checked.prog.inPlace 6) = true := by kernel_rfl
theorem fa10 : (Rows.fnExactPutAtRow.unfollowed == Try.pinned.checked.prog.unfollowed 6) = true := by kernel_rfl
theorem fa11 : (Rows.fnExactPutAtRow.recurses == Try.pinned.checked.prog.recurses 6) = true := by kernel_rfl
theorem fa12 : (Rows.fnExactPutAtRow.named == Try.pinned.checked.prog.varsNamed 6) = true := by kernel_rfl
theorem fa13 : (Rows.fnExactPutAtRow.maps == (Try.f6.params.toList ++ Rows.fnExactPutAtSpec.plain.varTypes Try.pinned.checked.prog).any (Try.pinned.checked.prog.mapsRec ·)) = true := by kernel_rfl
theorem fa14 : (Rows.fnExactPutAtRow.ifaces == (Try.f6.params.toList ++ Rows.fnExactPutAtSpec.plain.varTypes Try.pinned.checked.prog).any (Try.pinned.checked.prog.ifacesRec ·)) = true := by kernel_rfl
theorem fa15 : (Rows.fnExactPutAtRow.mapsOut == Try.pinned.checked.prog.mapsAmong Try.f6.resultTypes.toList) = true := by kernel_rfl
theorem fa16 : (Rows.fnExactPutAtRow.loops == (Try.f6.params.toList ++ Rows.fnExactPutAtSpec.plain.varTypes Try.pinned.checked.prog).any (Try.pinned.checked.prog.loopsFrom ·)) = true := by kernel_rfl
theorem fa17 : (Rows.fnExactPutAtRow.wideKeys == (Try.f6.params.toList ++ Rows.fnExactPutAtSpec.plain.varTypes Try.pinned.checked.prog ++ Try.f6.resultTypes.toList).any (Try.pinned.checked.prog.wideKeysFrom ·)) = true := by kernel_rfl
theorem fa18 : Rows.fnExactPutAtSpec.vars.all (Try.pinned.checked.prog.varReadable ·) = true := by kernel_rfl
theorem fa19 : Try.f6.resultTypes.all (fun t => Try.pinned.checked.prog.readableRec t && decide (t < Try.pinned.checked.prog.types.size)) = true := by kernel_rfl
theorem fa20 : (Rows.fnExactPutAtRow.ifacesOut == Try.f6.resultTypes.toList.any (Try.pinned.checked.prog.ifacesRec ·)) = true := by kernel_rfl
theorem fa21 : (Rows.fnExactPutAtRow.loopsOut == Try.f6.resultTypes.toList.any (Try.pinned.checked.prog.loopsFrom ·)) = true := by kernel_rfl
theorem fa22 : (Rows.fnExactPutAtRow.plainKeys == Try.pinned.checked.prog.plainKeys) = true := by kernel_rfl
theorem fa23 : Rows.fnExactPutAtRow.shortTexts.isNone = true := by kernel_rfl
theorem fa24 : Try.pinned.checked.prog.stopsHeard = true := by kernel_rfl
theorem fa25 : Try.pinned.checked.prog.mayEnter = true := by kernel_rfl
theorem fa26 : (Rows.fnExactPutAtRow.lifted == Try.pinned.checked.prog.liftsFinal) = true := by kernel_rfl
theorem fa27 : (Try.pinned.checked.prog.make == some Rows.fnExactPutAtRow.make) = true := by kernel_rfl
theorem fa28 : (Rows.fnExactPutAtRow.kinds == (if Rows.fnExactPutAtRow.domain.isEmpty then [] else Try.f6.params.toList.map fun t => match Try.pinned.checked.prog.underlying t with | some (.int k) => some k | _ => none)) = true := by kernel_rfl
theorem fa29 : (Rows.fnExactPutAtRow.pinned == Rows.fnExactPutAtRow.pinnedBy) = true := by kernel_rfl
theorem fa30 : (Rows.fnExactPutAtRow.veiled == (Try.f6.params.toList ++ Rows.fnExactPutAtSpec.plain.varTypes Try.pinned.checked.prog ++ Try.f6.resultTypes.toList).any (Try.pinned.checked.prog.veiledRec ·)) = true := by kernel_rfl
theorem fa31 : Rows.fnExactPutAtRow.veiledFits Try.pinned.checked.prog Try.f6.params.toList (Try.f6.params.toList ++ Rows.fnExactPutAtSpec.plain.varTypes Try.pinned.checked.prog ++ Try.f6.resultTypes.toList) = true := by kernel_rfl
set_option maxHeartbeats 2000000 in
theorem fa_closed : joinedFacts Try.pinned.checked.prog 6 Try.f6 Rows.fnExactPutAtSpec Rows.fnExactPutAtRow = true := by
 unfold joinedFacts
 simp only [Bool.and_eq_true]
 exact ⟨⟨⟨⟨⟨⟨⟨⟨⟨⟨⟨⟨⟨⟨⟨⟨⟨⟨⟨⟨⟨⟨⟨⟨⟨⟨⟨⟨⟨⟨⟨fa0, fa1⟩, fa2⟩, fa3⟩, fa4⟩, fa5⟩, fa6⟩, fa7⟩, fa8⟩, fa9⟩, fa10⟩, fa11⟩, fa12⟩, fa13⟩, fa14⟩, fa15⟩, fa16⟩, fa17⟩, fa18⟩, fa19⟩, fa20⟩, fa21⟩, fa22⟩, fa23⟩, fa24⟩, fa25⟩, fa26⟩, fa27⟩, fa28⟩, fa29⟩, fa30⟩, fa31⟩
theorem fa_named : Try.pinned.checked.prog.funcNamed Rows.fnExactPutAtRow.func = some 6 := by kernel_rfl
theorem fa_inst : Try.f6.isInstance Try.pinned.checked.prog Rows.fnExactPutAtRow.origin Rows.fnExactPutAtRow.targs := of_decide_eq_true (by kernel_rfl)
theorem fa_wrap : Try.f6.isWrapper Try.pinned.checked.prog Rows.fnExactPutAtRow.wrapper Rows.fnExactPutAtRow.mainSum := by unfold Func.isWrapper; first | (rw [if_pos (by decide +kernel)]; kernel_rfl) | (rw [if_neg (by decide +kernel)]; exact ⟨rfl, rfl⟩)
end Go.Proofs.Ytdpdfjkjlkmjaaa.fnExactPutAt
