import Derived.Test.YtdpdfjkjlkmjaaaRows
import Derived.JoinedOf
import Derived.SevenTiedAt
import Derived.KernelRfl
set_option maxRecDepth 100000
namespace Go.Proofs.Ytdpdfjkjlkmjaaa.fnAligns
open Go
theorem fa0 : Rows.fnAlignsRow.wf (OpenSpec.ofChange Rows.fnAlignsSpec) = true := by kernel_rfl
theorem fa1 : laidOutB Try.pinned.checked.prog = true := by kernel_rfl
theorem fa2 : mapsRowed Try.pinned.checked.prog = true := by kernel_rfl
theorem fa3 : Try.f5.params.all (Try.pinned.checked.prog.readableRec ·) = true := by kernel_rfl
theorem fa4 : namedTie Try.pinned.checked.prog Rows.fnAlignsRow.named Rows.fnAlignsSpec.vars = true := by kernel_rfl
theorem fa5 : (Rows.fnAlignsRow.stops == []) = true := by kernel_rfl
theorem fa6 : (Try.pinned.checked.prog.stops == []) = true := by kernel_rfl
theorem fa7 : (Rows.fnAlignsRow.knobs == []) = true := by kernel_rfl
theorem fa8 : (Try.pinned.checked.prog.stopKnobs == []) = true := by kernel_rfl
theorem fa9 : (Rows.fnAlignsRow.inPlace == Try.pinned.checked.prog.inPlace 5) = true := by kernel_rfl
theorem fa10 : (Rows.fnAlignsRow.unfollowed == Try.pinned.checked.prog.unfollowed 5) = true := by kernel_rfl
theorem fa11 : (Rows.fnAlignsRow.recurses == Try.pinned.checked.prog.recurses 5) = true := by kernel_rfl
theorem fa12 : (Rows.fnAlignsRow.named == Try.pinned.checked.prog.varsNamed 5) = true := by kernel_rfl
theorem fa13 : (Rows.fnAlignsRow.maps == (Try.f5.params.toList ++ Rows.fnAlignsSpec.plain.varTypes Try.pinned.checked.prog).any (Try.pinned.checked.prog.mapsRec ·)) = true := by kernel_rfl
theorem fa14 : (Rows.fnAlignsRow.ifaces == (Try.f5.params.toList ++ Rows.fnAlignsSpec.plain.varTypes Try.pinned.checked.prog).any (Try.pinned.checked.prog.ifacesRec ·)) = true := by kernel_rfl
theorem fa15 : (Rows.fnAlignsRow.mapsOut == Try.pinned.checked.prog.mapsAmong Try.f5.resultTypes.toList) = true := by kernel_rfl
theorem fa16 : (Rows.fnAlignsRow.loops == (Try.f5.params.toList ++ Rows.fnAlignsSpec.plain.varTypes Try.pinned.checked.prog).any (Try.pinned.checked.prog.loopsFrom ·)) = true := by kernel_rfl
theorem fa17 : (Rows.fnAlignsRow.wideKeys == (Try.f5.params.toList ++ Rows.fnAlignsSpec.plain.varTypes Try.pinned.checked.prog ++ Try.f5.resultTypes.toList).any (Try.pinned.checked.prog.wideKeysFrom ·)) = true := by kernel_rfl
theorem fa18 : Rows.fnAlignsSpec.vars.all (Try.pinned.checked.prog.varReadable ·) = true := by kernel_rfl
theorem fa19 : Try.f5.resultTypes.all (fun t => Try.pinned.checked.prog.readableRec t && decide (t < Try.pinned.checked.prog.types.size)) = true := by kernel_rfl
theorem fa20 : (Rows.fnAlignsRow.ifacesOut == Try.f5.resultTypes.toList.any (Try.pinned.checked.prog.ifacesRec ·)) = true := by kernel_rfl
theorem fa21 : (Rows.fnAlignsRow.loopsOut == Try.f5.resultTypes.toList.any (Try.pinned.checked.prog.loopsFrom ·)) = true := by kernel_rfl
theorem fa22 : (Rows.fnAlignsRow.plainKeys == Try.pinned.checked.prog.plainKeys) = true := by kernel_rfl
theorem fa23 : Rows.fnAlignsRow.shortTexts.isNone = true := by kernel_rfl
theorem fa24 : Try.pinned.checked.prog.stopsHeard = true := by kernel_rfl
theorem fa25 : Try.pinned.checked.prog.mayEnter = true := by kernel_rfl
theorem fa26 : (Rows.fnAlignsRow.lifted == Try.pinned.checked.prog.liftsFinal) = true := by kernel_rfl
theorem fa27 : (Try.pinned.checked.prog.make == some Rows.fnAlignsRow.make) = true := by kernel_rfl
theorem fa28 : (Rows.fnAlignsRow.kinds == (if Rows.fnAlignsRow.domain.isEmpty then [] else Try.f5.params.toList.map fun t => match Try.pinned.checked.prog.underlying t with | some (.int k) => some k | _ => none)) = true := by kernel_rfl
theorem fa29 : (Rows.fnAlignsRow.pinned == Rows.fnAlignsRow.pinnedBy) = true := by kernel_rfl
theorem fa30 : (Rows.fnAlignsRow.veiled == (Try.f5.params.toList ++ Rows.fnAlignsSpec.plain.varTypes Try.pinned.checked.prog ++ Try.f5.resultTypes.toList).any (Try.pinned.checked.prog.veiledRec ·)) = true := by kernel_rfl
theorem fa31 : Rows.fnAlignsRow.veiledFits Try.pinned.checked.prog Try.f5.params.toList (Try.f5.params.toList ++ Rows.fnAlignsSpec.plain.varTypes Try.pinned.checked.prog ++ Try.f5.resultTypes.toList) = true := by kernel_rfl
set_option maxHeartbeats 2000000 in
theorem fa_closed : joinedFacts Try.pinned.checked.prog 5 Try.f5 Rows.fnAlignsSpec Rows.fnAlignsRow = true := by
 unfold joinedFacts
 simp only [Bool.and_eq_true]
 exact ⟨⟨⟨⟨⟨⟨⟨⟨⟨⟨⟨⟨⟨⟨⟨⟨⟨⟨⟨⟨⟨⟨⟨⟨⟨⟨⟨⟨⟨⟨⟨fa0, fa1⟩, fa2⟩, fa3⟩, fa4⟩, fa5⟩, fa6⟩, fa7⟩, fa8⟩, fa9⟩, fa10⟩, fa11⟩, fa12⟩, fa13⟩, fa14⟩, fa15⟩, fa16⟩, fa17⟩, fa18⟩, fa19⟩, fa20⟩, fa21⟩, fa22⟩, fa23⟩, fa24⟩, fa25⟩, fa26⟩, fa27⟩, fa28⟩, fa29⟩, fa30⟩, fa31⟩
theorem fa_named : Try.pinned.checked.prog.funcNamed Rows.fnAlignsRow.func = some 5 := by kernel_rfl
theorem fa_inst : Try.f5.isInstance Try.pinned.checked.prog Rows.fnAlignsRow.origin Rows.fnAlignsRow.targs := of_decide_eq_true (by kernel_rfl)
theorem fa_wrap : Try.f5.isWrapper Try.pinned.checked.prog Rows.fnAlignsRow.wrapper Rows.fnAlignsRow.mainSum := by unfold Func.isWrapper; first | (rw [if_pos (by decide +kernel)]; kernel_rfl) | (rw [if_neg (by decide +kernel)]; exact ⟨rfl, rfl⟩)
end Go.Proofs.Ytdpdfjkjlkmjaaa.fnAligns
