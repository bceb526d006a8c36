/- The row of FnExactNodes: the program's Nodes gives what the reference's Nodes gives, for every tree; no condition. -/
import Derived.Test.YtabghncdppfllaaTN11
import Derived.Test.YtabghncdppfllaaTAGN
import Derived.Test.YtabghncdppfllaaRows
import Derived.WalkKit
import Derived.ProofKit
import Derived.OpenShut
import Derived.ChangeOld
import Derived.Below
import Derived.SizedLaws
namespace Go.Proofs.Ytabghncdppfllaa.fnExactNodes
open Go.ChangeShapes Go.WideShapes Go.ChangeAt Go.RowKit TT
set_option linter.unusedVariables false
theorem own : ownKnob Try.prog.godebug = none := by kernel_rfl
theorem laidOut : laidOutB Try.prog = true := by kernel_rfl
theorem types : NodeTypes Try.prog 43 118 121 :=
  ⟨⟨_, _, Try.underlying118, Try.underlying9, Try.underlying9⟩, ⟨_, _, _, _, Try.underlying121, Try.underlying9, Try.underlying9, Try.underlying9, Try.underlying9⟩,
   ⟨_, _, _, _, _, _, _, _, Try.underlying43, Try.underlying3, Try.underlying9, Try.underlying9, Try.underlying9, Try.underlying39, Try.underlying40, Try.underlying41, Try.underlying9⟩⟩
theorem opens : openB Try.prog [43, 3, 9, 39, 118, 40, 121, 41] = true := by kernel_rfl
theorem sound : Sound Try.prog (den FTN noX) := den_sound (noX_sound _) (by kernel_rfl) FTN_ag
set_option maxRecDepth 100000 in
theorem lifted (os : Os) (started : os.Started) (H : Type) (enc : TypeId × Value → H) :
    ReturnsInHanded {} Try.checked os 6 .any (Rows.fnExactNodesSpec.pre6 enc Try.prog Try.f6 Rows.fnExactNodesRow.domain false) (Rows.fnExactNodesSpec.post enc Try.prog Try.f6 false true false false) := by
  refine returnsInHanded_of_change_sized (C := Try.checked) own started (by kernel_rfl) Try.func6
    (ChangeSpec.witness6 (enc := enc) (C := Try.checked) false ⟨#[], #[.agg #[.int .i64 0, .string ⟨#[]⟩, .string ⟨#[]⟩, .string ⟨#[]⟩, .slice none 0 0, .slice none 0 0, .slice none 0 0, .string ⟨#[]⟩]], []⟩ 8 (by kernel_rfl) (by kernel_rfl) (by kernel_rfl) (by kernel_rfl)) ?_
  intro W base args ds gs before hval0 hW hcnd hsz0 _
  have hval : ∀ (j : Nat) t v, Try.f6.params[j]? = some t → args[j]? = some v → Value.okWide Try.prog W .any base t v := hval0
  have hW' := hW
  obtain ⟨p, q, hA0, hV, rfl, hfz, hnd⟩ := hW
  have hA : DataW.TrodAll enc Try.prog W 0 (fun _ => true) true Try.f6.params.toList args.toList ds p := hA0
  rw [Try.params6] at hA hval
  obtain ⟨v0, vs0, d0, ds0, p0, q0, hargs, rfl, rfl, h0, r0⟩ := trodAll_cons hA
  obtain ⟨rfl, rfl, rfl⟩ := trodAll_nil r0
  obtain rfl : args = #[v0] := by cases args; simp_all
  obtain ⟨rfl, rfl⟩ := trodVars_none hV
  have k0 := h0
  have lt0 : ∀ x ∈ p0, x.block < W.heap.size := by obtain ⟨m, hm⟩ := k0; exact DataW.trod_lt m _ _ _ hm
  have hv0 : ∃ cs, v0 = .agg cs := by
    have := hval 0 43 v0 rfl rfl
    unfold Value.okWide at this
    rw [Try.underlying43] at this
    obtain ⟨cs, h, _⟩ := this
    exact ⟨cs, h⟩
  obtain ⟨cs, rfl⟩ := hv0
  obtain ⟨fuel, hf⟩ := h0
  obtain ⟨ts, t1, t2⟩ := open_trod opens fuel 43 _ _ (by simp) hf
  obtain ⟨n, rfl, hok, hfine⟩ := typed_node types fuel t1
  clear hA0 hval0 hsz0
  have hden := FnExactNodes_den FTN rfl ⟨rfl, rfl, rfl, rfl, rfl, rfl⟩ ⟨rfl, rfl, rfl, rfl, rfl, rfl⟩ ⟨rfl, rfl, rfl, rfl, rfl, rfl⟩ rfl rfl n hok hfine
  refine (law_calls (w := W) sound hden (args_cons (arg_agg t2) args_nil)).mono fun e W' ⟨he, bel⟩ => ?_
  subst he
  exact ⟨_, rfl, _, _, _, [], _, [], hW', trodAll_mk1 (shut_bool Try.underlying4 _), (trodAll_cons_mk (Below.trod laidOut (by kernel_rfl) (of_decide_eq_true (by kernel_rfl)) k0 bel lt0) trodAll_mk0), rfl, bel.frame _, fun h => by cases h⟩
theorem over : Rows.fnExactNodesRow.holds Try.pinned (OpenSpec.ofChange Rows.fnExactNodesSpec) :=
  OpenClaim.holds_of_wide 6 Try.f6 rfl rfl rfl rfl rfl rfl rfl ⟨rfl, rfl, rfl, rfl, rfl⟩ rfl rfl rfl rfl rfl (by kernel_rfl) Try.func6 (by kernel_rfl)
    (of_decide_eq_true (by kernel_rfl)) (by unfold Func.isWrapper; first | (rw [if_pos (by decide +kernel)]; kernel_rfl) | (rw [if_neg (by decide +kernel)]; exact ⟨rfl, rfl⟩))
    (fun os started H enc _ => lifted os started H enc)
theorem proved : Rows.FnExactNodesSaid := over
#print axioms proved
end Go.Proofs.Ytabghncdppfllaa.fnExactNodes
namespace Go.Proofs.Ytabghncdppfllaa
/-- The row, under a short name, for the claim. -/
theorem fnExactNodes_holds : Rows.FnExactNodesSaid := fnExactNodes.proved
end Go.Proofs.Ytabghncdppfllaa
