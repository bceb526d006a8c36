import Derived.Test.YtklpgdogfofneaaDoorTKK
import Derived.Test.YtklpgdogfofneaaDoorTD26
import Derived.Test.YtklpgdogfofneaaDoorTG2
import Derived.Test.YtklpgdogfofneaaDoorProg
import Derived.KernelRfl
import Derived.Test.YtklpgdogfofneaaDoorTFnExactSelAttrLib
namespace TT
open Go Go.Proofs
set_option maxRecDepth 100000
theorem ag_laws_FnExactSelAttr : agF Tryd.prog 3 k_laws_FnExactSelAttr = true := by kernel_rfl
theorem ag_laws_szNode : agF Tryd.prog 4 k_laws_szNode = true := by kernel_rfl
theorem ag_laws_szAttr : agF Tryd.prog 5 k_laws_szAttr = true := by kernel_rfl
theorem ag_spec_SelAttr : agF Tryd.prog 6 k_spec_SelAttr = true := by kernel_rfl
theorem ag_laws_toNode : agF Tryd.prog 7 k_laws_toNode = true := by kernel_rfl
theorem ag_laws_toIntS : agF Tryd.prog 8 k_laws_toIntS = true := by kernel_rfl
theorem ag_laws_toAttr : agF Tryd.prog 9 k_laws_toAttr = true := by kernel_rfl
theorem ag_impl_SelAttr : agF Tryd.prog 10 k_impl_SelAttr = true := by kernel_rfl
theorem ag_laws_eqSel : agF Tryd.prog 11 k_laws_eqSel = true := by kernel_rfl
theorem ag_laws_eqNode : agF Tryd.prog 12 k_laws_eqNode = true := by kernel_rfl
theorem ag_laws_eqIntS : agF Tryd.prog 13 k_laws_eqIntS = true := by kernel_rfl
theorem ag_laws_markNode : agF Tryd.prog 14 k_laws_markNode = true := by kernel_rfl
theorem ag_laws_markIntS : agF Tryd.prog 15 k_laws_markIntS = true := by kernel_rfl
theorem ag_laws_markSel : agF Tryd.prog 16 k_laws_markSel = true := by kernel_rfl
theorem ag_laws_heldSel : agF Tryd.prog 17 k_laws_heldSel = true := by kernel_rfl
theorem ag_laws_szDeclS : agF Tryd.prog 18 k_laws_szDeclS = true := by kernel_rfl
theorem ag_laws_szAttrS : agF Tryd.prog 19 k_laws_szAttrS = true := by kernel_rfl
theorem ag_laws_szNodeS : agF Tryd.prog 20 k_laws_szNodeS = true := by kernel_rfl
theorem ag_spec_SelFor : agF Tryd.prog 21 k_spec_SelFor = true := by kernel_rfl
theorem ag_spec_SelOk : agF Tryd.prog 22 k_spec_SelOk = true := by kernel_rfl
theorem ag_laws_toDeclS : agF Tryd.prog 23 k_laws_toDeclS = true := by kernel_rfl
theorem ag_laws_toAttrS : agF Tryd.prog 24 k_laws_toAttrS = true := by kernel_rfl
theorem ag_laws_toNodeS : agF Tryd.prog 25 k_laws_toNodeS = true := by kernel_rfl
theorem ag_impl_SelFor : agF Tryd.prog 26 k_impl_SelFor = true := by kernel_rfl
theorem ag_impl_SelOk : agF Tryd.prog 27 k_impl_SelOk = true := by kernel_rfl
theorem ag_laws_eqStepS : agF Tryd.prog 28 k_laws_eqStepS = true := by kernel_rfl
theorem ag_laws_eqDeclS : agF Tryd.prog 29 k_laws_eqDeclS = true := by kernel_rfl
theorem ag_laws_eqAttrS : agF Tryd.prog 30 k_laws_eqAttrS = true := by kernel_rfl
theorem ag_laws_eqNodeS : agF Tryd.prog 31 k_laws_eqNodeS = true := by kernel_rfl
theorem ag_laws_markDeclS : agF Tryd.prog 32 k_laws_markDeclS = true := by kernel_rfl
theorem ag_laws_markAttrS : agF Tryd.prog 33 k_laws_markAttrS = true := by kernel_rfl
theorem ag_laws_markNodeS : agF Tryd.prog 34 k_laws_markNodeS = true := by kernel_rfl
theorem ag_laws_markStepS : agF Tryd.prog 35 k_laws_markStepS = true := by kernel_rfl
theorem ag_laws_heldStepS : agF Tryd.prog 36 k_laws_heldStepS = true := by kernel_rfl
theorem ag_laws_szDecl : agF Tryd.prog 37 k_laws_szDecl = true := by kernel_rfl
theorem ag_spec_NodeAt : agF Tryd.prog 38 k_spec_NodeAt = true := by kernel_rfl
theorem ag_spec_l1In : agF Tryd.prog 39 k_spec_l1In = true := by kernel_rfl
theorem ag_spec_l19Step : agF Tryd.prog 40 k_spec_l19Step = true := by kernel_rfl
theorem ag_spec_l11StepOk : agF Tryd.prog 41 k_spec_l11StepOk = true := by kernel_rfl
theorem ag_spec_l11Val : agF Tryd.prog 42 k_spec_l11Val = true := by kernel_rfl
theorem ag_laws_toDecl : agF Tryd.prog 43 k_laws_toDecl = true := by kernel_rfl
theorem ag_impl_NodeAt : agF Tryd.prog 44 k_impl_NodeAt = true := by kernel_rfl
theorem ag_impl_in : agF Tryd.prog 45 k_impl_in = true := by kernel_rfl
theorem ag_impl_ofKind : agF Tryd.prog 46 k_impl_ofKind = true := by kernel_rfl
theorem ag_impl_stepKind : agF Tryd.prog 47 k_impl_stepKind = true := by kernel_rfl
theorem ag_impl_stepOk : agF Tryd.prog 48 k_impl_stepOk = true := by kernel_rfl
theorem ag_impl_valOk : agF Tryd.prog 49 k_impl_valOk = true := by kernel_rfl
theorem ag_laws_eqStep : agF Tryd.prog 50 k_laws_eqStep = true := by kernel_rfl
theorem ag_laws_eqDecl : agF Tryd.prog 51 k_laws_eqDecl = true := by kernel_rfl
theorem ag_laws_eqAttr : agF Tryd.prog 52 k_laws_eqAttr = true := by kernel_rfl
theorem ag_laws_markText : agF Tryd.prog 53 k_laws_markText = true := by kernel_rfl
theorem ag_laws_markPredS : agF Tryd.prog 54 k_laws_markPredS = true := by kernel_rfl
theorem ag_laws_heldPredS : agF Tryd.prog 55 k_laws_heldPredS = true := by kernel_rfl
theorem ag_spec_l5Copy : agF Tryd.prog 56 k_spec_l5Copy = true := by kernel_rfl
theorem ag_spec_l11PredOk : agF Tryd.prog 57 k_spec_l11PredOk = true := by kernel_rfl
theorem ag_spec_JoinName : agF Tryd.prog 58 k_spec_JoinName = true := by kernel_rfl
theorem ag_spec_PlainOk : agF Tryd.prog 59 k_spec_PlainOk = true := by kernel_rfl
theorem ag_spec_TextOk : agF Tryd.prog 60 k_spec_TextOk = true := by kernel_rfl
theorem ag_spec_l5Has : agF Tryd.prog 61 k_spec_l5Has = true := by kernel_rfl
theorem ag_impl_cloneNode : agF Tryd.prog 62 k_impl_cloneNode = true := by kernel_rfl
theorem ag_slices_ContainsFunc_Pred : agF Tryd.prog 63 k_slices_ContainsFunc_Pred = true := by kernel_rfl
theorem ag_impl_stepOk_1 : agF Tryd.prog 64 k_impl_stepOk_1 = true := by kernel_rfl
theorem ag_impl_predOk : agF Tryd.prog 65 k_impl_predOk = true := by kernel_rfl
theorem ag_impl_nameOk : agF Tryd.prog 66 k_impl_nameOk = true := by kernel_rfl
theorem ag_impl_PlainOk : agF Tryd.prog 67 k_impl_PlainOk = true := by kernel_rfl
theorem ag_impl_TextOk : agF Tryd.prog 68 k_impl_TextOk = true := by kernel_rfl
theorem ag_laws_eqPredS : agF Tryd.prog 70 k_laws_eqPredS = true := by kernel_rfl
theorem ag_spec_l5All : agF Tryd.prog 71 k_spec_l5All = true := by kernel_rfl
theorem ag_spec_SplitName : agF Tryd.prog 72 k_spec_SplitName = true := by kernel_rfl
theorem ag_spec_SignAt : agF Tryd.prog 73 k_spec_SignAt = true := by kernel_rfl
theorem ag_spec_IsStart : agF Tryd.prog 74 k_spec_IsStart = true := by kernel_rfl
theorem ag_spec_IsPart : agF Tryd.prog 75 k_spec_IsPart = true := by kernel_rfl
theorem ag_spec_l1Signs : agF Tryd.prog 76 k_spec_l1Signs = true := by kernel_rfl
theorem ag_slices_Clone_Decl : agF Tryd.prog 77 k_slices_Clone_Decl = true := by kernel_rfl
theorem ag_slices_Clone_Attr : agF Tryd.prog 78 k_slices_Clone_Attr = true := by kernel_rfl
theorem ag_impl_cloneNodes : agF Tryd.prog 79 k_impl_cloneNodes = true := by kernel_rfl
theorem ag_slices_IndexFunc_Pred : agF Tryd.prog 80 k_slices_IndexFunc_Pred = true := by kernel_rfl
theorem ag_impl_SignAt : agF Tryd.prog 81 k_impl_SignAt = true := by kernel_rfl
theorem ag_impl_IsStart : agF Tryd.prog 82 k_impl_IsStart = true := by kernel_rfl
theorem ag_impl_IsPart : agF Tryd.prog 83 k_impl_IsPart = true := by kernel_rfl
theorem ag_impl_signsOk : agF Tryd.prog 84 k_impl_signsOk = true := by kernel_rfl
theorem ag_laws_eqPred : agF Tryd.prog 86 k_laws_eqPred = true := by kernel_rfl
theorem ag_spec_l1Ranges : agF Tryd.prog 87 k_spec_l1Ranges = true := by kernel_rfl
theorem ag_spec_IsSign : agF Tryd.prog 88 k_spec_IsSign = true := by kernel_rfl
theorem ag_impl_inAny : agF Tryd.prog 90 k_impl_inAny = true := by kernel_rfl
theorem ag_impl_IsSign : agF Tryd.prog 91 k_impl_IsSign = true := by kernel_rfl
theorem ag_slices_ContainsFunc_A2int : agF Tryd.prog 94 k_slices_ContainsFunc_A2int = true := by kernel_rfl
theorem ag_impl_inAny_1 : agF Tryd.prog 95 k_impl_inAny_1 = true := by kernel_rfl
theorem ag_slices_IndexFunc_A2int : agF Tryd.prog 100 k_slices_IndexFunc_A2int = true := by kernel_rfl
theorem FTT_ag (f : FuncId) (fn : F) (h : FTT f = some fn) : agF Tryd.prog f fn = true := by
  unfold FTT at h
  split at h <;> cases h
  · exact ag_laws_FnExactSelAttr
  · exact ag_laws_szNode
  · exact ag_laws_szAttr
  · exact ag_spec_SelAttr
  · exact ag_laws_toNode
  · exact ag_laws_toIntS
  · exact ag_laws_toAttr
  · exact ag_impl_SelAttr
  · exact ag_laws_eqSel
  · exact ag_laws_eqNode
  · exact ag_laws_eqIntS
  · exact ag_laws_markNode
  · exact ag_laws_markIntS
  · exact ag_laws_markSel
  · exact ag_laws_heldSel
  · exact ag_laws_szDeclS
  · exact ag_laws_szAttrS
  · exact ag_laws_szNodeS
  · exact ag_spec_SelFor
  · exact ag_spec_SelOk
  · exact ag_laws_toDeclS
  · exact ag_laws_toAttrS
  · exact ag_laws_toNodeS
  · exact ag_impl_SelFor
  · exact ag_impl_SelOk
  · exact ag_laws_eqStepS
  · exact ag_laws_eqDeclS
  · exact ag_laws_eqAttrS
  · exact ag_laws_eqNodeS
  · exact ag_laws_markDeclS
  · exact ag_laws_markAttrS
  · exact ag_laws_markNodeS
  · exact ag_laws_markStepS
  · exact ag_laws_heldStepS
  · exact ag_laws_szDecl
  · exact ag_spec_NodeAt
  · exact ag_spec_l1In
  · exact ag_spec_l19Step
  · exact ag_spec_l11StepOk
  · exact ag_spec_l11Val
  · exact ag_laws_toDecl
  · exact ag_impl_NodeAt
  · exact ag_impl_in
  · exact ag_impl_ofKind
  · exact ag_impl_stepKind
  · exact ag_impl_stepOk
  · exact ag_impl_valOk
  · exact ag_laws_eqStep
  · exact ag_laws_eqDecl
  · exact ag_laws_eqAttr
  · exact ag_laws_markText
  · exact ag_laws_markPredS
  · exact ag_laws_heldPredS
  · exact ag_spec_l5Copy
  · exact ag_spec_l11PredOk
  · exact ag_spec_JoinName
  · exact ag_spec_PlainOk
  · exact ag_spec_TextOk
  · exact ag_spec_l5Has
  · exact ag_impl_cloneNode
  · exact ag_slices_ContainsFunc_Pred
  · exact ag_impl_stepOk_1
  · exact ag_impl_predOk
  · exact ag_impl_nameOk
  · exact ag_impl_PlainOk
  · exact ag_impl_TextOk
  · exact ag_laws_eqPredS
  · exact ag_spec_l5All
  · exact ag_spec_SplitName
  · exact ag_spec_SignAt
  · exact ag_spec_IsStart
  · exact ag_spec_IsPart
  · exact ag_spec_l1Signs
  · exact ag_slices_Clone_Decl
  · exact ag_slices_Clone_Attr
  · exact ag_impl_cloneNodes
  · exact ag_slices_IndexFunc_Pred
  · exact ag_impl_SignAt
  · exact ag_impl_IsStart
  · exact ag_impl_IsPart
  · exact ag_impl_signsOk
  · exact ag_laws_eqPred
  · exact ag_spec_l1Ranges
  · exact ag_spec_IsSign
  · exact ag_impl_inAny
  · exact ag_impl_IsSign
  · exact ag_slices_ContainsFunc_A2int
  · exact ag_impl_inAny_1
  · exact ag_slices_IndexFunc_A2int
theorem sound0 : Sound GG Tryd.prog (dn ⟨FTT, [], []⟩) := den_sound xOf0_sound (by kernel_rfl) FTT_ag
theorem nil_slices_Clone_Decl (q : Option Addr) (cap : Nat) : dn ⟨FTT, [], []⟩ n_slices_Clone_Decl [.t (.v (.slice q 0 cap))] = some ⟨[.t (.sl true [])], []⟩ := by
  show dn ⟨FTT, [], []⟩ _ _ = _
  rw [den_ev ⟨FTT, [], []⟩ (fn := k_slices_Clone_Decl) rfl rfl (Nat.le_of_ble_eq_true rfl)]
  cases q <;> simp only [SS ⟨FTT, [], []⟩, S3, k_slices_Clone_Decl, Option.isNone, show room 0 32 = some () from by unfold room; rw [if_pos ⟨by simp, by decide⟩], oneM_some, Nat.reduceAdd, Nat.reduceSub, Nat.reduceMul, Nat.reduceLeDiff, Nat.reduceLT, Nat.reduceEqDiff, Nat.reduceBEq, ↓reduceIte, reduceCtorEq] <;> rfl
theorem nil_slices_Clone_Attr (q : Option Addr) (cap : Nat) : dn ⟨FTT, [], []⟩ n_slices_Clone_Attr [.t (.v (.slice q 0 cap))] = some ⟨[.t (.sl true [])], []⟩ := by
  show dn ⟨FTT, [], []⟩ _ _ = _
  rw [den_ev ⟨FTT, [], []⟩ (fn := k_slices_Clone_Attr) rfl rfl (Nat.le_of_ble_eq_true rfl)]
  cases q <;> simp only [SS ⟨FTT, [], []⟩, S3, k_slices_Clone_Attr, Option.isNone, show room 0 64 = some () from by unfold room; rw [if_pos ⟨by simp, by decide⟩], oneM_some, Nat.reduceAdd, Nat.reduceSub, Nat.reduceMul, Nat.reduceLeDiff, Nat.reduceLT, Nat.reduceEqDiff, Nat.reduceBEq, ↓reduceIte, reduceCtorEq] <;> rfl
theorem soundA : Sound GG Tryd.prog (dn FTA) := den_sound (xOf_sound (cloneX_sound sound0 (fun f hf q cap => by
  simp only [FTA, List.contains_cons, List.contains_nil, Bool.or_false, Bool.or_eq_true, beq_iff_eq] at hf
  rcases hf with rfl | rfl
  · exact nil_slices_Clone_Decl q cap
  · exact nil_slices_Clone_Attr q cap
)) soundL) (by kernel_rfl) FTT_ag
end TT
