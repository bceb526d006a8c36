import Derived.Test.YtabghncdppfllaaTN3
set_option linter.unusedVariables false
set_option linter.unusedSimpArgs false
set_option maxRecDepth 20000
namespace TT
open Go
variable (FT : FTab)

/-! rows that are alike -/
def SeqDecl (ds : List Decl) (i : Int) (x14 : V) : St := ⟨[.t (encsDecl ds), .t (encsDecl ds), .dead, .dead, .dead, .t (.v (.int .i64 i))] ++ List.replicate 8 .dead ++ [x14] ++ List.replicate 12 .dead, List.replicate 27 []⟩

theorem eqDeclS_loop (h98 : FT 80 = some k80) (ds : List Decl) (hn : ds.length ≤ maxLen) : ∀ (rest pre : List Decl), pre ++ rest = ds →
    rk FT noX (.loop k44_l1) (SeqDecl ds pre.length .dead) = some (.exit 0, SeqDecl ds ds.length (.t (.v (.bool false)))) := by
  intro rest
  induction rest with
  | nil =>
    intro pre hp
    have hp' : pre = ds := by simpa using hp
    subst hp'
    rw [rk_loop]
    simp [k44_l1, SeqDecl, encsDecl, rk_seq, rk_h, rk_reg, rk_cond, rk_ret, rk_skip, rk_ex, rk_blk, ckV_b, ckV_dec, ite_bind', ite_map', stepsO, stepO, guardV, sem, M.run, evalO, constV, St.put, cellsOf, takes, take, thenK, hintK, doHs, doH, List.replicate, getE, setE, ptrRow, cellsV, cellV, binV, intOp, strOp, leave]
  | cons d rest ih =>
    intro pre hp
    have hl : pre.length < ds.length := by rw [← hp]; simp
    have hm : maxLen = 9223372036854775807 := rfl
    have hg : ds[pre.length]? = some d := by rw [← hp]; simp
    have hw : IntKind.i64.wrap ((pre.length : Int) + 1) = ((pre ++ [d]).length : Int) := by rw [wrap_ok (by omega) (by omega)]; simp
    have h1 := eqDecl_den FT h98 d
    simp only [Decl.enc, List.map_cons, List.map_nil] at h1
    have hd : ds[pre.length] = d := by simpa [hl] using hg
    have ih2 := ih (pre ++ [d]) (by simp [hp])
    rw [← hw] at ih2
    simp only [SeqDecl, encsDecl, List.replicate, List.cons_append, List.nil_append, List.append_assoc] at ih2
    rw [rk_loop]
    generalize K.loop k44_l1 = L at ih2 ⊢
    simp [k44_l1, SeqDecl, encsDecl, rk_seq, rk_h, rk_reg, rk_cond, rk_ret, rk_skip, rk_ex, rk_blk, ckV_b, ckV_dec, ite_bind', ite_map', stepsO, stepO, guardV, sem, M.run, evalO, constV, St.put, cellsOf, takes, take, thenK, hintK, doHs, doH, List.replicate, getE, setE, ptrRow, cellsV, cellV, binV, intOp, strOp, leave, M.runA, hl, hd, Decl.enc, doCall, lendEach, lend, borrows, borrow, borrow1s, borrow1, backIds, nodupIds, PA.reads, V.isOwned, putBack, impRVs, impRV, imps, imp1, oneOr, h1]
    exact ih2

theorem eqDeclS_den (h67 : FT 44 = some k44) (h98 : FT 80 = some k80) (ds : List Decl) (hn : ds.length ≤ maxLen) : den FT noX 44 [.t (encsDecl ds), .t (encsDecl ds)] = some ⟨[.t (.v (.bool true))], []⟩ := by
  rw [den_eq FT noX h67 rfl (by simp [k44])]
  have h := eqDeclS_loop FT h98 ds hn ds [] rfl
  simp only [SeqDecl, encsDecl, List.replicate, List.length_nil, List.cons_append, List.nil_append, List.append_assoc] at h
  generalize hL : K.loop k44_l1 = L at h
  simp [k44, hL, encsDecl, rk_seq, rk_h, rk_reg, rk_cond, rk_ret, rk_skip, rk_ex, rk_blk, ckV_b, ckV_dec, ite_bind', ite_map', stepsO, stepO, guardV, sem, M.run, evalO, constV, St.put, cellsOf, takes, take, thenK, hintK, doHs, doH, List.replicate, getE, setE, ptrRow, cellsV, cellV, binV, intOp, strOp, leave, enter, inArgs, inV, inVs, finF, outs, resV, outV, outT, outTs, shape, afters]
  simp at h
  rw [h]
  simp [rk_seq, rk_h, rk_reg, rk_cond, rk_ret, rk_skip, rk_ex, rk_blk, ckV_b, ckV_dec, ite_bind', ite_map', stepsO, stepO, guardV, sem, M.run, evalO, constV, St.put, cellsOf, takes, take, thenK, hintK, doHs, doH, List.replicate, getE, setE, ptrRow, cellsV, cellV, binV, intOp, strOp, leave, enter, inArgs, inV, inVs, finF, outs, resV, outV, outT, outTs, shape, afters]

def SeqAttr (ds : List Attr) (i : Int) (x14 : V) : St := ⟨[.t (encsAttr ds), .t (encsAttr ds), .dead, .dead, .dead, .t (.v (.int .i64 i))] ++ List.replicate 8 .dead ++ [x14] ++ List.replicate 12 .dead, List.replicate 27 []⟩

theorem eqAttrS_loop (h98 : FT 102 = some k102) (ds : List Attr) (hn : ds.length ≤ maxLen) : ∀ (rest pre : List Attr), pre ++ rest = ds →
    rk FT noX (.loop k71_l1) (SeqAttr ds pre.length .dead) = some (.exit 0, SeqAttr ds ds.length (.t (.v (.bool false)))) := by
  intro rest
  induction rest with
  | nil =>
    intro pre hp
    have hp' : pre = ds := by simpa using hp
    subst hp'
    rw [rk_loop]
    simp [k71_l1, SeqAttr, encsAttr, rk_seq, rk_h, rk_reg, rk_cond, rk_ret, rk_skip, rk_ex, rk_blk, ckV_b, ckV_dec, ite_bind', ite_map', stepsO, stepO, guardV, sem, M.run, evalO, constV, St.put, cellsOf, takes, take, thenK, hintK, doHs, doH, List.replicate, getE, setE, ptrRow, cellsV, cellV, binV, intOp, strOp, leave]
  | cons d rest ih =>
    intro pre hp
    have hl : pre.length < ds.length := by rw [← hp]; simp
    have hm : maxLen = 9223372036854775807 := rfl
    have hg : ds[pre.length]? = some d := by rw [← hp]; simp
    have hw : IntKind.i64.wrap ((pre.length : Int) + 1) = ((pre ++ [d]).length : Int) := by rw [wrap_ok (by omega) (by omega)]; simp
    have h1 := eqAttr_den FT h98 d
    simp only [Attr.enc, List.map_cons, List.map_nil] at h1
    have hd : ds[pre.length] = d := by simpa [hl] using hg
    have ih2 := ih (pre ++ [d]) (by simp [hp])
    rw [← hw] at ih2
    simp only [SeqAttr, encsAttr, List.replicate, List.cons_append, List.nil_append, List.append_assoc] at ih2
    rw [rk_loop]
    generalize K.loop k71_l1 = L at ih2 ⊢
    simp [k71_l1, SeqAttr, encsAttr, rk_seq, rk_h, rk_reg, rk_cond, rk_ret, rk_skip, rk_ex, rk_blk, ckV_b, ckV_dec, ite_bind', ite_map', stepsO, stepO, guardV, sem, M.run, evalO, constV, St.put, cellsOf, takes, take, thenK, hintK, doHs, doH, List.replicate, getE, setE, ptrRow, cellsV, cellV, binV, intOp, strOp, leave, M.runA, hl, hd, Attr.enc, doCall, lendEach, lend, borrows, borrow, borrow1s, borrow1, backIds, nodupIds, PA.reads, V.isOwned, putBack, impRVs, impRV, imps, imp1, oneOr, h1]
    exact ih2

theorem eqAttrS_den (h67 : FT 71 = some k71) (h98 : FT 102 = some k102) (ds : List Attr) (hn : ds.length ≤ maxLen) : den FT noX 71 [.t (encsAttr ds), .t (encsAttr ds)] = some ⟨[.t (.v (.bool true))], []⟩ := by
  rw [den_eq FT noX h67 rfl (by simp [k71])]
  have h := eqAttrS_loop FT h98 ds hn ds [] rfl
  simp only [SeqAttr, encsAttr, List.replicate, List.length_nil, List.cons_append, List.nil_append, List.append_assoc] at h
  generalize hL : K.loop k71_l1 = L at h
  simp [k71, hL, encsAttr, rk_seq, rk_h, rk_reg, rk_cond, rk_ret, rk_skip, rk_ex, rk_blk, ckV_b, ckV_dec, ite_bind', ite_map', stepsO, stepO, guardV, sem, M.run, evalO, constV, St.put, cellsOf, takes, take, thenK, hintK, doHs, doH, List.replicate, getE, setE, ptrRow, cellsV, cellV, binV, intOp, strOp, leave, enter, inArgs, inV, inVs, finF, outs, resV, outV, outT, outTs, shape, afters]
  simp at h
  rw [h]
  simp [rk_seq, rk_h, rk_reg, rk_cond, rk_ret, rk_skip, rk_ex, rk_blk, ckV_b, ckV_dec, ite_bind', ite_map', stepsO, stepO, guardV, sem, M.run, evalO, constV, St.put, cellsOf, takes, take, thenK, hintK, doHs, doH, List.replicate, getE, setE, ptrRow, cellsV, cellV, binV, intOp, strOp, leave, enter, inArgs, inV, inVs, finF, outs, resV, outV, outT, outTs, shape, afters]

end TT
