import Derived.Test.YtabghncdppfllaaTN1
set_option linter.unusedVariables false
set_option linter.unusedSimpArgs false
set_option maxRecDepth 20000
namespace TT
open Go
variable (FT : FTab)

theorem wrap_ok {n : Int} (h0 : 0 ≤ n) (h : n ≤ 9223372036854775807) : IntKind.i64.wrap n = n := by rw [IntKind.wrap_i64]; omega

/-! rows of things that are counted -/
def encsDecl (ds : List Decl) : T := .sl false (ds.map Decl.enc)
def szDeclL : List Decl → Int → Option Int
  | [], l => some l
  | d :: ds, l => if szDecl d l < 0 then none else szDeclL ds (szDecl d l)
def szDeclS (ds : List Decl) (l : Int) : Int :=
  let l1 := IntKind.i64.wrap (l - ds.length)
  if l1 < 0 then -1 else (szDeclL ds l1).getD (-1)
def SszDecl (ds : List Decl) (l i : Int) (x4 x15 : V) : St := ⟨[.t (encsDecl ds), .t (.v (.int .i64 l)), .dead, .dead, x4, .t (.v (.int .i64 i))] ++ List.replicate 9 .dead ++ [x15] ++ List.replicate 11 .dead, List.replicate 27 []⟩

theorem szDeclS_loop (h98 : FT 98 = some k98) (ds : List Decl) (hn : ds.length ≤ maxLen) : ∀ (rest pre : List Decl) (l : Int), pre ++ rest = ds →
    ∃ l1 i1 x15, rk FT noX (.loop k67_l1) (SszDecl ds l pre.length .dead .dead) = match szDeclL rest l with
      | some l' => some (.exit 0, SszDecl ds l' ds.length .dead (.t (.v (.bool false))))
      | none => some (.ret, SszDecl ds l1 i1 (.t (.v (.int .i64 (-1)))) x15) := by
  intro rest
  induction rest with
  | nil =>
    intro pre l hp
    refine ⟨0, 0, .dead, ?_⟩
    rw [rk_loop]
    have hl : pre.length = ds.length := by rw [← hp]; simp
    simp [k67_l1, SszDecl, encsDecl, rk_seq, rk_h, rk_reg, rk_cond, rk_ret, rk_skip, rk_ex, rk_blk, ckV_b, ckV_dec, ite_bind', ite_map', stepsO, stepO, guardV, sem, M.run, evalO, constV, St.put, cellsOf, takes, take, thenK, hintK, doHs, doH, List.replicate, getE, setE, ptrRow, cellsV, cellV, binV, intOp, strOp, leave, szDeclL, hl]
  | cons d rest ih =>
    intro pre l hp
    have hl : pre.length < ds.length := by rw [← hp]; simp
    have hm : maxLen = 9223372036854775807 := rfl
    have hg : ds[pre.length]? = some d := by rw [← hp]; simp
    have hw : IntKind.i64.wrap ((pre.length : Int) + 1) = ((pre ++ [d]).length : Int) := by rw [wrap_ok (by omega) (by omega)]; simp
    have h1 := szDecl_den FT h98 d l
    simp only [Decl.enc, List.map_cons, List.map_nil] at h1
    have hd : ds[pre.length] = d := by simpa [hl] using hg
    obtain ⟨l1, i1, x15, ih'⟩ := ih (pre ++ [d]) (szDecl d l) (by simp [hp])
    rw [← hw] at ih'
    have ih2 := ih'
    simp only [SszDecl, encsDecl, List.replicate, List.cons_append, List.nil_append, List.append_assoc] at ih2
    by_cases hneg : szDecl d l < 0
    · refine ⟨szDecl d l, pre.length, .dead, ?_⟩
      rw [rk_loop]
      simp [k67_l1, SszDecl, encsDecl, rk_seq, rk_h, rk_reg, rk_cond, rk_ret, rk_skip, rk_ex, rk_blk, ckV_b, ckV_dec, ite_bind', ite_map', stepsO, stepO, guardV, sem, M.run, evalO, constV, St.put, cellsOf, takes, take, thenK, hintK, doHs, doH, List.replicate, getE, setE, ptrRow, cellsV, cellV, binV, intOp, strOp, leave, szDeclL, hl, hd, Decl.enc, doCall, lendEach, lend, borrows, borrow, borrow1s, borrow1, backIds, nodupIds, PA.reads, V.isOwned, putBack, impRVs, impRV, imps, imp1, oneOr, h1, hneg]
    · refine ⟨l1, i1, x15, ?_⟩
      rw [rk_loop]
      generalize K.loop k67_l1 = L at ih2 ⊢
      simp [k67_l1, SszDecl, encsDecl, rk_seq, rk_h, rk_reg, rk_cond, rk_ret, rk_skip, rk_ex, rk_blk, ckV_b, ckV_dec, ite_bind', ite_map', stepsO, stepO, guardV, sem, M.run, evalO, constV, St.put, cellsOf, takes, take, thenK, hintK, doHs, doH, List.replicate, getE, setE, ptrRow, cellsV, cellV, binV, intOp, strOp, leave, szDeclL, hl, hd, Decl.enc, doCall, lendEach, lend, borrows, borrow, borrow1s, borrow1, backIds, nodupIds, PA.reads, V.isOwned, putBack, impRVs, impRV, imps, imp1, oneOr, h1, hneg]
      exact ih2

theorem szDeclS_den (h67 : FT 67 = some k67) (h98 : FT 98 = some k98) (ds : List Decl) (hn : ds.length ≤ maxLen) (l : Int) : den FT noX 67 [.t (encsDecl ds), .t (.v (.int .i64 l))] = some ⟨[.t (.v (.int .i64 (szDeclS ds l)))], []⟩ := by
  rw [den_eq FT noX h67 rfl (by simp [k67])]
  obtain ⟨l1, i1, x15, h⟩ := szDeclS_loop FT h98 ds hn ds [] (IntKind.i64.wrap (l - ds.length)) rfl
  simp only [SszDecl, encsDecl, List.replicate, List.cons_append, List.nil_append, List.append_assoc] at h
  generalize hL : K.loop k67_l1 = L at h
  simp [k67, hL, encsDecl, rk_seq, rk_h, rk_reg, rk_cond, rk_ret, rk_skip, rk_ex, rk_blk, ckV_b, ckV_dec, ite_bind', ite_map', stepsO, stepO, guardV, sem, M.run, evalO, constV, St.put, cellsOf, takes, take, thenK, hintK, doHs, doH, List.replicate, getE, setE, ptrRow, cellsV, cellV, binV, intOp, strOp, leave, enter, inArgs, inV, inVs, finF, outs, resV, outV, outT, outTs, shape, afters, szDeclS]
  split
  · rfl
  · simp at h
    rw [h]
    cases szDeclL ds (IntKind.i64.wrap (l - ds.length)) <;> simp [rk_seq, rk_h, rk_reg, rk_cond, rk_ret, rk_skip, rk_ex, rk_blk, ckV_b, ckV_dec, ite_bind', ite_map', stepsO, stepO, guardV, sem, M.run, evalO, constV, St.put, cellsOf, takes, take, thenK, hintK, doHs, doH, List.replicate, getE, setE, ptrRow, cellsV, cellV, binV, intOp, strOp, leave, enter, inArgs, inV, inVs, finF, outs, resV, outV, outT, outTs, shape, afters]

def encsAttr (ds : List Attr) : T := .sl false (ds.map Attr.enc)
def szAttrL : List Attr → Int → Option Int
  | [], l => some l
  | d :: ds, l => if szAttr d l < 0 then none else szAttrL ds (szAttr d l)
def szAttrS (ds : List Attr) (l : Int) : Int :=
  let l1 := IntKind.i64.wrap (l - ds.length)
  if l1 < 0 then -1 else (szAttrL ds l1).getD (-1)
def SszAttr (ds : List Attr) (l i : Int) (x4 x15 : V) : St := ⟨[.t (encsAttr ds), .t (.v (.int .i64 l)), .dead, .dead, x4, .t (.v (.int .i64 i))] ++ List.replicate 9 .dead ++ [x15] ++ List.replicate 11 .dead, List.replicate 27 []⟩

theorem szAttrS_loop (h98 : FT 99 = some k99) (ds : List Attr) (hn : ds.length ≤ maxLen) : ∀ (rest pre : List Attr) (l : Int), pre ++ rest = ds →
    ∃ l1 i1 x15, rk FT noX (.loop k68_l1) (SszAttr ds l pre.length .dead .dead) = match szAttrL rest l with
      | some l' => some (.exit 0, SszAttr ds l' ds.length .dead (.t (.v (.bool false))))
      | none => some (.ret, SszAttr ds l1 i1 (.t (.v (.int .i64 (-1)))) x15) := by
  intro rest
  induction rest with
  | nil =>
    intro pre l hp
    refine ⟨0, 0, .dead, ?_⟩
    rw [rk_loop]
    have hl : pre.length = ds.length := by rw [← hp]; simp
    simp [k68_l1, SszAttr, encsAttr, rk_seq, rk_h, rk_reg, rk_cond, rk_ret, rk_skip, rk_ex, rk_blk, ckV_b, ckV_dec, ite_bind', ite_map', stepsO, stepO, guardV, sem, M.run, evalO, constV, St.put, cellsOf, takes, take, thenK, hintK, doHs, doH, List.replicate, getE, setE, ptrRow, cellsV, cellV, binV, intOp, strOp, leave, szAttrL, hl]
  | cons d rest ih =>
    intro pre l hp
    have hl : pre.length < ds.length := by rw [← hp]; simp
    have hm : maxLen = 9223372036854775807 := rfl
    have hg : ds[pre.length]? = some d := by rw [← hp]; simp
    have hw : IntKind.i64.wrap ((pre.length : Int) + 1) = ((pre ++ [d]).length : Int) := by rw [wrap_ok (by omega) (by omega)]; simp
    have h1 := szAttr_den FT h98 d l
    simp only [Attr.enc, List.map_cons, List.map_nil] at h1
    have hd : ds[pre.length] = d := by simpa [hl] using hg
    obtain ⟨l1, i1, x15, ih'⟩ := ih (pre ++ [d]) (szAttr d l) (by simp [hp])
    rw [← hw] at ih'
    have ih2 := ih'
    simp only [SszAttr, encsAttr, List.replicate, List.cons_append, List.nil_append, List.append_assoc] at ih2
    by_cases hneg : szAttr d l < 0
    · refine ⟨szAttr d l, pre.length, .dead, ?_⟩
      rw [rk_loop]
      simp [k68_l1, SszAttr, encsAttr, rk_seq, rk_h, rk_reg, rk_cond, rk_ret, rk_skip, rk_ex, rk_blk, ckV_b, ckV_dec, ite_bind', ite_map', stepsO, stepO, guardV, sem, M.run, evalO, constV, St.put, cellsOf, takes, take, thenK, hintK, doHs, doH, List.replicate, getE, setE, ptrRow, cellsV, cellV, binV, intOp, strOp, leave, szAttrL, hl, hd, Attr.enc, doCall, lendEach, lend, borrows, borrow, borrow1s, borrow1, backIds, nodupIds, PA.reads, V.isOwned, putBack, impRVs, impRV, imps, imp1, oneOr, h1, hneg]
    · refine ⟨l1, i1, x15, ?_⟩
      rw [rk_loop]
      generalize K.loop k68_l1 = L at ih2 ⊢
      simp [k68_l1, SszAttr, encsAttr, rk_seq, rk_h, rk_reg, rk_cond, rk_ret, rk_skip, rk_ex, rk_blk, ckV_b, ckV_dec, ite_bind', ite_map', stepsO, stepO, guardV, sem, M.run, evalO, constV, St.put, cellsOf, takes, take, thenK, hintK, doHs, doH, List.replicate, getE, setE, ptrRow, cellsV, cellV, binV, intOp, strOp, leave, szAttrL, hl, hd, Attr.enc, doCall, lendEach, lend, borrows, borrow, borrow1s, borrow1, backIds, nodupIds, PA.reads, V.isOwned, putBack, impRVs, impRV, imps, imp1, oneOr, h1, hneg]
      exact ih2

theorem szAttrS_den (h67 : FT 68 = some k68) (h98 : FT 99 = some k99) (ds : List Attr) (hn : ds.length ≤ maxLen) (l : Int) : den FT noX 68 [.t (encsAttr ds), .t (.v (.int .i64 l))] = some ⟨[.t (.v (.int .i64 (szAttrS ds l)))], []⟩ := by
  rw [den_eq FT noX h67 rfl (by simp [k68])]
  obtain ⟨l1, i1, x15, h⟩ := szAttrS_loop FT h98 ds hn ds [] (IntKind.i64.wrap (l - ds.length)) rfl
  simp only [SszAttr, encsAttr, List.replicate, List.cons_append, List.nil_append, List.append_assoc] at h
  generalize hL : K.loop k68_l1 = L at h
  simp [k68, hL, encsAttr, rk_seq, rk_h, rk_reg, rk_cond, rk_ret, rk_skip, rk_ex, rk_blk, ckV_b, ckV_dec, ite_bind', ite_map', stepsO, stepO, guardV, sem, M.run, evalO, constV, St.put, cellsOf, takes, take, thenK, hintK, doHs, doH, List.replicate, getE, setE, ptrRow, cellsV, cellV, binV, intOp, strOp, leave, enter, inArgs, inV, inVs, finF, outs, resV, outV, outT, outTs, shape, afters, szAttrS]
  split
  · rfl
  · simp at h
    rw [h]
    cases szAttrL ds (IntKind.i64.wrap (l - ds.length)) <;> simp [rk_seq, rk_h, rk_reg, rk_cond, rk_ret, rk_skip, rk_ex, rk_blk, ckV_b, ckV_dec, ite_bind', ite_map', stepsO, stepO, guardV, sem, M.run, evalO, constV, St.put, cellsOf, takes, take, thenK, hintK, doHs, doH, List.replicate, getE, setE, ptrRow, cellsV, cellV, binV, intOp, strOp, leave, enter, inArgs, inV, inVs, finF, outs, resV, outV, outT, outTs, shape, afters]

/-! alike -/
theorem eqDecl_den (h : FT 80 = some k80) (x : Decl) : den FT noX 80 [.agg (x.enc.map .t), .agg (x.enc.map .t)] = some ⟨[.t (.v (.bool true))], []⟩ := by
  rw [den_eq FT noX h rfl (by simp [k80])]
  simp [k80, Decl.enc, rk_seq, rk_h, rk_reg, rk_cond, rk_ret, rk_skip, rk_ex, rk_blk, ckV_b, ckV_dec, ite_bind', ite_map', stepsO, stepO, guardV, sem, M.run, evalO, constV, St.put, cellsOf, takes, take, thenK, hintK, doHs, doH, List.replicate, getE, setE, ptrRow, cellsV, cellV, binV, intOp, strOp, leave, enter, inArgs, inV, inVs, finF, outs, resV, outV, outT, outTs, shape, afters]
theorem eqAttr_den (h : FT 102 = some k102) (x : Attr) : den FT noX 102 [.agg (x.enc.map .t), .agg (x.enc.map .t)] = some ⟨[.t (.v (.bool true))], []⟩ := by
  rw [den_eq FT noX h rfl (by simp [k102])]
  simp [k102, Attr.enc, rk_seq, rk_h, rk_reg, rk_cond, rk_ret, rk_skip, rk_ex, rk_blk, ckV_b, ckV_dec, ite_bind', ite_map', stepsO, stepO, guardV, sem, M.run, evalO, constV, St.put, cellsOf, takes, take, thenK, hintK, doHs, doH, List.replicate, getE, setE, ptrRow, cellsV, cellV, binV, intOp, strOp, leave, enter, inArgs, inV, inVs, finF, outs, resV, outV, outT, outTs, shape, afters]

end TT
