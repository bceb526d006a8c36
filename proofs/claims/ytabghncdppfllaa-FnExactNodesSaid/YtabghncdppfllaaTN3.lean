import Derived.Test.YtabghncdppfllaaTN2
import Derived.Test.YtabghncdppfllaaTG4
set_option linter.unusedVariables false
set_option linter.unusedSimpArgs false
set_option maxRecDepth 20000
namespace TT
open Go
variable (FT : FTab)

def Decl.zero : List T := [.v (.string ⟨#[]⟩), .v (.string ⟨#[]⟩)]
def Attr.zero : List T := [.v (.string ⟨#[]⟩), .v (.string ⟨#[]⟩), .v (.string ⟨#[]⟩), .v (.string ⟨#[]⟩)]

/-! rows that are copied -/
def StoDecl (ds : List Decl) (R : Rows) (i : Int) (x11 : V) : St := ⟨[.t (encsDecl ds), .dead, .dead, .ref (7, 0) ds.length, .t (.v (.int .i64 i))] ++ List.replicate 6 .dead ++ [x11] ++ List.replicate 11 .dead, List.replicate 7 [] ++ [[.mem R 0 false]] ++ List.replicate 15 []⟩

theorem toDeclS_loop (h98 : FT 100 = some k100) (ds : List Decl) (hn : ds.length ≤ maxLen) : ∀ (rest pre : List Decl), pre ++ rest = ds →
    rk FT noX (.loop k69_l1) (StoDecl ds (pre.map Decl.enc ++ List.replicate rest.length Decl.zero) pre.length .dead) = some (.exit 0, StoDecl ds (ds.map Decl.enc) ds.length (.t (.v (.bool false)))) := by
  intro rest
  induction rest with
  | nil =>
    intro pre hp
    have hp' : pre = ds := by simpa using hp
    subst hp'
    rw [rk_loop]
    simp [k69_l1, StoDecl, encsDecl, rk_seq, rk_h, rk_reg, rk_cond, rk_ret, rk_skip, rk_ex, rk_blk, ckV_b, ckV_dec, ite_bind', ite_map', stepsO, stepO, guardV, sem, M.run, evalO, constV, St.put, cellsOf, takes, take, thenK, hintK, doHs, doH, List.replicate, getE, setE, ptrRow, cellsV, cellV, binV, intOp, strOp, leave]
  | cons d rest ih =>
    intro pre hp
    have hl : pre.length < ds.length := by rw [← hp]; simp
    have hm : maxLen = 9223372036854775807 := rfl
    have hg : ds[pre.length]? = some d := by rw [← hp]; simp
    have hw : IntKind.i64.wrap ((pre.length : Int) + 1) = ((pre ++ [d]).length : Int) := by rw [wrap_ok (by omega) (by omega)]; simp
    have h1 := toDecl_den FT h98 d
    simp only [Decl.enc, List.map_cons, List.map_nil] at h1
    have hd : ds[pre.length] = d := by simpa [hl] using hg
    have ih2 := ih (pre ++ [d]) (by simp [hp])
    rw [← hw] at ih2
    have hR := fill_get Decl.enc Decl.zero pre rest.length
    have hnx := fill_next Decl.enc Decl.zero pre d rest.length
    have hset := setCs_all (ts := d.enc) hR rfl
    rw [hnx] at hset
    have hRl : (pre.map Decl.enc ++ List.replicate (rest.length + 1) Decl.zero).length = ds.length := by rw [← hp]; simp
    simp only [List.length_cons]
    generalize pre.map Decl.enc ++ List.replicate (rest.length + 1) Decl.zero = R at hR hset hRl ⊢
    generalize (pre ++ [d]).map Decl.enc ++ List.replicate rest.length Decl.zero = R' at ih2 hset
    simp only [Decl.enc] at hset
    simp only [StoDecl, encsDecl, List.replicate, List.cons_append, List.nil_append, List.append_assoc] at ih2
    have hRlt : pre.length < R.length := by omega
    have hRi : R[pre.length] = Decl.zero := by simpa [hRlt] using hR
    rw [rk_loop]
    generalize K.loop k69_l1 = L at ih2 ⊢
    simp [k69_l1, StoDecl, encsDecl, rk_seq, rk_h, rk_reg, rk_cond, rk_ret, rk_skip, rk_ex, rk_blk, ckV_b, ckV_dec, ite_bind', ite_map', stepsO, stepO, guardV, sem, M.run, evalO, constV, St.put, cellsOf, takes, take, thenK, hintK, doHs, doH, List.replicate, getE, setE, ptrRow, cellsV, cellV, binV, intOp, strOp, leave, hl, hd, hRi, hRl, hset, Decl.enc, Decl.zero, doCall, lendEach, lend, borrows, borrow, borrow1s, borrow1, backIds, nodupIds, PA.reads, V.isOwned, putBack, impRVs, impRV, imps, imp1, oneOr, h1, cleanS, cleanR, V.mentions, Ent.calm]
    exact ih2

theorem toDeclS_den (h67 : FT 69 = some k69) (h98 : FT 100 = some k100) (ds : List Decl) (hn : ds.length * 64 ≤ LIM) : den FT noX 69 [.t (encsDecl ds)] = some ⟨[.t (.sl true (ds.map Decl.enc))], []⟩ := by
  have hLIM : LIM = 140737488351232 := rfl
  have hm : maxLen = 9223372036854775807 := rfl
  rw [den_eq FT noX h67 rfl (by simp [k69])]
  have h := toDeclS_loop FT h98 ds (by omega) ds [] rfl
  have hb1 : ds.length * 32 ≤ LIM := by omega
  simp only [StoDecl, encsDecl, Decl.zero, List.replicate, List.map_nil, List.length_nil, List.cons_append, List.nil_append, List.append_assoc] at h
  generalize hL : K.loop k69_l1 = L at h
  simp [k69, hL, encsDecl, Decl.zero, rk_seq, rk_h, rk_reg, rk_cond, rk_ret, rk_skip, rk_ex, rk_blk, ckV_b, ckV_dec, ite_bind', ite_map', stepsO, stepO, guardV, sem, M.run, evalO, constV, St.put, cellsOf, takes, take, thenK, hintK, doHs, doH, List.replicate, getE, setE, ptrRow, cellsV, cellV, binV, intOp, strOp, leave, enter, inArgs, inV, inVs, finF, outs, resV, outV, outT, outTs, shape, afters, hn, hb1]
  simp at h
  rw [h]
  simp [rk_seq, rk_h, rk_reg, rk_cond, rk_ret, rk_skip, rk_ex, rk_blk, ckV_b, ckV_dec, ite_bind', ite_map', stepsO, stepO, guardV, sem, M.run, evalO, constV, St.put, cellsOf, takes, take, thenK, hintK, doHs, doH, List.replicate, getE, setE, ptrRow, cellsV, cellV, binV, intOp, strOp, leave, enter, inArgs, inV, inVs, finF, outs, resV, outV, outT, outTs, shape, afters]

def StoAttr (ds : List Attr) (R : Rows) (i : Int) (x11 : V) : St := ⟨[.t (encsAttr ds), .dead, .dead, .ref (7, 0) ds.length, .t (.v (.int .i64 i))] ++ List.replicate 6 .dead ++ [x11] ++ List.replicate 11 .dead, List.replicate 7 [] ++ [[.mem R 0 false]] ++ List.replicate 15 []⟩

theorem toAttrS_loop (h98 : FT 101 = some k101) (ds : List Attr) (hn : ds.length ≤ maxLen) : ∀ (rest pre : List Attr), pre ++ rest = ds →
    rk FT noX (.loop k70_l1) (StoAttr ds (pre.map Attr.enc ++ List.replicate rest.length Attr.zero) pre.length .dead) = some (.exit 0, StoAttr ds (ds.map Attr.enc) ds.length (.t (.v (.bool false)))) := by
  intro rest
  induction rest with
  | nil =>
    intro pre hp
    have hp' : pre = ds := by simpa using hp
    subst hp'
    rw [rk_loop]
    simp [k70_l1, StoAttr, encsAttr, rk_seq, rk_h, rk_reg, rk_cond, rk_ret, rk_skip, rk_ex, rk_blk, ckV_b, ckV_dec, ite_bind', ite_map', stepsO, stepO, guardV, sem, M.run, evalO, constV, St.put, cellsOf, takes, take, thenK, hintK, doHs, doH, List.replicate, getE, setE, ptrRow, cellsV, cellV, binV, intOp, strOp, leave]
  | cons d rest ih =>
    intro pre hp
    have hl : pre.length < ds.length := by rw [← hp]; simp
    have hm : maxLen = 9223372036854775807 := rfl
    have hg : ds[pre.length]? = some d := by rw [← hp]; simp
    have hw : IntKind.i64.wrap ((pre.length : Int) + 1) = ((pre ++ [d]).length : Int) := by rw [wrap_ok (by omega) (by omega)]; simp
    have h1 := toAttr_den FT h98 d
    simp only [Attr.enc, List.map_cons, List.map_nil] at h1
    have hd : ds[pre.length] = d := by simpa [hl] using hg
    have ih2 := ih (pre ++ [d]) (by simp [hp])
    rw [← hw] at ih2
    have hR := fill_get Attr.enc Attr.zero pre rest.length
    have hnx := fill_next Attr.enc Attr.zero pre d rest.length
    have hset := setCs_all (ts := d.enc) hR rfl
    rw [hnx] at hset
    have hRl : (pre.map Attr.enc ++ List.replicate (rest.length + 1) Attr.zero).length = ds.length := by rw [← hp]; simp
    simp only [List.length_cons]
    generalize pre.map Attr.enc ++ List.replicate (rest.length + 1) Attr.zero = R at hR hset hRl ⊢
    generalize (pre ++ [d]).map Attr.enc ++ List.replicate rest.length Attr.zero = R' at ih2 hset
    simp only [Attr.enc] at hset
    simp only [StoAttr, encsAttr, List.replicate, List.cons_append, List.nil_append, List.append_assoc] at ih2
    have hRlt : pre.length < R.length := by omega
    have hRi : R[pre.length] = Attr.zero := by simpa [hRlt] using hR
    rw [rk_loop]
    generalize K.loop k70_l1 = L at ih2 ⊢
    simp [k70_l1, StoAttr, encsAttr, rk_seq, rk_h, rk_reg, rk_cond, rk_ret, rk_skip, rk_ex, rk_blk, ckV_b, ckV_dec, ite_bind', ite_map', stepsO, stepO, guardV, sem, M.run, evalO, constV, St.put, cellsOf, takes, take, thenK, hintK, doHs, doH, List.replicate, getE, setE, ptrRow, cellsV, cellV, binV, intOp, strOp, leave, hl, hd, hRi, hRl, hset, Attr.enc, Attr.zero, doCall, lendEach, lend, borrows, borrow, borrow1s, borrow1, backIds, nodupIds, PA.reads, V.isOwned, putBack, impRVs, impRV, imps, imp1, oneOr, h1, cleanS, cleanR, V.mentions, Ent.calm]
    exact ih2

theorem toAttrS_den (h67 : FT 70 = some k70) (h98 : FT 101 = some k101) (ds : List Attr) (hn : ds.length * 64 ≤ LIM) : den FT noX 70 [.t (encsAttr ds)] = some ⟨[.t (.sl true (ds.map Attr.enc))], []⟩ := by
  have hLIM : LIM = 140737488351232 := rfl
  have hm : maxLen = 9223372036854775807 := rfl
  rw [den_eq FT noX h67 rfl (by simp [k70])]
  have h := toAttrS_loop FT h98 ds (by omega) ds [] rfl
  have hb1 : ds.length * 32 ≤ LIM := by omega
  simp only [StoAttr, encsAttr, Attr.zero, List.replicate, List.map_nil, List.length_nil, List.cons_append, List.nil_append, List.append_assoc] at h
  generalize hL : K.loop k70_l1 = L at h
  simp [k70, hL, encsAttr, Attr.zero, rk_seq, rk_h, rk_reg, rk_cond, rk_ret, rk_skip, rk_ex, rk_blk, ckV_b, ckV_dec, ite_bind', ite_map', stepsO, stepO, guardV, sem, M.run, evalO, constV, St.put, cellsOf, takes, take, thenK, hintK, doHs, doH, List.replicate, getE, setE, ptrRow, cellsV, cellV, binV, intOp, strOp, leave, enter, inArgs, inV, inVs, finF, outs, resV, outV, outT, outTs, shape, afters, hn, hb1]
  simp at h
  rw [h]
  simp [rk_seq, rk_h, rk_reg, rk_cond, rk_ret, rk_skip, rk_ex, rk_blk, ckV_b, ckV_dec, ite_bind', ite_map', stepsO, stepO, guardV, sem, M.run, evalO, constV, St.put, cellsOf, takes, take, thenK, hintK, doHs, doH, List.replicate, getE, setE, ptrRow, cellsV, cellV, binV, intOp, strOp, leave, enter, inArgs, inV, inVs, finF, outs, resV, outV, outT, outTs, shape, afters]

end TT
