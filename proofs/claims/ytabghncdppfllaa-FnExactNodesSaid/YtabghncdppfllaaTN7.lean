import Derived.Test.YtabghncdppfllaaTN6
set_option linter.unusedVariables false
set_option linter.unusedSimpArgs false
set_option maxRecDepth 20000
namespace TT
open Go
variable (FT : FTab)

def SeqNode (ds : List Node) (i : Int) (x14 : V) : St := ⟨[.t (encsNode ds), .t (encsNode ds), .dead, .dead, .dead, .t (.v (.int .i64 i))] ++ List.replicate 8 .dead ++ [x14] ++ List.replicate 12 .dead, List.replicate 27 []⟩

theorem eqNodeS_loop (ds : List Node) (hn : ds.length ≤ maxLen) (hel : ∀ d ∈ ds, den FT noX 30 [.agg (d.enc.map .t), .agg (d.enc.map .t)] = some ⟨[.t (.v (.bool true))], []⟩) : ∀ (rest pre : List Node), pre ++ rest = ds →
    rk FT noX (.loop k41_l1) (SeqNode ds pre.length .dead) = some (.exit 0, SeqNode ds ds.length (.t (.v (.bool false)))) := by
  intro rest
  induction rest with
  | nil =>
    intro pre hp
    have hp' : pre = ds := by simpa using hp
    subst hp'
    rw [rk_loop]
    simp [k41_l1, SeqNode, encsNode, rk_seq, rk_h, rk_reg, rk_cond, rk_ret, rk_skip, rk_ex, rk_blk, ckV_b, ckV_dec, ite_bind', ite_map', stepsO, stepO, guardV, sem, M.run, evalO, constV, St.put, cellsOf, takes, take, thenK, hintK, doHs, doH, List.replicate, getE, setE, ptrRow, cellsV, cellV, binV, intOp, strOp, leave]
  | cons d rest ih =>
    intro pre hp
    have hl : pre.length < ds.length := by rw [← hp]; simp
    have hm : maxLen = 9223372036854775807 := rfl
    have hg : ds[pre.length]? = some d := by rw [← hp]; simp
    have hw : IntKind.i64.wrap ((pre.length : Int) + 1) = ((pre ++ [d]).length : Int) := by rw [wrap_ok (by omega) (by omega)]; simp
    have h1 := hel d (List.mem_of_getElem? hg)
    have hd : ds[pre.length] = d := by simpa [hl] using hg
    have ih2 := ih (pre ++ [d]) (by simp [hp])
    rw [← hw] at ih2
    simp only [SeqNode, encsNode, List.replicate, List.cons_append, List.nil_append, List.append_assoc] at ih2
    obtain ⟨dk, da, db, dc, dds, das, dks, dt⟩ := d
    simp only [Node.enc, List.map_cons, List.map_nil, encsDecl, encsAttr, encL_map] at h1
    rw [rk_loop]
    generalize K.loop k41_l1 = L at ih2 ⊢
    simp [k41_l1, SeqNode, encsNode, rk_seq, rk_h, rk_reg, rk_cond, rk_ret, rk_skip, rk_ex, rk_blk, ckV_b, ckV_dec, ite_bind', ite_map', stepsO, stepO, guardV, sem, M.run, evalO, constV, St.put, cellsOf, takes, take, thenK, hintK, doHs, doH, List.replicate, getE, setE, ptrRow, cellsV, cellV, binV, intOp, strOp, leave, M.runA, hl, hd, Node.enc, encsDecl, encsAttr, encL_map, doCall, lendEach, lend, borrows, borrow, borrow1s, borrow1, backIds, nodupIds, PA.reads, V.isOwned, putBack, impRVs, impRV, imps, imp1, oneOr, h1]
    exact ih2

theorem eqNodeS_den (h67 : FT 41 = some k41) (ds : List Node) (hn : ds.length ≤ maxLen) (hel : ∀ d ∈ ds, den FT noX 30 [.agg (d.enc.map .t), .agg (d.enc.map .t)] = some ⟨[.t (.v (.bool true))], []⟩) :
    den FT noX 41 [.t (encsNode ds), .t (encsNode ds)] = some ⟨[.t (.v (.bool true))], []⟩ := by
  rw [den_eq FT noX h67 rfl (by simp [k41])]
  have h := eqNodeS_loop FT ds hn hel ds [] rfl
  simp only [SeqNode, encsNode, List.replicate, List.length_nil, List.cons_append, List.nil_append, List.append_assoc] at h
  generalize hL : K.loop k41_l1 = L at h
  simp [k41, hL, encsNode, rk_seq, rk_h, rk_reg, rk_cond, rk_ret, rk_skip, rk_ex, rk_blk, ckV_b, ckV_dec, ite_bind', ite_map', stepsO, stepO, guardV, sem, M.run, evalO, constV, St.put, cellsOf, takes, take, thenK, hintK, doHs, doH, List.replicate, getE, setE, ptrRow, cellsV, cellV, binV, intOp, strOp, leave, enter, inArgs, inV, inVs, finF, outs, resV, outV, outT, outTs, shape, afters]
  simp at h
  rw [h]
  simp [rk_seq, rk_h, rk_reg, rk_cond, rk_ret, rk_skip, rk_ex, rk_blk, ckV_b, ckV_dec, ite_bind', ite_map', stepsO, stepO, guardV, sem, M.run, evalO, constV, St.put, cellsOf, takes, take, thenK, hintK, doHs, doH, List.replicate, getE, setE, ptrRow, cellsV, cellV, binV, intOp, strOp, leave, enter, inArgs, inV, inVs, finF, outs, resV, outV, outT, outTs, shape, afters]

structure EqTab (FT : FTab) : Prop where
  node : FT 30 = some k30
  nodes : FT 41 = some k41
  decl : FT 80 = some k80
  decls : FT 44 = some k44
  attr : FT 102 = some k102
  attrs : FT 71 = some k71

mutual
theorem eqNode_den (h : EqTab FT) : ∀ (n : Node), n.ok → den FT noX 30 [.agg (n.enc.map .t), .agg (n.enc.map .t)] = some ⟨[.t (.v (.bool true))], []⟩
  | .mk k a b c ds as ks t, hok => by
    simp only [Node.ok] at hok
    have hds := eqDeclS_den FT h.decls h.decl ds hok.1
    have has := eqAttrS_den FT h.attrs h.attr as hok.2.1
    have hks := eqNodeS_den FT h.nodes ks hok.2.2.1 (eqNodeL_den h ks hok.2.2.2)
    simp only [encsDecl, encsAttr, encsNode] at hds has hks
    rw [den_eq FT noX h.node rfl (by simp [k30])]
    simp [k30, Node.enc, encsDecl, encsAttr, encL_map, rk_seq, rk_h, rk_reg, rk_cond, rk_ret, rk_skip, rk_ex, rk_blk, ckV_b, ckV_dec, ite_bind', ite_map', stepsO, stepO, guardV, sem, M.run, evalO, constV, St.put, cellsOf, takes, take, thenK, hintK, doHs, doH, List.replicate, getE, setE, ptrRow, cellsV, cellV, binV, intOp, strOp, leave, enter, inArgs, inV, inVs, finF, outs, resV, outV, outT, outTs, shape, afters, doCall, lendEach, lend, borrows, borrow, borrow1s, borrow1, backIds, nodupIds, PA.reads, V.isOwned, putBack, impRVs, impRV, imps, imp1, oneOr, M.runA, hds, has, hks]
theorem eqNodeL_den (h : EqTab FT) : ∀ (ns : List Node), okL ns → ∀ d ∈ ns, den FT noX 30 [.agg (d.enc.map .t), .agg (d.enc.map .t)] = some ⟨[.t (.v (.bool true))], []⟩
  | [], _, d, hd => by cases hd
  | n :: ns, hok, d, hd => by
    simp only [okL] at hok
    rcases List.mem_cons.1 hd with hd | hd
    · rw [hd]; exact eqNode_den h n hok.1
    · exact eqNodeL_den h ns hok.2 d hd
end

end TT
