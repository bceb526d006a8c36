import Derived.Test.YtabghncdppfllaaTN9
set_option linter.unusedVariables false
set_option linter.unusedSimpArgs false
set_option maxRecDepth 20000
namespace TT
open Go
variable (FT : FTab)

theorem FnExactNodes_den (hL : FT 6 = some k6) (hS : SzTab FT) (hT : ToTab FT) (hE : EqTab FT) (h1 : FT 27 = some k27) (h2 : FT 29 = some k29) (n : Node) (hok : n.ok) (hf : n.fine) :
    den FT noX 6 [.agg (n.enc.map .t)] = some ⟨[.t (.v (.bool true))], []⟩ := by
  have hsz := szNode_den FT hS n hok 1048576
  have hspec := specNodes_den FT h1 n hok
  have himpl := implNodes_den FT h2 n hok
  have heq := eqNode_den FT hE n hok
  have hle := szNode_le n (l := 1048576) hok hf (by omega) (by omega)
  have hto := toNode_den FT hT n
  rw [den_eq FT noX hL rfl (by simp [k6])]
  generalize szNode n 1048576 = sz at hsz hle
  generalize nodesF n = nd at hspec himpl
  by_cases hneg : sz < 0
  · obtain ⟨k, a, b, c, ds, as, ks, t⟩ := n
    simp only [Node.enc, List.map_cons, List.map_nil, encsDecl, encsAttr, encL_map] at hsz
    simp [k6, Node.enc, encsDecl, encsAttr, encL_map, rk_seq, rk_h, rk_reg, rk_cond, rk_ret, rk_skip, rk_ex, rk_blk, ckV_b, ckV_dec, ite_bind', ite_map', stepsO, stepO, guardV, sem, M.run, evalO, constV, St.put, cellsOf, takes, take, thenK, hintK, doHs, doH, List.replicate, getE, setE, ptrRow, cellsV, cellV, binV, intOp, strOp, leave, enter, inArgs, inV, inVs, finF, outs, resV, outV, outT, outTs, shape, afters, doCall, lendEach, lend, borrows, borrow, borrow1s, borrow1, backIds, nodupIds, PA.reads, V.isOwned, putBack, impRVs, impRV, imps, imp1, oneOr, hsz, hneg]
  · have hto := hto (hle hneg).1
    obtain ⟨k, a, b, c, ds, as, ks, t⟩ := n
    simp only [Node.enc, List.map_cons, List.map_nil, encsDecl, encsAttr, encL_map] at hsz hspec himpl heq hto
    simp [k6, Node.enc, encsDecl, encsAttr, encL_map, rk_seq, rk_h, rk_reg, rk_cond, rk_ret, rk_skip, rk_ex, rk_blk, ckV_b, ckV_dec, ite_bind', ite_map', stepsO, stepO, guardV, sem, M.run, evalO, constV, St.put, cellsOf, takes, take, thenK, hintK, doHs, doH, List.replicate, getE, setE, ptrRow, cellsV, cellV, binV, intOp, strOp, leave, enter, inArgs, inV, inVs, finF, outs, resV, outV, outT, outTs, shape, afters, doCall, lendEach, lend, borrows, borrow, borrow1s, borrow1, backIds, nodupIds, PA.reads, V.isOwned, putBack, impRVs, impRV, imps, imp1, oneOr, M.runA, hsz, hneg, hto, hspec, himpl, heq, frz_decls, frz_attrs, frz_nodes, setCs, setC, setRC]

end TT
