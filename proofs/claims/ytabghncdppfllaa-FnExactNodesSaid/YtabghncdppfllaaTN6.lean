import Derived.Test.YtabghncdppfllaaTN5
set_option linter.unusedVariables false
set_option linter.unusedSimpArgs false
set_option maxRecDepth 20000
namespace TT
open Go
variable (FT : FTab)

theorem frz_decls (ds : List Decl) : frzRs (ds.map Decl.enc) = ds.map Decl.enc := by
  induction ds with
  | nil => rfl
  | cons d ds ih => simp only [List.map_cons, frzRs, ih]; rfl
theorem frz_attrs (ds : List Attr) : frzRs (ds.map Attr.enc) = ds.map Attr.enc := by
  induction ds with
  | nil => rfl
  | cons d ds ih => simp only [List.map_cons, frzRs, ih]; rfl
mutual
theorem frz_node : ∀ (n : Node), frzR n.enc = n.enc
  | .mk k a b c ds as ks t => by
    simp only [Node.enc, frzR, frz, encsDecl, encsAttr, frz_decls, frz_attrs, frz_encL ks]
theorem frz_encL : ∀ (ns : List Node), frzRs (encL ns) = encL ns
  | [] => rfl
  | n :: ns => by simp only [encL, frzRs, frz_node n, frz_encL ns]
end
theorem frz_nodes (ns : List Node) : frzRs (ns.map Node.enc) = ns.map Node.enc := by rw [← encL_map, frz_encL]

mutual
/-- No list is longer than the laws let through. -/
def Node.small : Node → Prop
  | .mk k a b c ds as ks t => ds.length ≤ 1048576 ∧ as.length ≤ 1048576 ∧ ks.length ≤ 1048576 ∧ smallL ks
def smallL : List Node → Prop
  | [] => True
  | n :: ns => n.small ∧ smallL ns
end

def Node.zero : List T := [.v (.int .i64 0), .v (.string ⟨#[]⟩), .v (.string ⟨#[]⟩), .v (.string ⟨#[]⟩), .sl true [], .sl true [], .sl true [], .v (.string ⟨#[]⟩)]
def StoNode (ds : List Node) (R : Rows) (i : Int) (x11 : V) : St := ⟨[.t (encsNode ds), .dead, .dead, .ref (7, 0) ds.length, .t (.v (.int .i64 i))] ++ List.replicate 6 .dead ++ [x11] ++ List.replicate 11 .dead, List.replicate 7 [] ++ [[.mem R 0 false]] ++ List.replicate 15 []⟩

theorem toNodeS_loop (ds : List Node) (hn : ds.length ≤ maxLen) (hel : ∀ d ∈ ds, den FT noX 28 [.agg (d.enc.map .t)] = some ⟨[.agg d.enc], []⟩) : ∀ (rest pre : List Node), pre ++ rest = ds →
    rk FT noX (.loop k39_l1) (StoNode ds (pre.map Node.enc ++ List.replicate rest.length Node.zero) pre.length .dead) = some (.exit 0, StoNode ds (ds.map Node.enc) ds.length (.t (.v (.bool false)))) := by
  intro rest
  induction rest with
  | nil =>
    intro pre hp
    have hp' : pre = ds := by simpa using hp
    subst hp'
    rw [rk_loop]
    simp [k39_l1, StoNode, encsNode, rk_seq, rk_h, rk_reg, rk_cond, rk_ret, rk_skip, rk_ex, rk_blk, ckV_b, ckV_dec, ite_bind', ite_map', stepsO, stepO, guardV, sem, M.run, evalO, constV, St.put, cellsOf, takes, take, thenK, hintK, doHs, doH, List.replicate, getE, setE, ptrRow, cellsV, cellV, binV, intOp, strOp, leave]
  | cons d rest ih =>
    intro pre hp
    have hl : pre.length < ds.length := by rw [← hp]; simp
    have hm : maxLen = 9223372036854775807 := rfl
    have hg : ds[pre.length]? = some d := by rw [← hp]; simp
    have hw : IntKind.i64.wrap ((pre.length : Int) + 1) = ((pre ++ [d]).length : Int) := by rw [wrap_ok (by omega) (by omega)]; simp
    have h1 := hel d (List.mem_of_getElem? hg)
    have hd : ds[pre.length] = d := by simpa [hl] using hg
    have ih2 := ih (pre ++ [d]) (by simp [hp])
    rw [← hw] at ih2
    have hR := fill_get Node.enc Node.zero pre rest.length
    have hnx := fill_next Node.enc Node.zero pre d rest.length
    have hdl : d.enc.length = 8 := by cases d; rfl
    have hset := setCs_all (ts := d.enc) hR (by rw [hdl]; rfl)
    rw [hnx] at hset
    have hRl : (pre.map Node.enc ++ List.replicate (rest.length + 1) Node.zero).length = ds.length := by rw [← hp]; simp
    simp only [List.length_cons]
    generalize pre.map Node.enc ++ List.replicate (rest.length + 1) Node.zero = R at hR hset hRl ⊢
    generalize (pre ++ [d]).map Node.enc ++ List.replicate rest.length Node.zero = R' at ih2 hset
    simp only [StoNode, encsNode, List.replicate, List.cons_append, List.nil_append, List.append_assoc] at ih2
    have hRlt : pre.length < R.length := by omega
    have hRi : R[pre.length] = Node.zero := by simpa [hRlt] using hR
    obtain ⟨dk, da, db, dc, dds, das, dks, dt⟩ := d
    simp only [Node.enc, List.map_cons, List.map_nil, encsDecl, encsAttr, encL_map] at h1 hset
    rw [rk_loop]
    generalize K.loop k39_l1 = L at ih2 ⊢
    simp [k39_l1, StoNode, encsNode, rk_seq, rk_h, rk_reg, rk_cond, rk_ret, rk_skip, rk_ex, rk_blk, ckV_b, ckV_dec, ite_bind', ite_map', stepsO, stepO, guardV, sem, M.run, evalO, constV, St.put, cellsOf, takes, take, thenK, hintK, doHs, doH, List.replicate, getE, setE, ptrRow, cellsV, cellV, binV, intOp, strOp, leave, hl, hd, hRi, hRl, hset, Node.enc, Node.zero, encsDecl, encsAttr, encL_map, frz_decls, frz_attrs, frz_nodes, doCall, lendEach, lend, borrows, borrow, borrow1s, borrow1, backIds, nodupIds, PA.reads, V.isOwned, putBack, impRVs, impRV, imps, imp1, oneOr, h1, cleanS, cleanR, V.mentions, Ent.calm]
    exact ih2

theorem toNodeS_den (h67 : FT 39 = some k39) (ds : List Node) (hn : ds.length ≤ 1048576) (hel : ∀ d ∈ ds, den FT noX 28 [.agg (d.enc.map .t)] = some ⟨[.agg d.enc], []⟩) :
    den FT noX 39 [.t (encsNode ds)] = some ⟨[.t (.sl true (ds.map Node.enc))], []⟩ := by
  have hLIM : LIM = 140737488351232 := rfl
  have hm : maxLen = 9223372036854775807 := rfl
  rw [den_eq FT noX h67 rfl (by simp [k39])]
  have h := toNodeS_loop FT ds (by omega) hel ds [] rfl
  have hb1 : ds.length * 144 ≤ LIM := by omega
  have hb2 : ds.length * 136 ≤ LIM := by omega
  have hb3 : ds.length * 152 ≤ LIM := by omega
  simp only [StoNode, encsNode, Node.zero, List.replicate, List.map_nil, List.length_nil, List.cons_append, List.nil_append, List.append_assoc] at h
  generalize hL : K.loop k39_l1 = L at h
  simp [k39, hL, encsNode, Node.zero, rk_seq, rk_h, rk_reg, rk_cond, rk_ret, rk_skip, rk_ex, rk_blk, ckV_b, ckV_dec, ite_bind', ite_map', stepsO, stepO, guardV, sem, M.run, evalO, constV, St.put, cellsOf, takes, take, thenK, hintK, doHs, doH, List.replicate, getE, setE, ptrRow, cellsV, cellV, binV, intOp, strOp, leave, enter, inArgs, inV, inVs, finF, outs, resV, outV, outT, outTs, shape, afters, hb1, hb2, hb3]
  simp at h
  rw [h]
  simp [rk_seq, rk_h, rk_reg, rk_cond, rk_ret, rk_skip, rk_ex, rk_blk, ckV_b, ckV_dec, ite_bind', ite_map', stepsO, stepO, guardV, sem, M.run, evalO, constV, St.put, cellsOf, takes, take, thenK, hintK, doHs, doH, List.replicate, getE, setE, ptrRow, cellsV, cellV, binV, intOp, strOp, leave, enter, inArgs, inV, inVs, finF, outs, resV, outV, outT, outTs, shape, afters]

structure ToTab (FT : FTab) : Prop where
  node : FT 28 = some k28
  nodes : FT 39 = some k39
  decl : FT 100 = some k100
  decls : FT 69 = some k69
  attr : FT 101 = some k101
  attrs : FT 70 = some k70

mutual
theorem toNode_den (h : ToTab FT) : ∀ (n : Node), n.small → den FT noX 28 [.agg (n.enc.map .t)] = some ⟨[.agg n.enc], []⟩
  | .mk k a b c ds as ks t, hok => by
    simp only [Node.small] at hok
    have hLIM : LIM = 140737488351232 := rfl
    have hds := toDeclS_den FT h.decls h.decl ds (by omega)
    have has := toAttrS_den FT h.attrs h.attr as (by omega)
    have hks := toNodeS_den FT h.nodes ks hok.2.2.1 (toNodeL_den h ks hok.2.2.2)
    simp only [encsDecl, encsAttr, encsNode] at hds has hks
    rw [den_eq FT noX h.node rfl (by simp [k28])]
    simp [k28, Node.enc, encsDecl, encsAttr, encL_map, rk_seq, rk_h, rk_reg, rk_cond, rk_ret, rk_skip, rk_ex, rk_blk, ckV_b, ckV_dec, ite_bind', ite_map', stepsO, stepO, guardV, sem, M.run, evalO, constV, St.put, cellsOf, takes, take, thenK, hintK, doHs, doH, List.replicate, getE, setE, ptrRow, cellsV, cellV, binV, intOp, strOp, leave, enter, inArgs, inV, inVs, finF, outs, resV, outV, outT, outTs, shape, afters, doCall, lendEach, lend, borrows, borrow, borrow1s, borrow1, backIds, nodupIds, PA.reads, V.isOwned, putBack, impRVs, impRV, imps, imp1, oneOr, hds, has, hks, frz_decls, frz_attrs, frz_nodes, setCs, setC, setRC]
theorem toNodeL_den (h : ToTab FT) : ∀ (ns : List Node), smallL ns → ∀ d ∈ ns, den FT noX 28 [.agg (d.enc.map .t)] = some ⟨[.agg d.enc], []⟩
  | [], _, d, hd => by cases hd
  | n :: ns, hok, d, hd => by
    simp only [smallL] at hok
    rcases List.mem_cons.1 hd with hd | hd
    · rw [hd]; exact toNode_den h n hok.1
    · exact toNodeL_den h ns hok.2 d hd
end

end TT
