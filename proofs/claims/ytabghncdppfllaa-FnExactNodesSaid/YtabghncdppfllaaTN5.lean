import Derived.Test.YtabghncdppfllaaTN4
set_option linter.unusedVariables false
set_option linter.unusedSimpArgs false
set_option maxRecDepth 20000
namespace TT
open Go
variable (FT : FTab)

inductive Node where
  | mk (k : Int) (a b c : ByteArray) (ds : List Decl) (as : List Attr) (ks : List Node) (t : ByteArray)

mutual
def Node.enc : Node → List T
  | .mk k a b c ds as ks t => [.v (.int .i64 k), .v (.string a), .v (.string b), .v (.string c), encsDecl ds, encsAttr as, .sl false (encL ks), .v (.string t)]
def encL : List Node → Rows
  | [] => []
  | n :: ns => n.enc :: encL ns
end
theorem encL_map (ns : List Node) : encL ns = ns.map Node.enc := by
  induction ns with
  | nil => rfl
  | cons n ns ih => simp [encL, ih]
def encsNode (ns : List Node) : T := .sl false (ns.map Node.enc)

mutual
/-- No list is longer than a machine bears. -/
def Node.ok : Node → Prop
  | .mk k a b c ds as ks t => ds.length ≤ maxLen ∧ as.length ≤ maxLen ∧ ks.length ≤ maxLen ∧ okL ks
def okL : List Node → Prop
  | [] => True
  | n :: ns => n.ok ∧ okL ns
end

mutual
def szNode : Node → Int → Int
  | .mk k a b c ds as ks t, l =>
    if IntKind.i64.wrap (l - a.size) < 0 then -1 else
    if IntKind.i64.wrap (IntKind.i64.wrap (l - a.size) - b.size) < 0 then -1 else
    if IntKind.i64.wrap (IntKind.i64.wrap (IntKind.i64.wrap (l - a.size) - b.size) - c.size) < 0 then -1 else
    if szDeclS ds (IntKind.i64.wrap (IntKind.i64.wrap (IntKind.i64.wrap (l - a.size) - b.size) - c.size)) < 0 then -1 else
    if szAttrS as (szDeclS ds (IntKind.i64.wrap (IntKind.i64.wrap (IntKind.i64.wrap (l - a.size) - b.size) - c.size))) < 0 then -1 else
    szEnd t (if IntKind.i64.wrap (szAttrS as (szDeclS ds (IntKind.i64.wrap (IntKind.i64.wrap (IntKind.i64.wrap (l - a.size) - b.size) - c.size))) - ks.length) < 0 then -1 else
      (szNodeL ks (IntKind.i64.wrap (szAttrS as (szDeclS ds (IntKind.i64.wrap (IntKind.i64.wrap (IntKind.i64.wrap (l - a.size) - b.size) - c.size))) - ks.length))).getD (-1))
def szNodeL : List Node → Int → Option Int
  | [], l => some l
  | n :: ns, l => if szNode n l < 0 then none else szNodeL ns (szNode n l)
def szEnd (t : ByteArray) (l : Int) : Int := if l < 0 then -1 else if IntKind.i64.wrap (l - t.size) < 0 then -1 else IntKind.i64.wrap (l - t.size)
end
def szNodeS (ks : List Node) (l : Int) : Int := if IntKind.i64.wrap (l - ks.length) < 0 then -1 else (szNodeL ks (IntKind.i64.wrap (l - ks.length))).getD (-1)

def SszNode (ds : List Node) (l i : Int) (x4 x15 : V) : St := ⟨[.t (encsNode ds), .t (.v (.int .i64 l)), .dead, .dead, x4, .t (.v (.int .i64 i))] ++ List.replicate 9 .dead ++ [x15] ++ List.replicate 11 .dead, List.replicate 27 []⟩

theorem szNodeS_loop (ds : List Node) (hn : ds.length ≤ maxLen) (hel : ∀ d ∈ ds, ∀ l, den FT noX 26 [.agg (d.enc.map .t), .t (.v (.int .i64 l))] = some ⟨[.t (.v (.int .i64 (szNode d l)))], []⟩) : ∀ (rest pre : List Node) (l : Int), pre ++ rest = ds →
    ∃ l1 i1 x15, rk FT noX (.loop k37_l1) (SszNode ds l pre.length .dead .dead) = match szNodeL rest l with
      | some l' => some (.exit 0, SszNode ds l' ds.length .dead (.t (.v (.bool false))))
      | none => some (.ret, SszNode ds l1 i1 (.t (.v (.int .i64 (-1)))) x15) := by
  intro rest
  induction rest with
  | nil =>
    intro pre l hp
    refine ⟨0, 0, .dead, ?_⟩
    rw [rk_loop]
    have hl : pre.length = ds.length := by rw [← hp]; simp
    simp [k37_l1, SszNode, encsNode, rk_seq, rk_h, rk_reg, rk_cond, rk_ret, rk_skip, rk_ex, rk_blk, ckV_b, ckV_dec, ite_bind', ite_map', stepsO, stepO, guardV, sem, M.run, evalO, constV, St.put, cellsOf, takes, take, thenK, hintK, doHs, doH, List.replicate, getE, setE, ptrRow, cellsV, cellV, binV, intOp, strOp, leave, szNodeL, hl]
  | cons d rest ih =>
    intro pre l hp
    have hl : pre.length < ds.length := by rw [← hp]; simp
    have hm : maxLen = 9223372036854775807 := rfl
    have hg : ds[pre.length]? = some d := by rw [← hp]; simp
    have hw : IntKind.i64.wrap ((pre.length : Int) + 1) = ((pre ++ [d]).length : Int) := by rw [wrap_ok (by omega) (by omega)]; simp
    have h1 := hel d (List.mem_of_getElem? hg) l
    have hd : ds[pre.length] = d := by simpa [hl] using hg
    obtain ⟨l1, i1, x15, ih'⟩ := ih (pre ++ [d]) (szNode d l) (by simp [hp])
    rw [← hw] at ih'
    have ih2 := ih'
    simp only [SszNode, encsNode, List.replicate, List.cons_append, List.nil_append, List.append_assoc] at ih2
    have hs : szNodeL (d :: rest) l = if szNode d l < 0 then none else szNodeL rest (szNode d l) := by simp only [szNodeL]
    rw [hs]
    generalize szNode d l = sz at h1 ih2 ⊢
    obtain ⟨dk, da, db, dc, dds, das, dks, dt⟩ := d
    simp only [Node.enc, List.map_cons, List.map_nil, encsDecl, encsAttr] at h1
    by_cases hneg : sz < 0
    · refine ⟨sz, pre.length, .dead, ?_⟩
      rw [rk_loop]
      simp [k37_l1, SszNode, encsNode, rk_seq, rk_h, rk_reg, rk_cond, rk_ret, rk_skip, rk_ex, rk_blk, ckV_b, ckV_dec, ite_bind', ite_map', stepsO, stepO, guardV, sem, M.run, evalO, constV, St.put, cellsOf, takes, take, thenK, hintK, doHs, doH, List.replicate, getE, setE, ptrRow, cellsV, cellV, binV, intOp, strOp, leave, hl, hd, Node.enc, encsDecl, encsAttr, doCall, lendEach, lend, borrows, borrow, borrow1s, borrow1, backIds, nodupIds, PA.reads, V.isOwned, putBack, impRVs, impRV, imps, imp1, oneOr, h1, hneg]
    · refine ⟨l1, i1, x15, ?_⟩
      rw [rk_loop]
      generalize K.loop k37_l1 = L at ih2 ⊢
      simp [k37_l1, SszNode, encsNode, rk_seq, rk_h, rk_reg, rk_cond, rk_ret, rk_skip, rk_ex, rk_blk, ckV_b, ckV_dec, ite_bind', ite_map', stepsO, stepO, guardV, sem, M.run, evalO, constV, St.put, cellsOf, takes, take, thenK, hintK, doHs, doH, List.replicate, getE, setE, ptrRow, cellsV, cellV, binV, intOp, strOp, leave, hl, hd, Node.enc, encsDecl, encsAttr, doCall, lendEach, lend, borrows, borrow, borrow1s, borrow1, backIds, nodupIds, PA.reads, V.isOwned, putBack, impRVs, impRV, imps, imp1, oneOr, h1, hneg]
      exact ih2

theorem szNodeS_den (h67 : FT 37 = some k37) (ds : List Node) (hn : ds.length ≤ maxLen) (hel : ∀ d ∈ ds, ∀ l, den FT noX 26 [.agg (d.enc.map .t), .t (.v (.int .i64 l))] = some ⟨[.t (.v (.int .i64 (szNode d l)))], []⟩) (l : Int) :
    den FT noX 37 [.t (encsNode ds), .t (.v (.int .i64 l))] = some ⟨[.t (.v (.int .i64 (szNodeS ds l)))], []⟩ := by
  rw [den_eq FT noX h67 rfl (by simp [k37])]
  obtain ⟨l1, i1, x15, h⟩ := szNodeS_loop FT ds hn hel ds [] (IntKind.i64.wrap (l - ds.length)) rfl
  simp only [SszNode, encsNode, List.replicate, List.cons_append, List.nil_append, List.append_assoc] at h
  generalize hL : K.loop k37_l1 = L at h
  simp [k37, hL, encsNode, rk_seq, rk_h, rk_reg, rk_cond, rk_ret, rk_skip, rk_ex, rk_blk, ckV_b, ckV_dec, ite_bind', ite_map', stepsO, stepO, guardV, sem, M.run, evalO, constV, St.put, cellsOf, takes, take, thenK, hintK, doHs, doH, List.replicate, getE, setE, ptrRow, cellsV, cellV, binV, intOp, strOp, leave, enter, inArgs, inV, inVs, finF, outs, resV, outV, outT, outTs, shape, afters, szNodeS]
  split
  · rfl
  · simp at h
    rw [h]
    cases szNodeL ds (IntKind.i64.wrap (l - ds.length)) <;> simp [rk_seq, rk_h, rk_reg, rk_cond, rk_ret, rk_skip, rk_ex, rk_blk, ckV_b, ckV_dec, ite_bind', ite_map', stepsO, stepO, guardV, sem, M.run, evalO, constV, St.put, cellsOf, takes, take, thenK, hintK, doHs, doH, List.replicate, getE, setE, ptrRow, cellsV, cellV, binV, intOp, strOp, leave, enter, inArgs, inV, inVs, finF, outs, resV, outV, outT, outTs, shape, afters]

structure SzTab (FT : FTab) : Prop where
  node : FT 26 = some k26
  nodes : FT 37 = some k37
  decl : FT 98 = some k98
  decls : FT 67 = some k67
  attr : FT 99 = some k99
  attrs : FT 68 = some k68

mutual
theorem szNode_den (h : SzTab FT) : ∀ (n : Node), n.ok → ∀ l, den FT noX 26 [.agg (n.enc.map .t), .t (.v (.int .i64 l))] = some ⟨[.t (.v (.int .i64 (szNode n l)))], []⟩
  | .mk k a b c ds as ks t, hok, l => by
    simp only [Node.ok] at hok
    have hds := fun l => szDeclS_den FT h.decls h.decl ds hok.1 l
    have has := fun l => szAttrS_den FT h.attrs h.attr as hok.2.1 l
    have hks := fun l => szNodeS_den FT h.nodes ks hok.2.2.1 (szNodeL_den h ks hok.2.2.2) l
    simp only [encsDecl, encsAttr, encsNode] at hds has hks
    rw [den_eq FT noX h.node rfl (by simp [k26])]
    simp [k26, Node.enc, encsDecl, encsAttr, encL_map, rk_seq, rk_h, rk_reg, rk_cond, rk_ret, rk_skip, rk_ex, rk_blk, ckV_b, ckV_dec, ite_bind', ite_map', stepsO, stepO, guardV, sem, M.run, evalO, constV, St.put, cellsOf, takes, take, thenK, hintK, doHs, doH, List.replicate, getE, setE, ptrRow, cellsV, cellV, binV, intOp, strOp, leave, enter, inArgs, inV, inVs, finF, outs, resV, outV, outT, outTs, shape, afters, doCall, lendEach, lend, borrows, borrow, borrow1s, borrow1, backIds, nodupIds, PA.reads, V.isOwned, putBack, impRVs, impRV, imps, imp1, oneOr, hds, has, hks, szNode]
    split
    · rfl
    · split
      · rfl
      · split
        · rfl
        · split
          · rfl
          · split
            · rfl
            · show _ = some (Res.mk [RV.t (T.v (Value.int .i64 (szEnd t (szNodeS ks _))))] [])
              simp only [szEnd]
              split
              · rfl
              · split <;> rfl
theorem szNodeL_den (h : SzTab FT) : ∀ (ns : List Node), okL ns → ∀ d ∈ ns, ∀ l, den FT noX 26 [.agg (d.enc.map .t), .t (.v (.int .i64 l))] = some ⟨[.t (.v (.int .i64 (szNode d l)))], []⟩
  | [], _, d, hd, l => by cases hd
  | n :: ns, hok, d, hd, l => by
    simp only [okL] at hok
    rcases List.mem_cons.1 hd with hd | hd
    · rw [hd]; exact szNode_den h n hok.1 l
    · exact szNodeL_den h ns hok.2 d hd l
end

end TT
