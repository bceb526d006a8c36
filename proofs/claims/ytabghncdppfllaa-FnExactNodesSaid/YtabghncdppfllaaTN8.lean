import Derived.Test.YtabghncdppfllaaTN7
set_option linter.unusedVariables false
set_option linter.unusedSimpArgs false
set_option maxRecDepth 20000
namespace TT
open Go
variable (FT : FTab)

mutual
def nodesF : Node → Int
  | .mk k a b c ds as ks t => nodesL ks 1
def nodesL : List Node → Int → Int
  | [], acc => acc
  | n :: ns, acc => nodesL ns (IntKind.i64.wrap (acc + nodesF n))
end

/-! the reference's -/
def SspecNodes (k : Int) (a b c : ByteArray) (ds : List Decl) (as : List Attr) (ks : List Node) (t : ByteArray) (acc i : Int) (x9 : V) : St :=
  ⟨[.dead, .ptr (1, 0) [] 0 0 1 0, .dead, .t (.v (.int .i64 acc)), .t (.v (.int .i64 i))] ++ List.replicate 4 .dead ++ [x9] ++ List.replicate 11 .dead,
   [[], [.mem [[.v (.int .i64 k), .v (.string a), .v (.string b), .v (.string c), encsDecl ds, encsAttr as, encsNode ks, .v (.string t)]] 0 false]] ++ List.replicate 19 []⟩

theorem specNodes_loop (k : Int) (a b c : ByteArray) (ds : List Decl) (as : List Attr) (ks : List Node) (t : ByteArray) (hn : ks.length ≤ maxLen) (hel : ∀ d ∈ ks, den FT noX 27 [.agg (d.enc.map .t)] = some ⟨[.t (.v (.int .i64 (nodesF d)))], []⟩) : ∀ (rest pre : List Node) (acc : Int), pre ++ rest = ks →
    rk FT noX (.loop k27_l1) (SspecNodes k a b c ds as ks t acc pre.length .dead) = some (.exit 0, SspecNodes k a b c ds as ks t (nodesL rest acc) ks.length (.t (.v (.bool false)))) := by
  intro rest
  induction rest with
  | nil =>
    intro pre acc hp
    have hp' : pre = ks := by simpa using hp
    subst hp'
    rw [rk_loop]
    simp [k27_l1, SspecNodes, encsNode, encsDecl, encsAttr, rk_seq, rk_h, rk_reg, rk_cond, rk_ret, rk_skip, rk_ex, rk_blk, ckV_b, ckV_dec, ite_bind', ite_map', stepsO, stepO, guardV, sem, M.run, evalO, constV, St.put, cellsOf, takes, take, thenK, hintK, doHs, doH, List.replicate, getE, setE, ptrRow, cellsV, cellV, binV, intOp, strOp, leave, nodesL]
  | cons d rest ih =>
    intro pre acc hp
    have hl : pre.length < ks.length := by rw [← hp]; simp
    have hm : maxLen = 9223372036854775807 := rfl
    have hg : ks[pre.length]? = some d := by rw [← hp]; simp
    have hw : IntKind.i64.wrap ((pre.length : Int) + 1) = ((pre ++ [d]).length : Int) := by rw [wrap_ok (by omega) (by omega)]; simp
    have h1 := hel d (List.mem_of_getElem? hg)
    have hd : ks[pre.length] = d := by simpa [hl] using hg
    have ih2 := ih (pre ++ [d]) (IntKind.i64.wrap (acc + nodesF d)) (by simp [hp])
    rw [← hw] at ih2
    have hs : nodesL (d :: rest) acc = nodesL rest (IntKind.i64.wrap (acc + nodesF d)) := by simp only [nodesL]
    rw [hs]
    generalize nodesF d = nd at h1 ih2 ⊢
    simp only [SspecNodes, encsNode, encsDecl, encsAttr, List.replicate, List.cons_append, List.nil_append, List.append_assoc] at ih2
    obtain ⟨dk, da, db, dc, dds, das, dks, dt⟩ := d
    simp only [Node.enc, List.map_cons, List.map_nil, encsDecl, encsAttr, encL_map] at h1
    rw [rk_loop]
    generalize K.loop k27_l1 = L at ih2 ⊢
    simp [k27_l1, SspecNodes, encsNode, rk_seq, rk_h, rk_reg, rk_cond, rk_ret, rk_skip, rk_ex, rk_blk, ckV_b, ckV_dec, ite_bind', ite_map', stepsO, stepO, guardV, sem, M.run, evalO, constV, St.put, cellsOf, takes, take, thenK, hintK, doHs, doH, List.replicate, getE, setE, ptrRow, cellsV, cellV, binV, intOp, strOp, leave, hl, hd, Node.enc, encsDecl, encsAttr, encL_map, doCall, lendEach, lend, borrows, borrow, borrow1s, borrow1, backIds, nodupIds, PA.reads, V.isOwned, putBack, impRVs, impRV, imps, imp1, oneOr, h1, cleanS, cleanR, V.mentions, Ent.calm]
    exact ih2

mutual
theorem specNodes_den (h : FT 27 = some k27) : ∀ (n : Node), n.ok → den FT noX 27 [.agg (n.enc.map .t)] = some ⟨[.t (.v (.int .i64 (nodesF n)))], []⟩
  | .mk k a b c ds as ks t, hok => by
    simp only [Node.ok] at hok
    have hloop := specNodes_loop FT k a b c ds as ks t hok.2.2.1 (specNodesL_den h ks hok.2.2.2) ks [] 1 rfl
    simp only [SspecNodes, encsNode, encsDecl, encsAttr, List.replicate, List.length_nil, List.cons_append, List.nil_append, List.append_assoc] at hloop
    rw [den_eq FT noX h rfl (by simp [k27])]
    generalize hL : K.loop k27_l1 = L at hloop
    simp [k27, hL, Node.enc, encsDecl, encsAttr, encL_map, rk_seq, rk_h, rk_reg, rk_cond, rk_ret, rk_skip, rk_ex, rk_blk, ckV_b, ckV_dec, ite_bind', ite_map', stepsO, stepO, guardV, sem, M.run, evalO, constV, St.put, cellsOf, takes, take, thenK, hintK, doHs, doH, List.replicate, getE, setE, ptrRow, cellsV, cellV, binV, intOp, strOp, leave, enter, inArgs, inV, inVs, finF, outs, resV, outV, outT, outTs, shape, afters, doCall, lendEach, lend, borrows, borrow, borrow1s, borrow1, backIds, nodupIds, PA.reads, V.isOwned, putBack, impRVs, impRV, imps, imp1, oneOr, nodesF]
    simp at hloop
    rw [hloop]
    simp [rk_seq, rk_h, rk_reg, rk_cond, rk_ret, rk_skip, rk_ex, rk_blk, ckV_b, ckV_dec, ite_bind', ite_map', stepsO, stepO, guardV, sem, M.run, evalO, constV, St.put, cellsOf, takes, take, thenK, hintK, doHs, doH, List.replicate, getE, setE, ptrRow, cellsV, cellV, binV, intOp, strOp, leave, enter, inArgs, inV, inVs, finF, outs, resV, outV, outT, outTs, shape, afters]
theorem specNodesL_den (h : FT 27 = some k27) : ∀ (ns : List Node), okL ns → ∀ d ∈ ns, den FT noX 27 [.agg (d.enc.map .t)] = some ⟨[.t (.v (.int .i64 (nodesF d)))], []⟩
  | [], _, d, hd => by cases hd
  | n :: ns, hok, d, hd => by
    simp only [okL] at hok
    rcases List.mem_cons.1 hd with hd | hd
    · rw [hd]; exact specNodes_den h n hok.1
    · exact specNodesL_den h ns hok.2 d hd
end

/-! the program's -/
def SimplNodes (k : Int) (a b c : ByteArray) (ds : List Decl) (as : List Attr) (ks : List Node) (t : ByteArray) (acc i : Int) (x10 : V) : St :=
  ⟨[.dead, .dead, .dead, .t (.v (.int .i64 acc)), .dead, .dead, .dead, .t (encsNode ks), .t (.v (.int .i64 ks.length)), .t (.v (.int .i64 i)), x10] ++ List.replicate 8 .dead,
   [[], [.mem [[.v (.int .i64 k), .v (.string a), .v (.string b), .v (.string c), encsDecl ds, encsAttr as, encsNode ks, .v (.string t)]] 0 false]] ++ List.replicate 17 []⟩

theorem implNodes_loop (k : Int) (a b c : ByteArray) (ds : List Decl) (as : List Attr) (ks : List Node) (t : ByteArray) (hn : ks.length ≤ maxLen) (hel : ∀ d ∈ ks, den FT noX 29 [.agg (d.enc.map .t)] = some ⟨[.t (.v (.int .i64 (nodesF d)))], []⟩) : ∀ (rest pre : List Node) (acc : Int), pre ++ rest = ks →
    rk FT noX (.loop k29_l1) (SimplNodes k a b c ds as ks t acc pre.length .dead) = some (.exit 0, SimplNodes k a b c ds as ks t (nodesL rest acc) ks.length (.t (.v (.bool false)))) := by
  intro rest
  induction rest with
  | nil =>
    intro pre acc hp
    have hp' : pre = ks := by simpa using hp
    subst hp'
    rw [rk_loop]
    simp [k29_l1, SimplNodes, encsNode, encsDecl, encsAttr, rk_seq, rk_h, rk_reg, rk_cond, rk_ret, rk_skip, rk_ex, rk_blk, ckV_b, ckV_dec, ite_bind', ite_map', stepsO, stepO, guardV, sem, M.run, evalO, constV, St.put, cellsOf, takes, take, thenK, hintK, doHs, doH, List.replicate, getE, setE, ptrRow, cellsV, cellV, binV, intOp, strOp, leave, nodesL]
  | cons d rest ih =>
    intro pre acc hp
    have hl : pre.length < ks.length := by rw [← hp]; simp
    have hm : maxLen = 9223372036854775807 := rfl
    have hg : ks[pre.length]? = some d := by rw [← hp]; simp
    have hw : IntKind.i64.wrap ((pre.length : Int) + 1) = ((pre ++ [d]).length : Int) := by rw [wrap_ok (by omega) (by omega)]; simp
    have h1 := hel d (List.mem_of_getElem? hg)
    have hd : ks[pre.length] = d := by simpa [hl] using hg
    have ih2 := ih (pre ++ [d]) (IntKind.i64.wrap (acc + nodesF d)) (by simp [hp])
    rw [← hw] at ih2
    have hs : nodesL (d :: rest) acc = nodesL rest (IntKind.i64.wrap (acc + nodesF d)) := by simp only [nodesL]
    rw [hs]
    generalize nodesF d = nd at h1 ih2 ⊢
    simp only [SimplNodes, encsNode, encsDecl, encsAttr, List.replicate, List.cons_append, List.nil_append, List.append_assoc] at ih2
    obtain ⟨dk, da, db, dc, dds, das, dks, dt⟩ := d
    simp only [Node.enc, List.map_cons, List.map_nil, encsDecl, encsAttr, encL_map] at h1
    rw [rk_loop]
    generalize K.loop k29_l1 = L at ih2 ⊢
    simp [k29_l1, SimplNodes, encsNode, rk_seq, rk_h, rk_reg, rk_cond, rk_ret, rk_skip, rk_ex, rk_blk, ckV_b, ckV_dec, ite_bind', ite_map', stepsO, stepO, guardV, sem, M.run, evalO, constV, St.put, cellsOf, takes, take, thenK, hintK, doHs, doH, List.replicate, getE, setE, ptrRow, cellsV, cellV, binV, intOp, strOp, leave, hl, hd, Node.enc, encsDecl, encsAttr, encL_map, doCall, lendEach, lend, borrows, borrow, borrow1s, borrow1, backIds, nodupIds, PA.reads, V.isOwned, putBack, impRVs, impRV, imps, imp1, oneOr, h1, cleanS, cleanR, V.mentions, Ent.calm, setCs, setC, setRC]
    exact ih2

mutual
theorem implNodes_den (h : FT 29 = some k29) : ∀ (n : Node), n.ok → den FT noX 29 [.agg (n.enc.map .t)] = some ⟨[.t (.v (.int .i64 (nodesF n)))], []⟩
  | .mk k a b c ds as ks t, hok => by
    simp only [Node.ok] at hok
    have hloop := implNodes_loop FT k a b c ds as ks t hok.2.2.1 (implNodesL_den h ks hok.2.2.2) ks [] 1 rfl
    simp only [SimplNodes, encsNode, encsDecl, encsAttr, List.replicate, List.length_nil, List.cons_append, List.nil_append, List.append_assoc] at hloop
    rw [den_eq FT noX h rfl (by simp [k29])]
    generalize hL : K.loop k29_l1 = L at hloop
    simp [k29, hL, Node.enc, encsDecl, encsAttr, encL_map, rk_seq, rk_h, rk_reg, rk_cond, rk_ret, rk_skip, rk_ex, rk_blk, ckV_b, ckV_dec, ite_bind', ite_map', stepsO, stepO, guardV, sem, M.run, evalO, constV, St.put, cellsOf, takes, take, thenK, hintK, doHs, doH, List.replicate, getE, setE, ptrRow, cellsV, cellV, binV, intOp, strOp, leave, enter, inArgs, inV, inVs, finF, outs, resV, outV, outT, outTs, shape, afters, doCall, lendEach, lend, borrows, borrow, borrow1s, borrow1, backIds, nodupIds, PA.reads, V.isOwned, putBack, impRVs, impRV, imps, imp1, oneOr, nodesF]
    simp at hloop
    rw [hloop]
    simp [rk_seq, rk_h, rk_reg, rk_cond, rk_ret, rk_skip, rk_ex, rk_blk, ckV_b, ckV_dec, ite_bind', ite_map', stepsO, stepO, guardV, sem, M.run, evalO, constV, St.put, cellsOf, takes, take, thenK, hintK, doHs, doH, List.replicate, getE, setE, ptrRow, cellsV, cellV, binV, intOp, strOp, leave, enter, inArgs, inV, inVs, finF, outs, resV, outV, outT, outTs, shape, afters]
theorem implNodesL_den (h : FT 29 = some k29) : ∀ (ns : List Node), okL ns → ∀ d ∈ ns, den FT noX 29 [.agg (d.enc.map .t)] = some ⟨[.t (.v (.int .i64 (nodesF d)))], []⟩
  | [], _, d, hd => by cases hd
  | n :: ns, hok, d, hd => by
    simp only [okL] at hok
    rcases List.mem_cons.1 hd with hd | hd
    · rw [hd]; exact implNodes_den h n hok.1
    · exact implNodesL_den h ns hok.2 d hd
end

end TT
