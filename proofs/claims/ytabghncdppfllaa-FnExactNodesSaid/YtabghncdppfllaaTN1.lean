import Derived.Test.YtabghncdppfllaaTKN
import Derived.Test.YtabghncdppfllaaTG3
set_option linter.unusedVariables false
set_option linter.unusedSimpArgs false
set_option maxRecDepth 20000
namespace TT
open Go
variable (FT : FTab)

structure Decl where
  a : ByteArray
  b : ByteArray
structure Attr where
  a : ByteArray
  b : ByteArray
  c : ByteArray
  d : ByteArray
def Decl.enc (x : Decl) : List T := [.v (.string x.a), .v (.string x.b)]
def Attr.enc (x : Attr) : List T := [.v (.string x.a), .v (.string x.b), .v (.string x.c), .v (.string x.d)]

/-! sizes -/
def szDecl (x : Decl) (l : Int) : Int :=
  let l1 := IntKind.i64.wrap (l - x.a.size)
  if l1 < 0 then -1 else
  let l2 := IntKind.i64.wrap (l1 - x.b.size)
  if l2 < 0 then -1 else l2
def szAttr (x : Attr) (l : Int) : Int :=
  let l1 := IntKind.i64.wrap (l - x.a.size)
  if l1 < 0 then -1 else
  let l2 := IntKind.i64.wrap (l1 - x.b.size)
  if l2 < 0 then -1 else
  let l3 := IntKind.i64.wrap (l2 - x.c.size)
  if l3 < 0 then -1 else
  let l4 := IntKind.i64.wrap (l3 - x.d.size)
  if l4 < 0 then -1 else l4

theorem szDecl_den (h : FT 98 = some k98) (x : Decl) (l : Int) : den FT noX 98 [.agg (x.enc.map .t), .t (.v (.int .i64 l))] = some ⟨[.t (.v (.int .i64 (szDecl x l)))], []⟩ := by
  rw [den_eq FT noX h rfl (by simp [k98])]
  simp [k98, Decl.enc, rk_seq, rk_h, rk_reg, rk_cond, rk_ret, rk_skip, rk_ex, rk_blk, ckV_b, ckV_dec, ite_bind', ite_map', stepsO, stepO, guardV, sem, M.run, evalO, constV, St.put, cellsOf, takes, take, thenK, hintK, doHs, doH, List.replicate, getE, setE, ptrRow, cellsV, cellV, binV, intOp, strOp, leave, enter, inArgs, inV, inVs, finF, outs, resV, outV, outT, outTs, shape, afters, szDecl]
  split
  · rfl
  · split <;> rfl

theorem szAttr_den (h : FT 99 = some k99) (x : Attr) (l : Int) : den FT noX 99 [.agg (x.enc.map .t), .t (.v (.int .i64 l))] = some ⟨[.t (.v (.int .i64 (szAttr x l)))], []⟩ := by
  rw [den_eq FT noX h rfl (by simp [k99])]
  simp [k99, Attr.enc, rk_seq, rk_h, rk_reg, rk_cond, rk_ret, rk_skip, rk_ex, rk_blk, ckV_b, ckV_dec, ite_bind', ite_map', stepsO, stepO, guardV, sem, M.run, evalO, constV, St.put, cellsOf, takes, take, thenK, hintK, doHs, doH, List.replicate, getE, setE, ptrRow, cellsV, cellV, binV, intOp, strOp, leave, enter, inArgs, inV, inVs, finF, outs, resV, outV, outT, outTs, shape, afters, szAttr]
  split
  · rfl
  · split
    · rfl
    · split
      · rfl
      · split <;> rfl

/-! copies -/
theorem toDecl_den (h : FT 100 = some k100) (x : Decl) : den FT noX 100 [.agg (x.enc.map .t)] = some ⟨[.agg x.enc], []⟩ := by
  refine (den_some FT noX).2 ⟨1, ?_⟩
  have : runF (callN FT noX 0) 0 k100 [.agg (x.enc.map .t)] = some ⟨[.agg x.enc], []⟩ := by kernel_rfl
  simp only [callN, noX, h, Option.bind_some]
  exact this
theorem toAttr_den (h : FT 101 = some k101) (x : Attr) : den FT noX 101 [.agg (x.enc.map .t)] = some ⟨[.agg x.enc], []⟩ := by
  refine (den_some FT noX).2 ⟨1, ?_⟩
  have : runF (callN FT noX 0) 0 k101 [.agg (x.enc.map .t)] = some ⟨[.agg x.enc], []⟩ := by kernel_rfl
  simp only [callN, noX, h, Option.bind_some]
  exact this

end TT
