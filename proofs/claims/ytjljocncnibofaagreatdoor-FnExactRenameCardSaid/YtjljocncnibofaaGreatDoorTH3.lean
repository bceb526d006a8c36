import Derived.Test.YtjljocncnibofaaGreatDoorTH2
set_option linter.unusedVariables false
set_option linter.unusedSimpArgs false
set_option linter.defProp false
namespace TT
open Go
theorem opR_f (FT : Env) (d : Nat) (o : O) (rd wr : List Nat) (s : List V) (r : R) : opR FT false d o rd wr s r = (sem s d o).run (dn FT) d r := rfl
theorem opR_t (FT : Env) (d : Nat) (o : O) (rd wr : List Nat) (s : List V) (r : R) : opR FT true d o rd wr s r = (sem s d o).runA (dn FT) d rd wr r := rfl
theorem lenL_map {α β : Type} (f : α → β) (l : List α) : lenL (l.map f) = lenL l := by simp [lenL]
theorem int_len {α : Type} (l : List α) : ((List.length l : Nat) : Int) = lenL l := rfl
theorem getI_map {α β : Type} (f : α → β) (l : List α) (i : Int) : getI (l.map f) i = (getI l i).map f := by
 simp only [getI, List.getElem?_map]; split <;> rfl
theorem slL_map {α β : Type} (f : α → β) (l : List α) (i j : Int) : slL (l.map f) i j = (slL l i j).map (List.map f) := by
 simp only [slL, List.length_map]; split <;> simp [List.map_take, List.map_drop]
theorem oneM_some {α β : Type} (a : α) (k : α → M β) : oneM (some a) k = k a := rfl
theorem oneM_none {α β : Type} (k : α → M β) : oneM none k = .fail := rfl
theorem oneM_map {α β γ : Type} (f : α → β) (o : Option α) (k : β → M γ) : oneM (o.map f) k = oneM o fun a => k (f a) := by cases o <;> rfl
theorem ent_s (nt : Nat) (args : List Arg) : (enter nt args).s = (inArgs 0 args).map (·.1) ++ List.replicate (nt - args.length) .dead := rfl
theorem ent_r (nt : Nat) (args : List Arg) : (enter nt args).r = (inArgs 0 args).map (·.2) ++ List.replicate (nt - args.length) [] := rfl
theorem ptrRow_nil (rows : Rows) (stt i n st : Nat) : ptrRow rows stt [] i n st = if rows.length = n then rows[i]? else none := rfl
theorem getD_zero {α : Type} (a : α) (l : List α) (d : α) : (a :: l).getD 0 d = a := rfl
theorem getD_succ {α : Type} (a : α) (l : List α) (i : Nat) (d : α) : (a :: l).getD (i + 1) d = l.getD i d := rfl
theorem getD_nil {α : Type} (i : Nat) (d : α) : ([] : List α).getD i d = d := rfl
theorem get?_zero {α : Type} (a : α) (l : List α) : (a :: l)[0]? = some a := rfl
theorem get?_succ {α : Type} (a : α) (l : List α) (i : Nat) : (a :: l)[i + 1]? = l[i]? := rfl
theorem set_zero {α : Type} (a b : α) (l : List α) : (a :: l).set 0 b = b :: l := rfl
theorem set_succ {α : Type} (a b : α) (l : List α) (i : Nat) : (a :: l).set (i + 1) b = a :: l.set i b := rfl
theorem pair_beq (a b c d : Nat) : (((a, b) : Nat × Nat) == (c, d)) = (a == c && b == d) := rfl
theorem evalO_s (s : List V) (t : Nat) : evalO s (.s t) = s.getD t .dead := rfl
theorem evalO_c (s : List V) (x : Value) : evalO s (.c x) = constV x := rfl
theorem evalO_f (s : List V) (f : FuncId) : evalO s (.f f) = .fn f [] := rfl
theorem evalO_z (s : List V) (cs : List T) : evalO s (.z cs) = .agg (cs.map zV) := rfl
theorem constV_int (k : IntKind) (n : Int) : constV (.int k n) = .t (.v (.int k n)) := rfl
theorem constV_bool (b : Bool) : constV (.bool b) = .t (.v (.bool b)) := rfl
theorem constV_ptr (q : Option Addr) : constV (.pointer q) = .t (.v (.pointer q)) := rfl
theorem constV_str (x : ByteArray) : constV (.string x) = .t (.v (.string x)) := rfl
theorem constV_nili : constV .nilIface = .t (.v .nilIface) := rfl
theorem constV_nil : constV (.slice none 0 0) = .nil := rfl
theorem cellV_v (id : Id) (p : Path) (i c st : Nat) (x : Value) : cellV id p i c st (.v x) = .t (.v x) := rfl
theorem cellV_own (id : Id) (p : Path) (i c st : Nat) (rows : Rows) : cellV id p i c st (.sl true rows) = .sub id p i c rows.length st := rfl
theorem cellV_sh (id : Id) (p : Path) (i c st : Nat) (rows : Rows) : cellV id p i c st (.sl false rows) = .t (.sl false rows) := rfl
theorem cellV_hole (id : Id) (p : Path) (i c st : Nat) : cellV id p i c st .hole = .dead := rfl
theorem cellsV_nil (id : Id) (p : Path) (i c st : Nat) : cellsV id p i c st [] = [] := rfl
theorem cellsV_cons (id : Id) (p : Path) (i c st : Nat) (t : T) (ts : List T) : cellsV id p i c st (t :: ts) = cellV id p i c st t :: cellsV id p i (c + 1) st ts := rfl
theorem cellsOf_agg (cs : List V) : cellsOf (.agg cs) = cs := rfl
theorem cellsOf_t (c : T) : cellsOf (.t c) = [.t c] := rfl
theorem cellsOf_nil : cellsOf .nil = [.nil] := rfl
theorem cellsOf_ref (id : Id) (n : Nat) : cellsOf (.ref id n) = [.ref id n] := rfl
theorem cellsOf_sub (id : Id) (p : Path) (i c n st : Nat) : cellsOf (.sub id p i c n st) = [.sub id p i c n st] := rfl
section
variable {α : Type}
theorem take_t (c : T) (k : T → M α) : take (.t c) k = k c := rfl
theorem take_nil (k : T → M α) : take .nil k = k (.sl true []) := rfl
def takeE (id : Id) (n : Nat) (k : T → M α) : Ent → M α
 | .mem rows _ fx => if rows.length = n then .set id .dead (k (.sl true rows)) else .fail
 | .dead => .fail
theorem take_ref (id : Id) (n : Nat) (k : T → M α) : take (.ref id n) k = .get id (takeE id n k) := by
 simp only [take]; congr 1; funext e; cases e <;> rfl
theorem takeE_mem (id : Id) (n : Nat) (k : T → M α) (rows : Rows) (st : Nat) (fx : Bool) : takeE id n k (.mem rows st fx) = if rows.length = n then .set id .dead (k (.sl true rows)) else .fail := rfl
def takeSE (id : Id) (p : Path) (i c n st : Nat) (k : T → M α) : Ent → M α
 | .mem rows stt fx => if st = stt then (match getC rows p i c with
     | some (.sl true rs) => if rs.length = n then .set id (.mem (setC rows p i c .hole) stt fx) (k (.sl true rs)) else .fail
     | _ => .fail) else .fail
 | .dead => .fail
theorem take_sub (id : Id) (p : Path) (i c n st : Nat) (k : T → M α) : take (.sub id p i c n st) k = .get id (takeSE id p i c n st k) := by
 simp only [take]; congr 1; funext e; cases e <;> rfl
theorem takeSE_mem (id : Id) (p : Path) (i c n st : Nat) (k : T → M α) (rows : Rows) (stt : Nat) (fx : Bool) : takeSE id p i c n st k (.mem rows stt fx) = if st = stt then (match getC rows p i c with
     | some (.sl true rs) => if rs.length = n then .set id (.mem (setC rows p i c .hole) stt fx) (k (.sl true rs)) else .fail
     | _ => .fail) else .fail := rfl
theorem takes_nil (k : List T → M α) : takes [] k = k [] := rfl
theorem takes_cons (v : V) (vs : List V) (k : List T → M α) : takes (v :: vs) k = take v fun t => takes vs fun ts => k (t :: ts) := rfl
theorem takeRows_nil (k : Rows → M α) : takeRows [] k = k [] := rfl
theorem takeRows_cons (vs : List V) (vss : List (List V)) (k : Rows → M α) : takeRows (vs :: vss) k = takes vs fun r => takeRows vss fun rs => k (r :: rs) := rfl
theorem rowsOf_t (o : Bool) (rows : Rows) (k : Rows → M α) : rowsOf (.t (.sl o rows)) k = k rows := rfl
theorem rowsOf_nil (k : Rows → M α) : rowsOf .nil k = k [] := rfl
def rowsE (n : Nat) (k : Rows → M α) : Ent → M α
 | .mem rows _ _ => if rows.length = n then k rows else .fail
 | .dead => .fail
theorem rowsOf_ref (id : Id) (n : Nat) (k : Rows → M α) : rowsOf (.ref id n) k = .get id (rowsE n k) := by
 simp only [rowsOf]; congr 1; funext e; cases e <;> rfl
theorem rowsE_mem (n : Nat) (k : Rows → M α) (rows : Rows) (st : Nat) (fx : Bool) : rowsE n k (.mem rows st fx) = if rows.length = n then k rows else .fail := rfl
def rowsSE (p : Path) (i c n st : Nat) (k : Rows → M α) : Ent → M α
 | .mem rows stt _ => if st = stt then (match getC rows p i c with
     | some (.sl true rs) => if rs.length = n then k rs else .fail
     | _ => .fail) else .fail
 | .dead => .fail
theorem rowsOf_sub (id : Id) (p : Path) (i c n st : Nat) (k : Rows → M α) : rowsOf (.sub id p i c n st) k = .get id (rowsSE p i c n st k) := by
 simp only [rowsOf]; congr 1; funext e; cases e <;> rfl
theorem rowsSE_mem (p : Path) (i c n st : Nat) (k : Rows → M α) (rows : Rows) (stt : Nat) (fx : Bool) : rowsSE p i c n st k (.mem rows stt fx) = if st = stt then (match getC rows p i c with
     | some (.sl true rs) => if rs.length = n then k rs else .fail
     | _ => .fail) else .fail := rfl
theorem takeSl_t (o : Bool) (rows : Rows) (k : Rows → M α) : takeSl (.t (.sl o rows)) k = k rows := rfl
def takeSlK (k : Rows → M α) : T → M α
 | .sl true rows => k rows
 | _ => .fail
theorem takeSl_v (q : Option Addr) (c : Nat) (k : Rows → M α) : takeSl (.t (.v (.slice q 0 c))) k = k [] := rfl
theorem takeSl_nil (k : Rows → M α) : takeSl .nil k = k [] := rfl
theorem takeSl_ref (id : Id) (n : Nat) (k : Rows → M α) : takeSl (.ref id n) k = take (.ref id n) (takeSlK k) := by
 rfl
theorem takeSl_sub (id : Id) (p : Path) (i c n st : Nat) (k : Rows → M α) : takeSl (.sub id p i c n st) k = take (.sub id p i c n st) (takeSlK k) := by
 rfl
theorem takeSlK_sl (rows : Rows) (k : Rows → M α) : takeSlK k (.sl true rows) = k rows := rfl
theorem ifbeq {c : Prop} [Decidable c] (a b : M α) (h : c) : (if c then a else b) = a := if_pos h
theorem lend_t (md : Md) (c : T) (k : PA → List Back → M α) : lend md (.t c) k = k (.a (.t c)) [] := by simp only [lend]
theorem lend_nil_val (k : PA → List Back → M α) : lend .val .nil k = k (.a (.t (.sl false []))) [] := by simp only [lend]
theorem lend_nil_give (k : PA → List Back → M α) : lend .give .nil k = k (.a (.t (.sl false []))) [] := by simp only [lend]
theorem lend_nil_ref (k : PA → List Back → M α) : lend .ref .nil k = k (.a (.ln [])) [.none] := by simp only [lend]
theorem lend_agg_val (cs : List V) (k : PA → List Back → M α) : lend .val (.agg cs) k = k (.v (.agg cs)) [] := by simp only [lend]
theorem lend_agg_ref (cs : List V) (k : PA → List Back → M α) : lend .ref (.agg cs) k = lends .ref cs fun as bs => k (.a (.agg (as.map PA.arg))) bs := by simp only [lend]
theorem lend_agg_give (cs : List V) (k : PA → List Back → M α) : lend .give (.agg cs) k = lends .give cs fun as bs => k (.a (.agg (as.map PA.arg))) bs := by simp only [lend]
theorem lend_ref_val (id : Id) (n : Nat) (k : PA → List Back → M α) : lend .val (.ref id n) k = k (.v (.ref id n)) [] := by simp only [lend]
theorem lend_sub_val (id : Id) (p : Path) (i c n st : Nat) (k : PA → List Back → M α) : lend .val (.sub id p i c n st) k = k (.v (.sub id p i c n st)) [] := by simp only [lend]
def lendE (id : Id) (n : Nat) (k : PA → List Back → M α) : Ent → M α
 | .mem rows st fx => if rows.length = n then .set id .dead (k (.a (.ln rows)) [.root id st fx rows]) else .fail
 | .dead => .fail
theorem lend_ref_ref (id : Id) (n : Nat) (k : PA → List Back → M α) : lend .ref (.ref id n) k = .get id (lendE id n k) := by
 simp only [lend]; congr 1; funext e; cases e <;> rfl
theorem lendE_mem (id : Id) (n : Nat) (k : PA → List Back → M α) (rows : Rows) (st : Nat) (fx : Bool) : lendE id n k (.mem rows st fx) = if rows.length = n then .set id .dead (k (.a (.ln rows)) [.root id st fx rows]) else .fail := rfl
def giveE (id : Id) (n : Nat) (k : PA → List Back → M α) : Ent → M α
 | .mem rows st fx => if rows.length = n then .set id .dead (k (.a (.t (.sl false (frzRs rows)))) []) else .fail
 | .dead => .fail
theorem lend_ref_give (id : Id) (n : Nat) (k : PA → List Back → M α) : lend .give (.ref id n) k = .get id (giveE id n k) := by
 simp only [lend]; congr 1; funext e; cases e <;> rfl
theorem giveE_mem (id : Id) (n : Nat) (k : PA → List Back → M α) (rows : Rows) (st : Nat) (fx : Bool) : giveE id n k (.mem rows st fx) = if rows.length = n then .set id .dead (k (.a (.t (.sl false (frzRs rows)))) []) else .fail := rfl
def lendSE (id : Id) (p : Path) (i c n st : Nat) (k : PA → List Back → M α) : Ent → M α
 | .mem rows stt fx => if st = stt then (match getC rows p i c with
     | some (.sl true rs) => if rs.length = n then .set id (.mem (setC rows p i c .hole) (stt + 1) fx) (k (.a (.ln rs)) [.cell id p i c]) else .fail
     | _ => .fail) else .fail
 | .dead => .fail
theorem lend_sub_ref (id : Id) (p : Path) (i c n st : Nat) (k : PA → List Back → M α) : lend .ref (.sub id p i c n st) k = .get id (lendSE id p i c n st k) := by
 simp only [lend]; congr 1; funext e; cases e <;> rfl
theorem lendSE_mem (id : Id) (p : Path) (i c n st : Nat) (k : PA → List Back → M α) (rows : Rows) (stt : Nat) (fx : Bool) : lendSE id p i c n st k (.mem rows stt fx) = if st = stt then (match getC rows p i c with
     | some (.sl true rs) => if rs.length = n then .set id (.mem (setC rows p i c .hole) (stt + 1) fx) (k (.a (.ln rs)) [.cell id p i c]) else .fail
     | _ => .fail) else .fail := rfl
def lendPE (id : Id) (off : Nat) (k : PA → List Back → M α) : Ent → M α
 | .mem [cells] stt fx => if off < cells.length then .set id .dead (k (.a (.lp cells off)) [.root id stt fx [cells]]) else .fail
 | _ => .fail
theorem lend_ptr (md : Md) (id : Id) (off st : Nat) (k : PA → List Back → M α) : lend md (.ptr id [] 0 off 1 st) k = .get id (lendPE id off k) := by
 simp only [lend, List.isEmpty_nil, decide_true, Bool.and_self, if_true]; rfl
theorem lendPE_mem (id : Id) (off : Nat) (k : PA → List Back → M α) (cells : List T) (stt : Nat) (fx : Bool) : lendPE id off k (.mem [cells] stt fx) = if off < cells.length then .set id .dead (k (.a (.lp cells off)) [.root id stt fx [cells]]) else .fail := rfl
theorem lend_pp (md : Md) (cs : List T) (k : PA → List Back → M α) : lend md (.pp cs) k = k (.a (.pp cs)) [] := by simp only [lend]
theorem lend_fn (md : Md) (f : FuncId) (caps : List V) (k : PA → List Back → M α) : lend md (.fn f caps) k = lends .ref caps fun as bs => k (.a (.fn f (as.map PA.arg))) bs := by simp only [lend]
theorem lends_nil (md : Md) (k : List PA → List Back → M α) : lends md [] k = k [] [] := by simp only [lends]
theorem lends_cons (md : Md) (v : V) (vs : List V) (k : List PA → List Back → M α) : lends md (v :: vs) k = lend md v fun a b => lends md vs fun as bs => k (a :: as) (b ++ bs) := by simp only [lends]
theorem lendEach_nil (mds : List Md) (k : List PA → List Back → M α) : lendEach mds [] k = k [] [] := by simp only [lendEach]
theorem lendEach_z (v : V) (vs : List V) (k : List PA → List Back → M α) : lendEach [] (v :: vs) k = lend .val v fun a b => lendEach [] vs fun as bs => k (a :: as) (b ++ bs) := rfl
theorem lendEach_c (md : Md) (mds : List Md) (v : V) (vs : List V) (k : List PA → List Back → M α) : lendEach (md :: mds) (v :: vs) k = lend md v fun a b => lendEach mds vs fun as bs => k (a :: as) (b ++ bs) := rfl
def borrow1R (k : T → M α) (rows : Rows) : M α := k (.sl false (frzRs rows))
theorem borrow1R_eq (k : T → M α) (rows : Rows) : borrow1R k rows = k (.sl false (frzRs rows)) := rfl
theorem borrow1_t (c : T) (k : T → M α) : borrow1 (.t c) k = k c := rfl
theorem borrow1_nil (k : T → M α) : borrow1 .nil k = k (.sl false []) := rfl
theorem borrow1_ref (id : Id) (n : Nat) (k : T → M α) : borrow1 (.ref id n) k = rowsOf (.ref id n) (borrow1R k) := rfl
theorem borrow1_sub (id : Id) (p : Path) (i c n st : Nat) (k : T → M α) : borrow1 (.sub id p i c n st) k = rowsOf (.sub id p i c n st) (borrow1R k) := rfl
theorem borrow1s_nil (k : List T → M α) : borrow1s [] k = k [] := rfl
theorem borrow1s_cons (v : V) (vs : List V) (k : List T → M α) : borrow1s (v :: vs) k = borrow1 v fun t => borrow1s vs fun ts => k (t :: ts) := rfl
theorem borrow_a (x : Arg) (k : Arg → M α) : borrow (.a x) k = k x := rfl
theorem borrow_agg (cs : List V) (k : Arg → M α) : borrow (.v (.agg cs)) k = borrow1s cs fun ts => k (.agg (ts.map Arg.t)) := rfl
theorem borrow_ref (id : Id) (n : Nat) (k : Arg → M α) : borrow (.v (.ref id n)) k = borrow1 (.ref id n) fun t => k (.t t) := rfl
theorem borrow_sub (id : Id) (p : Path) (i c n st : Nat) (k : Arg → M α) : borrow (.v (.sub id p i c n st)) k = borrow1 (.sub id p i c n st) fun t => k (.t t) := rfl
theorem borrows_nil (k : List Arg → M α) : borrows [] k = k [] := rfl
theorem borrows_cons (p : PA) (ps : List PA) (k : List Arg → M α) : borrows (p :: ps) k = borrow p fun a => borrows ps fun as => k (a :: as) := rfl
theorem putBack_nil (m : M α) : putBack [] [] m = m := rfl
def pbE (id : Id) (st : Nat) (fx : Bool) (rows0 : Rows) (o : Option Rows) (m : M α) : Ent → M α
 | .dead => (match o with
    | some rows => if rows.map (·.length) = rows0.map (·.length) then .set id (.mem rows (st + 1) fx) m else .fail
    | none => m)
 | _ => .fail
theorem putBack_root (id : Id) (st : Nat) (fx : Bool) (rows0 : Rows) (bs : List Back) (o : Option Rows) (os : List (Option Rows)) (m : M α) : putBack (.root id st fx rows0 :: bs) (o :: os) m = .get id (pbE id st fx rows0 o (putBack bs os m)) := by
 rfl
theorem pbE_some (id : Id) (st : Nat) (fx : Bool) (rows0 rows : Rows) (m : M α) : pbE id st fx rows0 (some rows) m .dead = if rows.map (·.length) = rows0.map (·.length) then .set id (.mem rows (st + 1) fx) m else .fail := rfl
theorem pbE_none (id : Id) (st : Nat) (fx : Bool) (rows0 : Rows) (m : M α) : pbE id st fx rows0 none m .dead = m := rfl
def pbC (id : Id) (p : Path) (i c : Nat) (o : Option Rows) (m : M α) : Ent → M α
 | .mem rows stt fx => (match o with
    | some rs => .set id (.mem (setC rows p i c (.sl true rs)) (stt + 1) fx) m
    | none => m)
 | _ => .fail
theorem putBack_cell (id : Id) (p : Path) (i c : Nat) (bs : List Back) (o : Option Rows) (os : List (Option Rows)) (m : M α) : putBack (.cell id p i c :: bs) (o :: os) m = .get id (pbC id p i c o (putBack bs os m)) := by
 rfl
theorem pbC_some (id : Id) (p : Path) (i c : Nat) (rs rows : Rows) (stt : Nat) (fx : Bool) (m : M α) : pbC id p i c (some rs) m (.mem rows stt fx) = .set id (.mem (setC rows p i c (.sl true rs)) (stt + 1) fx) m := rfl
theorem putBack_none (bs : List Back) (o : Option Rows) (os : List (Option Rows)) (m : M α) : putBack (.none :: bs) (o :: os) m = putBack bs os m := rfl
end
theorem ldV_ptr (n : Nat) (ag : Bool) (id : Id) (p : Path) (i off m st : Nat) : ldV n ag (.ptr id p i off m st) = .get id (ldE n ag id p i off m st) := rfl
theorem ldV_vb (n : Nat) (ag : Bool) (id : Id) (off st : Nat) (cs : List V) : ldV n ag (.vb id off st cs) = .get id (ldX n ag off st cs) := rfl
theorem ldX_mem (n : Nat) (ag : Bool) (off st : Nat) (cs : List V) (rows : Rows) (stt : Nat) (fx : Bool) : ldX n ag off st cs (.mem rows stt fx) = if (st = stt ∧ rows.length = 1) ∧ off + n ≤ cs.length then oneV ag ((cs.drop off).take n) else .fail := rfl
theorem faV_vb (off : Nat) (id : Id) (o st : Nat) (cs : List V) : faV off (.vb id o st cs) = .ret (.vb id (o + off) st cs) := rfl
theorem boxV_agg (d : Nat) (cs : List V) : boxV d (.agg cs) = if cs.isEmpty || !cs.all V.one then .fail else .new [.mem [List.replicate cs.length .hole] 0 false] (.ret (.vb (d, 0) 0 0 cs)) := rfl
theorem vstV_ptr (n : Nat) (id : Id) (st : Nat) (cs : List V) : vstV n (.ptr id [] 0 0 1 st) (.agg cs) = if cs.length = n ∧ cs.all V.one = true then .get id (vstE id n cs) else .fail := rfl
theorem vstV_vb (n : Nat) (id : Id) (st : Nat) (cs0 cs : List V) : vstV n (.vb id 0 st cs0) (.agg cs) = if cs.length = n ∧ cs.all V.one = true then .get id (vstE id n cs) else .fail := rfl
theorem vstE_mem (id : Id) (n : Nat) (cs : List V) (row : List T) (stt : Nat) (fx : Bool) : vstE id n cs (.mem [row] stt fx) = if row.length = n then .set id (.mem [List.replicate n .hole] (stt + 1) fx) (.ret (.vb id 0 (stt + 1) cs)) else .fail := rfl
theorem one_t (c : T) : V.one (.t c) = true := rfl
theorem one_nil : V.one .nil = true := rfl
theorem one_ref (id : Id) (n : Nat) : V.one (.ref id n) = true := rfl
theorem one_sub (id : Id) (p : Path) (i c n st : Nat) : V.one (.sub id p i c n st) = true := rfl
theorem ldV_pp (n : Nat) (ag : Bool) (cs : List T) : ldV n ag (.pp cs) = if n ≤ cs.length then oneV ag ((cs.take n).map V.t) else .fail := rfl
theorem ldE_mem (n : Nat) (ag : Bool) (id : Id) (p : Path) (i off m st : Nat) (rows : Rows) (stt : Nat) (fx : Bool) : ldE n ag id p i off m st (.mem rows stt fx) = oneM (ptrRow rows stt p i m st) fun row => if off + n ≤ row.length then oneV ag (cellsV id p i off stt ((row.drop off).take n)) else .fail := rfl
theorem stE_mem (id : Id) (p : Path) (i off m st n : Nat) (ts : List T) (rows : Rows) (stt : Nat) (fx : Bool) : stE id p i off m st n ts (.mem rows stt fx) = oneM (ptrRow rows stt p i m st) fun row => if ts.length = n ∧ off + n ≤ row.length then .set id (.mem (setCs rows p i off ts) (stt + 1) fx) (.ret .dead) else .fail := rfl
theorem setCs_nil' (rows : Rows) (p : Path) (i c : Nat) : setCs rows p i c [] = rows := rfl
theorem setCs_cons (rows : Rows) (p : Path) (i c : Nat) (t : T) (ts : List T) : setCs rows p i c (t :: ts) = setCs (setC rows p i c t) p i (c + 1) ts := rfl
theorem setC_nil (rows : Rows) (i c : Nat) (t : T) : setC rows [] i c t = setRC rows i c t := rfl
theorem setRC_one (row : List T) (c : Nat) (t : T) : setRC [row] 0 c t = [row.set c t] := rfl
theorem getC_nil (rows : Rows) (i c : Nat) : getC rows [] i c = rows[i]?.bind (·[c]?) := rfl
theorem nilcV_ptr (a : Id) (b : Path) (c d e f : Nat) : nilcV (.ptr a b c d e f) = .ret (.ptr a b c d e f) := rfl
theorem nilcV_pp (cs : List T) : nilcV (.pp cs) = .ret (.pp cs) := rfl
theorem nilcV_fn (f : FuncId) (caps : List V) : nilcV (.fn f caps) = .ret (.fn f caps) := rfl
theorem mksV_int (d : Nat) (z : List T) (byt : Nat) (k : IntKind) (n : Int) : mksV d z byt (.t (.v (.int k n))) = oneM (mkN n byt) fun m => .new [.mem (List.replicate m z) 0 false] (.ret (.ref (d, 0) m)) := rfl
theorem iaP_eq (sz : Nat) (row : List T) : iaP sz row = if row.length = sz then .ret (.pp row) else .fail := rfl
theorem iaK_def (sz : Nat) (id : Id) (p : Path) (n m st : Nat) (row : List T) : iaK sz id p n m st row = if row.length = sz then .ret (.ptr id p n 0 m st) else .fail := rfl
theorem iaS_eq (sz : Nat) (id : Id) (p : Path) (n : Int) (m st : Nat) (rows : Rows) : iaS sz id p n m st rows = if rows.length = m then oneM (getI rows n) (iaK sz id p n.toNat m st) else .fail := rfl
theorem iaE_mem (sz : Nat) (id : Id) (m : Nat) (n : Int) (rows : Rows) (st : Nat) (fx : Bool) : iaE sz id m n (.mem rows st fx) = iaS sz id [] n m 0 rows := rfl
theorem cvv_fn (d : Nat) (md : List Md) (own : List Bool) (args : List V) (f : FuncId) (caps : List V) : cvv d md own args (.fn f caps) = doCall d f (md ++ (caps.map fun _ => Md.ref)) own (args ++ caps) := rfl
def backK (d : Nat) (own : List Bool) (ps : List PA) (bs : List Back) (res : Res) : M V :=
 if (ps.any PA.reads) && !res.allOwn then .fail else putBack bs res.after
  (let a := impRVs d 0 own res.vals; if a.2.isEmpty then .ret (oneOr a.1) else .new a.2 (.ret (oneOr a.1)))
def callK (d : Nat) (f : FuncId) (own : List Bool) (ps : List PA) (bs : List Back) : M V :=
 if !nodupIds (backIds bs) then .fail else borrows ps fun as => .call f as (backK d own ps bs)
theorem doCall_eq (d : Nat) (f : FuncId) (md : List Md) (own : List Bool) (args : List V) : doCall d f md own args = lendEach md args (callK d f own) := rfl
theorem callK_eq (d : Nat) (f : FuncId) (own : List Bool) (ps : List PA) (bs : List Back) : callK d f own ps bs = if !nodupIds (backIds bs) then .fail else borrows ps fun as => .call f as (backK d own ps bs) := rfl
def newK (as : List V) : List Ent → M V
 | [] => .ret (oneOr as)
 | e :: es => .new (e :: es) (.ret (oneOr as))
theorem backK_eq (d : Nat) (own : List Bool) (ps : List PA) (bs : List Back) (vals : List RV) (after : List (Option Rows)) : backK d own ps bs ⟨vals, after⟩ =
  if (ps.any PA.reads) && !(Res.mk vals after).allOwn then .fail else putBack bs after (newK (impRVs d 0 own vals).1 (impRVs d 0 own vals).2) := by
 simp only [backK]
 congr 2
 generalize impRVs d 0 own vals = a
 obtain ⟨a, b⟩ := a
 cases b <;> rfl
theorem newK_nil (as : List V) : newK as [] = .ret (oneOr as) := rfl
theorem newK_cons (as : List V) (e : Ent) (es : List Ent) : newK as (e :: es) = .new (e :: es) (.ret (oneOr as)) := rfl
theorem oneOr_one (v : V) : oneOr [v] = v := rfl
theorem oneOr_two (v w : V) (vs : List V) : oneOr (v :: w :: vs) = .tup (v :: w :: vs) := rfl
theorem oneOr_nil : oneOr [] = .tup [] := rfl
theorem imp1_v (d : Nat) (own : Bool) (k : Nat) (x : Value) : imp1 d own k (.v x) = (.t (.v x), []) := rfl
theorem imp1_f (d k : Nat) (o : Bool) (rows : Rows) : imp1 d false k (.sl o rows) = (.t (.sl false (frzRs rows)), []) := rfl
theorem imp1_t (d k : Nat) (rows : Rows) : imp1 d true k (.sl true rows) = (.ref (d, k) rows.length, [.mem rows 0 false]) := rfl
theorem imp1_s (d k : Nat) (rows : Rows) : imp1 d true k (.sl false rows) = (.t (.sl false (frzRs rows)), []) := rfl
theorem imps_nil (d : Nat) (own : Bool) (k : Nat) : imps d own k [] = ([], []) := rfl
theorem imps_cons (d : Nat) (own : Bool) (k : Nat) (t : T) (ts : List T) : imps d own k (t :: ts) = ((imp1 d own k t).1 :: (imps d own (k + (imp1 d own k t).2.length) ts).1, (imp1 d own k t).2 ++ (imps d own (k + (imp1 d own k t).2.length) ts).2) := rfl
theorem impRV_t (d : Nat) (own : Bool) (k : Nat) (c : T) : impRV d own k (.t c) = imp1 d own k c := rfl
theorem impRV_agg (d : Nat) (own : Bool) (k : Nat) (cs : List T) : impRV d own k (.agg cs) = (.agg (imps d own k cs).1, (imps d own k cs).2) := rfl
theorem impRV_box (d : Nat) (own : Bool) (k : Nat) (cells : List T) : impRV d own k (.box cells) = (.ptr (d, k) [] 0 0 1 0, [.mem [cells] 0 false]) := rfl
theorem impRVs_nil (d k : Nat) (own : List Bool) : impRVs d k own [] = ([], []) := by cases own <;> rfl
theorem impRVs_cons (d k : Nat) (o : Bool) (own : List Bool) (v : RV) (vs : List RV) : impRVs d k (o :: own) (v :: vs) = ((impRV d o k v).1 :: (impRVs d (k + (impRV d o k v).2.length) own vs).1, (impRV d o k v).2 ++ (impRVs d (k + (impRV d o k v).2.length) own vs).2) := rfl
theorem impRVs_z (d k : Nat) (v : RV) (vs : List RV) : impRVs d k [] (v :: vs) = ((impRV d false k v).1 :: (impRVs d (k + (impRV d false k v).2.length) [] vs).1, (impRV d false k v).2 ++ (impRVs d (k + (impRV d false k v).2.length) [] vs).2) := rfl
theorem frz_map {α : Type} (f g : α → List T) (h : ∀ x, frzR (f x) = g x) (l : List α) : frzRs (l.map f) = l.map g := by
 induction l with
 | nil => rfl
 | cons a l ih => simp only [List.map_cons, frzRs, h, ih]
theorem frz_rI (l : List Int) : frzRs (l.map rI) = l.map rI := frz_map _ _ (fun _ => rfl) l
theorem frz_rK (k : IntKind) (l : List Int) : frzRs (l.map (rK k)) = l.map (rK k) := frz_map _ _ (fun _ => rfl) l
theorem frz_rS (l : List ByteArray) : frzRs (l.map rS) = l.map rS := frz_map _ _ (fun _ => rfl) l
theorem frz_rB (l : List Bool) : frzRs (l.map rB) = l.map rB := frz_map _ _ (fun _ => rfl) l
theorem frz_rLI (o : Bool) (l : List (List Int)) : frzRs (l.map (rL o rI)) = l.map (rL false rI) := frz_map _ _ (fun x => by simp only [rL, frzR, frz, frz_rI]) l
theorem own_map {α : Type} (f : α → List T) (h : ∀ x, allOwnR (f x) = true) (l : List α) : allOwnRs (l.map f) = true := by
 induction l with
 | nil => rfl
 | cons a l ih => simp only [List.map_cons, allOwnRs, h, ih, Bool.and_self]
theorem own_rI (l : List Int) : allOwnRs (l.map rI) = true := own_map _ (fun _ => rfl) l
theorem own_rK (k : IntKind) (l : List Int) : allOwnRs (l.map (rK k)) = true := own_map _ (fun _ => rfl) l
theorem own_rS (l : List ByteArray) : allOwnRs (l.map rS) = true := own_map _ (fun _ => rfl) l
theorem own_rB (l : List Bool) : allOwnRs (l.map rB) = true := own_map _ (fun _ => rfl) l
theorem own_rLI (l : List (List Int)) : allOwnRs (l.map (rL true rI)) = true := own_map _ (fun x => by simp only [rL, allOwnR, allOwn, own_rI, Bool.and_self]) l
theorem resOwn (vals : List RV) (after : List (Option Rows)) : (Res.mk vals after).allOwn = (vals.all RV.allOwn && after.all fun o => match o with | some rows => allOwnRs rows | none => true) := rfl
theorem all_rows {α : Type} (f : α → List T) (sz : Nat) (h : ∀ x, (f x).length = sz) (l : List α) : ((l.map f).all fun r => r.length == sz) = true := by
 simp [List.all_map, h]
theorem all_rI (l : List Int) : ((l.map rI).all fun r => r.length == 1) = true := all_rows _ _ (fun x => by rfl) l
theorem all_rK (k : IntKind) (l : List Int) : ((l.map (rK k)).all fun r => r.length == 1) = true := all_rows _ _ (fun x => by rfl) l
theorem all_rS (l : List ByteArray) : ((l.map rS).all fun r => r.length == 1) = true := all_rows _ _ (fun x => by rfl) l
theorem all_rB (l : List Bool) : ((l.map rB).all fun r => r.length == 1) = true := all_rows _ _ (fun x => by rfl) l
theorem all_rL {α : Type} (o : Bool) (f : α → List T) (l : List (List α)) : ((l.map (rL o f)).all fun r => r.length == 1) = true := all_rows _ _ (fun x => by rfl) l
theorem lens_map {α : Type} (f : α → List T) (g : α → Nat) (h : ∀ x, (f x).length = g x) (l : List α) : (l.map f).map (·.length) = l.map g := by simp [Function.comp_def, h]
theorem men_t (ts : List Nat) (c : T) : V.mentions ts (.t c) = false := by simp only [V.mentions]
theorem men_nil (ts : List Nat) : V.mentions ts .nil = false := by simp only [V.mentions]
theorem men_dead (ts : List Nat) : V.mentions ts .dead = false := by simp only [V.mentions]
theorem men_pp (ts : List Nat) (c : List T) : V.mentions ts (.pp c) = false := by simp only [V.mentions]
theorem outV_t {α : Type} (c : T) (k : RV → M α) : outV (.t c) k = k (.t c) := rfl
theorem outV_nil {α : Type} (k : RV → M α) : outV .nil k = k (.t (.sl true [])) := rfl
theorem outV_ref {α : Type} (id : Id) (n : Nat) (k : RV → M α) : outV (.ref id n) k = take (.ref id n) fun t => k (.t t) := rfl
theorem outT_t {α : Type} (c : T) (k : T → M α) : outT (.t c) k = k c := rfl
theorem outT_ref {α : Type} (id : Id) (n : Nat) (k : T → M α) : outT (.ref id n) k = take (.ref id n) k := rfl
theorem dead_t (c : T) : V.isDead (.t c) = false := rfl
theorem dead_nil : V.isDead .nil = false := rfl
theorem dead_agg (cs : List V) : V.isDead (.agg cs) = false := rfl
theorem dead_ref (id : Id) (n : Nat) : V.isDead (.ref id n) = false := rfl
theorem dead_sub (id : Id) (p : Path) (i c n st : Nat) : V.isDead (.sub id p i c n st) = false := rfl
theorem dead_ptr (id : Id) (p : Path) (i off n st : Nat) : V.isDead (.ptr id p i off n st) = false := rfl
theorem dead_pp (cs : List T) : V.isDead (.pp cs) = false := rfl
theorem dead_fn (f : FuncId) (caps : List V) : V.isDead (.fn f caps) = false := rfl
theorem eqK_int (k : IntKind) (a b : Int) : eqK .int (.t (.v (.int k a))) (.t (.v (.int k b))) = some (eqI a b) := by simp [eqK, eqI]
theorem eqK_str (a b : ByteArray) : eqK .str (.t (.v (.string a))) (.t (.v (.string b))) = some (eqS a b) := rfl
theorem eqK_bool (a b : Bool) : eqK .bool (.t (.v (.bool a))) (.t (.v (.bool b))) = some (eqB a b) := rfl
theorem bytesOf_u8 (n : Int) (rs : Rows) : bytesOf ([.v (.int .u8 n)] :: rs) = (bytesOf rs).map fun l => UInt8.ofNat n.toNat :: l := by simp [bytesOf]
theorem room1 (n byt : Nat) : (if n * byt ≤ LIM ∧ 0 < byt then some () else none) = room n byt := rfl
end TT
