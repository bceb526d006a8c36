import Derived.Test.YtaeegkjcjlnanaaGreatDoorTH2
set_option linter.unusedVariables false
set_option linter.unusedSimpArgs false
set_option linter.defProp false
namespace TT
open Go
theorem zW (FT : Env) (d : Nat) (o : O) (rd wr : List Nat) (s : List V) (r : R) : opR FT false d o rd wr s r = (Av s d o).run (dn FT) d r := rfl
theorem zX (FT : Env) (d : Nat) (o : O) (rd wr : List Nat) (s : List V) (r : R) : opR FT true d o rd wr s r = (Av s d o).runA (dn FT) d rd wr r := rfl
theorem qK {α β : Type} (f : α → β) (l : List α) : AC (l.map f) = AC l := by simp [AC]
theorem uT {α : Type} (l : List α) : ((List.length l : Nat) : Int) = AC l := rfl
theorem qL {α β : Type} (f : α → β) (l : List α) (i : Int) : getI (l.map f) i = (getI l i).map f := by
 simp only [getI, List.getElem?_map]; split <;> rfl
theorem uU {α β : Type} (f : α → β) (l : List α) (i j : Int) : slL (l.map f) i j = (slL l i j).map (List.map f) := by
 simp only [slL, List.length_map]; split <;> simp [List.map_take, List.map_drop]
theorem Rh {α β : Type} (a : α) (k : α → M β) : C1 (some a) k = k a := rfl
theorem mo {α β : Type} (k : α → M β) : C1 none k = .fail := rfl
theorem qM {α β γ : Type} (f : α → β) (o : Option α) (k : β → M γ) : C1 (o.map f) k = C1 o fun a => k (f a) := by cases o <;> rfl
theorem zY (nt : Nat) (args : List Fy) : (enter nt args).s = (LR 0 args).map (·.1) ++ List.replicate (nt - args.length) .dead := rfl
theorem zZ (nt : Nat) (args : List Fy) : (enter nt args).r = (LR 0 args).map (·.2) ++ List.replicate (nt - args.length) [] := rfl
theorem kE (rows : Rows) (stt i n st : Nat) : Cl rows stt [] i n st = if rows.length = n then rows[i]? else none := rfl
theorem mp {α : Type} (a : α) (l : List α) (d : α) : (a :: l).getD 0 d = a := rfl
theorem mq {α : Type} (a : α) (l : List α) (i : Nat) (d : α) : (a :: l).getD (i + 1) d = l.getD i d := rfl
theorem qN {α : Type} (i : Nat) (d : α) : ([] : List α).getD i d = d := rfl
theorem mr {α : Type} (a : α) (l : List α) : (a :: l)[0]? = some a := rfl
theorem mt {α : Type} (a : α) (l : List α) (i : Nat) : (a :: l)[i + 1]? = l[i]? := rfl
theorem qO {α : Type} (a b : α) (l : List α) : (a :: l).set 0 b = b :: l := rfl
theorem qP {α : Type} (a b : α) (l : List α) (i : Nat) : (a :: l).set (i + 1) b = a :: l.set i b := rfl
theorem qQ (a b c d : Nat) : (((a, b) : Nat × Nat) == (c, d)) = (a == c && b == d) := rfl
theorem uV (s : List V) (t : Nat) : A6 s (.s t) = s.getD t .dead := rfl
theorem uW (s : List V) (x : Value) : A6 s (.c x) = Nu x := rfl
theorem uX (s : List V) (f : FuncId) : A6 s (.f f) = .fn f [] := rfl
theorem uY (s : List V) (cs : List T) : A6 s (.z cs) = .agg (cs.map zV) := rfl
theorem kF (k : IntKind) (n : Int) : Nu (.int k n) = .t (.v (.int k n)) := rfl
theorem i6 (b : Bool) : Nu (.bool b) = .t (.v (.bool b)) := rfl
theorem kG (q : Option Addr) : Nu (.pointer q) = .t (.v (.pointer q)) := rfl
theorem kH (x : ByteArray) : Nu (.string x) = .t (.v (.string x)) := rfl
theorem i7 : Nu .nilIface = .t (.v .nilIface) := rfl
theorem kI : Nu (.slice none 0 0) = .nil := rfl
theorem uZ (id : Id) (p : Path) (i c st : Nat) (x : Value) : LD id p i c st (.v x) = .t (.v x) := rfl
theorem mu (id : Id) (p : Path) (i c st : Nat) (rows : Rows) : LD id p i c st (.sl true rows) = .sub id p i c rows.length st := rfl
theorem qR (id : Id) (p : Path) (i c st : Nat) (rows : Rows) : LD id p i c st (.sl false rows) = .t (.sl false rows) := rfl
theorem kJ (id : Id) (p : Path) (i c st : Nat) : LD id p i c st .hole = .dead := rfl
theorem kK (id : Id) (p : Path) (i c st : Nat) : Jl id p i c st [] = [] := rfl
theorem i8 (id : Id) (p : Path) (i c st : Nat) (t : T) (ts : List T) : Jl id p i c st (t :: ts) = LD id p i c st t :: Jl id p i (c + 1) st ts := rfl
theorem iA (cs : List V) : cellsOf (.agg cs) = cs := rfl
theorem mw (c : T) : cellsOf (.t c) = [.t c] := rfl
theorem iB : cellsOf .nil = [.nil] := rfl
theorem iC (id : Id) (n : Nat) : cellsOf (.ref id n) = [.ref id n] := rfl
theorem iD (id : Id) (p : Path) (i c n st : Nat) : cellsOf (.sub id p i c n st) = [.sub id p i c n st] := rfl
section
variable {α : Type}
theorem xu (c : T) (k : T → M α) : take (.t c) k = k c := rfl
theorem take_nil (k : T → M α) : take .nil k = k (.sl true []) := rfl
def w7 (id : Id) (n : Nat) (k : T → M α) : DH → M α
 | .mem rows _ fx => if rows.length = n then .set id .dead (k (.sl true rows)) else .fail
 | .dead => .fail
theorem qS (id : Id) (n : Nat) (k : T → M α) : take (.ref id n) k = .get id (w7 id n k) := by
 simp only [take]; congr 1; funext e; cases e <;> rfl
theorem my (id : Id) (n : Nat) (k : T → M α) (rows : Rows) (st : Nat) (fx : Bool) : w7 id n k (.mem rows st fx) = if rows.length = n then .set id .dead (k (.sl true rows)) else .fail := rfl
def qT (id : Id) (p : Path) (i c n st : Nat) (k : T → M α) : DH → M α
 | .mem rows stt fx => if st = stt then (match BK rows p i c with
     | some (.sl true rs) => if rs.length = n then .set id (.mem (Ao rows p i c .hole) stt fx) (k (.sl true rs)) else .fail
     | _ => .fail) else .fail
 | .dead => .fail
theorem qU (id : Id) (p : Path) (i c n st : Nat) (k : T → M α) : take (.sub id p i c n st) k = .get id (qT id p i c n st k) := by
 simp only [take]; congr 1; funext e; cases e <;> rfl
theorem kL (id : Id) (p : Path) (i c n st : Nat) (k : T → M α) (rows : Rows) (stt : Nat) (fx : Bool) : qT id p i c n st k (.mem rows stt fx) = if st = stt then (match BK rows p i c with
     | some (.sl true rs) => if rs.length = n then .set id (.mem (Ao rows p i c .hole) stt fx) (k (.sl true rs)) else .fail
     | _ => .fail) else .fail := rfl
theorem mz (k : List T → M α) : E7 [] k = k [] := rfl
theorem kM (v : V) (vs : List V) (k : List T → M α) : E7 (v :: vs) k = take v fun t => E7 vs fun ts => k (t :: ts) := rfl
theorem dh (k : Rows → M α) : CA [] k = k [] := rfl
theorem aW (vs : List V) (vss : List (List V)) (k : Rows → M α) : CA (vs :: vss) k = E7 vs fun r => CA vss fun rs => k (r :: rs) := rfl
theorem qV (o : Bool) (rows : Rows) (k : Rows → M α) : Do (.t (.sl o rows)) k = k rows := rfl
theorem kN (k : Rows → M α) : Do .nil k = k [] := rfl
def w8 (n : Nat) (k : Rows → M α) : DH → M α
 | .mem rows _ _ => if rows.length = n then k rows else .fail
 | .dead => .fail
theorem kO (id : Id) (n : Nat) (k : Rows → M α) : Do (.ref id n) k = .get id (w8 n k) := by
 simp only [Do]; congr 1; funext e; cases e <;> rfl
theorem n7 (n : Nat) (k : Rows → M α) (rows : Rows) (st : Nat) (fx : Bool) : w8 n k (.mem rows st fx) = if rows.length = n then k rows else .fail := rfl
def qW (p : Path) (i c n st : Nat) (k : Rows → M α) : DH → M α
 | .mem rows stt _ => if st = stt then (match BK rows p i c with
     | some (.sl true rs) => if rs.length = n then k rs else .fail
     | _ => .fail) else .fail
 | .dead => .fail
theorem kP (id : Id) (p : Path) (i c n st : Nat) (k : Rows → M α) : Do (.sub id p i c n st) k = .get id (qW p i c n st k) := by
 simp only [Do]; congr 1; funext e; cases e <;> rfl
theorem kQ (p : Path) (i c n st : Nat) (k : Rows → M α) (rows : Rows) (stt : Nat) (fx : Bool) : qW p i c n st k (.mem rows stt fx) = if st = stt then (match BK rows p i c with
     | some (.sl true rs) => if rs.length = n then k rs else .fail
     | _ => .fail) else .fail := rfl
theorem qX (o : Bool) (rows : Rows) (k : Rows → M α) : Fn (.t (.sl o rows)) k = k rows := rfl
def di (k : Rows → M α) : T → M α
 | .sl true rows => k rows
 | _ => .fail
theorem qY (q : Option Addr) (c : Nat) (k : Rows → M α) : Fn (.t (.v (.slice q 0 c))) k = k [] := rfl
theorem kR (k : Rows → M α) : Fn .nil k = k [] := rfl
theorem kS (id : Id) (n : Nat) (k : Rows → M α) : Fn (.ref id n) k = take (.ref id n) (di k) := by
 rfl
theorem kT (id : Id) (p : Path) (i c n st : Nat) (k : Rows → M α) : Fn (.sub id p i c n st) k = take (.sub id p i c n st) (di k) := by
 rfl
theorem kU (rows : Rows) (k : Rows → M α) : di k (.sl true rows) = k rows := rfl
theorem xv (md : Md) (c : T) (k : PA → List Cr → M α) : D2 md (.t c) k = k (.a (.t c)) [] := by simp only [D2]
theorem dj (k : PA → List Cr → M α) : D2 .val .nil k = k (.a (.t (.sl false []))) [] := by simp only [D2]
theorem aX (k : PA → List Cr → M α) : D2 .give .nil k = k (.a (.t (.sl false []))) [] := by simp only [D2]
theorem dk (k : PA → List Cr → M α) : D2 .ref .nil k = k (.a (.ln [])) [.none] := by simp only [D2]
theorem dl (cs : List V) (k : PA → List Cr → M α) : D2 .val (.agg cs) k = k (.v (.agg cs)) [] := by simp only [D2]
theorem dm (cs : List V) (k : PA → List Cr → M α) : D2 .ref (.agg cs) k = N1 .ref cs fun as bs => k (.a (.agg (as.map PA.arg))) bs := by simp only [D2]
theorem aY (cs : List V) (k : PA → List Cr → M α) : D2 .give (.agg cs) k = N1 .give cs fun as bs => k (.a (.agg (as.map PA.arg))) bs := by simp only [D2]
theorem dp (id : Id) (n : Nat) (k : PA → List Cr → M α) : D2 .val (.ref id n) k = k (.v (.ref id n)) [] := by simp only [D2]
theorem dq (id : Id) (p : Path) (i c n st : Nat) (k : PA → List Cr → M α) : D2 .val (.sub id p i c n st) k = k (.v (.sub id p i c n st)) [] := by simp only [D2]
def w9 (id : Id) (n : Nat) (k : PA → List Cr → M α) : DH → M α
 | .mem rows st fx => if rows.length = n then .set id .dead (k (.a (.ln rows)) [.root id st fx rows]) else .fail
 | .dead => .fail
theorem dt (id : Id) (n : Nat) (k : PA → List Cr → M α) : D2 .ref (.ref id n) k = .get id (w9 id n k) := by
 simp only [D2]; congr 1; funext e; cases e <;> rfl
theorem n8 (id : Id) (n : Nat) (k : PA → List Cr → M α) (rows : Rows) (st : Nat) (fx : Bool) : w9 id n k (.mem rows st fx) = if rows.length = n then .set id .dead (k (.a (.ln rows)) [.root id st fx rows]) else .fail := rfl
def wA (id : Id) (n : Nat) (k : PA → List Cr → M α) : DH → M α
 | .mem rows st fx => if rows.length = n then .set id .dead (k (.a (.t (.sl false (AX rows)))) []) else .fail
 | .dead => .fail
theorem aZ (id : Id) (n : Nat) (k : PA → List Cr → M α) : D2 .give (.ref id n) k = .get id (wA id n k) := by
 simp only [D2]; congr 1; funext e; cases e <;> rfl
theorem n9 (id : Id) (n : Nat) (k : PA → List Cr → M α) (rows : Rows) (st : Nat) (fx : Bool) : wA id n k (.mem rows st fx) = if rows.length = n then .set id .dead (k (.a (.t (.sl false (AX rows)))) []) else .fail := rfl
def qZ (id : Id) (p : Path) (i c n st : Nat) (k : PA → List Cr → M α) : DH → M α
 | .mem rows stt fx => if st = stt then (match BK rows p i c with
     | some (.sl true rs) => if rs.length = n then .set id (.mem (Ao rows p i c .hole) (stt + 1) fx) (k (.a (.ln rs)) [.cell id p i c]) else .fail
     | _ => .fail) else .fail
 | .dead => .fail
theorem du (id : Id) (p : Path) (i c n st : Nat) (k : PA → List Cr → M α) : D2 .ref (.sub id p i c n st) k = .get id (qZ id p i c n st k) := by
 simp only [D2]; congr 1; funext e; cases e <;> rfl
theorem kV (id : Id) (p : Path) (i c n st : Nat) (k : PA → List Cr → M α) (rows : Rows) (stt : Nat) (fx : Bool) : qZ id p i c n st k (.mem rows stt fx) = if st = stt then (match BK rows p i c with
     | some (.sl true rs) => if rs.length = n then .set id (.mem (Ao rows p i c .hole) (stt + 1) fx) (k (.a (.ln rs)) [.cell id p i c]) else .fail
     | _ => .fail) else .fail := rfl
def qa (id : Id) (off : Nat) (k : PA → List Cr → M α) : DH → M α
 | .mem [cells] stt fx => if off < cells.length then .set id .dead (k (.a (.lp cells off)) [.root id stt fx [cells]]) else .fail
 | _ => .fail
theorem qb (md : Md) (id : Id) (off st : Nat) (k : PA → List Cr → M α) : D2 md (.ptr id [] 0 off 1 st) k = .get id (qa id off k) := by
 simp only [D2, List.isEmpty_nil, decide_true, Bool.and_self, if_true]; rfl
theorem kW (id : Id) (off : Nat) (k : PA → List Cr → M α) (cells : List T) (stt : Nat) (fx : Bool) : qa id off k (.mem [cells] stt fx) = if off < cells.length then .set id .dead (k (.a (.lp cells off)) [.root id stt fx [cells]]) else .fail := rfl
theorem ua (md : Md) (cs : List T) (k : PA → List Cr → M α) : D2 md (.pp cs) k = k (.a (.pp cs)) [] := by simp only [D2]
theorem ub (md : Md) (f : FuncId) (caps : List V) (k : PA → List Cr → M α) : D2 md (.fn f caps) k = N1 .ref caps fun as bs => k (.a (.fn f (as.map PA.arg))) bs := by simp only [D2]
theorem nB (md : Md) (k : List PA → List Cr → M α) : N1 md [] k = k [] [] := by simp only [N1]
theorem kX (md : Md) (v : V) (vs : List V) (k : List PA → List Cr → M α) : N1 md (v :: vs) k = D2 md v fun a b => N1 md vs fun as bs => k (a :: as) (b ++ bs) := by simp only [N1]
theorem dv (mds : List Md) (k : List PA → List Cr → M α) : Fd mds [] k = k [] [] := by simp only [Fd]
theorem kY (v : V) (vs : List V) (k : List PA → List Cr → M α) : Fd [] (v :: vs) k = D2 .val v fun a b => Fd [] vs fun as bs => k (a :: as) (b ++ bs) := rfl
theorem kZ (md : Md) (mds : List Md) (v : V) (vs : List V) (k : List PA → List Cr → M α) : Fd (md :: mds) (v :: vs) k = D2 md v fun a b => Fd mds vs fun as bs => k (a :: as) (b ++ bs) := rfl
def YU (k : T → M α) (rows : Rows) : M α := k (.sl false (AX rows))
theorem iE (k : T → M α) (rows : Rows) : YU k rows = k (.sl false (AX rows)) := rfl
theorem nC (c : T) (k : T → M α) : El (.t c) k = k c := rfl
theorem iF (k : T → M α) : El .nil k = k (.sl false []) := rfl
theorem iG (id : Id) (n : Nat) (k : T → M α) : El (.ref id n) k = Do (.ref id n) (YU k) := rfl
theorem iH (id : Id) (p : Path) (i c n st : Nat) (k : T → M α) : El (.sub id p i c n st) k = Do (.sub id p i c n st) (YU k) := rfl
theorem dw (k : List T → M α) : LF [] k = k [] := rfl
theorem ae (v : V) (vs : List V) (k : List T → M α) : LF (v :: vs) k = El v fun t => LF vs fun ts => k (t :: ts) := rfl
theorem qc (x : Fy) (k : Fy → M α) : PF (.a x) k = k x := rfl
theorem ka (cs : List V) (k : Fy → M α) : PF (.v (.agg cs)) k = LF cs fun ts => k (.agg (ts.map Fy.t)) := rfl
theorem kb (id : Id) (n : Nat) (k : Fy → M α) : PF (.v (.ref id n)) k = El (.ref id n) fun t => k (.t t) := rfl
theorem kc (id : Id) (p : Path) (i c n st : Nat) (k : Fy → M α) : PF (.v (.sub id p i c n st)) k = El (.sub id p i c n st) fun t => k (.t t) := rfl
theorem iI (k : List Fy → M α) : MJ [] k = k [] := rfl
theorem dz (p : PA) (ps : List PA) (k : List Fy → M α) : MJ (p :: ps) k = PF p fun a => MJ ps fun as => k (a :: as) := rfl
theorem iJ (m : M α) : D3 [] [] m = m := rfl
def pbE (id : Id) (st : Nat) (fx : Bool) (rows0 : Rows) (o : Option Rows) (m : M α) : DH → M α
 | .dead => (match o with
    | some rows => if rows.map (·.length) = rows0.map (·.length) then .set id (.mem rows (st + 1) fx) m else .fail
    | none => m)
 | _ => .fail
theorem e9 (id : Id) (st : Nat) (fx : Bool) (rows0 : Rows) (bs : List Cr) (o : Option Rows) (os : List (Option Rows)) (m : M α) : D3 (.root id st fx rows0 :: bs) (o :: os) m = .get id (pbE id st fx rows0 o (D3 bs os m)) := by
 rfl
theorem qd (id : Id) (st : Nat) (fx : Bool) (rows0 rows : Rows) (m : M α) : pbE id st fx rows0 (some rows) m .dead = if rows.map (·.length) = rows0.map (·.length) then .set id (.mem rows (st + 1) fx) m else .fail := rfl
theorem qe (id : Id) (st : Nat) (fx : Bool) (rows0 : Rows) (m : M α) : pbE id st fx rows0 none m .dead = m := rfl
def pbC (id : Id) (p : Path) (i c : Nat) (o : Option Rows) (m : M α) : DH → M α
 | .mem rows stt fx => (match o with
    | some rs => .set id (.mem (Ao rows p i c (.sl true rs)) (stt + 1) fx) m
    | none => m)
 | _ => .fail
theorem eA (id : Id) (p : Path) (i c : Nat) (bs : List Cr) (o : Option Rows) (os : List (Option Rows)) (m : M α) : D3 (.cell id p i c :: bs) (o :: os) m = .get id (pbC id p i c o (D3 bs os m)) := by
 rfl
theorem qf (id : Id) (p : Path) (i c : Nat) (rs rows : Rows) (stt : Nat) (fx : Bool) (m : M α) : pbC id p i c (some rs) m (.mem rows stt fx) = .set id (.mem (Ao rows p i c (.sl true rs)) (stt + 1) fx) m := rfl
theorem eB (bs : List Cr) (o : Option Rows) (os : List (Option Rows)) (m : M α) : D3 (.none :: bs) (o :: os) m = D3 bs os m := rfl
end
theorem uc (n : Nat) (ag : Bool) (id : Id) (p : Path) (i off m st : Nat) : ldV n ag (.ptr id p i off m st) = .get id (ldE n ag id p i off m st) := rfl
theorem xw (n : Nat) (ag : Bool) (id : Id) (off st : Nat) (cs : List V) : ldV n ag (.vb id off st cs) = .get id (ldX n ag off st cs) := rfl
theorem ud (n : Nat) (ag : Bool) (off st : Nat) (cs : List V) (rows : Rows) (stt : Nat) (fx : Bool) : ldX n ag off st cs (.mem rows stt fx) = if (st = stt ∧ rows.length = 1) ∧ off + n ≤ cs.length then X5 ag ((cs.drop off).take n) else .fail := rfl
theorem xx (off : Nat) (id : Id) (o st : Nat) (cs : List V) : faV off (.vb id o st cs) = .ret (.vb id (o + off) st cs) := rfl
theorem qg (d : Nat) (cs : List V) : zM d (.agg cs) = if cs.isEmpty || !cs.all V.one then .fail else .new [.mem [List.replicate cs.length .hole] 0 false] (.ret (.vb (d, 0) 0 0 cs)) := rfl
theorem qh (n : Nat) (id : Id) (st : Nat) (cs : List V) : tc n (.ptr id [] 0 0 1 st) (.agg cs) = if cs.length = n ∧ cs.all V.one = true then .get id (tb id n cs) else .fail := rfl
theorem ue (n : Nat) (id : Id) (st : Nat) (cs0 cs : List V) : tc n (.vb id 0 st cs0) (.agg cs) = if cs.length = n ∧ cs.all V.one = true then .get id (tb id n cs) else .fail := rfl
theorem qi (id : Id) (n : Nat) (cs : List V) (row : List T) (stt : Nat) (fx : Bool) : tb id n cs (.mem [row] stt fx) = if row.length = n then .set id (.mem [List.replicate n .hole] (stt + 1) fx) (.ret (.vb id 0 (stt + 1) cs)) else .fail := rfl
theorem za (c : T) : V.one (.t c) = true := rfl
theorem uf : V.one .nil = true := rfl
theorem ug (id : Id) (n : Nat) : V.one (.ref id n) = true := rfl
theorem uh (id : Id) (p : Path) (i c n st : Nat) : V.one (.sub id p i c n st) = true := rfl
theorem xy (n : Nat) (ag : Bool) (cs : List T) : ldV n ag (.pp cs) = if n ≤ cs.length then X5 ag ((cs.take n).map V.t) else .fail := rfl
theorem ui (n : Nat) (ag : Bool) (id : Id) (p : Path) (i off m st : Nat) (rows : Rows) (stt : Nat) (fx : Bool) : ldE n ag id p i off m st (.mem rows stt fx) = C1 (Cl rows stt p i m st) fun row => if off + n ≤ row.length then X5 ag (Jl id p i off stt ((row.drop off).take n)) else .fail := rfl
theorem uj (id : Id) (p : Path) (i off m st n : Nat) (ts : List T) (rows : Rows) (stt : Nat) (fx : Bool) : stE id p i off m st n ts (.mem rows stt fx) = C1 (Cl rows stt p i m st) fun row => if ts.length = n ∧ off + n ≤ row.length then .set id (.mem (G0 rows p i off ts) (stt + 1) fx) (.ret .dead) else .fail := rfl
theorem ke (rows : Rows) (p : Path) (i c : Nat) : G0 rows p i c [] = rows := rfl
theorem kf (rows : Rows) (p : Path) (i c : Nat) (t : T) (ts : List T) : G0 rows p i c (t :: ts) = G0 (Ao rows p i c t) p i (c + 1) ts := rfl
theorem qj (rows : Rows) (i c : Nat) (t : T) : Ao rows [] i c t = Ej rows i c t := rfl
theorem nE (row : List T) (c : Nat) (t : T) : Ej [row] 0 c t = [row.set c t] := rfl
theorem nF (a : Id) (b : Path) (c d e f : Nat) : lj (.ptr a b c d e f) = .ret (.ptr a b c d e f) := rfl
theorem qk (cs : List T) : lj (.pp cs) = .ret (.pp cs) := rfl
theorem ql (f : FuncId) (caps : List V) : lj (.fn f caps) = .ret (.fn f caps) := rfl
theorem qm (d : Nat) (z : List T) (byt : Nat) (k : IntKind) (n : Int) : xY d z byt (.t (.v (.int k n))) = C1 (mkN n byt) fun m => .new [.mem (List.replicate m z) 0 false] (.ret (.ref (d, 0) m)) := rfl
theorem xz (sz : Nat) (row : List T) : iaP sz row = if row.length = sz then .ret (.pp row) else .fail := rfl
theorem uk (sz : Nat) (id : Id) (p : Path) (n m st : Nat) (row : List T) : iaK sz id p n m st row = if row.length = sz then .ret (.ptr id p n 0 m st) else .fail := rfl
theorem y8 (sz : Nat) (id : Id) (p : Path) (n : Int) (m st : Nat) (rows : Rows) : iaS sz id p n m st rows = if rows.length = m then C1 (getI rows n) (iaK sz id p n.toNat m st) else .fail := rfl
theorem ul (sz : Nat) (id : Id) (m : Nat) (n : Int) (rows : Rows) (st : Nat) (fx : Bool) : iaE sz id m n (.mem rows st fx) = iaS sz id [] n m 0 rows := rfl
theorem y9 (d : Nat) (md : List Md) (own : List Bool) (args : List V) (f : FuncId) (caps : List V) : cvv d md own args (.fn f caps) = QF d f (md ++ (caps.map fun _ => Md.ref)) own (args ++ caps) := rfl
def lm (d : Nat) (own : List Bool) (ps : List PA) (bs : List Cr) (res : Ap) : M V :=
 if (ps.any PA.reads) && !res.allOwn then .fail else D3 bs res.after
  (let a := FS d 0 own res.vals; if a.2.isEmpty then .ret (Na a.1) else .new a.2 (.ret (Na a.1)))
def wB (d : Nat) (f : FuncId) (own : List Bool) (ps : List PA) (bs : List Cr) : M V :=
 if !Bv (Aj bs) then .fail else MJ ps fun as => .call f as (lm d own ps bs)
theorem nG (d : Nat) (f : FuncId) (md : List Md) (own : List Bool) (args : List V) : QF d f md own args = Fd md args (wB d f own) := rfl
theorem qn (d : Nat) (f : FuncId) (own : List Bool) (ps : List PA) (bs : List Cr) : wB d f own ps bs = if !Bv (Aj bs) then .fail else MJ ps fun as => .call f as (lm d own ps bs) := rfl
def yA (as : List V) : List DH → M V
 | [] => .ret (Na as)
 | e :: es => .new (e :: es) (.ret (Na as))
theorem qo (d : Nat) (own : List Bool) (ps : List PA) (bs : List Cr) (vals : List RV) (after : List (Option Rows)) : lm d own ps bs ⟨vals, after⟩ =
  if (ps.any PA.reads) && !(Ap.mk vals after).allOwn then .fail else D3 bs after (yA (FS d 0 own vals).1 (FS d 0 own vals).2) := by
 simp only [lm]
 congr 2
 generalize FS d 0 own vals = a
 obtain ⟨a, b⟩ := a
 cases b <;> rfl
theorem qp (as : List V) : yA as [] = .ret (Na as) := rfl
theorem nH (as : List V) (e : DH) (es : List DH) : yA as (e :: es) = .new (e :: es) (.ret (Na as)) := rfl
theorem nI (v : V) : Na [v] = v := rfl
theorem nJ (v w : V) (vs : List V) : Na (v :: w :: vs) = .tup (v :: w :: vs) := rfl
theorem nK : Na [] = .tup [] := rfl
theorem yB (d : Nat) (own : Bool) (k : Nat) (x : Value) : Q6 d own k (.v x) = (.t (.v x), []) := rfl
theorem yC (d k : Nat) (o : Bool) (rows : Rows) : Q6 d false k (.sl o rows) = (.t (.sl false (AX rows)), []) := rfl
theorem yD (d k : Nat) (rows : Rows) : Q6 d true k (.sl true rows) = (.ref (d, k) rows.length, [.mem rows 0 false]) := rfl
theorem yE (d k : Nat) (rows : Rows) : Q6 d true k (.sl false rows) = (.t (.sl false (AX rows)), []) := rfl
theorem qr (d : Nat) (own : Bool) (k : Nat) : Xz d own k [] = ([], []) := rfl
theorem nL (d : Nat) (own : Bool) (k : Nat) (t : T) (ts : List T) : Xz d own k (t :: ts) = ((Q6 d own k t).1 :: (Xz d own (k + (Q6 d own k t).2.length) ts).1, (Q6 d own k t).2 ++ (Xz d own (k + (Q6 d own k t).2.length) ts).2) := rfl
theorem um (d : Nat) (own : Bool) (k : Nat) (c : T) : LG d own k (.t c) = Q6 d own k c := rfl
theorem nM (d : Nat) (own : Bool) (k : Nat) (cs : List T) : LG d own k (.agg cs) = (.agg (Xz d own k cs).1, (Xz d own k cs).2) := rfl
theorem nN (d : Nat) (own : Bool) (k : Nat) (cells : List T) : LG d own k (.box cells) = (.ptr (d, k) [] 0 0 1 0, [.mem [cells] 0 false]) := rfl
theorem kg (d k : Nat) (own : List Bool) : FS d k own [] = ([], []) := by cases own <;> rfl
theorem iK (d k : Nat) (o : Bool) (own : List Bool) (v : RV) (vs : List RV) : FS d k (o :: own) (v :: vs) = ((LG d o k v).1 :: (FS d (k + (LG d o k v).2.length) own vs).1, (LG d o k v).2 ++ (FS d (k + (LG d o k v).2.length) own vs).2) := rfl
theorem qt (d k : Nat) (v : RV) (vs : List RV) : FS d k [] (v :: vs) = ((LG d false k v).1 :: (FS d (k + (LG d false k v).2.length) [] vs).1, (LG d false k v).2 ++ (FS d (k + (LG d false k v).2.length) [] vs).2) := rfl
theorem IZ {α : Type} (f g : α → List T) (h : ∀ x, Fz (f x) = g x) (l : List α) : AX (l.map f) = l.map g := by
 induction l with
 | nil => rfl
 | cons a l ih => simp only [List.map_cons, AX, h, ih]
theorem QO (l : List Int) : AX (l.map rI) = l.map rI := IZ _ _ (fun _ => rfl) l
theorem TQ (k : IntKind) (l : List Int) : AX (l.map (rK k)) = l.map (rK k) := IZ _ _ (fun _ => rfl) l
theorem TR (l : List ByteArray) : AX (l.map rS) = l.map rS := IZ _ _ (fun _ => rfl) l
theorem TS (l : List Bool) : AX (l.map rB) = l.map rB := IZ _ _ (fun _ => rfl) l
theorem PO (o : Bool) (l : List (List Int)) : AX (l.map (rL o rI)) = l.map (rL false rI) := IZ _ _ (fun x => by simp only [rL, Fz, frz, QO]) l
theorem Ia {α : Type} (f : α → List T) (h : ∀ x, DO (f x) = true) (l : List α) : BF (l.map f) = true := by
 induction l with
 | nil => rfl
 | cons a l ih => simp only [List.map_cons, BF, h, ih, Bool.and_self]
theorem QP (l : List Int) : BF (l.map rI) = true := Ia _ (fun _ => rfl) l
theorem TU (k : IntKind) (l : List Int) : BF (l.map (rK k)) = true := Ia _ (fun _ => rfl) l
theorem TV (l : List ByteArray) : BF (l.map rS) = true := Ia _ (fun _ => rfl) l
theorem TW (l : List Bool) : BF (l.map rB) = true := Ia _ (fun _ => rfl) l
theorem PP (l : List (List Int)) : BF (l.map (rL true rI)) = true := Ia _ (fun x => by simp only [rL, DO, allOwn, QP, Bool.and_self]) l
theorem yF (vals : List RV) (after : List (Option Rows)) : (Ap.mk vals after).allOwn = (vals.all RV.allOwn && after.all fun o => match o with | some rows => BF rows | none => true) := rfl
theorem G4 {α : Type} (f : α → List T) (sz : Nat) (h : ∀ x, (f x).length = sz) (l : List α) : ((l.map f).all fun r => r.length == sz) = true := by
 simp [List.all_map, h]
theorem yG (l : List Int) : ((l.map rI).all fun r => r.length == 1) = true := G4 _ _ (fun x => by rfl) l
theorem yH (k : IntKind) (l : List Int) : ((l.map (rK k)).all fun r => r.length == 1) = true := G4 _ _ (fun x => by rfl) l
theorem yI (l : List ByteArray) : ((l.map rS).all fun r => r.length == 1) = true := G4 _ _ (fun x => by rfl) l
theorem yJ (l : List Bool) : ((l.map rB).all fun r => r.length == 1) = true := G4 _ _ (fun x => by rfl) l
theorem yK {α : Type} (o : Bool) (f : α → List T) (l : List (List α)) : ((l.map (rL o f)).all fun r => r.length == 1) = true := G4 _ _ (fun x => by rfl) l
theorem zb (ts : List Nat) (c : T) : V.mentions ts (.t c) = false := by simp only [V.mentions]
theorem uo (ts : List Nat) : V.mentions ts .nil = false := by simp only [V.mentions]
theorem qu (ts : List Nat) : V.mentions ts .dead = false := by simp only [V.mentions]
theorem yL (ts : List Nat) (c : List T) : V.mentions ts (.pp c) = false := by simp only [V.mentions]
theorem yM {α : Type} (c : T) (k : RV → M α) : Y1 (.t c) k = k (.t c) := rfl
theorem qv {α : Type} (k : RV → M α) : Y1 .nil k = k (.t (.sl true [])) := rfl
theorem qw {α : Type} (id : Id) (n : Nat) (k : RV → M α) : Y1 (.ref id n) k = take (.ref id n) fun t => k (.t t) := rfl
theorem yN {α : Type} (c : T) (k : T → M α) : fu (.t c) k = k c := rfl
theorem qx {α : Type} (id : Id) (n : Nat) (k : T → M α) : fu (.ref id n) k = take (.ref id n) k := rfl
theorem yO (c : T) : V.isDead (.t c) = false := rfl
theorem qy : V.isDead .nil = false := rfl
theorem qz (cs : List V) : V.isDead (.agg cs) = false := rfl
theorem rA (id : Id) (n : Nat) : V.isDead (.ref id n) = false := rfl
theorem rC (id : Id) (p : Path) (i c n st : Nat) : V.isDead (.sub id p i c n st) = false := rfl
theorem rD (id : Id) (p : Path) (i off n st : Nat) : V.isDead (.ptr id p i off n st) = false := rfl
theorem uq (cs : List T) : V.isDead (.pp cs) = false := rfl
theorem ur (f : FuncId) (caps : List V) : V.isDead (.fn f caps) = false := rfl
theorem ut (k : IntKind) (a b : Int) : eqK .int (.t (.v (.int k a))) (.t (.v (.int k b))) = some (BE a b) := by simp [eqK, BE]
theorem uv (a b : ByteArray) : eqK .str (.t (.v (.string a))) (.t (.v (.string b))) = some (Cs a b) := rfl
theorem rE (a b : Bool) : eqK .bool (.t (.v (.bool a))) (.t (.v (.bool b))) = some (eqB a b) := rfl
theorem kh (n : Int) (rs : Rows) : C4 ([.v (.int .u8 n)] :: rs) = (C4 rs).map fun l => UInt8.ofNat n.toNat :: l := by simp [C4]
end TT
