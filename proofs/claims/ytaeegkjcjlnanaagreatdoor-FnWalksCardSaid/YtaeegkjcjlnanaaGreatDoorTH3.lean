import Derived.Test.YtaeegkjcjlnanaaGreatDoorTH2
set_option linter.unusedVariables false
set_option linter.unusedSimpArgs false
set_option linter.defProp false
namespace TT
open Go
theorem A0P (FT : Env) (d : Nat) (o : O) (rd wr : List Nat) (s : List V) (r : R) : opR FT false d o rd wr s r = (Ao s d o).run (dn FT) d r := rfl
theorem A0Q (FT : Env) (d : Nat) (o : O) (rd wr : List Nat) (s : List V) (r : R) : opR FT true d o rd wr s r = (Ao s d o).runA (dn FT) d rd wr r := rfl
theorem rJ {α β : Type} (f : α → β) (l : List α) : AC (l.map f) = AC l := by simp [AC]
theorem vc {α : Type} (l : List α) : ((List.length l : Nat) : Int) = AC l := rfl
theorem rM {α β : Type} (f : α → β) (l : List α) (i : Int) : getI (l.map f) i = (getI l i).map f := by
 simp only [getI, List.getElem?_map]; split <;> rfl
theorem ve {α β : Type} (f : α → β) (l : List α) (i j : Int) : slL (l.map f) i j = (slL l i j).map (List.map f) := by
 simp only [slL, List.length_map]; split <;> simp [List.map_take, List.map_drop]
theorem Ro {α β : Type} (a : α) (k : α → M β) : Bx (some a) k = k a := rfl
theorem nq {α β : Type} (k : α → M β) : Bx none k = .fail := rfl
theorem rN {α β γ : Type} (f : α → β) (o : Option α) (k : β → M γ) : Bx (o.map f) k = Bx o fun a => k (f a) := by cases o <;> rfl
theorem A0R (nt : Nat) (args : List Fy) : (enter nt args).s = (LV 0 args).map (·.1) ++ List.replicate (nt - args.length) .dead := rfl
theorem A0S (nt : Nat) (args : List Fy) : (enter nt args).r = (LV 0 args).map (·.2) ++ List.replicate (nt - args.length) [] := rfl
theorem kz (rows : Rows) (stt i n st : Nat) : Cl rows stt [] i n st = if rows.length = n then rows[i]? else none := rfl
theorem ns {α : Type} (a : α) (l : List α) (d : α) : (a :: l).getD 0 d = a := rfl
theorem nu {α : Type} (a : α) (l : List α) (i : Nat) (d : α) : (a :: l).getD (i + 1) d = l.getD i d := rfl
theorem rO {α : Type} (i : Nat) (d : α) : ([] : List α).getD i d = d := rfl
theorem nv {α : Type} (a : α) (l : List α) : (a :: l)[0]? = some a := rfl
theorem nw {α : Type} (a : α) (l : List α) (i : Nat) : (a :: l)[i + 1]? = l[i]? := rfl
theorem rP {α : Type} (a b : α) (l : List α) : (a :: l).set 0 b = b :: l := rfl
theorem rQ {α : Type} (a b : α) (l : List α) (i : Nat) : (a :: l).set (i + 1) b = a :: l.set i b := rfl
theorem rR (a b c d : Nat) : (((a, b) : Nat × Nat) == (c, d)) = (a == c && b == d) := rfl
theorem vf (s : List V) (t : Nat) : A6 s (.s t) = s.getD t .dead := rfl
theorem vg (s : List V) (x : Value) : A6 s (.c x) = O9 x := rfl
theorem vh (s : List V) (f : FuncId) : A6 s (.f f) = .fn f [] := rfl
theorem vi (s : List V) (cs : List T) : A6 s (.z cs) = .agg (cs.map zV) := rfl
theorem l9 (k : IntKind) (n : Int) : O9 (.int k n) = .t (.v (.int k n)) := rfl
theorem j7 (b : Bool) : O9 (.bool b) = .t (.v (.bool b)) := rfl
theorem lA (q : Option Addr) : O9 (.pointer q) = .t (.v (.pointer q)) := rfl
theorem lC (x : ByteArray) : O9 (.string x) = .t (.v (.string x)) := rfl
theorem j8 : O9 .nilIface = .t (.v .nilIface) := rfl
theorem lD : O9 (.slice none 0 0) = .nil := rfl
theorem vj (id : Id) (p : Path) (i c st : Nat) (x : Value) : LC id p i c st (.v x) = .t (.v x) := rfl
theorem nx (id : Id) (p : Path) (i c st : Nat) (rows : Rows) : LC id p i c st (.sl true rows) = .sub id p i c rows.length st := rfl
theorem rT (id : Id) (p : Path) (i c st : Nat) (rows : Rows) : LC id p i c st (.sl false rows) = .t (.sl false rows) := rfl
theorem lE (id : Id) (p : Path) (i c st : Nat) : LC id p i c st .hole = .dead := rfl
theorem lF (id : Id) (p : Path) (i c st : Nat) : Ji id p i c st [] = [] := rfl
theorem j9 (id : Id) (p : Path) (i c st : Nat) (t : T) (ts : List T) : Ji id p i c st (t :: ts) = LC id p i c st t :: Ji id p i (c + 1) st ts := rfl
theorem jA (cs : List V) : cellsOf (.agg cs) = cs := rfl
theorem ny (c : T) : cellsOf (.t c) = [.t c] := rfl
theorem jB : cellsOf .nil = [.nil] := rfl
theorem jC (id : Id) (n : Nat) : cellsOf (.ref id n) = [.ref id n] := rfl
theorem jD (id : Id) (p : Path) (i c n st : Nat) : cellsOf (.sub id p i c n st) = [.sub id p i c n st] := rfl
section
variable {α : Type}
theorem z6 (c : T) (k : T → M α) : take (.t c) k = k c := rfl
theorem take_nil (k : T → M α) : take .nil k = k (.sl true []) := rfl
def xJ (id : Id) (n : Nat) (k : T → M α) : DB → M α
 | .mem rows _ fx => if rows.length = n then .set id .dead (k (.sl true rows)) else .fail
 | .dead => .fail
theorem rU (id : Id) (n : Nat) (k : T → M α) : take (.ref id n) k = .get id (xJ id n k) := by
 simp only [take]; congr 1; funext e; cases e <;> rfl
theorem nz (id : Id) (n : Nat) (k : T → M α) (rows : Rows) (st : Nat) (fx : Bool) : xJ id n k (.mem rows st fx) = if rows.length = n then .set id .dead (k (.sl true rows)) else .fail := rfl
def rV (id : Id) (p : Path) (i c n st : Nat) (k : T → M α) : DB → M α
 | .mem rows stt fx => if st = stt then (match B9 rows p i c with
     | some (.sl true rs) => if rs.length = n then .set id (.mem (Ai rows p i c .hole) stt fx) (k (.sl true rs)) else .fail
     | _ => .fail) else .fail
 | .dead => .fail
theorem rW (id : Id) (p : Path) (i c n st : Nat) (k : T → M α) : take (.sub id p i c n st) k = .get id (rV id p i c n st k) := by
 simp only [take]; congr 1; funext e; cases e <;> rfl
theorem lG (id : Id) (p : Path) (i c n st : Nat) (k : T → M α) (rows : Rows) (stt : Nat) (fx : Bool) : rV id p i c n st k (.mem rows stt fx) = if st = stt then (match B9 rows p i c with
     | some (.sl true rs) => if rs.length = n then .set id (.mem (Ai rows p i c .hole) stt fx) (k (.sl true rs)) else .fail
     | _ => .fail) else .fail := rfl
theorem o4 (k : List T → M α) : Dy [] k = k [] := rfl
theorem lH (v : V) (vs : List V) (k : List T → M α) : Dy (v :: vs) k = take v fun t => Dy vs fun ts => k (t :: ts) := rfl
theorem eu (k : Rows → M α) : CA [] k = k [] := rfl
theorem bQ (vs : List V) (vss : List (List V)) (k : Rows → M α) : CA (vs :: vss) k = Dy vs fun r => CA vss fun rs => k (r :: rs) := rfl
theorem rX (o : Bool) (rows : Rows) (k : Rows → M α) : Dh (.t (.sl o rows)) k = k rows := rfl
theorem lI (k : Rows → M α) : Dh .nil k = k [] := rfl
def xK (n : Nat) (k : Rows → M α) : DB → M α
 | .mem rows _ _ => if rows.length = n then k rows else .fail
 | .dead => .fail
theorem lJ (id : Id) (n : Nat) (k : Rows → M α) : Dh (.ref id n) k = .get id (xK n k) := by
 simp only [Dh]; congr 1; funext e; cases e <;> rfl
theorem o5 (n : Nat) (k : Rows → M α) (rows : Rows) (st : Nat) (fx : Bool) : xK n k (.mem rows st fx) = if rows.length = n then k rows else .fail := rfl
def rY (p : Path) (i c n st : Nat) (k : Rows → M α) : DB → M α
 | .mem rows stt _ => if st = stt then (match B9 rows p i c with
     | some (.sl true rs) => if rs.length = n then k rs else .fail
     | _ => .fail) else .fail
 | .dead => .fail
theorem lK (id : Id) (p : Path) (i c n st : Nat) (k : Rows → M α) : Dh (.sub id p i c n st) k = .get id (rY p i c n st k) := by
 simp only [Dh]; congr 1; funext e; cases e <;> rfl
theorem lL (p : Path) (i c n st : Nat) (k : Rows → M α) (rows : Rows) (stt : Nat) (fx : Bool) : rY p i c n st k (.mem rows stt fx) = if st = stt then (match B9 rows p i c with
     | some (.sl true rs) => if rs.length = n then k rs else .fail
     | _ => .fail) else .fail := rfl
theorem rZ (o : Bool) (rows : Rows) (k : Rows → M α) : Fn (.t (.sl o rows)) k = k rows := rfl
def ew (k : Rows → M α) : T → M α
 | .sl true rows => k rows
 | _ => .fail
theorem ra (q : Option Addr) (c : Nat) (k : Rows → M α) : Fn (.t (.v (.slice q 0 c))) k = k [] := rfl
theorem lM (k : Rows → M α) : Fn .nil k = k [] := rfl
theorem lN (id : Id) (n : Nat) (k : Rows → M α) : Fn (.ref id n) k = take (.ref id n) (ew k) := by
 rfl
theorem lO (id : Id) (p : Path) (i c n st : Nat) (k : Rows → M α) : Fn (.sub id p i c n st) k = take (.sub id p i c n st) (ew k) := by
 rfl
theorem lP (rows : Rows) (k : Rows → M α) : ew k (.sl true rows) = k rows := rfl
theorem z7 (md : Md) (c : T) (k : PA → List Cq → M α) : D0 md (.t c) k = k (.a (.t c)) [] := by simp only [D0]
theorem ez (k : PA → List Cq → M α) : D0 .val .nil k = k (.a (.t (.sl false []))) [] := by simp only [D0]
theorem bR (k : PA → List Cq → M α) : D0 .give .nil k = k (.a (.t (.sl false []))) [] := by simp only [D0]
theorem f8 (k : PA → List Cq → M α) : D0 .ref .nil k = k (.a (.ln [])) [.none] := by simp only [D0]
theorem f9 (cs : List V) (k : PA → List Cq → M α) : D0 .val (.agg cs) k = k (.v (.agg cs)) [] := by simp only [D0]
theorem fA (cs : List V) (k : PA → List Cq → M α) : D0 .ref (.agg cs) k = NF .ref cs fun as bs => k (.a (.agg (as.map PA.arg))) bs := by simp only [D0]
theorem bS (cs : List V) (k : PA → List Cq → M α) : D0 .give (.agg cs) k = NF .give cs fun as bs => k (.a (.agg (as.map PA.arg))) bs := by simp only [D0]
theorem fB (id : Id) (n : Nat) (k : PA → List Cq → M α) : D0 .val (.ref id n) k = k (.v (.ref id n)) [] := by simp only [D0]
theorem fC (id : Id) (p : Path) (i c n st : Nat) (k : PA → List Cq → M α) : D0 .val (.sub id p i c n st) k = k (.v (.sub id p i c n st)) [] := by simp only [D0]
def xL (id : Id) (n : Nat) (k : PA → List Cq → M α) : DB → M α
 | .mem rows st fx => if rows.length = n then .set id .dead (k (.a (.ln rows)) [.root id st fx rows]) else .fail
 | .dead => .fail
theorem fD (id : Id) (n : Nat) (k : PA → List Cq → M α) : D0 .ref (.ref id n) k = .get id (xL id n k) := by
 simp only [D0]; congr 1; funext e; cases e <;> rfl
theorem o6 (id : Id) (n : Nat) (k : PA → List Cq → M α) (rows : Rows) (st : Nat) (fx : Bool) : xL id n k (.mem rows st fx) = if rows.length = n then .set id .dead (k (.a (.ln rows)) [.root id st fx rows]) else .fail := rfl
def xM (id : Id) (n : Nat) (k : PA → List Cq → M α) : DB → M α
 | .mem rows st fx => if rows.length = n then .set id .dead (k (.a (.t (.sl false (AU rows)))) []) else .fail
 | .dead => .fail
theorem bT (id : Id) (n : Nat) (k : PA → List Cq → M α) : D0 .give (.ref id n) k = .get id (xM id n k) := by
 simp only [D0]; congr 1; funext e; cases e <;> rfl
theorem o7 (id : Id) (n : Nat) (k : PA → List Cq → M α) (rows : Rows) (st : Nat) (fx : Bool) : xM id n k (.mem rows st fx) = if rows.length = n then .set id .dead (k (.a (.t (.sl false (AU rows)))) []) else .fail := rfl
def rb (id : Id) (p : Path) (i c n st : Nat) (k : PA → List Cq → M α) : DB → M α
 | .mem rows stt fx => if st = stt then (match B9 rows p i c with
     | some (.sl true rs) => if rs.length = n then .set id (.mem (Ai rows p i c .hole) (stt + 1) fx) (k (.a (.ln rs)) [.cell id p i c]) else .fail
     | _ => .fail) else .fail
 | .dead => .fail
theorem fE (id : Id) (p : Path) (i c n st : Nat) (k : PA → List Cq → M α) : D0 .ref (.sub id p i c n st) k = .get id (rb id p i c n st k) := by
 simp only [D0]; congr 1; funext e; cases e <;> rfl
theorem lQ (id : Id) (p : Path) (i c n st : Nat) (k : PA → List Cq → M α) (rows : Rows) (stt : Nat) (fx : Bool) : rb id p i c n st k (.mem rows stt fx) = if st = stt then (match B9 rows p i c with
     | some (.sl true rs) => if rs.length = n then .set id (.mem (Ai rows p i c .hole) (stt + 1) fx) (k (.a (.ln rs)) [.cell id p i c]) else .fail
     | _ => .fail) else .fail := rfl
def rc (id : Id) (off : Nat) (k : PA → List Cq → M α) : DB → M α
 | .mem [cells] stt fx => if off < cells.length then .set id .dead (k (.a (.lp cells off)) [.root id stt fx [cells]]) else .fail
 | _ => .fail
theorem re (md : Md) (id : Id) (off st : Nat) (k : PA → List Cq → M α) : D0 md (.ptr id [] 0 off 1 st) k = .get id (rc id off k) := by
 simp only [D0, List.isEmpty_nil, decide_true, Bool.and_self, if_true]; rfl
theorem lR (id : Id) (off : Nat) (k : PA → List Cq → M α) (cells : List T) (stt : Nat) (fx : Bool) : rc id off k (.mem [cells] stt fx) = if off < cells.length then .set id .dead (k (.a (.lp cells off)) [.root id stt fx [cells]]) else .fail := rfl
theorem vl (md : Md) (cs : List T) (k : PA → List Cq → M α) : D0 md (.pp cs) k = k (.a (.pp cs)) [] := by simp only [D0]
theorem vm (md : Md) (f : FuncId) (caps : List V) (k : PA → List Cq → M α) : D0 md (.fn f caps) k = NF .ref caps fun as bs => k (.a (.fn f (as.map PA.arg))) bs := by simp only [D0]
theorem o8 (md : Md) (k : List PA → List Cq → M α) : NF md [] k = k [] [] := by simp only [NF]
theorem lS (md : Md) (v : V) (vs : List V) (k : List PA → List Cq → M α) : NF md (v :: vs) k = D0 md v fun a b => NF md vs fun as bs => k (a :: as) (b ++ bs) := by simp only [NF]
theorem fF (mds : List Md) (k : List PA → List Cq → M α) : Ff mds [] k = k [] [] := by simp only [Ff]
theorem lU (v : V) (vs : List V) (k : List PA → List Cq → M α) : Ff [] (v :: vs) k = D0 .val v fun a b => Ff [] vs fun as bs => k (a :: as) (b ++ bs) := rfl
theorem lV (md : Md) (mds : List Md) (v : V) (vs : List V) (k : List PA → List Cq → M α) : Ff (md :: mds) (v :: vs) k = D0 md v fun a b => Ff mds vs fun as bs => k (a :: as) (b ++ bs) := rfl
def Yx (k : T → M α) (rows : Rows) : M α := k (.sl false (AU rows))
theorem jE (k : T → M α) (rows : Rows) : Yx k rows = k (.sl false (AU rows)) := rfl
theorem o9 (c : T) (k : T → M α) : Eh (.t c) k = k c := rfl
theorem jF (k : T → M α) : Eh .nil k = k (.sl false []) := rfl
theorem jG (id : Id) (n : Nat) (k : T → M α) : Eh (.ref id n) k = Dh (.ref id n) (Yx k) := rfl
theorem jH (id : Id) (p : Path) (i c n st : Nat) (k : T → M α) : Eh (.sub id p i c n st) k = Dh (.sub id p i c n st) (Yx k) := rfl
theorem fG (k : List T → M α) : LD [] k = k [] := rfl
theorem bU (v : V) (vs : List V) (k : List T → M α) : LD (v :: vs) k = Eh v fun t => LD vs fun ts => k (t :: ts) := rfl
theorem rf (x : Fy) (k : Fy → M α) : PN (.a x) k = k x := rfl
theorem lW (cs : List V) (k : Fy → M α) : PN (.v (.agg cs)) k = LD cs fun ts => k (.agg (ts.map Fy.t)) := rfl
theorem lX (id : Id) (n : Nat) (k : Fy → M α) : PN (.v (.ref id n)) k = Eh (.ref id n) fun t => k (.t t) := rfl
theorem lY (id : Id) (p : Path) (i c n st : Nat) (k : Fy → M α) : PN (.v (.sub id p i c n st)) k = Eh (.sub id p i c n st) fun t => k (.t t) := rfl
theorem jI (k : List Fy → M α) : MQ [] k = k [] := rfl
theorem fH (p : PA) (ps : List PA) (k : List Fy → M α) : MQ (p :: ps) k = PN p fun a => MQ ps fun as => k (a :: as) := rfl
theorem jJ (m : M α) : D1 [] [] m = m := rfl
def pbE (id : Id) (st : Nat) (fx : Bool) (rows0 : Rows) (o : Option Rows) (m : M α) : DB → M α
 | .dead => (match o with
    | some rows => if rows.map (·.length) = rows0.map (·.length) then .set id (.mem rows (st + 1) fx) m else .fail
    | none => m)
 | _ => .fail
theorem fI (id : Id) (st : Nat) (fx : Bool) (rows0 : Rows) (bs : List Cq) (o : Option Rows) (os : List (Option Rows)) (m : M α) : D1 (.root id st fx rows0 :: bs) (o :: os) m = .get id (pbE id st fx rows0 o (D1 bs os m)) := by
 rfl
theorem rg (id : Id) (st : Nat) (fx : Bool) (rows0 rows : Rows) (m : M α) : pbE id st fx rows0 (some rows) m .dead = if rows.map (·.length) = rows0.map (·.length) then .set id (.mem rows (st + 1) fx) m else .fail := rfl
theorem rh (id : Id) (st : Nat) (fx : Bool) (rows0 : Rows) (m : M α) : pbE id st fx rows0 none m .dead = m := rfl
def pbC (id : Id) (p : Path) (i c : Nat) (o : Option Rows) (m : M α) : DB → M α
 | .mem rows stt fx => (match o with
    | some rs => .set id (.mem (Ai rows p i c (.sl true rs)) (stt + 1) fx) m
    | none => m)
 | _ => .fail
theorem fJ (id : Id) (p : Path) (i c : Nat) (bs : List Cq) (o : Option Rows) (os : List (Option Rows)) (m : M α) : D1 (.cell id p i c :: bs) (o :: os) m = .get id (pbC id p i c o (D1 bs os m)) := by
 rfl
theorem ri (id : Id) (p : Path) (i c : Nat) (rs rows : Rows) (stt : Nat) (fx : Bool) (m : M α) : pbC id p i c (some rs) m (.mem rows stt fx) = .set id (.mem (Ai rows p i c (.sl true rs)) (stt + 1) fx) m := rfl
theorem fK (bs : List Cq) (o : Option Rows) (os : List (Option Rows)) (m : M α) : D1 (.none :: bs) (o :: os) m = D1 bs os m := rfl
end
theorem vn (n : Nat) (ag : Bool) (id : Id) (p : Path) (i off m st : Nat) : ldV n ag (.ptr id p i off m st) = .get id (ldE n ag id p i off m st) := rfl
theorem z8 (n : Nat) (ag : Bool) (id : Id) (off st : Nat) (cs : List V) : ldV n ag (.vb id off st cs) = .get id (ldX n ag off st cs) := rfl
theorem vo (n : Nat) (ag : Bool) (off st : Nat) (cs : List V) (rows : Rows) (stt : Nat) (fx : Bool) : ldX n ag off st cs (.mem rows stt fx) = if (st = stt ∧ rows.length = 1) ∧ off + n ≤ cs.length then XX ag ((cs.drop off).take n) else .fail := rfl
theorem zA (off : Nat) (id : Id) (o st : Nat) (cs : List V) : faV off (.vb id o st cs) = .ret (.vb id (o + off) st cs) := rfl
theorem rj (d : Nat) (cs : List V) : A0G d (.agg cs) = if cs.isEmpty || !cs.all V.one then .fail else .new [.mem [List.replicate cs.length .hole] 0 false] (.ret (.vb (d, 0) 0 0 cs)) := rfl
theorem rl (n : Nat) (id : Id) (st : Nat) (cs : List V) : uo n (.ptr id [] 0 0 1 st) (.agg cs) = if cs.length = n ∧ cs.all V.one = true then .get id (um id n cs) else .fail := rfl
theorem vp (n : Nat) (id : Id) (st : Nat) (cs0 cs : List V) : uo n (.vb id 0 st cs0) (.agg cs) = if cs.length = n ∧ cs.all V.one = true then .get id (um id n cs) else .fail := rfl
theorem rn (id : Id) (n : Nat) (cs : List V) (row : List T) (stt : Nat) (fx : Bool) : um id n cs (.mem [row] stt fx) = if row.length = n then .set id (.mem [List.replicate n .hole] (stt + 1) fx) (.ret (.vb id 0 (stt + 1) cs)) else .fail := rfl
theorem A0T (c : T) : V.one (.t c) = true := rfl
theorem vq : V.one .nil = true := rfl
theorem vr (id : Id) (n : Nat) : V.one (.ref id n) = true := rfl
theorem vt (id : Id) (p : Path) (i c n st : Nat) : V.one (.sub id p i c n st) = true := rfl
theorem zB (n : Nat) (ag : Bool) (cs : List T) : ldV n ag (.pp cs) = if n ≤ cs.length then XX ag ((cs.take n).map V.t) else .fail := rfl
theorem vu (n : Nat) (ag : Bool) (id : Id) (p : Path) (i off m st : Nat) (rows : Rows) (stt : Nat) (fx : Bool) : ldE n ag id p i off m st (.mem rows stt fx) = Bx (Cl rows stt p i m st) fun row => if off + n ≤ row.length then XX ag (Ji id p i off stt ((row.drop off).take n)) else .fail := rfl
theorem vw (id : Id) (p : Path) (i off m st n : Nat) (ts : List T) (rows : Rows) (stt : Nat) (fx : Bool) : stE id p i off m st n ts (.mem rows stt fx) = Bx (Cl rows stt p i m st) fun row => if ts.length = n ∧ off + n ≤ row.length then .set id (.mem (G0 rows p i off ts) (stt + 1) fx) (.ret .dead) else .fail := rfl
theorem lZ (rows : Rows) (p : Path) (i c : Nat) : G0 rows p i c [] = rows := rfl
theorem la (rows : Rows) (p : Path) (i c : Nat) (t : T) (ts : List T) : G0 rows p i c (t :: ts) = G0 (Ai rows p i c t) p i (c + 1) ts := rfl
theorem ro (rows : Rows) (i c : Nat) (t : T) : Ai rows [] i c t = Ef rows i c t := rfl
theorem oB (row : List T) (c : Nat) (t : T) : Ef [row] 0 c t = [row.set c t] := rfl
theorem oC (a : Id) (b : Path) (c d e f : Nat) : mr (.ptr a b c d e f) = .ret (.ptr a b c d e f) := rfl
theorem rp (cs : List T) : mr (.pp cs) = .ret (.pp cs) := rfl
theorem rq (f : FuncId) (caps : List V) : mr (.fn f caps) = .ret (.fn f caps) := rfl
theorem rr (d : Nat) (z : List T) (byt : Nat) (k : IntKind) (n : Int) : yg d z byt (.t (.v (.int k n))) = Bx (mkN n byt) fun m => .new [.mem (List.replicate m z) 0 false] (.ret (.ref (d, 0) m)) := rfl
theorem zC (sz : Nat) (row : List T) : iaP sz row = if row.length = sz then .ret (.pp row) else .fail := rfl
theorem vy (sz : Nat) (id : Id) (p : Path) (n m st : Nat) (row : List T) : iaK sz id p n m st row = if row.length = sz then .ret (.ptr id p n 0 m st) else .fail := rfl
theorem zD (sz : Nat) (id : Id) (p : Path) (n : Int) (m st : Nat) (rows : Rows) : iaS sz id p n m st rows = if rows.length = m then Bx (getI rows n) (iaK sz id p n.toNat m st) else .fail := rfl
theorem vz (sz : Nat) (id : Id) (m : Nat) (n : Int) (rows : Rows) (st : Nat) (fx : Bool) : iaE sz id m n (.mem rows st fx) = iaS sz id [] n m 0 rows := rfl
theorem zE (d : Nat) (md : List Md) (own : List Bool) (args : List V) (f : FuncId) (caps : List V) : cvv d md own args (.fn f caps) = QM d f (md ++ (caps.map fun _ => Md.ref)) own (args ++ caps) := rfl
def mw (d : Nat) (own : List Bool) (ps : List PA) (bs : List Cq) (res : Af) : M V :=
 if (ps.any PA.reads) && !res.allOwn then .fail else D1 bs res.after
  (let a := FX d 0 own res.vals; if a.2.isEmpty then .ret (Nn a.1) else .new a.2 (.ret (Nn a.1)))
def xO (d : Nat) (f : FuncId) (own : List Bool) (ps : List PA) (bs : List Cq) : M V :=
 if !Bt (Ae bs) then .fail else MQ ps fun as => .call f as (mw d own ps bs)
theorem oD (d : Nat) (f : FuncId) (md : List Md) (own : List Bool) (args : List V) : QM d f md own args = Ff md args (xO d f own) := rfl
theorem rt (d : Nat) (f : FuncId) (own : List Bool) (ps : List PA) (bs : List Cq) : xO d f own ps bs = if !Bt (Ae bs) then .fail else MQ ps fun as => .call f as (mw d own ps bs) := rfl
def zF (as : List V) : List DB → M V
 | [] => .ret (Nn as)
 | e :: es => .new (e :: es) (.ret (Nn as))
theorem ru (d : Nat) (own : List Bool) (ps : List PA) (bs : List Cq) (vals : List RV) (after : List (Option Rows)) : mw d own ps bs ⟨vals, after⟩ =
  if (ps.any PA.reads) && !(Af.mk vals after).allOwn then .fail else D1 bs after (zF (FX d 0 own vals).1 (FX d 0 own vals).2) := by
 simp only [mw]
 congr 2
 generalize FX d 0 own vals = a
 obtain ⟨a, b⟩ := a
 cases b <;> rfl
theorem rz (as : List V) : zF as [] = .ret (Nn as) := rfl
theorem oE (as : List V) (e : DB) (es : List DB) : zF as (e :: es) = .new (e :: es) (.ret (Nn as)) := rfl
theorem oG (v : V) : Nn [v] = v := rfl
theorem oH (v w : V) (vs : List V) : Nn (v :: w :: vs) = .tup (v :: w :: vs) := rfl
theorem oI : Nn [] = .tup [] := rfl
theorem zG (d : Nat) (own : Bool) (k : Nat) (x : Value) : QC d own k (.v x) = (.t (.v x), []) := rfl
theorem zH (d k : Nat) (o : Bool) (rows : Rows) : QC d false k (.sl o rows) = (.t (.sl false (AU rows)), []) := rfl
theorem zI (d k : Nat) (rows : Rows) : QC d true k (.sl true rows) = (.ref (d, k) rows.length, [.mem rows 0 false]) := rfl
theorem zJ (d k : Nat) (rows : Rows) : QC d true k (.sl false rows) = (.t (.sl false (AU rows)), []) := rfl
theorem s0 (d : Nat) (own : Bool) (k : Nat) : YS d own k [] = ([], []) := rfl
theorem oJ (d : Nat) (own : Bool) (k : Nat) (t : T) (ts : List T) : YS d own k (t :: ts) = ((QC d own k t).1 :: (YS d own (k + (QC d own k t).2.length) ts).1, (QC d own k t).2 ++ (YS d own (k + (QC d own k t).2.length) ts).2) := rfl
theorem w7 (d : Nat) (own : Bool) (k : Nat) (c : T) : LF d own k (.t c) = QC d own k c := rfl
theorem oK (d : Nat) (own : Bool) (k : Nat) (cs : List T) : LF d own k (.agg cs) = (.agg (YS d own k cs).1, (YS d own k cs).2) := rfl
theorem oN (d : Nat) (own : Bool) (k : Nat) (cells : List T) : LF d own k (.box cells) = (.ptr (d, k) [] 0 0 1 0, [.mem [cells] 0 false]) := rfl
theorem lg (d k : Nat) (own : List Bool) : FX d k own [] = ([], []) := by cases own <;> rfl
theorem jK (d k : Nat) (o : Bool) (own : List Bool) (v : RV) (vs : List RV) : FX d k (o :: own) (v :: vs) = ((LF d o k v).1 :: (FX d (k + (LF d o k v).2.length) own vs).1, (LF d o k v).2 ++ (FX d (k + (LF d o k v).2.length) own vs).2) := rfl
theorem s7 (d k : Nat) (v : RV) (vs : List RV) : FX d k [] (v :: vs) = ((LF d false k v).1 :: (FX d (k + (LF d false k v).2.length) [] vs).1, (LF d false k v).2 ++ (FX d (k + (LF d false k v).2.length) [] vs).2) := rfl
theorem IM {α : Type} (f g : α → List T) (h : ∀ x, Fz (f x) = g x) (l : List α) : AU (l.map f) = l.map g := by
 induction l with
 | nil => rfl
 | cons a l ih => simp only [List.map_cons, AU, h, ih]
theorem QV (l : List Int) : AU (l.map rI) = l.map rI := IM _ _ (fun _ => rfl) l
theorem Td (k : IntKind) (l : List Int) : AU (l.map (rK k)) = l.map (rK k) := IM _ _ (fun _ => rfl) l
theorem Te (l : List ByteArray) : AU (l.map rS) = l.map rS := IM _ _ (fun _ => rfl) l
theorem Tf (l : List Bool) : AU (l.map rB) = l.map rB := IM _ _ (fun _ => rfl) l
theorem PW (o : Bool) (l : List (List Int)) : AU (l.map (rL o rI)) = l.map (rL false rI) := IM _ _ (fun x => by simp only [rL, Fz, frz, QV]) l
theorem IN {α : Type} (f : α → List T) (h : ∀ x, DG (f x) = true) (l : List α) : B5 (l.map f) = true := by
 induction l with
 | nil => rfl
 | cons a l ih => simp only [List.map_cons, B5, h, ih, Bool.and_self]
theorem QW (l : List Int) : B5 (l.map rI) = true := IN _ (fun _ => rfl) l
theorem Tg (k : IntKind) (l : List Int) : B5 (l.map (rK k)) = true := IN _ (fun _ => rfl) l
theorem Th (l : List ByteArray) : B5 (l.map rS) = true := IN _ (fun _ => rfl) l
theorem Ti (l : List Bool) : B5 (l.map rB) = true := IN _ (fun _ => rfl) l
theorem PX (l : List (List Int)) : B5 (l.map (rL true rI)) = true := IN _ (fun x => by simp only [rL, DG, allOwn, QW, Bool.and_self]) l
theorem zK (vals : List RV) (after : List (Option Rows)) : (Af.mk vals after).allOwn = (vals.all RV.allOwn && after.all fun o => match o with | some rows => B5 rows | none => true) := rfl
theorem G4 {α : Type} (f : α → List T) (sz : Nat) (h : ∀ x, (f x).length = sz) (l : List α) : ((l.map f).all fun r => r.length == sz) = true := by
 simp [List.all_map, h]
theorem zL (l : List Int) : ((l.map rI).all fun r => r.length == 1) = true := G4 _ _ (fun x => by rfl) l
theorem zM (k : IntKind) (l : List Int) : ((l.map (rK k)).all fun r => r.length == 1) = true := G4 _ _ (fun x => by rfl) l
theorem zN (l : List ByteArray) : ((l.map rS).all fun r => r.length == 1) = true := G4 _ _ (fun x => by rfl) l
theorem zO (l : List Bool) : ((l.map rB).all fun r => r.length == 1) = true := G4 _ _ (fun x => by rfl) l
theorem zP {α : Type} (o : Bool) (f : α → List T) (l : List (List α)) : ((l.map (rL o f)).all fun r => r.length == 1) = true := G4 _ _ (fun x => by rfl) l
theorem A0U (ts : List Nat) (c : T) : V.mentions ts (.t c) = false := by simp only [V.mentions]
theorem w8 (ts : List Nat) : V.mentions ts .nil = false := by simp only [V.mentions]
theorem s9 (ts : List Nat) : V.mentions ts .dead = false := by simp only [V.mentions]
theorem zQ (ts : List Nat) (c : List T) : V.mentions ts (.pp c) = false := by simp only [V.mentions]
theorem zR {α : Type} (c : T) (k : RV → M α) : YU (.t c) k = k (.t c) := rfl
theorem sA {α : Type} (k : RV → M α) : YU .nil k = k (.t (.sl true [])) := rfl
theorem sB {α : Type} (id : Id) (n : Nat) (k : RV → M α) : YU (.ref id n) k = take (.ref id n) fun t => k (.t t) := rfl
theorem zS {α : Type} (c : T) (k : T → M α) : hZ (.t c) k = k c := rfl
theorem sC {α : Type} (id : Id) (n : Nat) (k : T → M α) : hZ (.ref id n) k = take (.ref id n) k := rfl
theorem zT (c : T) : V.isDead (.t c) = false := rfl
theorem sD : V.isDead .nil = false := rfl
theorem sE (cs : List V) : V.isDead (.agg cs) = false := rfl
theorem sF (id : Id) (n : Nat) : V.isDead (.ref id n) = false := rfl
theorem sG (id : Id) (p : Path) (i c n st : Nat) : V.isDead (.sub id p i c n st) = false := rfl
theorem sH (id : Id) (p : Path) (i off n st : Nat) : V.isDead (.ptr id p i off n st) = false := rfl
theorem w9 (cs : List T) : V.isDead (.pp cs) = false := rfl
theorem wA (f : FuncId) (caps : List V) : V.isDead (.fn f caps) = false := rfl
theorem wB (k : IntKind) (a b : Int) : eqK .int (.t (.v (.int k a))) (.t (.v (.int k b))) = some (Av a b) := by simp [eqK, Av]
theorem wC (a b : ByteArray) : eqK .str (.t (.v (.string a))) (.t (.v (.string b))) = some (D7 a b) := rfl
theorem sI (a b : Bool) : eqK .bool (.t (.v (.bool a))) (.t (.v (.bool b))) = some (eqB a b) := rfl
theorem lh (n : Int) (rs : Rows) : C3 ([.v (.int .u8 n)] :: rs) = (C3 rs).map fun l => UInt8.ofNat n.toNat :: l := by simp [C3]
end TT
