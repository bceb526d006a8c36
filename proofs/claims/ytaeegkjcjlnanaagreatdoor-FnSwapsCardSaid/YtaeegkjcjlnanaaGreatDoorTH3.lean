import Derived.Test.YtaeegkjcjlnanaaGreatDoorTH2
set_option linter.unusedVariables false
set_option linter.unusedSimpArgs false
set_option linter.defProp false
namespace TT
open Go
theorem A0m (FT : Env) (d : Nat) (o : O) (rd wr : List Nat) (s : List V) (r : R) : opR FT false d o rd wr s r = (Av s d o).run (dn FT) d r := rfl
theorem A0n (FT : Env) (d : Nat) (o : O) (rd wr : List Nat) (s : List V) (r : R) : opR FT true d o rd wr s r = (Av s d o).runA (dn FT) d rd wr r := rfl
theorem rr {α β : Type} (f : α → β) (l : List α) : A8 (l.map f) = A8 l := by simp [A8]
theorem vz {α : Type} (l : List α) : ((List.length l : Nat) : Int) = A8 l := rfl
theorem rt {α β : Type} (f : α → β) (l : List α) (i : Int) : getI (l.map f) i = (getI l i).map f := by
 simp only [getI, List.getElem?_map]; split <;> rfl
theorem w7 {α β : Type} (f : α → β) (l : List α) (i j : Int) : slL (l.map f) i j = (slL l i j).map (List.map f) := by
 simp only [slL, List.length_map]; split <;> simp [List.map_take, List.map_drop]
theorem ST {α β : Type} (a : α) (k : α → M β) : C3 (some a) k = k a := rfl
theorem oP {α β : Type} (k : α → M β) : C3 none k = .fail := rfl
theorem ru {α β γ : Type} (f : α → β) (o : Option α) (k : β → M γ) : C3 (o.map f) k = C3 o fun a => k (f a) := by cases o <;> rfl
theorem A0o (nt : Nat) (args : List GA) : (enter nt args).s = (Lr 0 args).map (·.1) ++ List.replicate (nt - args.length) .dead := rfl
theorem A0p (nt : Nat) (args : List GA) : (enter nt args).r = (Lr 0 args).map (·.2) ++ List.replicate (nt - args.length) [] := rfl
theorem ll (rows : Rows) (stt i n st : Nat) : Cq rows stt [] i n st = if rows.length = n then rows[i]? else none := rfl
theorem oQ {α : Type} (a : α) (l : List α) (d : α) : (a :: l).getD 0 d = a := rfl
theorem oR {α : Type} (a : α) (l : List α) (i : Nat) (d : α) : (a :: l).getD (i + 1) d = l.getD i d := rfl
theorem rz {α : Type} (i : Nat) (d : α) : ([] : List α).getD i d = d := rfl
theorem oS {α : Type} (a : α) (l : List α) : (a :: l)[0]? = some a := rfl
theorem oT {α : Type} (a : α) (l : List α) (i : Nat) : (a :: l)[i + 1]? = l[i]? := rfl
theorem s0 {α : Type} (a b : α) (l : List α) : (a :: l).set 0 b = b :: l := rfl
theorem s7 {α : Type} (a b : α) (l : List α) (i : Nat) : (a :: l).set (i + 1) b = a :: l.set i b := rfl
theorem s9 (a b c d : Nat) : (((a, b) : Nat × Nat) == (c, d)) = (a == c && b == d) := rfl
theorem w8 (s : List V) (t : Nat) : A6 s (.s t) = s.getD t .dead := rfl
theorem w9 (s : List V) (x : Value) : A6 s (.c x) = OU x := rfl
theorem wA (s : List V) (f : FuncId) : A6 s (.f f) = .fn f [] := rfl
theorem wB (s : List V) (cs : List T) : A6 s (.z cs) = .agg (cs.map zV) := rfl
theorem lm (k : IntKind) (n : Int) : OU (.int k n) = .t (.v (.int k n)) := rfl
theorem jZ (b : Bool) : OU (.bool b) = .t (.v (.bool b)) := rfl
theorem lq (q : Option Addr) : OU (.pointer q) = .t (.v (.pointer q)) := rfl
theorem lr (x : ByteArray) : OU (.string x) = .t (.v (.string x)) := rfl
theorem ja : OU .nilIface = .t (.v .nilIface) := rfl
theorem lt : OU (.slice none 0 0) = .nil := rfl
theorem wC (id : Id) (p : Path) (i c st : Nat) (x : Value) : LY id p i c st (.v x) = .t (.v x) := rfl
theorem oU (id : Id) (p : Path) (i c st : Nat) (rows : Rows) : LY id p i c st (.sl true rows) = .sub id p i c rows.length st := rfl
theorem sA (id : Id) (p : Path) (i c st : Nat) (rows : Rows) : LY id p i c st (.sl false rows) = .t (.sl false rows) := rfl
theorem lu (id : Id) (p : Path) (i c st : Nat) : LY id p i c st .hole = .dead := rfl
theorem lw (id : Id) (p : Path) (i c st : Nat) : Jz id p i c st [] = [] := rfl
theorem jb (id : Id) (p : Path) (i c st : Nat) (t : T) (ts : List T) : Jz id p i c st (t :: ts) = LY id p i c st t :: Jz id p i (c + 1) st ts := rfl
theorem jc (cs : List V) : cellsOf (.agg cs) = cs := rfl
theorem oV (c : T) : cellsOf (.t c) = [.t c] := rfl
theorem jd : cellsOf .nil = [.nil] := rfl
theorem je (id : Id) (n : Nat) : cellsOf (.ref id n) = [.ref id n] := rfl
theorem jf (id : Id) (p : Path) (i c n st : Nat) : cellsOf (.sub id p i c n st) = [.sub id p i c n st] := rfl
section
variable {α : Type}
theorem zQ (c : T) (k : T → M α) : take (.t c) k = k c := rfl
theorem take_nil (k : T → M α) : take .nil k = k (.sl true []) := rfl
def xc (id : Id) (n : Nat) (k : T → M α) : DK → M α
 | .mem rows _ fx => if rows.length = n then .set id .dead (k (.sl true rows)) else .fail
 | .dead => .fail
theorem sB (id : Id) (n : Nat) (k : T → M α) : take (.ref id n) k = .get id (xc id n k) := by
 simp only [take]; congr 1; funext e; cases e <;> rfl
theorem oW (id : Id) (n : Nat) (k : T → M α) (rows : Rows) (st : Nat) (fx : Bool) : xc id n k (.mem rows st fx) = if rows.length = n then .set id .dead (k (.sl true rows)) else .fail := rfl
def sC (id : Id) (p : Path) (i c n st : Nat) (k : T → M α) : DK → M α
 | .mem rows stt fx => if st = stt then (match BD rows p i c with
     | some (.sl true rs) => if rs.length = n then .set id (.mem (An rows p i c .hole) stt fx) (k (.sl true rs)) else .fail
     | _ => .fail) else .fail
 | .dead => .fail
theorem sD (id : Id) (p : Path) (i c n st : Nat) (k : T → M α) : take (.sub id p i c n st) k = .get id (sC id p i c n st k) := by
 simp only [take]; congr 1; funext e; cases e <;> rfl
theorem ly (id : Id) (p : Path) (i c n st : Nat) (k : T → M α) (rows : Rows) (stt : Nat) (fx : Bool) : sC id p i c n st k (.mem rows stt fx) = if st = stt then (match BD rows p i c with
     | some (.sl true rs) => if rs.length = n then .set id (.mem (An rows p i c .hole) stt fx) (k (.sl true rs)) else .fail
     | _ => .fail) else .fail := rfl
theorem oX (k : List T → M α) : ED [] k = k [] := rfl
theorem lz (v : V) (vs : List V) (k : List T → M α) : ED (v :: vs) k = take v fun t => ED vs fun ts => k (t :: ts) := rfl
theorem fV (k : Rows → M α) : CD [] k = k [] := rfl
theorem cA (vs : List V) (vss : List (List V)) (k : Rows → M α) : CD (vs :: vss) k = ED vs fun r => CD vss fun rs => k (r :: rs) := rfl
theorem sE (o : Bool) (rows : Rows) (k : Rows → M α) : Ds (.t (.sl o rows)) k = k rows := rfl
theorem m9 (k : Rows → M α) : Ds .nil k = k [] := rfl
def xe (n : Nat) (k : Rows → M α) : DK → M α
 | .mem rows _ _ => if rows.length = n then k rows else .fail
 | .dead => .fail
theorem mA (id : Id) (n : Nat) (k : Rows → M α) : Ds (.ref id n) k = .get id (xe n k) := by
 simp only [Ds]; congr 1; funext e; cases e <;> rfl
theorem oY (n : Nat) (k : Rows → M α) (rows : Rows) (st : Nat) (fx : Bool) : xe n k (.mem rows st fx) = if rows.length = n then k rows else .fail := rfl
def sF (p : Path) (i c n st : Nat) (k : Rows → M α) : DK → M α
 | .mem rows stt _ => if st = stt then (match BD rows p i c with
     | some (.sl true rs) => if rs.length = n then k rs else .fail
     | _ => .fail) else .fail
 | .dead => .fail
theorem mB (id : Id) (p : Path) (i c n st : Nat) (k : Rows → M α) : Ds (.sub id p i c n st) k = .get id (sF p i c n st k) := by
 simp only [Ds]; congr 1; funext e; cases e <;> rfl
theorem mC (p : Path) (i c n st : Nat) (k : Rows → M α) (rows : Rows) (stt : Nat) (fx : Bool) : sF p i c n st k (.mem rows stt fx) = if st = stt then (match BD rows p i c with
     | some (.sl true rs) => if rs.length = n then k rs else .fail
     | _ => .fail) else .fail := rfl
theorem sG (o : Bool) (rows : Rows) (k : Rows → M α) : Fy (.t (.sl o rows)) k = k rows := rfl
def fW (k : Rows → M α) : T → M α
 | .sl true rows => k rows
 | _ => .fail
theorem sH (q : Option Addr) (c : Nat) (k : Rows → M α) : Fy (.t (.v (.slice q 0 c))) k = k [] := rfl
theorem mD (k : Rows → M α) : Fy .nil k = k [] := rfl
theorem mE (id : Id) (n : Nat) (k : Rows → M α) : Fy (.ref id n) k = take (.ref id n) (fW k) := by
 rfl
theorem mF (id : Id) (p : Path) (i c n st : Nat) (k : Rows → M α) : Fy (.sub id p i c n st) k = take (.sub id p i c n st) (fW k) := by
 rfl
theorem mG (rows : Rows) (k : Rows → M α) : fW k (.sl true rows) = k rows := rfl
theorem zR (md : Md) (c : T) (k : PA → List Cy → M α) : D6 md (.t c) k = k (.a (.t c)) [] := by simp only [D6]
theorem fX (k : PA → List Cy → M α) : D6 .val .nil k = k (.a (.t (.sl false []))) [] := by simp only [D6]
theorem cC (k : PA → List Cy → M α) : D6 .give .nil k = k (.a (.t (.sl false []))) [] := by simp only [D6]
theorem fY (k : PA → List Cy → M α) : D6 .ref .nil k = k (.a (.ln [])) [.none] := by simp only [D6]
theorem fZ (cs : List V) (k : PA → List Cy → M α) : D6 .val (.agg cs) k = k (.v (.agg cs)) [] := by simp only [D6]
theorem fb (cs : List V) (k : PA → List Cy → M α) : D6 .ref (.agg cs) k = NS .ref cs fun as bs => k (.a (.agg (as.map PA.arg))) bs := by simp only [D6]
theorem cE (cs : List V) (k : PA → List Cy → M α) : D6 .give (.agg cs) k = NS .give cs fun as bs => k (.a (.agg (as.map PA.arg))) bs := by simp only [D6]
theorem fc (id : Id) (n : Nat) (k : PA → List Cy → M α) : D6 .val (.ref id n) k = k (.v (.ref id n)) [] := by simp only [D6]
theorem fe (id : Id) (p : Path) (i c n st : Nat) (k : PA → List Cy → M α) : D6 .val (.sub id p i c n st) k = k (.v (.sub id p i c n st)) [] := by simp only [D6]
def xf (id : Id) (n : Nat) (k : PA → List Cy → M α) : DK → M α
 | .mem rows st fx => if rows.length = n then .set id .dead (k (.a (.ln rows)) [.root id st fx rows]) else .fail
 | .dead => .fail
theorem ff (id : Id) (n : Nat) (k : PA → List Cy → M α) : D6 .ref (.ref id n) k = .get id (xf id n k) := by
 simp only [D6]; congr 1; funext e; cases e <;> rfl
theorem oZ (id : Id) (n : Nat) (k : PA → List Cy → M α) (rows : Rows) (st : Nat) (fx : Bool) : xf id n k (.mem rows st fx) = if rows.length = n then .set id .dead (k (.a (.ln rows)) [.root id st fx rows]) else .fail := rfl
def xg (id : Id) (n : Nat) (k : PA → List Cy → M α) : DK → M α
 | .mem rows st fx => if rows.length = n then .set id .dead (k (.a (.t (.sl false (AV rows)))) []) else .fail
 | .dead => .fail
theorem cF (id : Id) (n : Nat) (k : PA → List Cy → M α) : D6 .give (.ref id n) k = .get id (xg id n k) := by
 simp only [D6]; congr 1; funext e; cases e <;> rfl
theorem oa (id : Id) (n : Nat) (k : PA → List Cy → M α) (rows : Rows) (st : Nat) (fx : Bool) : xg id n k (.mem rows st fx) = if rows.length = n then .set id .dead (k (.a (.t (.sl false (AV rows)))) []) else .fail := rfl
def sI (id : Id) (p : Path) (i c n st : Nat) (k : PA → List Cy → M α) : DK → M α
 | .mem rows stt fx => if st = stt then (match BD rows p i c with
     | some (.sl true rs) => if rs.length = n then .set id (.mem (An rows p i c .hole) (stt + 1) fx) (k (.a (.ln rs)) [.cell id p i c]) else .fail
     | _ => .fail) else .fail
 | .dead => .fail
theorem fg (id : Id) (p : Path) (i c n st : Nat) (k : PA → List Cy → M α) : D6 .ref (.sub id p i c n st) k = .get id (sI id p i c n st k) := by
 simp only [D6]; congr 1; funext e; cases e <;> rfl
theorem mH (id : Id) (p : Path) (i c n st : Nat) (k : PA → List Cy → M α) (rows : Rows) (stt : Nat) (fx : Bool) : sI id p i c n st k (.mem rows stt fx) = if st = stt then (match BD rows p i c with
     | some (.sl true rs) => if rs.length = n then .set id (.mem (An rows p i c .hole) (stt + 1) fx) (k (.a (.ln rs)) [.cell id p i c]) else .fail
     | _ => .fail) else .fail := rfl
def sJ (id : Id) (off : Nat) (k : PA → List Cy → M α) : DK → M α
 | .mem [cells] stt fx => if off < cells.length then .set id .dead (k (.a (.lp cells off)) [.root id stt fx [cells]]) else .fail
 | _ => .fail
theorem sK (md : Md) (id : Id) (off st : Nat) (k : PA → List Cy → M α) : D6 md (.ptr id [] 0 off 1 st) k = .get id (sJ id off k) := by
 simp only [D6, List.isEmpty_nil, decide_true, Bool.and_self, if_true]; rfl
theorem mI (id : Id) (off : Nat) (k : PA → List Cy → M α) (cells : List T) (stt : Nat) (fx : Bool) : sJ id off k (.mem [cells] stt fx) = if off < cells.length then .set id .dead (k (.a (.lp cells off)) [.root id stt fx [cells]]) else .fail := rfl
theorem wD (md : Md) (cs : List T) (k : PA → List Cy → M α) : D6 md (.pp cs) k = k (.a (.pp cs)) [] := by simp only [D6]
theorem wE (md : Md) (f : FuncId) (caps : List V) (k : PA → List Cy → M α) : D6 md (.fn f caps) k = NS .ref caps fun as bs => k (.a (.fn f (as.map PA.arg))) bs := by simp only [D6]
theorem oc (md : Md) (k : List PA → List Cy → M α) : NS md [] k = k [] [] := by simp only [NS]
theorem mJ (md : Md) (v : V) (vs : List V) (k : List PA → List Cy → M α) : NS md (v :: vs) k = D6 md v fun a b => NS md vs fun as bs => k (a :: as) (b ++ bs) := by simp only [NS]
theorem fh (mds : List Md) (k : List PA → List Cy → M α) : Fn mds [] k = k [] [] := by simp only [Fn]
theorem mK (v : V) (vs : List V) (k : List PA → List Cy → M α) : Fn [] (v :: vs) k = D6 .val v fun a b => Fn [] vs fun as bs => k (a :: as) (b ++ bs) := rfl
theorem mL (md : Md) (mds : List Md) (v : V) (vs : List V) (k : List PA → List Cy → M α) : Fn (md :: mds) (v :: vs) k = D6 md v fun a b => Fn mds vs fun as bs => k (a :: as) (b ++ bs) := rfl
def Zb (k : T → M α) (rows : Rows) : M α := k (.sl false (AV rows))
theorem jg (k : T → M α) (rows : Rows) : Zb k rows = k (.sl false (AV rows)) := rfl
theorem od (c : T) (k : T → M α) : Es (.t c) k = k c := rfl
theorem jh (k : T → M α) : Es .nil k = k (.sl false []) := rfl
theorem ji (id : Id) (n : Nat) (k : T → M α) : Es (.ref id n) k = Ds (.ref id n) (Zb k) := rfl
theorem jj (id : Id) (p : Path) (i c n st : Nat) (k : T → M α) : Es (.sub id p i c n st) k = Ds (.sub id p i c n st) (Zb k) := rfl
theorem fi (k : List T → M α) : LZ [] k = k [] := rfl
theorem cH (v : V) (vs : List V) (k : List T → M α) : LZ (v :: vs) k = Es v fun t => LZ vs fun ts => k (t :: ts) := rfl
theorem sL (x : GA) (k : GA → M α) : Pu (.a x) k = k x := rfl
theorem mM (cs : List V) (k : GA → M α) : Pu (.v (.agg cs)) k = LZ cs fun ts => k (.agg (ts.map GA.t)) := rfl
theorem mN (id : Id) (n : Nat) (k : GA → M α) : Pu (.v (.ref id n)) k = Es (.ref id n) fun t => k (.t t) := rfl
theorem mO (id : Id) (p : Path) (i c n st : Nat) (k : GA → M α) : Pu (.v (.sub id p i c n st)) k = Es (.sub id p i c n st) fun t => k (.t t) := rfl
theorem jk (k : List GA → M α) : Mh [] k = k [] := rfl
theorem fj (p : PA) (ps : List PA) (k : List GA → M α) : Mh (p :: ps) k = Pu p fun a => Mh ps fun as => k (a :: as) := rfl
theorem jl (m : M α) : D7 [] [] m = m := rfl
def pbE (id : Id) (st : Nat) (fx : Bool) (rows0 : Rows) (o : Option Rows) (m : M α) : DK → M α
 | .dead => (match o with
    | some rows => if rows.map (·.length) = rows0.map (·.length) then .set id (.mem rows (st + 1) fx) m else .fail
    | none => m)
 | _ => .fail
theorem fk (id : Id) (st : Nat) (fx : Bool) (rows0 : Rows) (bs : List Cy) (o : Option Rows) (os : List (Option Rows)) (m : M α) : D7 (.root id st fx rows0 :: bs) (o :: os) m = .get id (pbE id st fx rows0 o (D7 bs os m)) := by
 rfl
theorem sM (id : Id) (st : Nat) (fx : Bool) (rows0 rows : Rows) (m : M α) : pbE id st fx rows0 (some rows) m .dead = if rows.map (·.length) = rows0.map (·.length) then .set id (.mem rows (st + 1) fx) m else .fail := rfl
theorem sN (id : Id) (st : Nat) (fx : Bool) (rows0 : Rows) (m : M α) : pbE id st fx rows0 none m .dead = m := rfl
def pbC (id : Id) (p : Path) (i c : Nat) (o : Option Rows) (m : M α) : DK → M α
 | .mem rows stt fx => (match o with
    | some rs => .set id (.mem (An rows p i c (.sl true rs)) (stt + 1) fx) m
    | none => m)
 | _ => .fail
theorem fl (id : Id) (p : Path) (i c : Nat) (bs : List Cy) (o : Option Rows) (os : List (Option Rows)) (m : M α) : D7 (.cell id p i c :: bs) (o :: os) m = .get id (pbC id p i c o (D7 bs os m)) := by
 rfl
theorem sO (id : Id) (p : Path) (i c : Nat) (rs rows : Rows) (stt : Nat) (fx : Bool) (m : M α) : pbC id p i c (some rs) m (.mem rows stt fx) = .set id (.mem (An rows p i c (.sl true rs)) (stt + 1) fx) m := rfl
theorem fm (bs : List Cy) (o : Option Rows) (os : List (Option Rows)) (m : M α) : D7 (.none :: bs) (o :: os) m = D7 bs os m := rfl
end
theorem wF (n : Nat) (ag : Bool) (id : Id) (p : Path) (i off m st : Nat) : ldV n ag (.ptr id p i off m st) = .get id (ldE n ag id p i off m st) := rfl
theorem zS (n : Nat) (ag : Bool) (id : Id) (off st : Nat) (cs : List V) : ldV n ag (.vb id off st cs) = .get id (ldX n ag off st cs) := rfl
theorem wG (n : Nat) (ag : Bool) (off st : Nat) (cs : List V) (rows : Rows) (stt : Nat) (fx : Bool) : ldX n ag off st cs (.mem rows stt fx) = if (st = stt ∧ rows.length = 1) ∧ off + n ≤ cs.length then Y2 ag ((cs.drop off).take n) else .fail := rfl
theorem zT (off : Nat) (id : Id) (o st : Nat) (cs : List V) : faV off (.vb id o st cs) = .ret (.vb id (o + off) st cs) := rfl
theorem sP (d : Nat) (cs : List V) : A0d d (.agg cs) = if cs.isEmpty || !cs.all V.one then .fail else .new [.mem [List.replicate cs.length .hole] 0 false] (.ret (.vb (d, 0) 0 0 cs)) := rfl
theorem sQ (n : Nat) (id : Id) (st : Nat) (cs : List V) : vJ n (.ptr id [] 0 0 1 st) (.agg cs) = if cs.length = n ∧ cs.all V.one = true then .get id (vI id n cs) else .fail := rfl
theorem wH (n : Nat) (id : Id) (st : Nat) (cs0 cs : List V) : vJ n (.vb id 0 st cs0) (.agg cs) = if cs.length = n ∧ cs.all V.one = true then .get id (vI id n cs) else .fail := rfl
theorem sR (id : Id) (n : Nat) (cs : List V) (row : List T) (stt : Nat) (fx : Bool) : vI id n cs (.mem [row] stt fx) = if row.length = n then .set id (.mem [List.replicate n .hole] (stt + 1) fx) (.ret (.vb id 0 (stt + 1) cs)) else .fail := rfl
theorem A0q (c : T) : V.one (.t c) = true := rfl
theorem wI : V.one .nil = true := rfl
theorem wJ (id : Id) (n : Nat) : V.one (.ref id n) = true := rfl
theorem wK (id : Id) (p : Path) (i c n st : Nat) : V.one (.sub id p i c n st) = true := rfl
theorem zU (n : Nat) (ag : Bool) (cs : List T) : ldV n ag (.pp cs) = if n ≤ cs.length then Y2 ag ((cs.take n).map V.t) else .fail := rfl
theorem wL (n : Nat) (ag : Bool) (id : Id) (p : Path) (i off m st : Nat) (rows : Rows) (stt : Nat) (fx : Bool) : ldE n ag id p i off m st (.mem rows stt fx) = C3 (Cq rows stt p i m st) fun row => if off + n ≤ row.length then Y2 ag (Jz id p i off stt ((row.drop off).take n)) else .fail := rfl
theorem wM (id : Id) (p : Path) (i off m st n : Nat) (ts : List T) (rows : Rows) (stt : Nat) (fx : Bool) : stE id p i off m st n ts (.mem rows stt fx) = C3 (Cq rows stt p i m st) fun row => if ts.length = n ∧ off + n ≤ row.length then .set id (.mem (GC rows p i off ts) (stt + 1) fx) (.ret .dead) else .fail := rfl
theorem mP (rows : Rows) (p : Path) (i c : Nat) : GC rows p i c [] = rows := rfl
theorem mQ (rows : Rows) (p : Path) (i c : Nat) (t : T) (ts : List T) : GC rows p i c (t :: ts) = GC (An rows p i c t) p i (c + 1) ts := rfl
theorem sS (rows : Rows) (i c : Nat) (t : T) : An rows [] i c t = Er rows i c t := rfl
theorem oe (row : List T) (c : Nat) (t : T) : Er [row] 0 c t = [row.set c t] := rfl
theorem og (a : Id) (b : Path) (c d e f : Nat) : nT (.ptr a b c d e f) = .ret (.ptr a b c d e f) := rfl
theorem sT (cs : List T) : nT (.pp cs) = .ret (.pp cs) := rfl
theorem sU (f : FuncId) (caps : List V) : nT (.fn f caps) = .ret (.fn f caps) := rfl
theorem sV (d : Nat) (z : List T) (byt : Nat) (k : IntKind) (n : Int) : zA d z byt (.t (.v (.int k n))) = C3 (mkN n byt) fun m => .new [.mem (List.replicate m z) 0 false] (.ret (.ref (d, 0) m)) := rfl
theorem zW (sz : Nat) (row : List T) : iaP sz row = if row.length = sz then .ret (.pp row) else .fail := rfl
theorem wN (sz : Nat) (id : Id) (p : Path) (n m st : Nat) (row : List T) : iaK sz id p n m st row = if row.length = sz then .ret (.ptr id p n 0 m st) else .fail := rfl
theorem zX (sz : Nat) (id : Id) (p : Path) (n : Int) (m st : Nat) (rows : Rows) : iaS sz id p n m st rows = if rows.length = m then C3 (getI rows n) (iaK sz id p n.toNat m st) else .fail := rfl
theorem wO (sz : Nat) (id : Id) (m : Nat) (n : Int) (rows : Rows) (st : Nat) (fx : Bool) : iaE sz id m n (.mem rows st fx) = iaS sz id [] n m 0 rows := rfl
theorem zY (d : Nat) (md : List Md) (own : List Bool) (args : List V) (f : FuncId) (caps : List V) : cvv d md own args (.fn f caps) = Qp d f (md ++ (caps.map fun _ => Md.ref)) own (args ++ caps) := rfl
def nW (d : Nat) (own : List Bool) (ps : List PA) (bs : List Cy) (res : Am) : M V :=
 if (ps.any PA.reads) && !res.allOwn then .fail else D7 bs res.after
  (let a := Fe d 0 own res.vals; if a.2.isEmpty then .ret (OA a.1) else .new a.2 (.ret (OA a.1)))
def xj (d : Nat) (f : FuncId) (own : List Bool) (ps : List PA) (bs : List Cy) : M V :=
 if !Bx (Ai bs) then .fail else Mh ps fun as => .call f as (nW d own ps bs)
theorem oh (d : Nat) (f : FuncId) (md : List Md) (own : List Bool) (args : List V) : Qp d f md own args = Fn md args (xj d f own) := rfl
theorem sW (d : Nat) (f : FuncId) (own : List Bool) (ps : List PA) (bs : List Cy) : xj d f own ps bs = if !Bx (Ai bs) then .fail else Mh ps fun as => .call f as (nW d own ps bs) := rfl
def zZ (as : List V) : List DK → M V
 | [] => .ret (OA as)
 | e :: es => .new (e :: es) (.ret (OA as))
theorem sX (d : Nat) (own : List Bool) (ps : List PA) (bs : List Cy) (vals : List RV) (after : List (Option Rows)) : nW d own ps bs ⟨vals, after⟩ =
  if (ps.any PA.reads) && !(Am.mk vals after).allOwn then .fail else D7 bs after (zZ (Fe d 0 own vals).1 (Fe d 0 own vals).2) := by
 simp only [nW]
 congr 2
 generalize Fe d 0 own vals = a
 obtain ⟨a, b⟩ := a
 cases b <;> rfl
theorem sY (as : List V) : zZ as [] = .ret (OA as) := rfl
theorem oi (as : List V) (e : DK) (es : List DK) : zZ as (e :: es) = .new (e :: es) (.ret (OA as)) := rfl
theorem ol (v : V) : OA [v] = v := rfl
theorem om (v w : V) (vs : List V) : OA (v :: w :: vs) = .tup (v :: w :: vs) := rfl
theorem oq : OA [] = .tup [] := rfl
theorem za (d : Nat) (own : Bool) (k : Nat) (x : Value) : Qe d own k (.v x) = (.t (.v x), []) := rfl
theorem zb (d k : Nat) (o : Bool) (rows : Rows) : Qe d false k (.sl o rows) = (.t (.sl false (AV rows)), []) := rfl
theorem zd (d k : Nat) (rows : Rows) : Qe d true k (.sl true rows) = (.ref (d, k) rows.length, [.mem rows 0 false]) := rfl
theorem ze (d k : Nat) (rows : Rows) : Qe d true k (.sl false rows) = (.t (.sl false (AV rows)), []) := rfl
theorem sZ (d : Nat) (own : Bool) (k : Nat) : Z6 d own k [] = ([], []) := rfl
theorem ot (d : Nat) (own : Bool) (k : Nat) (t : T) (ts : List T) : Z6 d own k (t :: ts) = ((Qe d own k t).1 :: (Z6 d own (k + (Qe d own k t).2.length) ts).1, (Qe d own k t).2 ++ (Z6 d own (k + (Qe d own k t).2.length) ts).2) := rfl
theorem wP (d : Nat) (own : Bool) (k : Nat) (c : T) : La d own k (.t c) = Qe d own k c := rfl
theorem oy (d : Nat) (own : Bool) (k : Nat) (cs : List T) : La d own k (.agg cs) = (.agg (Z6 d own k cs).1, (Z6 d own k cs).2) := rfl
theorem oz (d : Nat) (own : Bool) (k : Nat) (cells : List T) : La d own k (.box cells) = (.ptr (d, k) [] 0 0 1 0, [.mem [cells] 0 false]) := rfl
theorem mR (d k : Nat) (own : List Bool) : Fe d k own [] = ([], []) := by cases own <;> rfl
theorem jm (d k : Nat) (o : Bool) (own : List Bool) (v : RV) (vs : List RV) : Fe d k (o :: own) (v :: vs) = ((La d o k v).1 :: (Fe d (k + (La d o k v).2.length) own vs).1, (La d o k v).2 ++ (Fe d (k + (La d o k v).2.length) own vs).2) := rfl
theorem sa (d k : Nat) (v : RV) (vs : List RV) : Fe d k [] (v :: vs) = ((La d false k v).1 :: (Fe d (k + (La d false k v).2.length) [] vs).1, (La d false k v).2 ++ (Fe d (k + (La d false k v).2.length) [] vs).2) := rfl
theorem IZ {α : Type} (f g : α → List T) (h : ∀ x, GB (f x) = g x) (l : List α) : AV (l.map f) = l.map g := by
 induction l with
 | nil => rfl
 | cons a l ih => simp only [List.map_cons, AV, h, ih]
theorem Qy (l : List Int) : AV (l.map rI) = l.map rI := IZ _ _ (fun _ => rfl) l
theorem U3 (k : IntKind) (l : List Int) : AV (l.map (rK k)) = l.map (rK k) := IZ _ _ (fun _ => rfl) l
theorem U4 (l : List ByteArray) : AV (l.map rS) = l.map rS := IZ _ _ (fun _ => rfl) l
theorem U5 (l : List Bool) : AV (l.map rB) = l.map rB := IZ _ _ (fun _ => rfl) l
theorem Q3 (o : Bool) (l : List (List Int)) : AV (l.map (rL o rI)) = l.map (rL false rI) := IZ _ _ (fun x => by simp only [rL, GB, frz, Qy]) l
theorem Ia {α : Type} (f : α → List T) (h : ∀ x, DQ (f x) = true) (l : List α) : BB (l.map f) = true := by
 induction l with
 | nil => rfl
 | cons a l ih => simp only [List.map_cons, BB, h, ih, Bool.and_self]
theorem Qz (l : List Int) : BB (l.map rI) = true := Ia _ (fun _ => rfl) l
theorem U6 (k : IntKind) (l : List Int) : BB (l.map (rK k)) = true := Ia _ (fun _ => rfl) l
theorem U7 (l : List ByteArray) : BB (l.map rS) = true := Ia _ (fun _ => rfl) l
theorem U8 (l : List Bool) : BB (l.map rB) = true := Ia _ (fun _ => rfl) l
theorem Q4 (l : List (List Int)) : BB (l.map (rL true rI)) = true := Ia _ (fun x => by simp only [rL, DQ, allOwn, Qz, Bool.and_self]) l
theorem zf (vals : List RV) (after : List (Option Rows)) : (Am.mk vals after).allOwn = (vals.all RV.allOwn && after.all fun o => match o with | some rows => BB rows | none => true) := rfl
theorem GH {α : Type} (f : α → List T) (sz : Nat) (h : ∀ x, (f x).length = sz) (l : List α) : ((l.map f).all fun r => r.length == sz) = true := by
 simp [List.all_map, h]
theorem zg (l : List Int) : ((l.map rI).all fun r => r.length == 1) = true := GH _ _ (fun x => by rfl) l
theorem zh (k : IntKind) (l : List Int) : ((l.map (rK k)).all fun r => r.length == 1) = true := GH _ _ (fun x => by rfl) l
theorem zi (l : List ByteArray) : ((l.map rS).all fun r => r.length == 1) = true := GH _ _ (fun x => by rfl) l
theorem zj (l : List Bool) : ((l.map rB).all fun r => r.length == 1) = true := GH _ _ (fun x => by rfl) l
theorem zk {α : Type} (o : Bool) (f : α → List T) (l : List (List α)) : ((l.map (rL o f)).all fun r => r.length == 1) = true := GH _ _ (fun x => by rfl) l
theorem A0r (ts : List Nat) (c : T) : V.mentions ts (.t c) = false := by simp only [V.mentions]
theorem wQ (ts : List Nat) : V.mentions ts .nil = false := by simp only [V.mentions]
theorem sd (ts : List Nat) : V.mentions ts .dead = false := by simp only [V.mentions]
theorem zl (ts : List Nat) (c : List T) : V.mentions ts (.pp c) = false := by simp only [V.mentions]
theorem zm {α : Type} (c : T) (k : RV → M α) : Z8 (.t c) k = k (.t c) := rfl
theorem se {α : Type} (k : RV → M α) : Z8 .nil k = k (.t (.sl true [])) := rfl
theorem sf {α : Type} (id : Id) (n : Nat) (k : RV → M α) : Z8 (.ref id n) k = take (.ref id n) fun t => k (.t t) := rfl
theorem zn {α : Type} (c : T) (k : T → M α) : iY (.t c) k = k c := rfl
theorem si {α : Type} (id : Id) (n : Nat) (k : T → M α) : iY (.ref id n) k = take (.ref id n) k := rfl
theorem zo (c : T) : V.isDead (.t c) = false := rfl
theorem sj : V.isDead .nil = false := rfl
theorem sk (cs : List V) : V.isDead (.agg cs) = false := rfl
theorem sm (id : Id) (n : Nat) : V.isDead (.ref id n) = false := rfl
theorem sn (id : Id) (p : Path) (i c n st : Nat) : V.isDead (.sub id p i c n st) = false := rfl
theorem sq (id : Id) (p : Path) (i off n st : Nat) : V.isDead (.ptr id p i off n st) = false := rfl
theorem wR (cs : List T) : V.isDead (.pp cs) = false := rfl
theorem wS (f : FuncId) (caps : List V) : V.isDead (.fn f caps) = false := rfl
theorem wT (k : IntKind) (a b : Int) : eqK .int (.t (.v (.int k a))) (.t (.v (.int k b))) = some (Al a b) := by simp [eqK, Al]
theorem wU (a b : ByteArray) : eqK .str (.t (.v (.string a))) (.t (.v (.string b))) = some (Cu a b) := rfl
theorem ss (a b : Bool) : eqK .bool (.t (.v (.bool a))) (.t (.v (.bool b))) = some (eqB a b) := rfl
theorem mS (n : Int) (rs : Rows) : C6 ([.v (.int .u8 n)] :: rs) = (C6 rs).map fun l => UInt8.ofNat n.toNat :: l := by simp [C6]
end TT
