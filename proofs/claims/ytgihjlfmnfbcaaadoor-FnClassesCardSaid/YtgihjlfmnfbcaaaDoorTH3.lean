import Derived.Test.YtgihjlfmnfbcaaaDoorTH2
set_option linter.unusedVariables false
set_option linter.unusedSimpArgs false
set_option linter.defProp false
namespace TT
open Go
theorem aY (FT : TH) (d : Nat) (o : O) (rd wr : List Nat) (s : List V) (r : R) : opR FT false d o rd wr s r = (AL s d o).run (dn FT) d r := rfl
theorem aZ (FT : TH) (d : Nat) (o : O) (rd wr : List Nat) (s : List V) (r : R) : opR FT true d o rd wr s r = (AL s d o).runA (dn FT) d rd wr r := rfl
theorem UI {α β : Type} (f : α → β) (l : List α) : Be (l.map f) = Be l := by simp [Be]
theorem Ww {α : Type} (l : List α) : ((List.length l : Nat) : Int) = Be l := rfl
theorem UJ {α β : Type} (f : α → β) (l : List α) (i : Int) : getI (l.map f) i = (getI l i).map f := by
 simp only [getI, List.getElem?_map]; split <;> rfl
theorem Wx {α β : Type} (f : α → β) (l : List α) (i j : Int) : slL (l.map f) i j = (slL l i j).map (List.map f) := by
 simp only [slL, List.length_map]; split <;> simp [List.map_take, List.map_drop]
theorem Rm {α β : Type} (a : α) (k : α → M β) : AW (some a) k = k a := rfl
theorem Rn {α β : Type} (k : α → M β) : AW none k = .fail := rfl
theorem UK {α β γ : Type} (f : α → β) (o : Option α) (k : β → M γ) : AW (o.map f) k = AW o fun a => k (f a) := by cases o <;> rfl
theorem ab (nt : Nat) (args : List E4) : (enter nt args).s = (Em 0 args).map (·.1) ++ List.replicate (nt - args.length) .dead := rfl
theorem ac (nt : Nat) (args : List E4) : (enter nt args).r = (Em 0 args).map (·.2) ++ List.replicate (nt - args.length) [] := rfl
theorem Pt (rows : Rows) (stt i n st : Nat) : BG rows stt [] i n st = if rows.length = n then rows[i]? else none := rfl
theorem Ro {α : Type} (a : α) (l : List α) (d : α) : (a :: l).getD 0 d = a := rfl
theorem Rp {α : Type} (a : α) (l : List α) (i : Nat) (d : α) : (a :: l).getD (i + 1) d = l.getD i d := rfl
theorem UL {α : Type} (i : Nat) (d : α) : ([] : List α).getD i d = d := rfl
theorem Rq {α : Type} (a : α) (l : List α) : (a :: l)[0]? = some a := rfl
theorem Rr {α : Type} (a : α) (l : List α) (i : Nat) : (a :: l)[i + 1]? = l[i]? := rfl
theorem UM {α : Type} (a b : α) (l : List α) : (a :: l).set 0 b = b :: l := rfl
theorem UN {α : Type} (a b : α) (l : List α) (i : Nat) : (a :: l).set (i + 1) b = a :: l.set i b := rfl
theorem UO (a b c d : Nat) : (((a, b) : Nat × Nat) == (c, d)) = (a == c && b == d) := rfl
theorem Wy (s : List V) (t : Nat) : A1 s (.s t) = s.getD t .dead := rfl
theorem Wz (s : List V) (x : Value) : A1 s (.c x) = Fj x := rfl
theorem X0 (s : List V) (f : FuncId) : A1 s (.f f) = .fn f [] := rfl
theorem X1 (s : List V) (cs : List T) : A1 s (.z cs) = .agg (cs.map zV) := rfl
theorem Pu (k : IntKind) (n : Int) : Fj (.int k n) = .t (.v (.int k n)) := rfl
theorem OX (b : Bool) : Fj (.bool b) = .t (.v (.bool b)) := rfl
theorem Pv (q : Option Addr) : Fj (.pointer q) = .t (.v (.pointer q)) := rfl
theorem Pw (x : ByteArray) : Fj (.string x) = .t (.v (.string x)) := rfl
theorem OY : Fj .nilIface = .t (.v .nilIface) := rfl
theorem Px : Fj (.slice none 0 0) = .nil := rfl
theorem X2 (id : Id) (p : AE) (i c st : Nat) (x : Value) : EZ id p i c st (.v x) = .t (.v x) := rfl
theorem Rs (id : Id) (p : AE) (i c st : Nat) (rows : Rows) : EZ id p i c st (.sl true rows) = .sub id p i c rows.length st := rfl
theorem UP (id : Id) (p : AE) (i c st : Nat) (rows : Rows) : EZ id p i c st (.sl false rows) = .t (.sl false rows) := rfl
theorem Py (id : Id) (p : AE) (i c st : Nat) : EZ id p i c st .hole = .dead := rfl
theorem Pz (id : Id) (p : AE) (i c st : Nat) : E8 id p i c st [] = [] := rfl
theorem OZ (id : Id) (p : AE) (i c st : Nat) (t : T) (ts : List T) : E8 id p i c st (t :: ts) = EZ id p i c st t :: E8 id p i (c + 1) st ts := rfl
theorem Oa (cs : List V) : cellsOf (.agg cs) = cs := rfl
theorem Rt (c : T) : cellsOf (.t c) = [.t c] := rfl
theorem Ob : cellsOf .nil = [.nil] := rfl
theorem Oc (id : Id) (n : Nat) : cellsOf (.ref id n) = [.ref id n] := rfl
theorem Od (id : Id) (p : AE) (i c n st : Nat) : cellsOf (.sub id p i c n st) = [.sub id p i c n st] := rfl
section
variable {α : Type}
theorem ZM (c : T) (k : T → M α) : take (.t c) k = k c := rfl
theorem take_nil (k : T → M α) : take .nil k = k (.sl true []) := rfl
def Xs (id : Id) (n : Nat) (k : T → M α) : BO → M α
 | .mem rows _ fx => if rows.length = n then .set id .dead (k (.sl true rows)) else .fail
 | .dead => .fail
theorem UQ (id : Id) (n : Nat) (k : T → M α) : take (.ref id n) k = .get id (Xs id n k) := by
 simp only [take]; congr 1; funext e; cases e <;> rfl
theorem Ru (id : Id) (n : Nat) (k : T → M α) (rows : Rows) (st : Nat) (fx : Bool) : Xs id n k (.mem rows st fx) = if rows.length = n then .set id .dead (k (.sl true rows)) else .fail := rfl
def UR (id : Id) (p : AE) (i c n st : Nat) (k : T → M α) : BO → M α
 | .mem rows stt fx => if st = stt then (match AX rows p i c with
     | some (.sl true rs) => if rs.length = n then .set id (.mem (AO rows p i c .hole) stt fx) (k (.sl true rs)) else .fail
     | _ => .fail) else .fail
 | .dead => .fail
theorem US (id : Id) (p : AE) (i c n st : Nat) (k : T → M α) : take (.sub id p i c n st) k = .get id (UR id p i c n st k) := by
 simp only [take]; congr 1; funext e; cases e <;> rfl
theorem Q0 (id : Id) (p : AE) (i c n st : Nat) (k : T → M α) (rows : Rows) (stt : Nat) (fx : Bool) : UR id p i c n st k (.mem rows stt fx) = if st = stt then (match AX rows p i c with
     | some (.sl true rs) => if rs.length = n then .set id (.mem (AO rows p i c .hole) stt fx) (k (.sl true rs)) else .fail
     | _ => .fail) else .fail := rfl
theorem Rv (k : List T → M α) : Bv [] k = k [] := rfl
theorem Q1 (v : V) (vs : List V) (k : List T → M α) : Bv (v :: vs) k = take v fun t => Bv vs fun ts => k (t :: ts) := rfl
theorem My (k : Rows → M α) : At [] k = k [] := rfl
theorem LR (vs : List V) (vss : List (List V)) (k : Rows → M α) : At (vs :: vss) k = Bv vs fun r => At vss fun rs => k (r :: rs) := rfl
theorem UT (o : Bool) (rows : Rows) (k : Rows → M α) : Bn (.t (.sl o rows)) k = k rows := rfl
theorem Q2 (k : Rows → M α) : Bn .nil k = k [] := rfl
def Xt (n : Nat) (k : Rows → M α) : BO → M α
 | .mem rows _ _ => if rows.length = n then k rows else .fail
 | .dead => .fail
theorem Q3 (id : Id) (n : Nat) (k : Rows → M α) : Bn (.ref id n) k = .get id (Xt n k) := by
 simp only [Bn]; congr 1; funext e; cases e <;> rfl
theorem Rw (n : Nat) (k : Rows → M α) (rows : Rows) (st : Nat) (fx : Bool) : Xt n k (.mem rows st fx) = if rows.length = n then k rows else .fail := rfl
def UU (p : AE) (i c n st : Nat) (k : Rows → M α) : BO → M α
 | .mem rows stt _ => if st = stt then (match AX rows p i c with
     | some (.sl true rs) => if rs.length = n then k rs else .fail
     | _ => .fail) else .fail
 | .dead => .fail
theorem Q4 (id : Id) (p : AE) (i c n st : Nat) (k : Rows → M α) : Bn (.sub id p i c n st) k = .get id (UU p i c n st k) := by
 simp only [Bn]; congr 1; funext e; cases e <;> rfl
theorem Q5 (p : AE) (i c n st : Nat) (k : Rows → M α) (rows : Rows) (stt : Nat) (fx : Bool) : UU p i c n st k (.mem rows stt fx) = if st = stt then (match AX rows p i c with
     | some (.sl true rs) => if rs.length = n then k rs else .fail
     | _ => .fail) else .fail := rfl
theorem UV (o : Bool) (rows : Rows) (k : Rows → M α) : Ce (.t (.sl o rows)) k = k rows := rfl
def Mz (k : Rows → M α) : T → M α
 | .sl true rows => k rows
 | _ => .fail
theorem UW (q : Option Addr) (c : Nat) (k : Rows → M α) : Ce (.t (.v (.slice q 0 c))) k = k [] := rfl
theorem Q6 (k : Rows → M α) : Ce .nil k = k [] := rfl
theorem Q7 (id : Id) (n : Nat) (k : Rows → M α) : Ce (.ref id n) k = take (.ref id n) (Mz k) := by
 rfl
theorem Q8 (id : Id) (p : AE) (i c n st : Nat) (k : Rows → M α) : Ce (.sub id p i c n st) k = take (.sub id p i c n st) (Mz k) := by
 rfl
theorem Q9 (rows : Rows) (k : Rows → M α) : Mz k (.sl true rows) = k rows := rfl
theorem ZN (md : Md) (c : T) (k : PA → List BK → M α) : BP md (.t c) k = k (.a (.t c)) [] := by simp only [BP]
theorem N0 (k : PA → List BK → M α) : BP .val .nil k = k (.a (.t (.sl false []))) [] := by simp only [BP]
theorem LS (k : PA → List BK → M α) : BP .give .nil k = k (.a (.t (.sl false []))) [] := by simp only [BP]
theorem N1 (k : PA → List BK → M α) : BP .ref .nil k = k (.a (.ln [])) [.none] := by simp only [BP]
theorem N2 (cs : List V) (k : PA → List BK → M α) : BP .val (.agg cs) k = k (.v (.agg cs)) [] := by simp only [BP]
theorem N3 (cs : List V) (k : PA → List BK → M α) : BP .ref (.agg cs) k = FI .ref cs fun as bs => k (.a (.agg (as.map PA.arg))) bs := by simp only [BP]
theorem LU (cs : List V) (k : PA → List BK → M α) : BP .give (.agg cs) k = FI .give cs fun as bs => k (.a (.agg (as.map PA.arg))) bs := by simp only [BP]
theorem N4 (id : Id) (n : Nat) (k : PA → List BK → M α) : BP .val (.ref id n) k = k (.v (.ref id n)) [] := by simp only [BP]
theorem N5 (id : Id) (p : AE) (i c n st : Nat) (k : PA → List BK → M α) : BP .val (.sub id p i c n st) k = k (.v (.sub id p i c n st)) [] := by simp only [BP]
def Xu (id : Id) (n : Nat) (k : PA → List BK → M α) : BO → M α
 | .mem rows st fx => if rows.length = n then .set id .dead (k (.a (.ln rows)) [.root id st fx rows]) else .fail
 | .dead => .fail
theorem N6 (id : Id) (n : Nat) (k : PA → List BK → M α) : BP .ref (.ref id n) k = .get id (Xu id n k) := by
 simp only [BP]; congr 1; funext e; cases e <;> rfl
theorem Rx (id : Id) (n : Nat) (k : PA → List BK → M α) (rows : Rows) (st : Nat) (fx : Bool) : Xu id n k (.mem rows st fx) = if rows.length = n then .set id .dead (k (.a (.ln rows)) [.root id st fx rows]) else .fail := rfl
def Xv (id : Id) (n : Nat) (k : PA → List BK → M α) : BO → M α
 | .mem rows st fx => if rows.length = n then .set id .dead (k (.a (.t (.sl false (AG rows)))) []) else .fail
 | .dead => .fail
theorem LV (id : Id) (n : Nat) (k : PA → List BK → M α) : BP .give (.ref id n) k = .get id (Xv id n k) := by
 simp only [BP]; congr 1; funext e; cases e <;> rfl
theorem Ry (id : Id) (n : Nat) (k : PA → List BK → M α) (rows : Rows) (st : Nat) (fx : Bool) : Xv id n k (.mem rows st fx) = if rows.length = n then .set id .dead (k (.a (.t (.sl false (AG rows)))) []) else .fail := rfl
def UX (id : Id) (p : AE) (i c n st : Nat) (k : PA → List BK → M α) : BO → M α
 | .mem rows stt fx => if st = stt then (match AX rows p i c with
     | some (.sl true rs) => if rs.length = n then .set id (.mem (AO rows p i c .hole) (stt + 1) fx) (k (.a (.ln rs)) [.cell id p i c]) else .fail
     | _ => .fail) else .fail
 | .dead => .fail
theorem N7 (id : Id) (p : AE) (i c n st : Nat) (k : PA → List BK → M α) : BP .ref (.sub id p i c n st) k = .get id (UX id p i c n st k) := by
 simp only [BP]; congr 1; funext e; cases e <;> rfl
theorem QA (id : Id) (p : AE) (i c n st : Nat) (k : PA → List BK → M α) (rows : Rows) (stt : Nat) (fx : Bool) : UX id p i c n st k (.mem rows stt fx) = if st = stt then (match AX rows p i c with
     | some (.sl true rs) => if rs.length = n then .set id (.mem (AO rows p i c .hole) (stt + 1) fx) (k (.a (.ln rs)) [.cell id p i c]) else .fail
     | _ => .fail) else .fail := rfl
def UY (id : Id) (off : Nat) (k : PA → List BK → M α) : BO → M α
 | .mem [cells] stt fx => if off < cells.length then .set id .dead (k (.a (.lp cells off)) [.root id stt fx [cells]]) else .fail
 | _ => .fail
theorem UZ (md : Md) (id : Id) (off st : Nat) (k : PA → List BK → M α) : BP md (.ptr id [] 0 off 1 st) k = .get id (UY id off k) := by
 simp only [BP, List.isEmpty_nil, decide_true, Bool.and_self, if_true]; rfl
theorem QB (id : Id) (off : Nat) (k : PA → List BK → M α) (cells : List T) (stt : Nat) (fx : Bool) : UY id off k (.mem [cells] stt fx) = if off < cells.length then .set id .dead (k (.a (.lp cells off)) [.root id stt fx [cells]]) else .fail := rfl
theorem X3 (md : Md) (cs : List T) (k : PA → List BK → M α) : BP md (.pp cs) k = k (.a (.pp cs)) [] := by simp only [BP]
theorem X4 (md : Md) (f : FuncId) (caps : List V) (k : PA → List BK → M α) : BP md (.fn f caps) k = FI .ref caps fun as bs => k (.a (.fn f (as.map PA.arg))) bs := by simp only [BP]
theorem Rz (md : Md) (k : List PA → List BK → M α) : FI md [] k = k [] [] := by simp only [FI]
theorem QC (md : Md) (v : V) (vs : List V) (k : List PA → List BK → M α) : FI md (v :: vs) k = BP md v fun a b => FI md vs fun as bs => k (a :: as) (b ++ bs) := by simp only [FI]
theorem N8 (mds : List Md) (k : List PA → List BK → M α) : CW mds [] k = k [] [] := by simp only [CW]
theorem QD (v : V) (vs : List V) (k : List PA → List BK → M α) : CW [] (v :: vs) k = BP .val v fun a b => CW [] vs fun as bs => k (a :: as) (b ++ bs) := rfl
theorem QE (md : Md) (mds : List Md) (v : V) (vs : List V) (k : List PA → List BK → M α) : CW (md :: mds) (v :: vs) k = BP md v fun a b => CW mds vs fun as bs => k (a :: as) (b ++ bs) := rfl
def Kc (k : T → M α) (rows : Rows) : M α := k (.sl false (AG rows))
theorem Oe (k : T → M α) (rows : Rows) : Kc k rows = k (.sl false (AG rows)) := rfl
theorem S5 (c : T) (k : T → M α) : CG (.t c) k = k c := rfl
theorem Of (k : T → M α) : CG .nil k = k (.sl false []) := rfl
theorem Og (id : Id) (n : Nat) (k : T → M α) : CG (.ref id n) k = Bn (.ref id n) (Kc k) := rfl
theorem Oh (id : Id) (p : AE) (i c n st : Nat) (k : T → M α) : CG (.sub id p i c n st) k = Bn (.sub id p i c n st) (Kc k) := rfl
theorem N9 (k : List T → M α) : Ea [] k = k [] := rfl
theorem LW (v : V) (vs : List V) (k : List T → M α) : Ea (v :: vs) k = CG v fun t => Ea vs fun ts => k (t :: ts) := rfl
theorem Ua (x : E4) (k : E4 → M α) : G9 (.a x) k = k x := rfl
theorem QF (cs : List V) (k : E4 → M α) : G9 (.v (.agg cs)) k = Ea cs fun ts => k (.agg (ts.map E4.t)) := rfl
theorem QG (id : Id) (n : Nat) (k : E4 → M α) : G9 (.v (.ref id n)) k = CG (.ref id n) fun t => k (.t t) := rfl
theorem QH (id : Id) (p : AE) (i c n st : Nat) (k : E4 → M α) : G9 (.v (.sub id p i c n st)) k = CG (.sub id p i c n st) fun t => k (.t t) := rfl
theorem Oi (k : List E4 → M α) : F3 [] k = k [] := rfl
theorem NA (p : PA) (ps : List PA) (k : List E4 → M α) : F3 (p :: ps) k = G9 p fun a => F3 ps fun as => k (a :: as) := rfl
theorem Oj (m : M α) : BQ [] [] m = m := rfl
def pbE (id : Id) (st : Nat) (fx : Bool) (rows0 : Rows) (o : Option Rows) (m : M α) : BO → M α
 | .dead => (match o with
    | some rows => if rows.map (·.length) = rows0.map (·.length) then .set id (.mem rows (st + 1) fx) m else .fail
    | none => m)
 | _ => .fail
theorem NB (id : Id) (st : Nat) (fx : Bool) (rows0 : Rows) (bs : List BK) (o : Option Rows) (os : List (Option Rows)) (m : M α) : BQ (.root id st fx rows0 :: bs) (o :: os) m = .get id (pbE id st fx rows0 o (BQ bs os m)) := by
 rfl
theorem Ub (id : Id) (st : Nat) (fx : Bool) (rows0 rows : Rows) (m : M α) : pbE id st fx rows0 (some rows) m .dead = if rows.map (·.length) = rows0.map (·.length) then .set id (.mem rows (st + 1) fx) m else .fail := rfl
theorem Uc (id : Id) (st : Nat) (fx : Bool) (rows0 : Rows) (m : M α) : pbE id st fx rows0 none m .dead = m := rfl
def pbC (id : Id) (p : AE) (i c : Nat) (o : Option Rows) (m : M α) : BO → M α
 | .mem rows stt fx => (match o with
    | some rs => .set id (.mem (AO rows p i c (.sl true rs)) (stt + 1) fx) m
    | none => m)
 | _ => .fail
theorem NC (id : Id) (p : AE) (i c : Nat) (bs : List BK) (o : Option Rows) (os : List (Option Rows)) (m : M α) : BQ (.cell id p i c :: bs) (o :: os) m = .get id (pbC id p i c o (BQ bs os m)) := by
 rfl
theorem Ud (id : Id) (p : AE) (i c : Nat) (rs rows : Rows) (stt : Nat) (fx : Bool) (m : M α) : pbC id p i c (some rs) m (.mem rows stt fx) = .set id (.mem (AO rows p i c (.sl true rs)) (stt + 1) fx) m := rfl
theorem ND (bs : List BK) (o : Option Rows) (os : List (Option Rows)) (m : M α) : BQ (.none :: bs) (o :: os) m = BQ bs os m := rfl
end
theorem X5 (n : Nat) (ag : Bool) (id : Id) (p : AE) (i off m st : Nat) : ldV n ag (.ptr id p i off m st) = .get id (ldE n ag id p i off m st) := rfl
theorem ZO (n : Nat) (ag : Bool) (id : Id) (off st : Nat) (cs : List V) : ldV n ag (.vb id off st cs) = .get id (ldX n ag off st cs) := rfl
theorem X6 (n : Nat) (ag : Bool) (off st : Nat) (cs : List V) (rows : Rows) (stt : Nat) (fx : Bool) : ldX n ag off st cs (.mem rows stt fx) = if (st = stt ∧ rows.length = 1) ∧ off + n ≤ cs.length then Jh ag ((cs.drop off).take n) else .fail := rfl
theorem ZP (off : Nat) (id : Id) (o st : Nat) (cs : List V) : faV off (.vb id o st cs) = .ret (.vb id (o + off) st cs) := rfl
theorem Ue (d : Nat) (cs : List V) : aP d (.agg cs) = if cs.isEmpty || !cs.all V.one then .fail else .new [.mem [List.replicate cs.length .hole] 0 false] (.ret (.vb (d, 0) 0 0 cs)) := rfl
theorem Uf (n : Nat) (id : Id) (st : Nat) (cs : List V) : WF n (.ptr id [] 0 0 1 st) (.agg cs) = if cs.length = n ∧ cs.all V.one = true then .get id (WE id n cs) else .fail := rfl
theorem X7 (n : Nat) (id : Id) (st : Nat) (cs0 cs : List V) : WF n (.vb id 0 st cs0) (.agg cs) = if cs.length = n ∧ cs.all V.one = true then .get id (WE id n cs) else .fail := rfl
theorem Ug (id : Id) (n : Nat) (cs : List V) (row : List T) (stt : Nat) (fx : Bool) : WE id n cs (.mem [row] stt fx) = if row.length = n then .set id (.mem [List.replicate n .hole] (stt + 1) fx) (.ret (.vb id 0 (stt + 1) cs)) else .fail := rfl
theorem ae (c : T) : V.one (.t c) = true := rfl
theorem X8 : V.one .nil = true := rfl
theorem X9 (id : Id) (n : Nat) : V.one (.ref id n) = true := rfl
theorem XA (id : Id) (p : AE) (i c n st : Nat) : V.one (.sub id p i c n st) = true := rfl
theorem ZQ (n : Nat) (ag : Bool) (cs : List T) : ldV n ag (.pp cs) = if n ≤ cs.length then Jh ag ((cs.take n).map V.t) else .fail := rfl
theorem XB (n : Nat) (ag : Bool) (id : Id) (p : AE) (i off m st : Nat) (rows : Rows) (stt : Nat) (fx : Bool) : ldE n ag id p i off m st (.mem rows stt fx) = AW (BG rows stt p i m st) fun row => if off + n ≤ row.length then Jh ag (E8 id p i off stt ((row.drop off).take n)) else .fail := rfl
theorem XC (id : Id) (p : AE) (i off m st n : Nat) (ts : List T) (rows : Rows) (stt : Nat) (fx : Bool) : stE id p i off m st n ts (.mem rows stt fx) = AW (BG rows stt p i m st) fun row => if ts.length = n ∧ off + n ≤ row.length then .set id (.mem (Cl rows p i off ts) (stt + 1) fx) (.ret .dead) else .fail := rfl
theorem QI (rows : Rows) (p : AE) (i c : Nat) : Cl rows p i c [] = rows := rfl
theorem QJ (rows : Rows) (p : AE) (i c : Nat) (t : T) (ts : List T) : Cl rows p i c (t :: ts) = Cl (AO rows p i c t) p i (c + 1) ts := rfl
theorem Uh (rows : Rows) (i c : Nat) (t : T) : AO rows [] i c t = CC rows i c t := rfl
theorem S6 (row : List T) (c : Nat) (t : T) : CC [row] 0 c t = [row.set c t] := rfl
theorem S7 (a : Id) (b : AE) (c d e f : Nat) : R1 (.ptr a b c d e f) = .ret (.ptr a b c d e f) := rfl
theorem Ui (cs : List T) : R1 (.pp cs) = .ret (.pp cs) := rfl
theorem Uj (f : FuncId) (caps : List V) : R1 (.fn f caps) = .ret (.fn f caps) := rfl
theorem Uk (d : Nat) (z : List T) (byt : Nat) (k : IntKind) (n : Int) : Z1 d z byt (.t (.v (.int k n))) = AW (mkN n byt) fun m => .new [.mem (List.replicate m z) 0 false] (.ret (.ref (d, 0) m)) := rfl
theorem ZR (sz : Nat) (row : List T) : iaP sz row = if row.length = sz then .ret (.pp row) else .fail := rfl
theorem XD (sz : Nat) (id : Id) (p : AE) (n m st : Nat) (row : List T) : iaK sz id p n m st row = if row.length = sz then .ret (.ptr id p n 0 m st) else .fail := rfl
theorem ZS (sz : Nat) (id : Id) (p : AE) (n : Int) (m st : Nat) (rows : Rows) : iaS sz id p n m st rows = if rows.length = m then AW (getI rows n) (iaK sz id p n.toNat m st) else .fail := rfl
theorem XE (sz : Nat) (id : Id) (m : Nat) (n : Int) (rows : Rows) (st : Nat) (fx : Bool) : iaE sz id m n (.mem rows st fx) = iaS sz id [] n m 0 rows := rfl
theorem ZT (d : Nat) (md : List Md) (own : List Bool) (args : List V) (f : FuncId) (caps : List V) : cvv d md own args (.fn f caps) = Gf d f (md ++ (caps.map fun _ => Md.ref)) own (args ++ caps) := rfl
def R4 (d : Nat) (own : List Bool) (ps : List PA) (bs : List BK) (res : BU) : M V :=
 if (ps.any PA.reads) && !res.allOwn then .fail else BQ bs res.after
  (let a := CQ d 0 own res.vals; if a.2.isEmpty then .ret (FZ a.1) else .new a.2 (.ret (FZ a.1)))
def Xw (d : Nat) (f : FuncId) (own : List Bool) (ps : List PA) (bs : List BK) : M V :=
 if !Am (AK bs) then .fail else F3 ps fun as => .call f as (R4 d own ps bs)
theorem S8 (d : Nat) (f : FuncId) (md : List Md) (own : List Bool) (args : List V) : Gf d f md own args = CW md args (Xw d f own) := rfl
theorem Ul (d : Nat) (f : FuncId) (own : List Bool) (ps : List PA) (bs : List BK) : Xw d f own ps bs = if !Am (AK bs) then .fail else F3 ps fun as => .call f as (R4 d own ps bs) := rfl
def ZU (as : List V) : List BO → M V
 | [] => .ret (FZ as)
 | e :: es => .new (e :: es) (.ret (FZ as))
theorem Um (d : Nat) (own : List Bool) (ps : List PA) (bs : List BK) (vals : List RV) (after : List (Option Rows)) : R4 d own ps bs ⟨vals, after⟩ =
  if (ps.any PA.reads) && !(BU.mk vals after).allOwn then .fail else BQ bs after (ZU (CQ d 0 own vals).1 (CQ d 0 own vals).2) := by
 simp only [R4]
 congr 2
 generalize CQ d 0 own vals = a
 obtain ⟨a, b⟩ := a
 cases b <;> rfl
theorem Un (as : List V) : ZU as [] = .ret (FZ as) := rfl
theorem S9 (as : List V) (e : BO) (es : List BO) : ZU as (e :: es) = .new (e :: es) (.ret (FZ as)) := rfl
theorem SA (v : V) : FZ [v] = v := rfl
theorem SB (v w : V) (vs : List V) : FZ (v :: w :: vs) = .tup (v :: w :: vs) := rfl
theorem SC : FZ [] = .tup [] := rfl
theorem ZV (d : Nat) (own : Bool) (k : Nat) (x : Value) : Gb d own k (.v x) = (.t (.v x), []) := rfl
theorem ZW (d k : Nat) (o : Bool) (rows : Rows) : Gb d false k (.sl o rows) = (.t (.sl false (AG rows)), []) := rfl
theorem ZX (d k : Nat) (rows : Rows) : Gb d true k (.sl true rows) = (.ref (d, k) rows.length, [.mem rows 0 false]) := rfl
theorem ZY (d k : Nat) (rows : Rows) : Gb d true k (.sl false rows) = (.t (.sl false (AG rows)), []) := rfl
theorem Uo (d : Nat) (own : Bool) (k : Nat) : K5 d own k [] = ([], []) := rfl
theorem SD (d : Nat) (own : Bool) (k : Nat) (t : T) (ts : List T) : K5 d own k (t :: ts) = ((Gb d own k t).1 :: (K5 d own (k + (Gb d own k t).2.length) ts).1, (Gb d own k t).2 ++ (K5 d own (k + (Gb d own k t).2.length) ts).2) := rfl
theorem XF (d : Nat) (own : Bool) (k : Nat) (c : T) : Eb d own k (.t c) = Gb d own k c := rfl
theorem SE (d : Nat) (own : Bool) (k : Nat) (cs : List T) : Eb d own k (.agg cs) = (.agg (K5 d own k cs).1, (K5 d own k cs).2) := rfl
theorem SG (d : Nat) (own : Bool) (k : Nat) (cells : List T) : Eb d own k (.box cells) = (.ptr (d, k) [] 0 0 1 0, [.mem [cells] 0 false]) := rfl
theorem QK (d k : Nat) (own : List Bool) : CQ d k own [] = ([], []) := by cases own <;> rfl
theorem Ol (d k : Nat) (o : Bool) (own : List Bool) (v : RV) (vs : List RV) : CQ d k (o :: own) (v :: vs) = ((Eb d o k v).1 :: (CQ d (k + (Eb d o k v).2.length) own vs).1, (Eb d o k v).2 ++ (CQ d (k + (Eb d o k v).2.length) own vs).2) := rfl
theorem Up (d k : Nat) (v : RV) (vs : List RV) : CQ d k [] (v :: vs) = ((Eb d false k v).1 :: (CQ d (k + (Eb d false k v).2.length) [] vs).1, (Eb d false k v).2 ++ (CQ d (k + (Eb d false k v).2.length) [] vs).2) := rfl
theorem GF {α : Type} (f g : α → List T) (h : ∀ x, D7 (f x) = g x) (l : List α) : AG (l.map f) = l.map g := by
 induction l with
 | nil => rfl
 | cons a l ih => simp only [List.map_cons, AG, h, ih]
theorem NE (l : List Int) : AG (l.map rI) = l.map rI := GF _ _ (fun _ => rfl) l
theorem QL (k : IntKind) (l : List Int) : AG (l.map (rK k)) = l.map (rK k) := GF _ _ (fun _ => rfl) l
theorem QM (l : List ByteArray) : AG (l.map rS) = l.map rS := GF _ _ (fun _ => rfl) l
theorem QN (l : List Bool) : AG (l.map rB) = l.map rB := GF _ _ (fun _ => rfl) l
theorem NF (o : Bool) (l : List (List Int)) : AG (l.map (rL o rI)) = l.map (rL false rI) := GF _ _ (fun x => by simp only [rL, D7, frz, NE]) l
theorem GH {α : Type} (f : α → List T) (h : ∀ x, Cf (f x) = true) (l : List α) : Au (l.map f) = true := by
 induction l with
 | nil => rfl
 | cons a l ih => simp only [List.map_cons, Au, h, ih, Bool.and_self]
theorem NG (l : List Int) : Au (l.map rI) = true := GH _ (fun _ => rfl) l
theorem QO (k : IntKind) (l : List Int) : Au (l.map (rK k)) = true := GH _ (fun _ => rfl) l
theorem QP (l : List ByteArray) : Au (l.map rS) = true := GH _ (fun _ => rfl) l
theorem QQ (l : List Bool) : Au (l.map rB) = true := GH _ (fun _ => rfl) l
theorem NH (l : List (List Int)) : Au (l.map (rL true rI)) = true := GH _ (fun x => by simp only [rL, Cf, allOwn, NG, Bool.and_self]) l
theorem ZZ (vals : List RV) (after : List (Option Rows)) : (BU.mk vals after).allOwn = (vals.all RV.allOwn && after.all fun o => match o with | some rows => Au rows | none => true) := rfl
theorem FN {α : Type} (f : α → List T) (sz : Nat) (h : ∀ x, (f x).length = sz) (l : List α) : ((l.map f).all fun r => r.length == sz) = true := by
 simp [List.all_map, h]
theorem Za (l : List Int) : ((l.map rI).all fun r => r.length == 1) = true := FN _ _ (fun x => by rfl) l
theorem Zb (k : IntKind) (l : List Int) : ((l.map (rK k)).all fun r => r.length == 1) = true := FN _ _ (fun x => by rfl) l
theorem Zc (l : List ByteArray) : ((l.map rS).all fun r => r.length == 1) = true := FN _ _ (fun x => by rfl) l
theorem Zd (l : List Bool) : ((l.map rB).all fun r => r.length == 1) = true := FN _ _ (fun x => by rfl) l
theorem Ze {α : Type} (o : Bool) (f : α → List T) (l : List (List α)) : ((l.map (rL o f)).all fun r => r.length == 1) = true := FN _ _ (fun x => by rfl) l
theorem af (ts : List Nat) (c : T) : V.mentions ts (.t c) = false := by simp only [V.mentions]
theorem XG (ts : List Nat) : V.mentions ts .nil = false := by simp only [V.mentions]
theorem Uq (ts : List Nat) : V.mentions ts .dead = false := by simp only [V.mentions]
theorem Zf (ts : List Nat) (c : List T) : V.mentions ts (.pp c) = false := by simp only [V.mentions]
theorem Zg {α : Type} (c : T) (k : RV → M α) : K7 (.t c) k = k (.t c) := rfl
theorem Ur {α : Type} (k : RV → M α) : K7 .nil k = k (.t (.sl true [])) := rfl
theorem Us {α : Type} (id : Id) (n : Nat) (k : RV → M α) : K7 (.ref id n) k = take (.ref id n) fun t => k (.t t) := rfl
theorem Zh {α : Type} (c : T) (k : T → M α) : Nc (.t c) k = k c := rfl
theorem Ut {α : Type} (id : Id) (n : Nat) (k : T → M α) : Nc (.ref id n) k = take (.ref id n) k := rfl
theorem Zi (c : T) : V.isDead (.t c) = false := rfl
theorem Uu : V.isDead .nil = false := rfl
theorem Uv (cs : List V) : V.isDead (.agg cs) = false := rfl
theorem Uw (id : Id) (n : Nat) : V.isDead (.ref id n) = false := rfl
theorem Ux (id : Id) (p : AE) (i c n st : Nat) : V.isDead (.sub id p i c n st) = false := rfl
theorem Uy (id : Id) (p : AE) (i off n st : Nat) : V.isDead (.ptr id p i off n st) = false := rfl
theorem XH (cs : List T) : V.isDead (.pp cs) = false := rfl
theorem XI (f : FuncId) (caps : List V) : V.isDead (.fn f caps) = false := rfl
theorem XJ (k : IntKind) (a b : Int) : eqK .int (.t (.v (.int k a))) (.t (.v (.int k b))) = some (Ja a b) := by simp [eqK, Ja]
theorem XK (a b : ByteArray) : eqK .str (.t (.v (.string a))) (.t (.v (.string b))) = some (eqS a b) := rfl
theorem Uz (a b : Bool) : eqK .bool (.t (.v (.bool a))) (.t (.v (.bool b))) = some (Hw a b) := rfl
theorem QR (n : Int) (rs : Rows) : Ai ([.v (.int .u8 n)] :: rs) = (Ai rs).map fun l => UInt8.ofNat n.toNat :: l := by simp [Ai]
end TT
