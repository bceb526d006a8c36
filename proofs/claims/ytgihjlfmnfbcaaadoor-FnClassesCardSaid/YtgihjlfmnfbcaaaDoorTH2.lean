import Derived.Test.YtgihjlfmnfbcaaaDoorTH1
set_option linter.unusedVariables false
set_option linter.unusedSimpArgs false
namespace TT
open Go
def wr (k : IntKind) (a : Int) : Int := k.wrap a
def C1 (a b : Int) : Int := IntKind.i64.wrap (a + b)
def Mw (a b : Int) : Int := IntKind.i64.wrap (a - b)
def HM (a b : Int) : Int := IntKind.i64.wrap (a * b)
def ay (a : Int) : Int := IntKind.i64.wrap (0 - a)
def YW (a b : Int) : Option Int := if b = 0 then none else some (IntKind.i64.wrap (a.tdiv b))
def E5 (a b : Int) : Option Int := if b = 0 then none else some (a.tmod b)
def J1 (a b : Int) : Bool := decide (a < b)
def Rc (a b : Int) : Bool := decide (a ≤ b)
def Rd (a b : Int) : Bool := decide (a > b)
def ST (a b : Int) : Bool := decide (a ≥ b)
def Ja (a b : Int) : Bool := a == b
def neI (a b : Int) : Bool := a != b
def Pj (x y : ByteArray) : Option ByteArray := if x.size + y.size ≤ 9223372036854775807 then some (x ++ y) else none
def eqS (x y : ByteArray) : Bool := x.toList == y.toList
def neS (x y : ByteArray) : Bool := !(x.toList == y.toList)
def ltS (x y : ByteArray) : Bool := Op.bytesLess x.toList y.toList
def leS (x y : ByteArray) : Bool := Op.bytesLess x.toList y.toList || x.toList == y.toList
def gtS (x y : ByteArray) : Bool := !(Op.bytesLess x.toList y.toList || x.toList == y.toList)
def geS (x y : ByteArray) : Bool := !(Op.bytesLess x.toList y.toList)
def Hw (a b : Bool) : Bool := a == b
def neB (a b : Bool) : Bool := !(a == b)
def aL (a b : Int) : Int := if b < a then b else a
def aM (a b : Int) : Int := if a < b then b else a
def Bg (x : ByteArray) : Int := x.size
def Be {α : Type} (l : List α) : Int := l.length
def aN (n : Int) : ByteArray := Utf8.encode n
def getI {α : Type} (l : List α) (i : Int) : Option α := if 0 ≤ i then l[i.toNat]? else none
def atS (s : ByteArray) (i : Int) : Option Int := if h : 0 ≤ i ∧ i.toNat < s.size then some (s[i.toNat]'h.2).toNat else none
def Re (s : ByteArray) (l h : Int) : Option ByteArray := if 0 ≤ l ∧ l ≤ h ∧ h ≤ s.size then some (s.extract l.toNat h.toNat) else none
def slL {α : Type} (s : List α) (l h : Int) : Option (List α) := if 0 ≤ l ∧ l ≤ h ∧ h ≤ s.length then some ((s.drop l.toNat).take (h.toNat - l.toNat)) else none
def mkN (n : Int) (byt : Nat) : Option Nat := if 0 ≤ n ∧ n.toNat * byt ≤ LJ ∧ 0 < byt then some n.toNat else none
def room (n byt : Nat) : Option Unit := if n * byt ≤ LJ ∧ 0 < byt then some () else none
def rI (x : Int) : List T := [.v (.int .i64 x)]
def rK (k : IntKind) (x : Int) : List T := [.v (.int k x)]
def rS (x : ByteArray) : List T := [.v (.string x)]
def rB (x : Bool) : List T := [.v (.bool x)]
def rL {α : Type} (o : Bool) (f : α → List T) (l : List α) : List T := [.sl o (l.map f)]
def Ok {ρ : Type} (x : Option ρ) (e : ρ → BU) (y : Option BU) : Prop := ∀ r, x = some r → y = some (e r)
theorem YX {ρ : Type} {r : ρ} {e : ρ → BU} {y : Option BU} (h : y = some (e r)) : Ok (some r) e y := fun r' h' => by cases h'; exact h
theorem Vx {ρ : Type} {e : ρ → BU} {y : Option BU} : Ok none e y := fun r' h' => by cases h'
theorem aO {ρ : Type} {b : Bool} {x x' : Option ρ} {e : ρ → BU} {y : Option BU} (h1 : b = true → Ok x e y) (h2 : b = false → Ok x' e y) : Ok (if b then x else x') e y := by
 cases b
 ·exact h2 rfl
 ·exact h1 rfl
theorem Bt {α ρ : Type} {p : Option α} {f : α → Option ρ} {e : ρ → BU} {y : Option BU} (h : ∀ a, p = some a → Ok (f a) e y) : Ok (p >>= f) e y := fun r hr => by
 obtain ⟨a, h1, h2⟩ := Option.bind_eq_some_iff.1 hr
 exact h a h1 r h2
theorem AI {β ρ : Type} {g : Option β} {f : β → Option ρ} {e : ρ → BU} {e' : β → BU} {Y : Option BU} {k : BU → Option BU} (hg : Ok g e' Y) (h : ∀ v, Ok (f v) e (k (e' v))) : Ok (g >>= f) e (Y.bind k) := fun r hr => by
 obtain ⟨a, h1, h2⟩ := Option.bind_eq_some_iff.1 hr
 rw [hg a h1]
 exact h a r h2
section
def Gd (k : IntKind) (a b : Int) : Int := Go.bits .and k a b
def orK (k : IntKind) (a b : Int) : Int := Go.bits .or k a b
def Tb (k : IntKind) (a b : Int) : Int := Go.bits .xor k a b
def R0 (k : IntKind) (a b : Int) : Int := Go.bits .andNot k a b
def Vy (k : IntKind) (a b : Int) : Int := k.wrap (a + b)
def Vz (k : IntKind) (a b : Int) : Int := k.wrap (a - b)
def W0 (k : IntKind) (a b : Int) : Int := k.wrap (a * b)
def YY (k : IntKind) (a b : Int) : Option Int := if b = 0 then none else some (k.wrap (a.tdiv b))
def az (k : IntKind) (a b : Int) : Option Int := if b = 0 then none else some (k.wrap (a.tmod b))
def YZ (k : IntKind) (a b : Int) : Option Int := if b < 0 then none else some (k.wrap (a * 2 ^ (min b.toNat k.bits)))
def Pk (k : IntKind) (a b : Int) : Option Int := if b < 0 then none else some (a.fdiv (2 ^ (min b.toNat k.bits)))
theorem W1 (k : IntKind) (a b : Int) : B4 .and (.int k a) (.int k b) = some (.int k (Gd k a b)) := by simp [B4, FH, Gd]
theorem Ya (k : IntKind) (a b : Int) : B4 .or (.int k a) (.int k b) = some (.int k (orK k a b)) := by simp [B4, FH, orK]
theorem W2 (k : IntKind) (a b : Int) : B4 .xor (.int k a) (.int k b) = some (.int k (Tb k a b)) := by simp [B4, FH, Tb]
theorem Pl (k : IntKind) (a b : Int) : B4 .andNot (.int k a) (.int k b) = some (.int k (R0 k a b)) := by simp [B4, FH, R0]
theorem W3 (k k' : IntKind) (a b : Int) : B4 .shl (.int k a) (.int k' b) = (YZ k a b).map (Value.int k) := by simp only [B4, YZ]; split <;> rfl
theorem W4 (k k' : IntKind) (a b : Int) : B4 .shr (.int k a) (.int k' b) = (Pk k a b).map (Value.int k) := by simp only [B4, Pk]; split <;> rfl
theorem Pm (a b : Int) : B4 .add (.int .u8 a) (.int .u8 b) = some (.int .u8 (Vy .u8 a b)) := rfl
theorem Pn (a b : Int) : B4 .sub (.int .u8 a) (.int .u8 b) = some (.int .u8 (Vz .u8 a b)) := rfl
theorem Po (a b : Int) : B4 .mul (.int .u8 a) (.int .u8 b) = some (.int .u8 (W0 .u8 a b)) := rfl
theorem OL (a b : Int) : B4 .add (.int .i32 a) (.int .i32 b) = some (.int .i32 (Vy .i32 a b)) := rfl
theorem OM (a b : Int) : B4 .sub (.int .i32 a) (.int .i32 b) = some (.int .i32 (Vz .i32 a b)) := rfl
theorem ON (a b : Int) : B4 .mul (.int .i32 a) (.int .i32 b) = some (.int .i32 (W0 .i32 a b)) := rfl
theorem OO (a b : Int) : B4 .add (.int .u32 a) (.int .u32 b) = some (.int .u32 (Vy .u32 a b)) := rfl
theorem OP (a b : Int) : B4 .sub (.int .u32 a) (.int .u32 b) = some (.int .u32 (Vz .u32 a b)) := rfl
theorem OQ (a b : Int) : B4 .mul (.int .u32 a) (.int .u32 b) = some (.int .u32 (W0 .u32 a b)) := rfl
theorem OR (a b : Int) : B4 .add (.int .u64 a) (.int .u64 b) = some (.int .u64 (Vy .u64 a b)) := rfl
theorem OS (a b : Int) : B4 .sub (.int .u64 a) (.int .u64 b) = some (.int .u64 (Vz .u64 a b)) := rfl
theorem OT (a b : Int) : B4 .mul (.int .u64 a) (.int .u64 b) = some (.int .u64 (W0 .u64 a b)) := rfl
theorem W5 (a b : Int) : B4 .add (.int .i64 a) (.int .i64 b) = some (.int .i64 (C1 a b)) := rfl
theorem W6 (a b : Int) : B4 .sub (.int .i64 a) (.int .i64 b) = some (.int .i64 (Mw a b)) := rfl
theorem W7 (a b : Int) : B4 .mul (.int .i64 a) (.int .i64 b) = some (.int .i64 (HM a b)) := rfl
theorem W8 (a b : Int) : B4 .quo (.int .i64 a) (.int .i64 b) = (YW a b).map (Value.int .i64) := by simp only [B4, FH, YW, if_true]; split <;> rfl
theorem OU (a b : Int) : B4 .quo (.int .u64 a) (.int .u64 b) = (YY .u64 a b).map (Value.int .u64) := by simp only [B4, FH, YY, if_true]; split <;> rfl
theorem W9 (a b : Int) : B4 .rem (.int .i64 a) (.int .i64 b) = (E5 a b).map (Value.int .i64) := by simp only [B4, FH, E5, if_true]; split <;> rfl
theorem Yb (k : IntKind) (a b : Int) : B4 .lss (.int k a) (.int k b) = some (.bool (J1 a b)) := by simp only [B4, FH, J1, if_true]
theorem Yc (k : IntKind) (a b : Int) : B4 .leq (.int k a) (.int k b) = some (.bool (Rc a b)) := by simp only [B4, FH, Rc, if_true]
theorem Yd (k : IntKind) (a b : Int) : B4 .gtr (.int k a) (.int k b) = some (.bool (Rd a b)) := by simp only [B4, FH, Rd, if_true]
theorem Ye (k : IntKind) (a b : Int) : B4 .geq (.int k a) (.int k b) = some (.bool (ST a b)) := by simp only [B4, FH, ST, if_true]
theorem Yf (k : IntKind) (a b : Int) : B4 .eql (.int k a) (.int k b) = some (.bool (Ja a b)) := by simp only [B4, FH, Ja, if_true]
theorem Yg (k : IntKind) (a b : Int) : B4 .neq (.int k a) (.int k b) = some (.bool (neI a b)) := by simp only [B4, FH, neI, if_true]
theorem WA (a b : ByteArray) : B4 .add (.string a) (.string b) = (Pj a b).map Value.string := by simp only [B4, SV, Pj]; split <;> rfl
theorem Yh (a b : ByteArray) : B4 .eql (.string a) (.string b) = some (.bool (eqS a b)) := rfl
theorem Yi (a b : ByteArray) : B4 .neq (.string a) (.string b) = some (.bool (neS a b)) := rfl
theorem Yj (a b : ByteArray) : B4 .lss (.string a) (.string b) = some (.bool (ltS a b)) := rfl
theorem Yk (a b : ByteArray) : B4 .leq (.string a) (.string b) = some (.bool (leS a b)) := rfl
theorem Yl (a b : ByteArray) : B4 .gtr (.string a) (.string b) = some (.bool (gtS a b)) := rfl
theorem Ym (a b : ByteArray) : B4 .geq (.string a) (.string b) = some (.bool (geS a b)) := rfl
end
def AW {α β : Type} : Option α → (α → M β) → M β
 | some a, k => k a
 | none, _ => .fail
section
variable (s : List V) (d : Nat)
theorem Yn (x : An) : AL s d (.mv x) = .ret (A1 s x) := rfl
def Tc (c a b : V) : M V := match c with
 | .t (.v (.bool t)) => .ret (if t then a else b)
 | _ => .fail
theorem Td (c a b : An) : AL s d (.pick c a b) = Tc (A1 s c) (A1 s a) (A1 s b) := rfl
theorem WB (a b : V) : Tc (.t (.v (.bool true))) a b = .ret a := rfl
theorem WC (a b : V) : Tc (.t (.v (.bool false))) a b = .ret b := rfl
theorem Rf (z : List T) : AL s d (.alloc z) = .new [.mem [z] 0 false] (.ret (.ptr (d, 0) [] 0 0 1 0)) := rfl
theorem WD (x : An) : AL s d (.box x) = Bv (cellsOf (A1 s x)) fun ts => if ts.isEmpty then .fail else .new [.mem [ts] 0 false] (.ret (.ptr (d, 0) [] 0 0 1 0)) := rfl
def aP (d : Nat) : V → M V
 | .agg cs => if cs.isEmpty || !cs.all V.one then .fail else .new [.mem [List.replicate cs.length .hole] 0 false] (.ret (.vb (d, 0) 0 0 cs))
 | _ => .fail
theorem Te (x : An) : AL s d (.vbox x) = aP d (A1 s x) := by
 simp only [AL]; generalize A1 s x = v; cases v <;> rfl
def WE (id : Id) (n : Nat) (cs : List V) : BO → M V
 | .mem [row] stt fx => if row.length = n then .set id (.mem [List.replicate n .hole] (stt + 1) fx) (.ret (.vb id 0 (stt + 1) cs)) else .fail
 | _ => .fail
def WF (n : Nat) (x y : V) : M V := match JG x, y with
 | some id, .agg cs => if cs.length = n ∧ cs.all V.one = true then .get id (WE id n cs) else .fail
 | _, _ => .fail
theorem WG (n : Nat) (x y : An) : AL s d (.vst n x y) = WF n (A1 s x) (A1 s y) := by
 simp only [AL]
 generalize A1 s x = v
 generalize A1 s y = u
 simp only [WF]
 generalize JG v = q
 cases q with
 | none => rfl
 | some id =>
  cases u <;> try rfl
def zV : T → V
 | .sl true [] => .nil
 | c => .t c
theorem Rg (z : List T) (parts : List (Nat × Nat × An)) : AL s d (.build z parts) = AW (Qm s (z.map zV) parts) fun cs => .ret (.agg cs) := by
 have e : AL s d (.build z parts) = match Qm s (z.map zV) parts with | some cs => .ret (.agg cs) | none => .fail := rfl
 rw [e]
 cases Qm s (z.map zV) parts <;> rfl
def aQ (d sz : Nat) (rs : Rows) : M V := if rs.all fun r => r.length == sz then .new [.mem rs 0 false] (.ret (.ref (d, 0) rs.length)) else .fail
theorem WH (sz : Nat) (parts : List An) : AL s d (.bsl sz parts) = At (parts.map fun q => cellsOf (A1 s q)) (aQ d sz) := rfl
def Xr (d sz : Nat) (rs : Rows) : M V := if rs.all fun r => r.length == sz then .new [.mem rs 0 false] (.set (d, 0) .dead (.ret (.t (.sl false (AG rs))))) else .fail
theorem Tf (sz : Nat) (parts : List An) : AL s d (.bslz sz parts) = At (parts.map fun q => cellsOf (A1 s q)) (Xr d sz) := rfl
def Jh (ag : Bool) (vs : List V) : M V := if ag then .ret (.agg vs) else match vs with | [v] => .ret v | _ => .fail
theorem WI (vs : List V) : Jh true vs = .ret (.agg vs) := rfl
theorem Tg (v : V) : Jh false [v] = .ret v := rfl
def ldE (n : Nat) (ag : Bool) (id : Id) (p : AE) (i off m st : Nat) : BO → M V
 | .mem rows stt _ => AW (BG rows stt p i m st) fun row => if off + n ≤ row.length then Jh ag (E8 id p i off stt ((row.drop off).take n)) else .fail
 | .dead => .fail
def ldX (n : Nat) (ag : Bool) (off st : Nat) (cs : List V) : BO → M V
 | .mem rows stt _ => if (st = stt ∧ rows.length = 1) ∧ off + n ≤ cs.length then Jh ag ((cs.drop off).take n) else .fail
 | .dead => .fail
def ldV (n : Nat) (ag : Bool) : V → M V
 | .ptr id p i off m st => .get id (ldE n ag id p i off m st)
 | .vb id off st cs => .get id (ldX n ag off st cs)
 | .pp cs => if n ≤ cs.length then Jh ag ((cs.take n).map V.t) else .fail
 | _ => .fail
theorem Yo (n : Nat) (ag : Bool) (x : An) : AL s d (.ld n ag x) = ldV n ag (A1 s x) := by
 simp only [AL]
 generalize A1 s x = v
 cases v <;> try rfl
 ·simp only [ldV]
  congr 1
  funext e
  cases e <;> try rfl
  simp only [ldE]
  generalize BG _ _ _ _ _ _ = o
  cases o <;> rfl
 ·simp only [ldV]
  congr 1
  funext e
  cases e <;> rfl
def stE (id : Id) (p : AE) (i off m st n : Nat) (ts : List T) : BO → M V
 | .mem rows stt fx => AW (BG rows stt p i m st) fun row => if ts.length = n ∧ off + n ≤ row.length then .set id (.mem (Cl rows p i off ts) (stt + 1) fx) (.ret .dead) else .fail
 | .dead => .fail
def stV (n : Nat) (x y : V) : M V := match x with
 | .ptr id p i off m st => Bv (cellsOf y) fun ts => .get id (stE id p i off m st n ts)
 | _ => .fail
theorem WJ (n : Nat) (id : Id) (p : AE) (i off m st : Nat) (y : V) : stV n (.ptr id p i off m st) y = Bv (cellsOf y) fun ts => .get id (stE id p i off m st n ts) := rfl
theorem Yp (n : Nat) (x y : An) : AL s d (.st n x y) = stV n (A1 s x) (A1 s y) := by
 simp only [AL]
 generalize A1 s x = v
 cases v <;> try rfl
 simp only [stV]
 congr 1
 funext ts
 congr 1
 funext e
 cases e <;> try rfl
 simp only [stE]
 generalize BG _ _ _ _ _ _ = o
 cases o <;> rfl
def WK (id : Id) (p : AE) (i off m st : Nat) (ts : List T) : BO → M V
 | .mem rows stt fx => AW (BG rows stt p i m st) fun row => if ts.length = 1 ∧ off + 1 ≤ row.length then .set id (.mem (Cl rows p i off ts) (stt + 1) fx) (.ret (Mc id p i off (stt + 1) ts)) else .fail
 | .dead => .fail
theorem Th (id : Id) (p : AE) (i off m st : Nat) (ts : List T) (rows : Rows) (stt : Nat) (fx : Bool) : WK id p i off m st ts (.mem rows stt fx) = AW (BG rows stt p i m st) fun row => if ts.length = 1 ∧ off + 1 ≤ row.length then .set id (.mem (Cl rows p i off ts) (stt + 1) fx) (.ret (Mc id p i off (stt + 1) ts)) else .fail := rfl
def Yq (x y : V) : M V := match x, y with
 | .ptr id p i off m st, .ref id2 n2 => Bv [.ref id2 n2] fun ts => .get id (WK id p i off m st ts)
 | _, _ => .fail
theorem Ti (id : Id) (p : AE) (i off m st : Nat) (id2 : Id) (n2 : Nat) : Yq (.ptr id p i off m st) (.ref id2 n2) = Bv [.ref id2 n2] fun ts => .get id (WK id p i off m st ts) := rfl
theorem WL (id : Id) (p : AE) (i off st : Nat) (rs : Rows) : Mc id p i off st [.sl true rs] = .sub id p i off rs.length st := rfl
theorem WM (x y : An) : AL s d (.stk x y) = Yq (A1 s x) (A1 s y) := by
 simp only [AL]
 generalize A1 s x = v
 generalize A1 s y = u
 cases v <;> cases u <;> try rfl
 simp only [Yq]
 congr 1
 funext ts
 congr 1
 funext e
 cases e with
 | dead => rfl
 | mem rows stt fx =>
  simp only [WK]
  cases BG rows stt _ _ _ _ <;> rfl
theorem aR : zV (.sl false []) = .t (.sl false []) := rfl
def R1 : V → M V
 | .ptr a b c d e f => .ret (.ptr a b c d e f)
 | .vb a b c d => .ret (.vb a b c d)
 | .pp cs => .ret (.pp cs)
 | .fn f caps => .ret (.fn f caps)
 | _ => .fail
theorem Tj (x : An) : AL s d (.nilc x) = R1 (A1 s x) := by
 simp only [AL]; generalize A1 s x = v; cases v <;> rfl
def Yr (op : BinOp) (x y : V) : M V := match x, y with
 | .t (.v a), .t (.v b) => AW (B4 op a b) fun r => .ret (.t (.v r))
 | _, _ => .fail
theorem Ys (op : BinOp) (a b : Value) : Yr op (.t (.v a)) (.t (.v b)) = AW (B4 op a b) fun r => .ret (.t (.v r)) := rfl
theorem WN (op : BinOp) (x y : An) : AL s d (.bin op x y) = Yr op (A1 s x) (A1 s y) := by
 simp only [AL]
 generalize A1 s x = a
 generalize A1 s y = b
 cases a <;> try rfl
 rename_i a; cases a <;> try rfl
 cases b <;> try rfl
 rename_i b; cases b <;> try rfl
 rename_i a b
 simp only [Yr]
 cases B4 op a b <;> rfl
def Yt (ne : Bool) (ks : List FK) (x y : V) : M V := match x, y with
 | .agg as, .agg bs => AW (Ir ks as bs) fun r => .ret (.t (.v (.bool (if ne then !r else r))))
 | _, _ => .fail
theorem Tk (ne : Bool) (ks : List FK) (as bs : List V) : Yt ne ks (.agg as) (.agg bs) = AW (Ir ks as bs) fun r => .ret (.t (.v (.bool (if ne then !r else r)))) := rfl
theorem WO (ne : Bool) (ks : List FK) (x y : An) : AL s d (.eqs ne ks x y) = Yt ne ks (A1 s x) (A1 s y) := by
 simp only [AL]
 generalize A1 s x = a
 generalize A1 s y = b
 cases a <;> try rfl
 cases b <;> try rfl
 rename_i a b
 simp only [Yt]
 cases Ir ks a b <;> rfl
def Yu (ne : Bool) (x y : V) : M V := match x, y with
 | .t (.v (.bool a)), .t (.v (.bool b)) => .ret (.t (.v (.bool (if ne then neB a b else Hw a b))))
 | _, _ => .fail
theorem Yv (a b : Bool) : Yu false (.t (.v (.bool a))) (.t (.v (.bool b))) = .ret (.t (.v (.bool (Hw a b)))) := rfl
theorem Yw (a b : Bool) : Yu true (.t (.v (.bool a))) (.t (.v (.bool b))) = .ret (.t (.v (.bool (neB a b)))) := rfl
theorem WP (ne : Bool) (x y : An) : AL s d (.beq ne x y) = Yu ne (A1 s x) (A1 s y) := rfl
def WQ (ne : Bool) : V → M V
 | .nil => .ret (.t (.v (.bool (!ne))))
 | .t (.v (.slice q _ _)) => .ret (.t (.v (.bool (if ne then !q.isNone else q.isNone))))
 | .t (.sl _ (_ :: _)) => .ret (.t (.v (.bool ne)))
 | _ => .fail
theorem Tl (ne : Bool) : WQ ne .nil = .ret (.t (.v (.bool (!ne)))) := rfl
theorem Yx (ne : Bool) (q : Option Addr) (n c : Nat) : WQ ne (.t (.v (.slice q n c))) = .ret (.t (.v (.bool (if ne then !q.isNone else q.isNone)))) := rfl
theorem Yy (ne o : Bool) (r : List T) (rs : Rows) : WQ ne (.t (.sl o (r :: rs))) = .ret (.t (.v (.bool ne))) := rfl
theorem WR (ne : Bool) (x : An) : AL s d (.eqn ne x) = WQ ne (A1 s x) := by
 simp only [AL]
 generalize A1 s x = v
 cases v <;> try rfl
def unV (op : UnOp) (x : V) : M V := match op, x with
 | .not, .t (.v (.bool b)) => .ret (.t (.v (.bool (!b))))
 | .neg, .t (.v (.int k n)) => .ret (.t (.v (.int k (k.wrap (0 - n)))))
 | _, _ => .fail
theorem WS (b : Bool) : unV .not (.t (.v (.bool b))) = .ret (.t (.v (.bool (!b)))) := rfl
theorem WT (n : Int) : unV .neg (.t (.v (.int .i64 n))) = .ret (.t (.v (.int .i64 (ay n)))) := rfl
def aS (ne : Bool) : V → M V
 | .t (.v .nilIface) => .ret (.t (.v (.bool (!ne))))
 | _ => .fail
theorem Tm (ne : Bool) : aS ne (.t (.v .nilIface)) = .ret (.t (.v (.bool (!ne)))) := rfl
theorem WU (ne : Bool) (x : An) : AL s d (.eqi ne x) = aS ne (A1 s x) := rfl
theorem Yz (op : UnOp) (x : An) : AL s d (.un op x) = unV op (A1 s x) := rfl
def cvV (c : Cv) (x : V) : M V := match c with
 | .str => (match x with
  | .sub .. => .fail
  | x => Bn x fun rows => AW (Ai rows) fun l => .ret (.t (.v (.string ⟨l.toArray⟩))))
 | c => AW (JF c x) .ret
theorem Z0 (k k' : IntKind) (n : Int) : cvV (.int k') (.t (.v (.int k n))) = .ret (.t (.v (.int k' (wr k' n)))) := rfl
theorem WV (k : IntKind) (n : Int) : cvV .rune (.t (.v (.int k n))) = .ret (.t (.v (.string (aN n)))) := rfl
def D4 (s : ByteArray) : List Int := s.data.toList.map fun b => (b.toNat : Int)
def Gq (s : ByteArray) : Option (List Int) := if s.size ≤ maxLen then some (D4 s) else none
theorem Tn (x : ByteArray) : cvV .bytes (.t (.v (.string x))) = AW (Gq x) fun l => .ret (.t (.sl false (l.map (rK .u8)))) := by
 simp only [cvV, JF, Gq]
 split
 ·simp only [AW, Al, D4, List.map_map]; rfl
 ·rfl
theorem WW (x : ByteArray) : cvV .same (.t (.v (.string x))) = .ret (.t (.v (.string x))) := rfl
def WX (rows : Rows) : M V := AW (Ai rows) fun l => .ret (.t (.v (.string ⟨l.toArray⟩)))
theorem WY (rows : Rows) : WX rows = AW (Ai rows) fun l => .ret (.t (.v (.string ⟨l.toArray⟩))) := rfl
theorem To (o : Bool) (rows : Rows) : cvV .str (.t (.sl o rows)) = WX rows := rfl
theorem Pp : cvV .str .nil = WX [] := rfl
theorem Pq (id : Id) (n : Nat) : cvV .str (.ref id n) = Bn (.ref id n) WX := rfl
theorem Tp (c : Cv) (x : An) : AL s d (.conv c x) = cvV c (A1 s x) := by
 cases c <;> simp only [AL, cvV]
 case str =>
  generalize A1 s x = v
  cases v <;> try rfl
  ·rename_i c; cases c <;> try rfl
   simp only [Bn]
   cases Ai _ <;> rfl
  ·show Bn _ _ = Bn _ _
   congr 1; funext rows; cases Ai rows <;> rfl
 all_goals (cases JF _ (A1 s x) <;> rfl)
def Z1 (d : Nat) (z : List T) (byt : Nat) : V → M V
 | .t (.v (.int _ n)) => AW (mkN n byt) fun m => .new [.mem (List.replicate m z) 0 false] (.ret (.ref (d, 0) m))
 | _ => .fail
theorem WZ (z : List T) (byt : Nat) (x : An) : AL s d (.mks z byt x) = Z1 d z byt (A1 s x) := by
 simp only [AL]
 generalize A1 s x = v
 cases v <;> try rfl
 rename_i c; cases c <;> try rfl
 rename_i x; cases x <;> try rfl
 simp only [Z1, mkN]
 split <;> rfl
def iaK (sz : Nat) (id : Id) (p : AE) (n m st : Nat) (row : List T) : M V := if row.length = sz then .ret (.ptr id p n 0 m st) else .fail
def iaS (sz : Nat) (id : Id) (p : AE) (n : Int) (m st : Nat) (rows : Rows) : M V := if rows.length = m then AW (getI rows n) (iaK sz id p n.toNat m st) else .fail
def iaE (sz : Nat) (id : Id) (m : Nat) (n : Int) : BO → M V
 | .mem rows _ _ => iaS sz id [] n m 0 rows
 | .dead => .fail
def iaC (sz : Nat) (id : Id) (p : AE) (j c : Nat) (n : Int) (m st : Nat) : BO → M V
 | .mem rows stt _ => if st = stt then AW (AX rows p j c) fun
   | .sl true rs => iaS sz id (p ++ [(j, c)]) n m st rs
   | _ => .fail
  else .fail
 | .dead => .fail
def iaP (sz : Nat) (row : List T) : M V := if row.length = sz then .ret (.pp row) else .fail
def iaV (sz : Nat) (x i : V) : M V := match i with
 | .t (.v (.int _ n)) => if 0 ≤ n then (match x with
  | .t (.sl _ rows) => AW (getI rows n) (iaP sz)
  | .ref id m => .get id (iaE sz id m n)
  | .sub id p j c m st => .get id (iaC sz id p j c n m st)
  | _ => .fail) else .fail
 | _ => .fail
theorem Z2 (sz : Nat) (o : Bool) (rows : Rows) (k : IntKind) (n : Int) : iaV sz (.t (.sl o rows)) (.t (.v (.int k n))) = if 0 ≤ n then AW (getI rows n) (iaP sz) else .fail := rfl
theorem Wa (sz : Nat) (id : Id) (m : Nat) (k : IntKind) (n : Int) : iaV sz (.ref id m) (.t (.v (.int k n))) = if 0 ≤ n then .get id (iaE sz id m n) else .fail := rfl
theorem Wb (sz : Nat) (id : Id) (p : AE) (j c m st : Nat) (k : IntKind) (n : Int) : iaV sz (.sub id p j c m st) (.t (.v (.int k n))) = if 0 ≤ n then .get id (iaC sz id p j c n m st) else .fail := rfl
theorem Ia {α : Type} {l : List α} {n : Int} (h : 0 ≤ n) : getI l n = l[n.toNat]? := if_pos h
theorem Z3 (sz : Nat) (id : Id) (p : AE) (n m st : Nat) (o : Option (List T)) : (match o with | some row => if row.length = sz then M.ret (V.ptr id p n 0 m st) else .fail | none => .fail) = AW o (iaK sz id p n m st) := by cases o <;> rfl
theorem Z4 (sz : Nat) (x i : An) : AL s d (.ia sz x i) = iaV sz (A1 s x) (A1 s i) := by
 simp only [AL]
 generalize A1 s x = a
 generalize A1 s i = b
 cases b <;> try rfl
 rename_i b; cases b <;> try rfl
 rename_i b; cases b <;> try rfl
 rename_i k n
 simp only [iaV]
 split
 ·rename_i h0
  cases a <;> try rfl
  ·rename_i a; cases a <;> try rfl
   rename_i rows
   simp only [Ia h0, AW]
   cases rows[n.toNat]? <;> rfl
  ·show M.get _ _ = M.get _ _
   congr 1
   funext e; cases e <;> try rfl
   simp only [iaE, iaS, Ia h0]
   rw [← Z3]; rfl
  ·show M.get _ _ = M.get _ _
   congr 1
   funext e; cases e <;> try rfl
   simp only [iaC, iaS, Ia h0]
   split
   ·cases AX _ _ _ _ with
    | none => rfl
    | some t =>
     cases t <;> try rfl
     rename_i o rs
     cases o <;> try rfl
     simp only [AW]
     split
     ·cases rs[n.toNat]? <;> rfl
     ·rfl
   ·rfl
 ·rfl
def faV (off : Nat) : V → M V
 | .ptr id p i o n st => .ret (.ptr id p i (o + off) n st)
 | .vb id o st cs => .ret (.vb id (o + off) st cs)
 | .pp cs => .ret (.pp (cs.drop off))
 | _ => .fail
theorem Wc (off : Nat) (id : Id) (p : AE) (i o n st : Nat) : faV off (.ptr id p i o n st) = .ret (.ptr id p i (o + off) n st) := rfl
theorem Z5 (off : Nat) (cs : List T) : faV off (.pp cs) = .ret (.pp (cs.drop off)) := rfl
theorem Z6 (off : Nat) (x : An) : AL s d (.fa off x) = faV off (A1 s x) := by
 simp only [AL]; generalize A1 s x = v; cases v <;> rfl
def aT (off n : Nat) (ag : Bool) : V → M V
 | .agg cs => if off + n ≤ cs.length then Jh ag ((cs.drop off).take n) else .fail
 | _ => .fail
theorem Tq (off n : Nat) (ag : Bool) (cs : List V) : aT off n ag (.agg cs) = if off + n ≤ cs.length then Jh ag ((cs.drop off).take n) else .fail := rfl
theorem Wd (off n : Nat) (ag : Bool) (x : An) : AL s d (.fld off n ag x) = aT off n ag (A1 s x) := by
 simp only [AL]; generalize A1 s x = v; cases v <;> rfl
def ixV (x i : V) : M V := match x, i with
 | .t (.v (.string st)), .t (.v (.int _ n)) => AW (atS st n) fun b => .ret (.t (.v (.int .u8 b)))
 | _, _ => .fail
theorem aU (st : ByteArray) (k : IntKind) (n : Int) : ixV (.t (.v (.string st))) (.t (.v (.int k n))) = AW (atS st n) fun b => .ret (.t (.v (.int .u8 b))) := rfl
theorem Z7 (x i : An) : AL s d (.ix x i) = ixV (A1 s x) (A1 s i) := by
 simp only [AL]
 generalize A1 s x = a
 generalize A1 s i = b
 cases a <;> try rfl
 rename_i a; cases a <;> try rfl
 rename_i a; cases a <;> try rfl
 cases b <;> try rfl
 rename_i b; cases b <;> try rfl
 rename_i b; cases b <;> try rfl
 simp only [ixV, atS]
 split <;> rfl
def aV (sz len : Nat) (ag : Bool) (x i : V) : M V := match x, i with
 | .agg cs, .t (.v (.int _ n)) => if 0 ≤ n ∧ n < len ∧ cs.length = len * sz then Jh ag ((cs.drop (n.toNat * sz)).take sz) else .fail
 | _, _ => .fail
theorem Tr (sz len : Nat) (ag : Bool) (cs : List V) (k : IntKind) (n : Int) : aV sz len ag (.agg cs) (.t (.v (.int k n))) = if 0 ≤ n ∧ n < len ∧ cs.length = len * sz then Jh ag ((cs.drop (n.toNat * sz)).take sz) else .fail := rfl
theorem We (sz len : Nat) (ag : Bool) (x i : An) : AL s d (.ixa sz len ag x i) = aV sz len ag (A1 s x) (A1 s i) := by
 simp only [AL]
 generalize A1 s x = a
 generalize A1 s i = b
 cases a <;> rfl
def bnd (o : Option V) (e : Int) : Option Int := match o with
 | none => some e
 | some (.t (.v (.int _ n))) => some n
 | _ => none
theorem Ts (e : Int) : bnd none e = some e := rfl
theorem Tt (e : Int) (k : IntKind) (n : Int) : bnd (some (.t (.v (.int k n)))) e = some n := rfl
def Tu (sz : Nat) (x : V) (lo hi : Option V) : M V := match x with
 | .t (.v (.string st)) => AW (bnd lo 0) fun l => AW (bnd hi (Bg st)) fun h => if sz = 0 then AW (Re st l h) fun z => .ret (.t (.v (.string z))) else .fail
 | .t (.sl _ rows) => AW (bnd lo 0) fun l => AW (bnd hi (Be rows)) fun h => if 0 < sz ∧ (rows.all fun r => r.length == sz) then AW (slL rows l h) fun z => .ret (.t (.sl false z)) else .fail
 | _ => .fail
theorem Z8 (sz : Nat) (st : ByteArray) (lo hi : Option V) : Tu sz (.t (.v (.string st))) lo hi = AW (bnd lo 0) fun l => AW (bnd hi (Bg st)) fun h => if sz = 0 then AW (Re st l h) fun z => .ret (.t (.v (.string z))) else .fail := rfl
theorem Z9 (sz : Nat) (o : Bool) (rows : Rows) (lo hi : Option V) : Tu sz (.t (.sl o rows)) lo hi = AW (bnd lo 0) fun l => AW (bnd hi (Be rows)) fun h => if 0 < sz ∧ (rows.all fun r => r.length == sz) then AW (slL rows l h) fun z => .ret (.t (.sl false z)) else .fail := rfl
def Wf (sz : Nat) (x : V) (l h : Option Int → Option Int) : M V := match x with
 | .t (.v (.string st)) => (match l (some 0), h (some st.size) with
   | some l, some h => if (0 ≤ l ∧ l ≤ h ∧ h ≤ st.size) ∧ sz = 0 then .ret (.t (.v (.string (st.extract l.toNat h.toNat)))) else .fail
   | _, _ => .fail)
 | .t (.sl _ rows) => (match l (some 0), h (some rows.length) with
   | some l, some h => if (0 ≤ l ∧ l ≤ h ∧ h ≤ rows.length) ∧ 0 < sz ∧ (rows.all fun r => r.length == sz) then .ret (.t (.sl false ((rows.drop l.toNat).take (h.toNat - l.toNat)))) else .fail
   | _, _ => .fail)
 | _ => .fail
def bnE (s : List V) (o : Option An) (e : Option Int) : Option Int := match o with
 | none => e
 | some q => match A1 s q with | .t (.v (.int _ n)) => some n | _ => none
theorem Tv (sz : Nat) (x : An) (lo hi : Option An) : AL s d (.slc sz x lo hi) = Wf sz (A1 s x) (bnE s lo) (bnE s hi) := by
 simp only [AL, Wf]
 cases lo <;> cases hi <;> rfl
theorem Mx (o : Option An) (e : Int) : bnE s o (some e) = bnd (o.map (A1 s)) e := by
 cases o with
 | none => rfl
 | some q =>
  simp only [Option.map_some, bnE]
  generalize A1 s q = v
  cases v <;> try rfl
  rename_i v; cases v <;> try rfl
  rename_i v; cases v <;> rfl
theorem R2 {A C : Prop} [Decidable A] [Decidable C] {α : Type} (k : α → M V) (x : α) : (if A ∧ C then k x else M.fail) = if C then AW (if A then some x else none) k else M.fail := by
 by_cases A <;> by_cases C <;> simp_all [AW]
theorem Wg (sz : Nat) (x : An) (lo hi : Option An) : AL s d (.slc sz x lo hi) = Tu sz (A1 s x) (lo.map (A1 s)) (hi.map (A1 s)) := by
 rw [Tv]
 generalize A1 s x = a
 cases a <;> try rfl
 rename_i a; cases a <;> try rfl
 ·rename_i a; cases a <;> try rfl
  rename_i st
  simp only [Tu, Wf, Bg, Mx]
  generalize bnd (lo.map (A1 s)) 0 = l
  generalize bnd (hi.map (A1 s)) (st.size : Int) = h
  cases l <;> cases h <;> try rfl
  exact R2 (fun z => .ret (.t (.v (.string z)))) _
 ·rename_i o rows
  simp only [Tu, Wf, Be, Mx]
  generalize bnd (lo.map (A1 s)) 0 = l
  generalize bnd (hi.map (A1 s)) (rows.length : Int) = h
  cases l <;> cases h <;> try rfl
  exact R2 (fun z => .ret (.t (.sl false z))) _
theorem Tw (f : FuncId) (md : List Md) (own : List Bool) (args : List An) : AL s d (.call f md own args) = Gf d f md own (args.map (A1 s)) := rfl
def cvv (d : Nat) (md : List Md) (own : List Bool) (args : List V) : V → M V
 | .fn f caps => Gf d f (md ++ (caps.map fun _ => Md.ref)) own (args ++ caps)
 | _ => .fail
theorem Rh (x : An) (md : List Md) (own : List Bool) (args : List An) : AL s d (.callv x md own args) = cvv d md own (args.map (A1 s)) (A1 s x) := by
 simp only [AL]; generalize A1 s x = v; cases v <;> rfl
def Ri (id : Id) (n sz byt : Nat) (new : Rows) : BO → M V
 | .mem rows st _ => if rows.length = n ∧ (rows.all fun r => r.length == sz) then AW (room (n + new.length) byt) fun _ => .set id (.mem (rows ++ new) st false) (.ret (.ref id (n + new.length))) else .fail
 | .dead => .fail
def ZA (d sz byt : Nat) (new : Rows) : T → M V
 | .sl true rows => if (rows.all fun r => r.length == sz) then AW (room (rows.length + new.length) byt) fun _ => .new [.mem (rows ++ new) 0 false] (.ret (.ref (d, 0) (rows.length + new.length))) else .fail
 | _ => .fail
def Pr (d sz byt : Nat) (new : Rows) : V → M V
 | .nil => AW (room new.length byt) fun _ => .new [.mem new 0 false] (.ret (.ref (d, 0) new.length))
 | .ref id n => .get id (Ri id n sz byt new)
 | .sub id p i c n st => take (.sub id p i c n st) (ZA d sz byt new)
 | _ => .fail
def Rj (d sz byt : Nat) (a : V) (new : Rows) : M V := if (new.all fun r => r.length == sz) then Pr d sz byt new a else .fail
theorem Tx (d sz byt : Nat) (new : Rows) : Pr d sz byt new .nil = AW (room new.length byt) fun _ => .new [.mem new 0 false] (.ret (.ref (d, 0) new.length)) := rfl
theorem Ty (d sz byt : Nat) (new : Rows) (id : Id) (n : Nat) : Pr d sz byt new (.ref id n) = .get id (Ri id n sz byt new) := rfl
theorem Tz (d sz byt : Nat) (new : Rows) (id : Id) (p : AE) (i c n st : Nat) : Pr d sz byt new (.sub id p i c n st) = take (.sub id p i c n st) (ZA d sz byt new) := rfl
theorem U0 (id : Id) (n sz byt : Nat) (new rows : Rows) (st : Nat) (fx : Bool) : Ri id n sz byt new (.mem rows st fx) = if rows.length = n ∧ (rows.all fun r => r.length == sz) then AW (room (n + new.length) byt) fun _ => .set id (.mem (rows ++ new) st false) (.ret (.ref id (n + new.length))) else .fail := rfl
theorem Wh (d sz byt : Nat) (new rows : Rows) : ZA d sz byt new (.sl true rows) = if (rows.all fun r => r.length == sz) then AW (room (rows.length + new.length) byt) fun _ => .new [.mem (rows ++ new) 0 false] (.ret (.ref (d, 0) (rows.length + new.length))) else .fail := rfl
theorem OV {A B C D : Prop} [Decidable A] [Decidable B] [Decidable C] [Decidable D] (X : M V) : (if A ∧ B ∧ C ∧ D then X else M.fail) = if A ∧ D then AW (if B ∧ C then some () else none) (fun _ => X) else M.fail := by
 by_cases A <;> by_cases B <;> by_cases C <;> by_cases D <;> simp_all [AW]
theorem MQ {B C D : Prop} [Decidable B] [Decidable C] [Decidable D] (X : M V) : (if B ∧ C ∧ D then X else M.fail) = if D then AW (if B ∧ C then some () else none) (fun _ => X) else M.fail := by
 by_cases B <;> by_cases C <;> by_cases D <;> simp_all [AW]
theorem Wi (sz byt : Nat) (a x : An) : AL s d (.app sz byt a x) = Ce (A1 s x) (Rj d sz byt (A1 s a)) := by
 simp only [AL]
 congr 1
 funext new
 simp only [Rj]
 split
 ·generalize A1 s a = v
  cases v <;> try rfl
  ·simp only [Pr, room]; split <;> rfl
  ·show M.get _ _ = M.get _ _
   congr 1
   funext e; cases e <;> try rfl
   exact OV _
  ·simp only [Pr]
   congr 1
   funext e; cases e <;> try rfl
   rename_i o rows
   cases o <;> try rfl
   exact MQ _
 ·rfl
def Wj (id : Id) (p : AE) (i off m st : Nat) : BO → M V
 | .mem rows stt _ => AW (BG rows stt p i m st) fun row => AW (row[off]?) fun t => .ret (EZ id p i off stt t)
 | .dead => .fail
theorem U1 (id : Id) (p : AE) (i off m st : Nat) (rows : Rows) (stt : Nat) (fx : Bool) : Wj id p i off m st (.mem rows stt fx) = AW (BG rows stt p i m st) fun row => AW (row[off]?) fun t => .ret (EZ id p i off stt t) := rfl
def ZB : V → M V
 | .ptr id p i off m st => if p = [] then .get id (Wj id p i off m st) else .fail
 | _ => .fail
theorem U2 (id : Id) (i off m st : Nat) : ZB (.ptr id [] i off m st) = .get id (Wj id [] i off m st) := rfl
theorem Wk (x : An) : AL s d (.ldr x) = ZB (A1 s x) := by
 simp only [AL]
 generalize A1 s x = v
 cases v with
 | ptr id p i off m st =>
  simp only [ZB]
  split
  ·congr 1
   funext e
   cases e with
   | dead => rfl
   | mem rows stt fx =>
    simp only [Wj]
    generalize BG rows stt p i m st = o
    cases o with
    | none => rfl
    | some row =>
     show (match row[off]? with | some t => M.ret (EZ id p i off stt t) | none => M.fail) = AW (row[off]?) _
     generalize row[off]? = o
     cases o <;> rfl
  ·rfl
 | _ => rfl
def R3 (d q sz byt : Nat) (a x : V) : M V := match a, x with
 | .sub id p i c n st, .ref id2 n2 => if p ≠ [] ∧ id.1 = q ∧ id2.1 ≠ q then Ce (.ref id2 n2) (Rj d sz byt (.sub id p i c n st)) else .fail
 | _, _ => .fail
theorem Rk (d q sz byt : Nat) (a b : Nat) (y : Nat × Nat) (p : AE) (i c n st : Nat) (a2 b2 n2 : Nat) : R3 d q sz byt (.sub (a, b) (y :: p) i c n st) (.ref (a2, b2) n2) = if a = q then (if a2 = q then .fail else Ce (.ref (a2, b2) n2) (Rj d sz byt (.sub (a, b) (y :: p) i c n st))) else .fail := by
 simp only [R3]
 by_cases h1 : a = q <;> by_cases h2 : a2 = q <;> simp [h1, h2]
theorem U3 (q sz byt : Nat) (a x : An) : AL s d (.appn q sz byt a x) = R3 d q sz byt (A1 s a) (A1 s x) := by
 simp only [AL]
 generalize A1 s a = v
 generalize A1 s x = u
 cases v <;> cases u <;> try rfl
 simp only [R3]
 split
 ·congr 1
  funext new
  simp only [Rj, Pr]
  split
  ·congr 1
   funext t
   cases t with
   | sl o rows => cases o with
    | true => exact MQ _
    | false => rfl
   | _ => rfl
  ·rfl
 ·rfl
def Rl (str : Bool) (x : V) : M V := match str, x with
 | true, .t (.v (.string st)) => .ret (.t (.v (.int .i64 (Bg st))))
 | false, .t (.sl _ rows) => .ret (.t (.v (.int .i64 (Be rows))))
 | false, .nil => .ret (.t (.v (.int .i64 0)))
 | false, .ref _ n => .ret (.t (.v (.int .i64 n)))
 | false, .sub _ _ _ _ n _ => .ret (.t (.v (.int .i64 n)))
 | _, _ => .fail
theorem ZC (st : ByteArray) : Rl true (.t (.v (.string st))) = .ret (.t (.v (.int .i64 (Bg st)))) := rfl
theorem ZD (o : Bool) (rows : Rows) : Rl false (.t (.sl o rows)) = .ret (.t (.v (.int .i64 (Be rows)))) := rfl
theorem U4 : Rl false .nil = .ret (.t (.v (.int .i64 0))) := rfl
theorem U5 (id : Id) (n : Nat) : Rl false (.ref id n) = .ret (.t (.v (.int .i64 n))) := rfl
theorem U6 (id : Id) (p : AE) (i c n st : Nat) : Rl false (.sub id p i c n st) = .ret (.t (.v (.int .i64 n))) := rfl
theorem Wl (str : Bool) (x : An) : AL s d (.len str x) = Rl str (A1 s x) := by
 simp only [AL]
 generalize A1 s x = v
 cases str <;> cases v <;> try rfl
def mmV (mx : Bool) (x y : V) : M V := match x, y with
 | .t (.v (.int k a)), .t (.v (.int _ b)) => .ret (.t (.v (.int k (if mx then aM a b else aL a b))))
 | _, _ => .fail
theorem aW (k k' : IntKind) (a b : Int) : mmV true (.t (.v (.int k a))) (.t (.v (.int k' b))) = .ret (.t (.v (.int k (aM a b)))) := rfl
theorem aX (k k' : IntKind) (a b : Int) : mmV false (.t (.v (.int k a))) (.t (.v (.int k' b))) = .ret (.t (.v (.int k (aL a b)))) := rfl
theorem ZE (mx : Bool) (x y : An) : AL s d (.mm mx x y) = mmV mx (A1 s x) (A1 s y) := rfl
def ZF (i : Nat) : V → M V
 | .tup vs => AW vs[i]? .ret
 | _ => .fail
theorem U7 (i : Nat) (vs : List V) : ZF i (.tup vs) = AW vs[i]? .ret := rfl
theorem Wm (x : An) (i : Nat) : AL s d (.ext x i) = ZF i (A1 s x) := by
 simp only [AL]; generalize A1 s x = v; cases v <;> try rfl
 rename_i vs
 simp only [ZF]
 cases vs[i]? <;> rfl
theorem Wn (f : FuncId) (caps : List An) : AL s d (.mkf f caps) = .ret (.fn f (caps.map (A1 s))) := rfl
def vwB (n : Nat) (l h : Int) : Option Unit := if (0 ≤ l ∧ l ≤ h ∧ h ≤ n) ∧ 0 < n then some () else none
def U8 (x : V) (lo hi : Option V) : M V := match x with
 | .ref id n => AW (bnd lo 0) fun l => AW (bnd hi n) fun h => AW (vwB n l h) fun _ => .ret (.vw id l.toNat h.toNat n)
 | _ => .fail
theorem U9 (id : Id) (n : Nat) (k : IntKind) (h : Int) : U8 (.ref id n) none (some (.t (.v (.int k h)))) = AW (vwB n 0 h) fun _ => .ret (.vw id 0 h.toNat n) := rfl
theorem UA (id : Id) (n : Nat) (k : IntKind) (l : Int) : U8 (.ref id n) (some (.t (.v (.int k l)))) none = AW (vwB n l n) fun _ => .ret (.vw id l.toNat n n) := by
 simp only [U8, bnd, AW, Int.toNat_natCast]
def ZG (x : V) (l h : Option Int → Option Int) : M V := match x with
 | .ref id n => (match l (some 0), h (some n) with
   | some l, some h => if (0 ≤ l ∧ l ≤ h ∧ h ≤ n) ∧ 0 < n then .ret (.vw id l.toNat h.toNat n) else .fail
   | _, _ => .fail)
 | _ => .fail
theorem UB (x : An) (lo hi : Option An) : AL s d (.vws x lo hi) = ZG (A1 s x) (bnE s lo) (bnE s hi) := by
 simp only [AL, ZG]
 cases lo <;> cases hi <;> rfl
theorem Wo (x : An) (lo hi : Option An) : AL s d (.vws x lo hi) = U8 (A1 s x) (lo.map (A1 s)) (hi.map (A1 s)) := by
 rw [UB]
 generalize A1 s x = a
 cases a <;> try rfl
 rename_i id n
 simp only [U8, ZG]
 rw [show (some (0 : Int)) = some 0 from rfl, Mx, Mx]
 generalize bnd (lo.map (A1 s)) 0 = l
 generalize bnd (hi.map (A1 s)) (n : Int) = h
 cases l <;> cases h <;> try rfl
 rename_i l h
 simp only [AW, vwB]
 by_cases hc : (0 ≤ l ∧ l ≤ h ∧ h ≤ (n : Int)) ∧ 0 < n
 ·rw [if_pos hc, if_pos hc]
 ·rw [if_neg hc, if_neg hc]
def Kb (n h l : Nat) : Option Unit := if h < l ∧ l ≤ n then some () else none
def Wp (id : Id) (n h1 l2 : Nat) : BO → M V
 | .mem rows _ _ => if rows.length = n ∧ GO rows = true then .set id .dead (.ret (.t (.sl false (rows.take h1 ++ rows.drop l2)))) else .fail
 | .dead => .fail
theorem UC (k : IntKind) (l : List Int) : GO (l.map (rK k)) = true := by
 induction l with
 | nil => rfl
 | cons x l ih => simpa [GO, rK] using ih
theorem UD (id : Id) (n h1 l2 : Nat) (k : IntKind) (l : List Int) (st : Nat) (fx : Bool) : Wp id n h1 l2 (.mem (l.map (rK k)) st fx) = if l.length = n then .set id .dead (.ret (.t (.sl false ((l.take h1 ++ l.drop l2).map (rK k))))) else .fail := by
 simp only [Wp, UC, List.length_map, and_true, List.map_append, List.map_take, List.map_drop]
def ZH : V → V → M V
 | .vw id l1 h1 n, .vw id2 l2 h2 n2 => if (id2 = id ∧ n2 = n) ∧ l1 = 0 ∧ h2 = n then AW (Kb n h1 l2) fun _ => .get id (Wp id n h1 l2) else .fail
 | _, _ => .fail
theorem Wq (id : Id) (l1 h1 n : Nat) (id2 : Id) (l2 h2 n2 : Nat) : ZH (.vw id l1 h1 n) (.vw id2 l2 h2 n2) = if (id2 = id ∧ n2 = n) ∧ l1 = 0 ∧ h2 = n then AW (Kb n h1 l2) fun _ => .get id (Wp id n h1 l2) else .fail := rfl
theorem Wr (x y : An) : AL s d (.cut x y) = ZH (A1 s x) (A1 s y) := by
 simp only [AL]
 generalize A1 s x = a
 generalize A1 s y = b
 cases a <;> try rfl
 cases b <;> try rfl
 rename_i id l1 h1 n id2 l2 h2 n2
 simp only [ZH]
 by_cases c1 : (id2 = id ∧ n2 = n) ∧ l1 = 0 ∧ h2 = n
 ·rw [if_pos c1]
  by_cases c2 : h1 < l2 ∧ l2 ≤ n
  ·rw [if_pos ⟨c1.1, c1.2.1, c2.1, c2.2, c1.2.2⟩]
   simp only [Kb, if_pos c2, AW]
   congr 1
   funext e
   cases e <;> rfl
  ·rw [if_neg (fun h => c2 ⟨h.2.2.1, h.2.2.2.1⟩)]
   simp only [Kb, if_neg c2, AW]
 ·rw [if_neg (fun h => c1 ⟨h.1, h.2.1, h.2.2.2.2⟩), if_neg c1]
def byE (l : List Int) : BO := if l.length = 0 then .dead else .mem (l.map (rK .u8)) 0 false
theorem Jb (x : ByteArray) : Al x = (D4 x).map (rK .u8) := by
 simp only [Al, D4, List.map_map]; rfl
theorem Gr (x : ByteArray) : (D4 x).length = x.size := by simp [D4]
theorem Ws (x : ByteArray) : Nb x = byE (D4 x) := by
 unfold Nb byE
 rw [Gr, Jb]
theorem UE (k : IntKind) (l : List Int) : AG (l.map (rK k)) = l.map (rK k) := by
 induction l with
 | nil => rfl
 | cons x l ih => simp [AG, rK, D7, frz] at ih ⊢; exact ih
theorem UF (r : R) (id : Id) (l : List Int) : TO r id l.length (byE l) = some (.t (.sl false (l.map (rK .u8))), AS r id .dead) := by
 unfold byE
 by_cases h : l.length = 0
 ·rw [if_pos h]
  have : l = [] := List.eq_nil_of_length_eq_zero h
  subst this
  rfl
 ·rw [if_neg h]
  show (if (l.map (rK .u8)).length = l.length ∧ false = false then _ else _) = _
  rw [if_pos ⟨by simp, rfl⟩, UE]
theorem OW (l : List Int) : Ai (l.map (rK .u8)) = some (l.map fun n => UInt8.ofNat n.toNat) := by
 induction l with
 | nil => rfl
 | cons x l ih => simp [Ai, rK] at ih ⊢; exact ih
def Ps (l : List Int) : Option Unit := if l.length = 0 then none else some ()
theorem UG (FT : TH) (c : Cx) (d : Nat) (hs : List H) (F : List Fr) (s : List V) (r : R) (l : List Int) : Vo FT c d hs F s r (byE l) = (Ps l).bind fun _ => hn FT c hs F s (AS r (d, 0) (.mem (l.map (rK .u8)) 0 false)) := by
 unfold byE Ps
 by_cases h : l.length = 0
 ·rw [if_pos h, if_pos h]; rfl
 ·rw [if_neg h, if_neg h]; rfl
def ZI (d : Nat) : V → M V
 | .t (.v (.string x)) => AW (Gq x) fun l => .new [byE l] (.ret (.ref (d, 0) l.length))
 | _ => .fail
theorem ZJ (d : Nat) (x : ByteArray) : ZI d (.t (.v (.string x))) = AW (Gq x) fun l => .new [byE l] (.ret (.ref (d, 0) l.length)) := rfl
theorem Wt (x : An) : AL s d (.cvo x) = ZI d (A1 s x) := by
 simp only [AL]
 generalize A1 s x = a
 cases a <;> try rfl
 rename_i a; cases a <;> try rfl
 rename_i a; cases a <;> try rfl
 rename_i x
 simp only [ZI, Gq]
 split
 ·simp only [AW, Ws, Gr]
 ·rfl
def Wu (byt : Nat) (t : ByteArray) : V → M V
 | .ref id n => .get id (Ri id n 1 byt ((D4 t).map (rK .u8)))
 | _ => .fail
theorem UH (byt : Nat) (t : ByteArray) (id : Id) (n : Nat) : Wu byt t (.ref id n) = .get id (Ri id n 1 byt ((D4 t).map (rK .u8))) := rfl
def ZK (byt : Nat) (a : V) : V → M V
 | .t (.v (.string t)) => Wu byt t a
 | _ => .fail
theorem ZL (byt : Nat) (a : V) (t : ByteArray) : ZK byt a (.t (.v (.string t))) = Wu byt t a := rfl
theorem Wv (byt : Nat) (a x : An) : AL s d (.aps byt a x) = ZK byt (A1 s a) (A1 s x) := by
 simp only [AL]
 generalize A1 s x = v
 cases v <;> try rfl
 rename_i v; cases v <;> try rfl
 rename_i v; cases v <;> try rfl
 rename_i t
 simp only [ZK]
 generalize A1 s a = b
 cases b <;> try rfl
 rename_i id n
 simp only [Wu]
 congr 1
 funext e
 cases e with
 | dead => rfl
 | mem rows st fx =>
  simp only [Ri, room, OV, List.length_map, Gr, Jb]
end
end TT
