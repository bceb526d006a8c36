import Derived.Test.YtaeegkjcjlnanaaGreatDoorTH1
set_option linter.unusedVariables false
set_option linter.unusedSimpArgs false
namespace TT
open Go
def wr (k : IntKind) (a : Int) : Int := k.wrap a
def AP (a b : Int) : Int := IntKind.i64.wrap (a + b)
def BA (a b : Int) : Int := IntKind.i64.wrap (a - b)
def UY (a b : Int) : Int := IntKind.i64.wrap (a * b)
def A0n (a : Int) : Int := IntKind.i64.wrap (0 - a)
def yC (a b : Int) : Option Int := if b = 0 then none else some (IntKind.i64.wrap (a.tdiv b))
def ko (a b : Int) : Option Int := if b = 0 then none else some (a.tmod b)
def Hz (a b : Int) : Bool := decide (a < b)
def Rn (a b : Int) : Bool := decide (a ≤ b)
def Np (a b : Int) : Bool := decide (a > b)
def geI (a b : Int) : Bool := decide (a ≥ b)
def Av (a b : Int) : Bool := a == b
def neI (a b : Int) : Bool := a != b
def bP (x y : ByteArray) : Option ByteArray := if x.size + y.size ≤ 9223372036854775807 then some (x ++ y) else none
def D7 (x y : ByteArray) : Bool := x.toList == y.toList
def neS (x y : ByteArray) : Bool := !(x.toList == y.toList)
def ltS (x y : ByteArray) : Bool := Op.bytesLess x.toList y.toList
def leS (x y : ByteArray) : Bool := Op.bytesLess x.toList y.toList || x.toList == y.toList
def gtS (x y : ByteArray) : Bool := !(Op.bytesLess x.toList y.toList || x.toList == y.toList)
def geS (x y : ByteArray) : Bool := !(Op.bytesLess x.toList y.toList)
def eqB (a b : Bool) : Bool := a == b
def neB (a b : Bool) : Bool := !(a == b)
def A0D (a b : Int) : Int := if b < a then b else a
def er (a b : Int) : Int := if a < b then b else a
def AS (x : ByteArray) : Int := x.size
def AC {α : Type} (l : List α) : Int := l.length
def A0E (n : Int) : ByteArray := Utf8.encode n
def getI {α : Type} (l : List α) (i : Int) : Option α := if 0 ≤ i then l[i.toNat]? else none
def PU (s : ByteArray) (i : Int) : Option Int := if h : 0 ≤ i ∧ i.toNat < s.size then some (s[i.toNat]'h.2).toNat else none
def PV (s : ByteArray) (l h : Int) : Option ByteArray := if 0 ≤ l ∧ l ≤ h ∧ h ≤ s.size then some (s.extract l.toNat h.toNat) else none
def slL {α : Type} (s : List α) (l h : Int) : Option (List α) := if 0 ≤ l ∧ l ≤ h ∧ h ≤ s.length then some ((s.drop l.toNat).take (h.toNat - l.toNat)) else none
def mkN (n : Int) (byt : Nat) : Option Nat := if 0 ≤ n ∧ n.toNat * byt ≤ LIM ∧ 0 < byt then some n.toNat else none
def room (n byt : Nat) : Option Unit := if n * byt ≤ LIM ∧ 0 < byt then some () else none
def rI (x : Int) : List T := [.v (.int .i64 x)]
def rK (k : IntKind) (x : Int) : List T := [.v (.int k x)]
def rS (x : ByteArray) : List T := [.v (.string x)]
def rB (x : Bool) : List T := [.v (.bool x)]
def rL {α : Type} (o : Bool) (f : α → List T) (l : List α) : List T := [.sl o (l.map f)]
def Ok {ρ : Type} (x : Option ρ) (e : ρ → Af) (y : Option Af) : Prop := ∀ r, x = some r → y = some (e r)
theorem et {ρ : Type} {r : ρ} {e : ρ → Af} {y : Option Af} (h : y = some (e r)) : Ok (some r) e y := fun r' h' => by cases h'; exact h
theorem uU {ρ : Type} {e : ρ → Af} {y : Option Af} : Ok none e y := fun r' h' => by cases h'
theorem A0F {ρ : Type} {b : Bool} {x x' : Option ρ} {e : ρ → Af} {y : Option Af} (h1 : b = true → Ok x e y) (h2 : b = false → Ok x' e y) : Ok (if b then x else x') e y := by
 cases b
 ·exact h2 rfl
 ·exact h1 rfl
theorem Dx {α ρ : Type} {p : Option α} {f : α → Option ρ} {e : ρ → Af} {y : Option Af} (h : ∀ a, p = some a → Ok (f a) e y) : Ok (p >>= f) e y := fun r hr => by
 obtain ⟨a, h1, h2⟩ := Option.bind_eq_some_iff.1 hr
 exact h a h1 r h2
theorem BH {β ρ : Type} {g : Option β} {f : β → Option ρ} {e : ρ → Af} {e' : β → Af} {Y : Option Af} {k : Af → Option Af} (hg : Ok g e' Y) (h : ∀ v, Ok (f v) e (k (e' v))) : Ok (g >>= f) e (Y.bind k) := fun r hr => by
 obtain ⟨a, h1, h2⟩ := Option.bind_eq_some_iff.1 hr
 rw [hg a h1]
 exact h a r h2
section
def QD (k : IntKind) (a b : Int) : Int := Go.bits .and k a b
def orK (k : IntKind) (a b : Int) : Int := Go.bits .or k a b
def uV (k : IntKind) (a b : Int) : Int := Go.bits .xor k a b
def mq (k : IntKind) (a b : Int) : Int := Go.bits .andNot k a b
def uW (k : IntKind) (a b : Int) : Int := k.wrap (a + b)
def uX (k : IntKind) (a b : Int) : Int := k.wrap (a - b)
def uY (k : IntKind) (a b : Int) : Int := k.wrap (a * b)
def yD (k : IntKind) (a b : Int) : Option Int := if b = 0 then none else some (k.wrap (a.tdiv b))
def A0o (k : IntKind) (a b : Int) : Option Int := if b = 0 then none else some (k.wrap (a.tmod b))
def yE (k : IntKind) (a b : Int) : Option Int := if b < 0 then none else some (k.wrap (a * 2 ^ (min b.toNat k.bits)))
def kp (k : IntKind) (a b : Int) : Option Int := if b < 0 then none else some (a.fdiv (2 ^ (min b.toNat k.bits)))
theorem uZ (k : IntKind) (a b : Int) : CH .and (.int k a) (.int k b) = some (.int k (QD k a b)) := by simp [CH, NE, QD]
theorem yF (k : IntKind) (a b : Int) : CH .or (.int k a) (.int k b) = some (.int k (orK k a b)) := by simp [CH, NE, orK]
theorem ua (k : IntKind) (a b : Int) : CH .xor (.int k a) (.int k b) = some (.int k (uV k a b)) := by simp [CH, NE, uV]
theorem kq (k : IntKind) (a b : Int) : CH .andNot (.int k a) (.int k b) = some (.int k (mq k a b)) := by simp [CH, NE, mq]
theorem ub (k k' : IntKind) (a b : Int) : CH .shl (.int k a) (.int k' b) = (yE k a b).map (Value.int k) := by simp only [CH, yE]; split <;> rfl
theorem uc (k k' : IntKind) (a b : Int) : CH .shr (.int k a) (.int k' b) = (kp k a b).map (Value.int k) := by simp only [CH, kp]; split <;> rfl
theorem kr (a b : Int) : CH .add (.int .u8 a) (.int .u8 b) = some (.int .u8 (uW .u8 a b)) := rfl
theorem kt (a b : Int) : CH .sub (.int .u8 a) (.int .u8 b) = some (.int .u8 (uX .u8 a b)) := rfl
theorem ku (a b : Int) : CH .mul (.int .u8 a) (.int .u8 b) = some (.int .u8 (uY .u8 a b)) := rfl
theorem iq (a b : Int) : CH .add (.int .i32 a) (.int .i32 b) = some (.int .i32 (uW .i32 a b)) := rfl
theorem ir (a b : Int) : CH .sub (.int .i32 a) (.int .i32 b) = some (.int .i32 (uX .i32 a b)) := rfl
theorem it (a b : Int) : CH .mul (.int .i32 a) (.int .i32 b) = some (.int .i32 (uY .i32 a b)) := rfl
theorem iu (a b : Int) : CH .add (.int .u32 a) (.int .u32 b) = some (.int .u32 (uW .u32 a b)) := rfl
theorem iv (a b : Int) : CH .sub (.int .u32 a) (.int .u32 b) = some (.int .u32 (uX .u32 a b)) := rfl
theorem iw (a b : Int) : CH .mul (.int .u32 a) (.int .u32 b) = some (.int .u32 (uY .u32 a b)) := rfl
theorem iy (a b : Int) : CH .add (.int .u64 a) (.int .u64 b) = some (.int .u64 (uW .u64 a b)) := rfl
theorem iz (a b : Int) : CH .sub (.int .u64 a) (.int .u64 b) = some (.int .u64 (uX .u64 a b)) := rfl
theorem j3 (a b : Int) : CH .mul (.int .u64 a) (.int .u64 b) = some (.int .u64 (uY .u64 a b)) := rfl
theorem ud (a b : Int) : CH .add (.int .i64 a) (.int .i64 b) = some (.int .i64 (AP a b)) := rfl
theorem ue (a b : Int) : CH .sub (.int .i64 a) (.int .i64 b) = some (.int .i64 (BA a b)) := rfl
theorem uf (a b : Int) : CH .mul (.int .i64 a) (.int .i64 b) = some (.int .i64 (UY a b)) := rfl
theorem ug (a b : Int) : CH .quo (.int .i64 a) (.int .i64 b) = (yC a b).map (Value.int .i64) := by simp only [CH, NE, yC, if_true]; split <;> rfl
theorem j5 (a b : Int) : CH .quo (.int .u64 a) (.int .u64 b) = (yD .u64 a b).map (Value.int .u64) := by simp only [CH, NE, yD, if_true]; split <;> rfl
theorem uh (a b : Int) : CH .rem (.int .i64 a) (.int .i64 b) = (ko a b).map (Value.int .i64) := by simp only [CH, NE, ko, if_true]; split <;> rfl
theorem yG (k : IntKind) (a b : Int) : CH .lss (.int k a) (.int k b) = some (.bool (Hz a b)) := by simp only [CH, NE, Hz, if_true]
theorem yH (k : IntKind) (a b : Int) : CH .leq (.int k a) (.int k b) = some (.bool (Rn a b)) := by simp only [CH, NE, Rn, if_true]
theorem yI (k : IntKind) (a b : Int) : CH .gtr (.int k a) (.int k b) = some (.bool (Np a b)) := by simp only [CH, NE, Np, if_true]
theorem yJ (k : IntKind) (a b : Int) : CH .geq (.int k a) (.int k b) = some (.bool (geI a b)) := by simp only [CH, NE, geI, if_true]
theorem yK (k : IntKind) (a b : Int) : CH .eql (.int k a) (.int k b) = some (.bool (Av a b)) := by simp only [CH, NE, Av, if_true]
theorem yL (k : IntKind) (a b : Int) : CH .neq (.int k a) (.int k b) = some (.bool (neI a b)) := by simp only [CH, NE, neI, if_true]
theorem ui (a b : ByteArray) : CH .add (.string a) (.string b) = (bP a b).map Value.string := by simp only [CH, pV, bP]; split <;> rfl
theorem yM (a b : ByteArray) : CH .eql (.string a) (.string b) = some (.bool (D7 a b)) := rfl
theorem yN (a b : ByteArray) : CH .neq (.string a) (.string b) = some (.bool (neS a b)) := rfl
theorem yO (a b : ByteArray) : CH .lss (.string a) (.string b) = some (.bool (ltS a b)) := rfl
theorem yP (a b : ByteArray) : CH .leq (.string a) (.string b) = some (.bool (leS a b)) := rfl
theorem yQ (a b : ByteArray) : CH .gtr (.string a) (.string b) = some (.bool (gtS a b)) := rfl
theorem yR (a b : ByteArray) : CH .geq (.string a) (.string b) = some (.bool (geS a b)) := rfl
end
def Bx {α β : Type} : Option α → (α → M β) → M β
 | some a, k => k a
 | none, _ => .fail
section
variable (s : List V) (d : Nat)
theorem yS (x : CX) : Ao s d (.mv x) = .ret (A6 s x) := rfl
def qV (c a b : V) : M V := match c with
 | .t (.v (.bool t)) => .ret (if t then a else b)
 | _ => .fail
theorem qW (c a b : CX) : Ao s d (.pick c a b) = qV (A6 s c) (A6 s a) (A6 s b) := rfl
theorem uj (a b : V) : qV (.t (.v (.bool true))) a b = .ret a := rfl
theorem uk (a b : V) : qV (.t (.v (.bool false))) a b = .ret b := rfl
theorem nj (z : List T) : Ao s d (.alloc z) = .new [.mem [z] 0 false] (.ret (.ptr (d, 0) [] 0 0 1 0)) := rfl
theorem ul (x : CX) : Ao s d (.box x) = Dy (cellsOf (A6 s x)) fun ts => if ts.isEmpty then .fail else .new [.mem [ts] 0 false] (.ret (.ptr (d, 0) [] 0 0 1 0)) := rfl
def A0G (d : Nat) : V → M V
 | .agg cs => if cs.isEmpty || !cs.all V.one then .fail else .new [.mem [List.replicate cs.length .hole] 0 false] (.ret (.vb (d, 0) 0 0 cs))
 | _ => .fail
theorem qX (x : CX) : Ao s d (.vbox x) = A0G d (A6 s x) := by
 simp only [Ao]; generalize A6 s x = v; cases v <;> rfl
def um (id : Id) (n : Nat) (cs : List V) : DB → M V
 | .mem [row] stt fx => if row.length = n then .set id (.mem [List.replicate n .hole] (stt + 1) fx) (.ret (.vb id 0 (stt + 1) cs)) else .fail
 | _ => .fail
def uo (n : Nat) (x y : V) : M V := match Wt x, y with
 | some id, .agg cs => if cs.length = n ∧ cs.all V.one = true then .get id (um id n cs) else .fail
 | _, _ => .fail
theorem uq (n : Nat) (x y : CX) : Ao s d (.vst n x y) = uo n (A6 s x) (A6 s y) := by
 simp only [Ao]
 generalize A6 s x = v
 generalize A6 s y = u
 simp only [uo]
 generalize Wt v = q
 cases q with
 | none => rfl
 | some id =>
  cases u <;> try rfl
def zV : T → V
 | .sl true [] => .nil
 | c => .t c
theorem nk (z : List T) (parts : List (Nat × Nat × CX)) : Ao s d (.build z parts) = Bx (bld s (z.map zV) parts) fun cs => .ret (.agg cs) := by
 have e : Ao s d (.build z parts) = match bld s (z.map zV) parts with | some cs => .ret (.agg cs) | none => .fail := rfl
 rw [e]
 cases bld s (z.map zV) parts <;> rfl
def A0H (d sz : Nat) (rs : Rows) : M V := if rs.all fun r => r.length == sz then .new [.mem rs 0 false] (.ret (.ref (d, 0) rs.length)) else .fail
theorem ur (sz : Nat) (parts : List CX) : Ao s d (.bsl sz parts) = CA (parts.map fun q => cellsOf (A6 s q)) (A0H d sz) := rfl
def xI (d sz : Nat) (rs : Rows) : M V := if rs.all fun r => r.length == sz then .new [.mem rs 0 false] (.set (d, 0) .dead (.ret (.t (.sl false (AU rs))))) else .fail
theorem qY (sz : Nat) (parts : List CX) : Ao s d (.bslz sz parts) = CA (parts.map fun q => cellsOf (A6 s q)) (xI d sz) := rfl
def XX (ag : Bool) (vs : List V) : M V := if ag then .ret (.agg vs) else match vs with | [v] => .ret v | _ => .fail
theorem ut (vs : List V) : XX true vs = .ret (.agg vs) := rfl
theorem qZ (v : V) : XX false [v] = .ret v := rfl
def ldE (n : Nat) (ag : Bool) (id : Id) (p : Path) (i off m st : Nat) : DB → M V
 | .mem rows stt _ => Bx (Cl rows stt p i m st) fun row => if off + n ≤ row.length then XX ag (Ji id p i off stt ((row.drop off).take n)) else .fail
 | .dead => .fail
def ldX (n : Nat) (ag : Bool) (off st : Nat) (cs : List V) : DB → M V
 | .mem rows stt _ => if (st = stt ∧ rows.length = 1) ∧ off + n ≤ cs.length then XX ag ((cs.drop off).take n) else .fail
 | .dead => .fail
def ldV (n : Nat) (ag : Bool) : V → M V
 | .ptr id p i off m st => .get id (ldE n ag id p i off m st)
 | .vb id off st cs => .get id (ldX n ag off st cs)
 | .pp cs => if n ≤ cs.length then XX ag ((cs.take n).map V.t) else .fail
 | _ => .fail
theorem yT (n : Nat) (ag : Bool) (x : CX) : Ao s d (.ld n ag x) = ldV n ag (A6 s x) := by
 simp only [Ao]
 generalize A6 s x = v
 cases v <;> try rfl
 ·simp only [ldV]
  congr 1
  funext e
  cases e <;> try rfl
  simp only [ldE]
  generalize Cl _ _ _ _ _ _ = o
  cases o <;> rfl
 ·simp only [ldV]
  congr 1
  funext e
  cases e <;> rfl
def stE (id : Id) (p : Path) (i off m st n : Nat) (ts : List T) : DB → M V
 | .mem rows stt fx => Bx (Cl rows stt p i m st) fun row => if ts.length = n ∧ off + n ≤ row.length then .set id (.mem (G0 rows p i off ts) (stt + 1) fx) (.ret .dead) else .fail
 | .dead => .fail
def stV (n : Nat) (x y : V) : M V := match x with
 | .ptr id p i off m st => Dy (cellsOf y) fun ts => .get id (stE id p i off m st n ts)
 | _ => .fail
theorem uv (n : Nat) (id : Id) (p : Path) (i off m st : Nat) (y : V) : stV n (.ptr id p i off m st) y = Dy (cellsOf y) fun ts => .get id (stE id p i off m st n ts) := rfl
theorem yU (n : Nat) (x y : CX) : Ao s d (.st n x y) = stV n (A6 s x) (A6 s y) := by
 simp only [Ao]
 generalize A6 s x = v
 cases v <;> try rfl
 simp only [stV]
 congr 1
 funext ts
 congr 1
 funext e
 cases e <;> try rfl
 simp only [stE]
 generalize Cl _ _ _ _ _ _ = o
 cases o <;> rfl
def uw (id : Id) (p : Path) (i off m st : Nat) (ts : List T) : DB → M V
 | .mem rows stt fx => Bx (Cl rows stt p i m st) fun row => if ts.length = 1 ∧ off + 1 ≤ row.length then .set id (.mem (G0 rows p i off ts) (stt + 1) fx) (.ret (eO id p i off (stt + 1) ts)) else .fail
 | .dead => .fail
theorem qa (id : Id) (p : Path) (i off m st : Nat) (ts : List T) (rows : Rows) (stt : Nat) (fx : Bool) : uw id p i off m st ts (.mem rows stt fx) = Bx (Cl rows stt p i m st) fun row => if ts.length = 1 ∧ off + 1 ≤ row.length then .set id (.mem (G0 rows p i off ts) (stt + 1) fx) (.ret (eO id p i off (stt + 1) ts)) else .fail := rfl
def yV (x y : V) : M V := match x, y with
 | .ptr id p i off m st, .ref id2 n2 => Dy [.ref id2 n2] fun ts => .get id (uw id p i off m st ts)
 | _, _ => .fail
theorem qb (id : Id) (p : Path) (i off m st : Nat) (id2 : Id) (n2 : Nat) : yV (.ptr id p i off m st) (.ref id2 n2) = Dy [.ref id2 n2] fun ts => .get id (uw id p i off m st ts) := rfl
theorem uy (id : Id) (p : Path) (i off st : Nat) (rs : Rows) : eO id p i off st [.sl true rs] = .sub id p i off rs.length st := rfl
theorem uz (x y : CX) : Ao s d (.stk x y) = yV (A6 s x) (A6 s y) := by
 simp only [Ao]
 generalize A6 s x = v
 generalize A6 s y = u
 cases v <;> cases u <;> try rfl
 simp only [yV]
 congr 1
 funext ts
 congr 1
 funext e
 cases e with
 | dead => rfl
 | mem rows stt fx =>
  simp only [uw]
  cases Cl rows stt _ _ _ _ <;> rfl
theorem A0I : zV (.sl false []) = .t (.sl false []) := rfl
def mr : V → M V
 | .ptr a b c d e f => .ret (.ptr a b c d e f)
 | .vb a b c d => .ret (.vb a b c d)
 | .pp cs => .ret (.pp cs)
 | .fn f caps => .ret (.fn f caps)
 | _ => .fail
theorem qc (x : CX) : Ao s d (.nilc x) = mr (A6 s x) := by
 simp only [Ao]; generalize A6 s x = v; cases v <;> rfl
def yW (op : BinOp) (x y : V) : M V := match x, y with
 | .t (.v a), .t (.v b) => Bx (CH op a b) fun r => .ret (.t (.v r))
 | _, _ => .fail
theorem yX (op : BinOp) (a b : Value) : yW op (.t (.v a)) (.t (.v b)) = Bx (CH op a b) fun r => .ret (.t (.v r)) := rfl
theorem v8 (op : BinOp) (x y : CX) : Ao s d (.bin op x y) = yW op (A6 s x) (A6 s y) := by
 simp only [Ao]
 generalize A6 s x = a
 generalize A6 s y = b
 cases a <;> try rfl
 rename_i a; cases a <;> try rfl
 cases b <;> try rfl
 rename_i b; cases b <;> try rfl
 rename_i a b
 simp only [yW]
 cases CH op a b <;> rfl
def yY (ne : Bool) (ks : List FK) (x y : V) : M V := match x, y with
 | .agg as, .agg bs => Bx (Ve ks as bs) fun r => .ret (.t (.v (.bool (if ne then !r else r))))
 | _, _ => .fail
theorem qd (ne : Bool) (ks : List FK) (as bs : List V) : yY ne ks (.agg as) (.agg bs) = Bx (Ve ks as bs) fun r => .ret (.t (.v (.bool (if ne then !r else r)))) := rfl
theorem vA (ne : Bool) (ks : List FK) (x y : CX) : Ao s d (.eqs ne ks x y) = yY ne ks (A6 s x) (A6 s y) := by
 simp only [Ao]
 generalize A6 s x = a
 generalize A6 s y = b
 cases a <;> try rfl
 cases b <;> try rfl
 rename_i a b
 simp only [yY]
 cases Ve ks a b <;> rfl
def yZ (ne : Bool) (x y : V) : M V := match x, y with
 | .t (.v (.bool a)), .t (.v (.bool b)) => .ret (.t (.v (.bool (if ne then neB a b else eqB a b))))
 | _, _ => .fail
theorem ya (a b : Bool) : yZ false (.t (.v (.bool a))) (.t (.v (.bool b))) = .ret (.t (.v (.bool (eqB a b)))) := rfl
theorem yb (a b : Bool) : yZ true (.t (.v (.bool a))) (.t (.v (.bool b))) = .ret (.t (.v (.bool (neB a b)))) := rfl
theorem vB (ne : Bool) (x y : CX) : Ao s d (.beq ne x y) = yZ ne (A6 s x) (A6 s y) := rfl
def vC (ne : Bool) : V → M V
 | .nil => .ret (.t (.v (.bool (!ne))))
 | .t (.v (.slice q _ _)) => .ret (.t (.v (.bool (if ne then !q.isNone else q.isNone))))
 | .t (.sl _ (_ :: _)) => .ret (.t (.v (.bool ne)))
 | _ => .fail
theorem qe (ne : Bool) : vC ne .nil = .ret (.t (.v (.bool (!ne)))) := rfl
theorem yc (ne : Bool) (q : Option Addr) (n c : Nat) : vC ne (.t (.v (.slice q n c))) = .ret (.t (.v (.bool (if ne then !q.isNone else q.isNone)))) := rfl
theorem yd (ne o : Bool) (r : List T) (rs : Rows) : vC ne (.t (.sl o (r :: rs))) = .ret (.t (.v (.bool ne))) := rfl
theorem vD (ne : Bool) (x : CX) : Ao s d (.eqn ne x) = vC ne (A6 s x) := by
 simp only [Ao]
 generalize A6 s x = v
 cases v <;> try rfl
def unV (op : UnOp) (x : V) : M V := match op, x with
 | .not, .t (.v (.bool b)) => .ret (.t (.v (.bool (!b))))
 | .neg, .t (.v (.int k n)) => .ret (.t (.v (.int k (k.wrap (0 - n)))))
 | _, _ => .fail
theorem vE (b : Bool) : unV .not (.t (.v (.bool b))) = .ret (.t (.v (.bool (!b)))) := rfl
theorem vF (n : Int) : unV .neg (.t (.v (.int .i64 n))) = .ret (.t (.v (.int .i64 (A0n n)))) := rfl
def A0J (ne : Bool) : V → M V
 | .t (.v .nilIface) => .ret (.t (.v (.bool (!ne))))
 | _ => .fail
theorem qf (ne : Bool) : A0J ne (.t (.v .nilIface)) = .ret (.t (.v (.bool (!ne)))) := rfl
theorem vG (ne : Bool) (x : CX) : Ao s d (.eqi ne x) = A0J ne (A6 s x) := rfl
theorem ye (op : UnOp) (x : CX) : Ao s d (.un op x) = unV op (A6 s x) := rfl
def cvV (c : Cv) (x : V) : M V := match c with
 | .str => (match x with
  | .sub .. => .fail
  | x => Dh x fun rows => Bx (C3 rows) fun l => .ret (.t (.v (.string ⟨l.toArray⟩))))
 | c => Bx (Ws c x) .ret
theorem yf (k k' : IntKind) (n : Int) : cvV (.int k') (.t (.v (.int k n))) = .ret (.t (.v (.int k' (wr k' n)))) := rfl
theorem vH (k : IntKind) (n : Int) : cvV .rune (.t (.v (.int k n))) = .ret (.t (.v (.string (A0E n)))) := rfl
def qg (s : ByteArray) : List Int := s.data.toList.map fun b => (b.toNat : Int)
def kv (s : ByteArray) : Option (List Int) := if s.size ≤ maxLen then some (qg s) else none
theorem qh (x : ByteArray) : cvV .bytes (.t (.v (.string x))) = Bx (kv x) fun l => .ret (.t (.sl false (l.map (rK .u8)))) := by
 simp only [cvV, Ws, kv]
 split
 ·simp only [Bx, UD, qg, List.map_map]; rfl
 ·rfl
theorem vI (x : ByteArray) : cvV .same (.t (.v (.string x))) = .ret (.t (.v (.string x))) := rfl
def vJ (rows : Rows) : M V := Bx (C3 rows) fun l => .ret (.t (.v (.string ⟨l.toArray⟩)))
theorem vK (rows : Rows) : vJ rows = Bx (C3 rows) fun l => .ret (.t (.v (.string ⟨l.toArray⟩))) := rfl
theorem qi (o : Bool) (rows : Rows) : cvV .str (.t (.sl o rows)) = vJ rows := rfl
theorem kw : cvV .str .nil = vJ [] := rfl
theorem kx (id : Id) (n : Nat) : cvV .str (.ref id n) = Dh (.ref id n) vJ := rfl
theorem qj (c : Cv) (x : CX) : Ao s d (.conv c x) = cvV c (A6 s x) := by
 cases c <;> simp only [Ao, cvV]
 case str =>
  generalize A6 s x = v
  cases v <;> try rfl
  ·rename_i c; cases c <;> try rfl
   simp only [Dh]
   cases C3 _ <;> rfl
  ·show Dh _ _ = Dh _ _
   congr 1; funext rows; cases C3 rows <;> rfl
 all_goals (cases Ws _ (A6 s x) <;> rfl)
def yg (d : Nat) (z : List T) (byt : Nat) : V → M V
 | .t (.v (.int _ n)) => Bx (mkN n byt) fun m => .new [.mem (List.replicate m z) 0 false] (.ret (.ref (d, 0) m))
 | _ => .fail
theorem vL (z : List T) (byt : Nat) (x : CX) : Ao s d (.mks z byt x) = yg d z byt (A6 s x) := by
 simp only [Ao]
 generalize A6 s x = v
 cases v <;> try rfl
 rename_i c; cases c <;> try rfl
 rename_i x; cases x <;> try rfl
 simp only [yg, mkN]
 split <;> rfl
def iaK (sz : Nat) (id : Id) (p : Path) (n m st : Nat) (row : List T) : M V := if row.length = sz then .ret (.ptr id p n 0 m st) else .fail
def iaS (sz : Nat) (id : Id) (p : Path) (n : Int) (m st : Nat) (rows : Rows) : M V := if rows.length = m then Bx (getI rows n) (iaK sz id p n.toNat m st) else .fail
def iaE (sz : Nat) (id : Id) (m : Nat) (n : Int) : DB → M V
 | .mem rows _ _ => iaS sz id [] n m 0 rows
 | .dead => .fail
def iaC (sz : Nat) (id : Id) (p : Path) (j c : Nat) (n : Int) (m st : Nat) : DB → M V
 | .mem rows stt _ => if st = stt then Bx (B9 rows p j c) fun
   | .sl true rs => iaS sz id (p ++ [(j, c)]) n m st rs
   | _ => .fail
  else .fail
 | .dead => .fail
def iaP (sz : Nat) (row : List T) : M V := if row.length = sz then .ret (.pp row) else .fail
def iaV (sz : Nat) (x i : V) : M V := match i with
 | .t (.v (.int _ n)) => if 0 ≤ n then (match x with
  | .t (.sl _ rows) => Bx (getI rows n) (iaP sz)
  | .ref id m => .get id (iaE sz id m n)
  | .sub id p j c m st => .get id (iaC sz id p j c n m st)
  | _ => .fail) else .fail
 | _ => .fail
theorem yh (sz : Nat) (o : Bool) (rows : Rows) (k : IntKind) (n : Int) : iaV sz (.t (.sl o rows)) (.t (.v (.int k n))) = if 0 ≤ n then Bx (getI rows n) (iaP sz) else .fail := rfl
theorem vM (sz : Nat) (id : Id) (m : Nat) (k : IntKind) (n : Int) : iaV sz (.ref id m) (.t (.v (.int k n))) = if 0 ≤ n then .get id (iaE sz id m n) else .fail := rfl
theorem vN (sz : Nat) (id : Id) (p : Path) (j c m st : Nat) (k : IntKind) (n : Int) : iaV sz (.sub id p j c m st) (.t (.v (.int k n))) = if 0 ≤ n then .get id (iaC sz id p j c n m st) else .fail := rfl
theorem UZ {α : Type} {l : List α} {n : Int} (h : 0 ≤ n) : getI l n = l[n.toNat]? := if_pos h
theorem yi (sz : Nat) (id : Id) (p : Path) (n m st : Nat) (o : Option (List T)) : (match o with | some row => if row.length = sz then M.ret (V.ptr id p n 0 m st) else .fail | none => .fail) = Bx o (iaK sz id p n m st) := by cases o <;> rfl
theorem yj (sz : Nat) (x i : CX) : Ao s d (.ia sz x i) = iaV sz (A6 s x) (A6 s i) := by
 simp only [Ao]
 generalize A6 s x = a
 generalize A6 s i = b
 cases b <;> try rfl
 rename_i b; cases b <;> try rfl
 rename_i b; cases b <;> try rfl
 rename_i k n
 simp only [iaV]
 split
 ·rename_i h0
  cases a <;> try rfl
  ·rename_i a; cases a <;> try rfl
   rename_i rows
   simp only [UZ h0, Bx]
   cases rows[n.toNat]? <;> rfl
  ·show M.get _ _ = M.get _ _
   congr 1
   funext e; cases e <;> try rfl
   simp only [iaE, iaS, UZ h0]
   rw [← yi]; rfl
  ·show M.get _ _ = M.get _ _
   congr 1
   funext e; cases e <;> try rfl
   simp only [iaC, iaS, UZ h0]
   split
   ·cases B9 _ _ _ _ with
    | none => rfl
    | some t =>
     cases t <;> try rfl
     rename_i o rs
     cases o <;> try rfl
     simp only [Bx]
     split
     ·cases rs[n.toNat]? <;> rfl
     ·rfl
   ·rfl
 ·rfl
def faV (off : Nat) : V → M V
 | .ptr id p i o n st => .ret (.ptr id p i (o + off) n st)
 | .vb id o st cs => .ret (.vb id (o + off) st cs)
 | .pp cs => .ret (.pp (cs.drop off))
 | _ => .fail
theorem vO (off : Nat) (id : Id) (p : Path) (i o n st : Nat) : faV off (.ptr id p i o n st) = .ret (.ptr id p i (o + off) n st) := rfl
theorem yl (off : Nat) (cs : List T) : faV off (.pp cs) = .ret (.pp (cs.drop off)) := rfl
theorem ym (off : Nat) (x : CX) : Ao s d (.fa off x) = faV off (A6 s x) := by
 simp only [Ao]; generalize A6 s x = v; cases v <;> rfl
def A0K (off n : Nat) (ag : Bool) : V → M V
 | .agg cs => if off + n ≤ cs.length then XX ag ((cs.drop off).take n) else .fail
 | _ => .fail
theorem qk (off n : Nat) (ag : Bool) (cs : List V) : A0K off n ag (.agg cs) = if off + n ≤ cs.length then XX ag ((cs.drop off).take n) else .fail := rfl
theorem vP (off n : Nat) (ag : Bool) (x : CX) : Ao s d (.fld off n ag x) = A0K off n ag (A6 s x) := by
 simp only [Ao]; generalize A6 s x = v; cases v <;> rfl
def ixV (x i : V) : M V := match x, i with
 | .t (.v (.string st)), .t (.v (.int _ n)) => Bx (PU st n) fun b => .ret (.t (.v (.int .u8 b)))
 | _, _ => .fail
theorem A0L (st : ByteArray) (k : IntKind) (n : Int) : ixV (.t (.v (.string st))) (.t (.v (.int k n))) = Bx (PU st n) fun b => .ret (.t (.v (.int .u8 b))) := rfl
theorem yp (x i : CX) : Ao s d (.ix x i) = ixV (A6 s x) (A6 s i) := by
 simp only [Ao]
 generalize A6 s x = a
 generalize A6 s i = b
 cases a <;> try rfl
 rename_i a; cases a <;> try rfl
 rename_i a; cases a <;> try rfl
 cases b <;> try rfl
 rename_i b; cases b <;> try rfl
 rename_i b; cases b <;> try rfl
 simp only [ixV, PU]
 split <;> rfl
def A0M (sz len : Nat) (ag : Bool) (x i : V) : M V := match x, i with
 | .agg cs, .t (.v (.int _ n)) => if 0 ≤ n ∧ n < len ∧ cs.length = len * sz then XX ag ((cs.drop (n.toNat * sz)).take sz) else .fail
 | _, _ => .fail
theorem ql (sz len : Nat) (ag : Bool) (cs : List V) (k : IntKind) (n : Int) : A0M sz len ag (.agg cs) (.t (.v (.int k n))) = if 0 ≤ n ∧ n < len ∧ cs.length = len * sz then XX ag ((cs.drop (n.toNat * sz)).take sz) else .fail := rfl
theorem vQ (sz len : Nat) (ag : Bool) (x i : CX) : Ao s d (.ixa sz len ag x i) = A0M sz len ag (A6 s x) (A6 s i) := by
 simp only [Ao]
 generalize A6 s x = a
 generalize A6 s i = b
 cases a <;> rfl
def bnd (o : Option V) (e : Int) : Option Int := match o with
 | none => some e
 | some (.t (.v (.int _ n))) => some n
 | _ => none
theorem qm (e : Int) : bnd none e = some e := rfl
theorem qn (e : Int) (k : IntKind) (n : Int) : bnd (some (.t (.v (.int k n)))) e = some n := rfl
def qo (sz : Nat) (x : V) (lo hi : Option V) : M V := match x with
 | .t (.v (.string st)) => Bx (bnd lo 0) fun l => Bx (bnd hi (AS st)) fun h => if sz = 0 then Bx (PV st l h) fun z => .ret (.t (.v (.string z))) else .fail
 | .t (.sl _ rows) => Bx (bnd lo 0) fun l => Bx (bnd hi (AC rows)) fun h => if 0 < sz ∧ (rows.all fun r => r.length == sz) then Bx (slL rows l h) fun z => .ret (.t (.sl false z)) else .fail
 | _ => .fail
theorem yq (sz : Nat) (st : ByteArray) (lo hi : Option V) : qo sz (.t (.v (.string st))) lo hi = Bx (bnd lo 0) fun l => Bx (bnd hi (AS st)) fun h => if sz = 0 then Bx (PV st l h) fun z => .ret (.t (.v (.string z))) else .fail := rfl
theorem yr (sz : Nat) (o : Bool) (rows : Rows) (lo hi : Option V) : qo sz (.t (.sl o rows)) lo hi = Bx (bnd lo 0) fun l => Bx (bnd hi (AC rows)) fun h => if 0 < sz ∧ (rows.all fun r => r.length == sz) then Bx (slL rows l h) fun z => .ret (.t (.sl false z)) else .fail := rfl
def vR (sz : Nat) (x : V) (l h : Option Int → Option Int) : M V := match x with
 | .t (.v (.string st)) => (match l (some 0), h (some st.size) with
   | some l, some h => if (0 ≤ l ∧ l ≤ h ∧ h ≤ st.size) ∧ sz = 0 then .ret (.t (.v (.string (st.extract l.toNat h.toNat)))) else .fail
   | _, _ => .fail)
 | .t (.sl _ rows) => (match l (some 0), h (some rows.length) with
   | some l, some h => if (0 ≤ l ∧ l ≤ h ∧ h ≤ rows.length) ∧ 0 < sz ∧ (rows.all fun r => r.length == sz) then .ret (.t (.sl false ((rows.drop l.toNat).take (h.toNat - l.toNat)))) else .fail
   | _, _ => .fail)
 | _ => .fail
def bnE (s : List V) (o : Option CX) (e : Option Int) : Option Int := match o with
 | none => e
 | some q => match A6 s q with | .t (.v (.int _ n)) => some n | _ => none
theorem qp (sz : Nat) (x : CX) (lo hi : Option CX) : Ao s d (.slc sz x lo hi) = vR sz (A6 s x) (bnE s lo) (bnE s hi) := by
 simp only [Ao, vR]
 cases lo <;> cases hi <;> rfl
theorem qr (o : Option CX) (e : Int) : bnE s o (some e) = bnd (o.map (A6 s)) e := by
 cases o with
 | none => rfl
 | some q =>
  simp only [Option.map_some, bnE]
  generalize A6 s q = v
  cases v <;> try rfl
  rename_i v; cases v <;> try rfl
  rename_i v; cases v <;> rfl
theorem mt {A C : Prop} [Decidable A] [Decidable C] {α : Type} (k : α → M V) (x : α) : (if A ∧ C then k x else M.fail) = if C then Bx (if A then some x else none) k else M.fail := by
 by_cases A <;> by_cases C <;> simp_all [Bx]
theorem vS (sz : Nat) (x : CX) (lo hi : Option CX) : Ao s d (.slc sz x lo hi) = qo sz (A6 s x) (lo.map (A6 s)) (hi.map (A6 s)) := by
 rw [qp]
 generalize A6 s x = a
 cases a <;> try rfl
 rename_i a; cases a <;> try rfl
 ·rename_i a; cases a <;> try rfl
  rename_i st
  simp only [qo, vR, AS, qr]
  generalize bnd (lo.map (A6 s)) 0 = l
  generalize bnd (hi.map (A6 s)) (st.size : Int) = h
  cases l <;> cases h <;> try rfl
  exact mt (fun z => .ret (.t (.v (.string z)))) _
 ·rename_i o rows
  simp only [qo, vR, AC, qr]
  generalize bnd (lo.map (A6 s)) 0 = l
  generalize bnd (hi.map (A6 s)) (rows.length : Int) = h
  cases l <;> cases h <;> try rfl
  exact mt (fun z => .ret (.t (.sl false z))) _
theorem qt (f : FuncId) (md : List Md) (own : List Bool) (args : List CX) : Ao s d (.call f md own args) = QM d f md own (args.map (A6 s)) := rfl
def cvv (d : Nat) (md : List Md) (own : List Bool) (args : List V) : V → M V
 | .fn f caps => QM d f (md ++ (caps.map fun _ => Md.ref)) own (args ++ caps)
 | _ => .fail
theorem nl (x : CX) (md : List Md) (own : List Bool) (args : List CX) : Ao s d (.callv x md own args) = cvv d md own (args.map (A6 s)) (A6 s x) := by
 simp only [Ao]; generalize A6 s x = v; cases v <;> rfl
def yt (id : Id) (n sz byt : Nat) (new : Rows) : DB → M V
 | .mem rows st _ => if rows.length = n ∧ (rows.all fun r => r.length == sz) then Bx (room (n + new.length) byt) fun _ => .set id (.mem (rows ++ new) st false) (.ret (.ref id (n + new.length))) else .fail
 | .dead => .fail
def yu (d sz byt : Nat) (new : Rows) : T → M V
 | .sl true rows => if (rows.all fun r => r.length == sz) then Bx (room (rows.length + new.length) byt) fun _ => .new [.mem (rows ++ new) 0 false] (.ret (.ref (d, 0) (rows.length + new.length))) else .fail
 | _ => .fail
def ky (d sz byt : Nat) (new : Rows) : V → M V
 | .nil => Bx (room new.length byt) fun _ => .new [.mem new 0 false] (.ret (.ref (d, 0) new.length))
 | .ref id n => .get id (yt id n sz byt new)
 | .sub id p i c n st => take (.sub id p i c n st) (yu d sz byt new)
 | _ => .fail
def nn (d sz byt : Nat) (a : V) (new : Rows) : M V := if (new.all fun r => r.length == sz) then ky d sz byt new a else .fail
theorem qu (d sz byt : Nat) (new : Rows) : ky d sz byt new .nil = Bx (room new.length byt) fun _ => .new [.mem new 0 false] (.ret (.ref (d, 0) new.length)) := rfl
theorem qv (d sz byt : Nat) (new : Rows) (id : Id) (n : Nat) : ky d sz byt new (.ref id n) = .get id (yt id n sz byt new) := rfl
theorem qw (d sz byt : Nat) (new : Rows) (id : Id) (p : Path) (i c n st : Nat) : ky d sz byt new (.sub id p i c n st) = take (.sub id p i c n st) (yu d sz byt new) := rfl
theorem qx (id : Id) (n sz byt : Nat) (new rows : Rows) (st : Nat) (fx : Bool) : yt id n sz byt new (.mem rows st fx) = if rows.length = n ∧ (rows.all fun r => r.length == sz) then Bx (room (n + new.length) byt) fun _ => .set id (.mem (rows ++ new) st false) (.ret (.ref id (n + new.length))) else .fail := rfl
theorem vT (d sz byt : Nat) (new rows : Rows) : yu d sz byt new (.sl true rows) = if (rows.all fun r => r.length == sz) then Bx (room (rows.length + new.length) byt) fun _ => .new [.mem (rows ++ new) 0 false] (.ret (.ref (d, 0) (rows.length + new.length))) else .fail := rfl
theorem qy {A B C D : Prop} [Decidable A] [Decidable B] [Decidable C] [Decidable D] (X : M V) : (if A ∧ B ∧ C ∧ D then X else M.fail) = if A ∧ D then Bx (if B ∧ C then some () else none) (fun _ => X) else M.fail := by
 by_cases A <;> by_cases B <;> by_cases C <;> by_cases D <;> simp_all [Bx]
theorem dg {B C D : Prop} [Decidable B] [Decidable C] [Decidable D] (X : M V) : (if B ∧ C ∧ D then X else M.fail) = if D then Bx (if B ∧ C then some () else none) (fun _ => X) else M.fail := by
 by_cases B <;> by_cases C <;> by_cases D <;> simp_all [Bx]
theorem vU (sz byt : Nat) (a x : CX) : Ao s d (.app sz byt a x) = Fn (A6 s x) (nn d sz byt (A6 s a)) := by
 simp only [Ao]
 congr 1
 funext new
 simp only [nn]
 split
 ·generalize A6 s a = v
  cases v <;> try rfl
  ·simp only [ky, room]; split <;> rfl
  ·show M.get _ _ = M.get _ _
   congr 1
   funext e; cases e <;> try rfl
   exact qy _
  ·simp only [ky]
   congr 1
   funext e; cases e <;> try rfl
   rename_i o rows
   cases o <;> try rfl
   exact dg _
 ·rfl
def vV (id : Id) (p : Path) (i off m st : Nat) : DB → M V
 | .mem rows stt _ => Bx (Cl rows stt p i m st) fun row => Bx (row[off]?) fun t => .ret (LC id p i off stt t)
 | .dead => .fail
theorem qz (id : Id) (p : Path) (i off m st : Nat) (rows : Rows) (stt : Nat) (fx : Bool) : vV id p i off m st (.mem rows stt fx) = Bx (Cl rows stt p i m st) fun row => Bx (row[off]?) fun t => .ret (LC id p i off stt t) := rfl
def yv : V → M V
 | .ptr id p i off m st => if p = [] then .get id (vV id p i off m st) else .fail
 | _ => .fail
theorem rA (id : Id) (i off m st : Nat) : yv (.ptr id [] i off m st) = .get id (vV id [] i off m st) := rfl
theorem vW (x : CX) : Ao s d (.ldr x) = yv (A6 s x) := by
 simp only [Ao]
 generalize A6 s x = v
 cases v with
 | ptr id p i off m st =>
  simp only [yv]
  split
  ·congr 1
   funext e
   cases e with
   | dead => rfl
   | mem rows stt fx =>
    simp only [vV]
    generalize Cl rows stt p i m st = o
    cases o with
    | none => rfl
    | some row =>
     show (match row[off]? with | some t => M.ret (LC id p i off stt t) | none => M.fail) = Bx (row[off]?) _
     generalize row[off]? = o
     cases o <;> rfl
  ·rfl
 | _ => rfl
def mu (d q sz byt : Nat) (a x : V) : M V := match a, x with
 | .sub id p i c n st, .ref id2 n2 => if p ≠ [] ∧ id.1 = q ∧ id2.1 ≠ q then Fn (.ref id2 n2) (nn d sz byt (.sub id p i c n st)) else .fail
 | _, _ => .fail
theorem no (d q sz byt : Nat) (a b : Nat) (y : Nat × Nat) (p : Path) (i c n st : Nat) (a2 b2 n2 : Nat) : mu d q sz byt (.sub (a, b) (y :: p) i c n st) (.ref (a2, b2) n2) = if a = q then (if a2 = q then .fail else Fn (.ref (a2, b2) n2) (nn d sz byt (.sub (a, b) (y :: p) i c n st))) else .fail := by
 simp only [mu]
 by_cases h1 : a = q <;> by_cases h2 : a2 = q <;> simp [h1, h2]
theorem rC (q sz byt : Nat) (a x : CX) : Ao s d (.appn q sz byt a x) = mu d q sz byt (A6 s a) (A6 s x) := by
 simp only [Ao]
 generalize A6 s a = v
 generalize A6 s x = u
 cases v <;> cases u <;> try rfl
 simp only [mu]
 split
 ·congr 1
  funext new
  simp only [nn, ky]
  split
  ·congr 1
   funext t
   cases t with
   | sl o rows => cases o with
    | true => exact dg _
    | false => rfl
   | _ => rfl
  ·rfl
 ·rfl
def np (str : Bool) (x : V) : M V := match str, x with
 | true, .t (.v (.string st)) => .ret (.t (.v (.int .i64 (AS st))))
 | false, .t (.sl _ rows) => .ret (.t (.v (.int .i64 (AC rows))))
 | false, .nil => .ret (.t (.v (.int .i64 0)))
 | false, .ref _ n => .ret (.t (.v (.int .i64 n)))
 | false, .sub _ _ _ _ n _ => .ret (.t (.v (.int .i64 n)))
 | _, _ => .fail
theorem yw (st : ByteArray) : np true (.t (.v (.string st))) = .ret (.t (.v (.int .i64 (AS st)))) := rfl
theorem yx (o : Bool) (rows : Rows) : np false (.t (.sl o rows)) = .ret (.t (.v (.int .i64 (AC rows)))) := rfl
theorem rD : np false .nil = .ret (.t (.v (.int .i64 0))) := rfl
theorem rE (id : Id) (n : Nat) : np false (.ref id n) = .ret (.t (.v (.int .i64 n))) := rfl
theorem rF (id : Id) (p : Path) (i c n st : Nat) : np false (.sub id p i c n st) = .ret (.t (.v (.int .i64 n))) := rfl
theorem vX (str : Bool) (x : CX) : Ao s d (.len str x) = np str (A6 s x) := by
 simp only [Ao]
 generalize A6 s x = v
 cases str <;> cases v <;> try rfl
def mmV (mx : Bool) (x y : V) : M V := match x, y with
 | .t (.v (.int k a)), .t (.v (.int _ b)) => .ret (.t (.v (.int k (if mx then er a b else A0D a b))))
 | _, _ => .fail
theorem A0N (k k' : IntKind) (a b : Int) : mmV true (.t (.v (.int k a))) (.t (.v (.int k' b))) = .ret (.t (.v (.int k (er a b)))) := rfl
theorem A0O (k k' : IntKind) (a b : Int) : mmV false (.t (.v (.int k a))) (.t (.v (.int k' b))) = .ret (.t (.v (.int k (A0D a b)))) := rfl
theorem yy (mx : Bool) (x y : CX) : Ao s d (.mm mx x y) = mmV mx (A6 s x) (A6 s y) := rfl
def yz (i : Nat) : V → M V
 | .tup vs => Bx vs[i]? .ret
 | _ => .fail
theorem rH (i : Nat) (vs : List V) : yz i (.tup vs) = Bx vs[i]? .ret := rfl
theorem vY (x : CX) (i : Nat) : Ao s d (.ext x i) = yz i (A6 s x) := by
 simp only [Ao]; generalize A6 s x = v; cases v <;> try rfl
 rename_i vs
 simp only [yz]
 cases vs[i]? <;> rfl
theorem vZ (f : FuncId) (caps : List CX) : Ao s d (.mkf f caps) = .ret (.fn f (caps.map (A6 s))) := rfl
end
end TT
