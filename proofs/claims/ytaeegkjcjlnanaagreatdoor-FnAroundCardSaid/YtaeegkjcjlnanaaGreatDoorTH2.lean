import Derived.Test.YtaeegkjcjlnanaaGreatDoorTH1
set_option linter.unusedVariables false
set_option linter.unusedSimpArgs false
namespace TT
open Go
def wr (k : IntKind) (a : Int) : Int := k.wrap a
def Ac (a b : Int) : Int := IntKind.i64.wrap (a + b)
def Bz (a b : Int) : Int := IntKind.i64.wrap (a - b)
def UH (a b : Int) : Int := IntKind.i64.wrap (a * b)
def A01 (a : Int) : Int := IntKind.i64.wrap (0 - a)
def wo (a b : Int) : Option Int := if b = 0 then none else some (IntKind.i64.wrap (a.tdiv b))
def jw (a b : Int) : Option Int := if b = 0 then none else some (a.tmod b)
def IY (a b : Int) : Bool := decide (a < b)
def Rg (a b : Int) : Bool := decide (a ≤ b)
def Nw (a b : Int) : Bool := decide (a > b)
def geI (a b : Int) : Bool := decide (a ≥ b)
def BE (a b : Int) : Bool := a == b
def neI (a b : Int) : Bool := a != b
def aV (x y : ByteArray) : Option ByteArray := if x.size + y.size ≤ 9223372036854775807 then some (x ++ y) else none
def Cs (x y : ByteArray) : Bool := x.toList == y.toList
def neS (x y : ByteArray) : Bool := !(x.toList == y.toList)
def ltS (x y : ByteArray) : Bool := Op.bytesLess x.toList y.toList
def leS (x y : ByteArray) : Bool := Op.bytesLess x.toList y.toList || x.toList == y.toList
def gtS (x y : ByteArray) : Bool := !(Op.bytesLess x.toList y.toList || x.toList == y.toList)
def geS (x y : ByteArray) : Bool := !(Op.bytesLess x.toList y.toList)
def eqB (a b : Bool) : Bool := a == b
def neB (a b : Bool) : Bool := !(a == b)
def zI (a b : Int) : Int := if b < a then b else a
def zJ (a b : Int) : Int := if a < b then b else a
def AU (x : ByteArray) : Int := x.size
def AC {α : Type} (l : List α) : Int := l.length
def zK (n : Int) : ByteArray := Utf8.encode n
def getI {α : Type} (l : List α) (i : Int) : Option α := if 0 ≤ i then l[i.toNat]? else none
def PM (s : ByteArray) (i : Int) : Option Int := if h : 0 ≤ i ∧ i.toNat < s.size then some (s[i.toNat]'h.2).toNat else none
def PN (s : ByteArray) (l h : Int) : Option ByteArray := if 0 ≤ l ∧ l ≤ h ∧ h ≤ s.size then some (s.extract l.toNat h.toNat) else none
def slL {α : Type} (s : List α) (l h : Int) : Option (List α) := if 0 ≤ l ∧ l ≤ h ∧ h ≤ s.length then some ((s.drop l.toNat).take (h.toNat - l.toNat)) else none
def mkN (n : Int) (byt : Nat) : Option Nat := if 0 ≤ n ∧ n.toNat * byt ≤ LIM ∧ 0 < byt then some n.toNat else none
def room (n byt : Nat) : Option Unit := if n * byt ≤ LIM ∧ 0 < byt then some () else none
def rI (x : Int) : List T := [.v (.int .i64 x)]
def rK (k : IntKind) (x : Int) : List T := [.v (.int k x)]
def rS (x : ByteArray) : List T := [.v (.string x)]
def rB (x : Bool) : List T := [.v (.bool x)]
def rL {α : Type} (o : Bool) (f : α → List T) (l : List α) : List T := [.sl o (l.map f)]
def Ok {ρ : Type} (x : Option ρ) (e : ρ → Ap) (y : Option Ap) : Prop := ∀ r, x = some r → y = some (e r)
theorem dg {ρ : Type} {r : ρ} {e : ρ → Ap} {y : Option Ap} (h : y = some (e r)) : Ok (some r) e y := fun r' h' => by cases h'; exact h
theorem tI {ρ : Type} {e : ρ → Ap} {y : Option Ap} : Ok none e y := fun r' h' => by cases h'
theorem zL {ρ : Type} {b : Bool} {x x' : Option ρ} {e : ρ → Ap} {y : Option Ap} (h1 : b = true → Ok x e y) (h2 : b = false → Ok x' e y) : Ok (if b then x else x') e y := by
 cases b
 ·exact h2 rfl
 ·exact h1 rfl
theorem E5 {α ρ : Type} {p : Option α} {f : α → Option ρ} {e : ρ → Ap} {y : Option Ap} (h : ∀ a, p = some a → Ok (f a) e y) : Ok (p >>= f) e y := fun r hr => by
 obtain ⟨a, h1, h2⟩ := Option.bind_eq_some_iff.1 hr
 exact h a h1 r h2
theorem CD {β ρ : Type} {g : Option β} {f : β → Option ρ} {e : ρ → Ap} {e' : β → Ap} {Y : Option Ap} {k : Ap → Option Ap} (hg : Ok g e' Y) (h : ∀ v, Ok (f v) e (k (e' v))) : Ok (g >>= f) e (Y.bind k) := fun r hr => by
 obtain ⟨a, h1, h2⟩ := Option.bind_eq_some_iff.1 hr
 rw [hg a h1]
 exact h a r h2
section
def Q7 (k : IntKind) (a b : Int) : Int := Go.bits .and k a b
def orK (k : IntKind) (a b : Int) : Int := Go.bits .or k a b
def tJ (k : IntKind) (a b : Int) : Int := Go.bits .xor k a b
def li (k : IntKind) (a b : Int) : Int := Go.bits .andNot k a b
def tK (k : IntKind) (a b : Int) : Int := k.wrap (a + b)
def tL (k : IntKind) (a b : Int) : Int := k.wrap (a - b)
def tM (k : IntKind) (a b : Int) : Int := k.wrap (a * b)
def wq (k : IntKind) (a b : Int) : Option Int := if b = 0 then none else some (k.wrap (a.tdiv b))
def A02 (k : IntKind) (a b : Int) : Option Int := if b = 0 then none else some (k.wrap (a.tmod b))
def wu (k : IntKind) (a b : Int) : Option Int := if b < 0 then none else some (k.wrap (a * 2 ^ (min b.toNat k.bits)))
def jx (k : IntKind) (a b : Int) : Option Int := if b < 0 then none else some (a.fdiv (2 ^ (min b.toNat k.bits)))
theorem tN (k : IntKind) (a b : Int) : CK .and (.int k a) (.int k b) = some (.int k (Q7 k a b)) := by simp [CK, N0, Q7]
theorem wv (k : IntKind) (a b : Int) : CK .or (.int k a) (.int k b) = some (.int k (orK k a b)) := by simp [CK, N0, orK]
theorem tO (k : IntKind) (a b : Int) : CK .xor (.int k a) (.int k b) = some (.int k (tJ k a b)) := by simp [CK, N0, tJ]
theorem jy (k : IntKind) (a b : Int) : CK .andNot (.int k a) (.int k b) = some (.int k (li k a b)) := by simp [CK, N0, li]
theorem tP (k k' : IntKind) (a b : Int) : CK .shl (.int k a) (.int k' b) = (wu k a b).map (Value.int k) := by simp only [CK, wu]; split <;> rfl
theorem tQ (k k' : IntKind) (a b : Int) : CK .shr (.int k a) (.int k' b) = (jx k a b).map (Value.int k) := by simp only [CK, jx]; split <;> rfl
theorem jz (a b : Int) : CK .add (.int .u8 a) (.int .u8 b) = some (.int .u8 (tK .u8 a b)) := rfl
theorem k8 (a b : Int) : CK .sub (.int .u8 a) (.int .u8 b) = some (.int .u8 (tL .u8 a b)) := rfl
theorem k9 (a b : Int) : CK .mul (.int .u8 a) (.int .u8 b) = some (.int .u8 (tM .u8 a b)) := rfl
theorem gt (a b : Int) : CK .add (.int .i32 a) (.int .i32 b) = some (.int .i32 (tK .i32 a b)) := rfl
theorem gu (a b : Int) : CK .sub (.int .i32 a) (.int .i32 b) = some (.int .i32 (tL .i32 a b)) := rfl
theorem gv (a b : Int) : CK .mul (.int .i32 a) (.int .i32 b) = some (.int .i32 (tM .i32 a b)) := rfl
theorem gw (a b : Int) : CK .add (.int .u32 a) (.int .u32 b) = some (.int .u32 (tK .u32 a b)) := rfl
theorem gy (a b : Int) : CK .sub (.int .u32 a) (.int .u32 b) = some (.int .u32 (tL .u32 a b)) := rfl
theorem gz (a b : Int) : CK .mul (.int .u32 a) (.int .u32 b) = some (.int .u32 (tM .u32 a b)) := rfl
theorem hH (a b : Int) : CK .add (.int .u64 a) (.int .u64 b) = some (.int .u64 (tK .u64 a b)) := rfl
theorem hJ (a b : Int) : CK .sub (.int .u64 a) (.int .u64 b) = some (.int .u64 (tL .u64 a b)) := rfl
theorem hQ (a b : Int) : CK .mul (.int .u64 a) (.int .u64 b) = some (.int .u64 (tM .u64 a b)) := rfl
theorem tR (a b : Int) : CK .add (.int .i64 a) (.int .i64 b) = some (.int .i64 (Ac a b)) := rfl
theorem tT (a b : Int) : CK .sub (.int .i64 a) (.int .i64 b) = some (.int .i64 (Bz a b)) := rfl
theorem tU (a b : Int) : CK .mul (.int .i64 a) (.int .i64 b) = some (.int .i64 (UH a b)) := rfl
theorem tV (a b : Int) : CK .quo (.int .i64 a) (.int .i64 b) = (wo a b).map (Value.int .i64) := by simp only [CK, N0, wo, if_true]; split <;> rfl
theorem hZ (a b : Int) : CK .quo (.int .u64 a) (.int .u64 b) = (wq .u64 a b).map (Value.int .u64) := by simp only [CK, N0, wq, if_true]; split <;> rfl
theorem tW (a b : Int) : CK .rem (.int .i64 a) (.int .i64 b) = (jw a b).map (Value.int .i64) := by simp only [CK, N0, jw, if_true]; split <;> rfl
theorem ww (k : IntKind) (a b : Int) : CK .lss (.int k a) (.int k b) = some (.bool (IY a b)) := by simp only [CK, N0, IY, if_true]
theorem wy (k : IntKind) (a b : Int) : CK .leq (.int k a) (.int k b) = some (.bool (Rg a b)) := by simp only [CK, N0, Rg, if_true]
theorem wz (k : IntKind) (a b : Int) : CK .gtr (.int k a) (.int k b) = some (.bool (Nw a b)) := by simp only [CK, N0, Nw, if_true]
theorem xA (k : IntKind) (a b : Int) : CK .geq (.int k a) (.int k b) = some (.bool (geI a b)) := by simp only [CK, N0, geI, if_true]
theorem xB (k : IntKind) (a b : Int) : CK .eql (.int k a) (.int k b) = some (.bool (BE a b)) := by simp only [CK, N0, BE, if_true]
theorem xC (k : IntKind) (a b : Int) : CK .neq (.int k a) (.int k b) = some (.bool (neI a b)) := by simp only [CK, N0, neI, if_true]
theorem tX (a b : ByteArray) : CK .add (.string a) (.string b) = (aV a b).map Value.string := by simp only [CK, oR, aV]; split <;> rfl
theorem xD (a b : ByteArray) : CK .eql (.string a) (.string b) = some (.bool (Cs a b)) := rfl
theorem xE (a b : ByteArray) : CK .neq (.string a) (.string b) = some (.bool (neS a b)) := rfl
theorem xF (a b : ByteArray) : CK .lss (.string a) (.string b) = some (.bool (ltS a b)) := rfl
theorem xG (a b : ByteArray) : CK .leq (.string a) (.string b) = some (.bool (leS a b)) := rfl
theorem xH (a b : ByteArray) : CK .gtr (.string a) (.string b) = some (.bool (gtS a b)) := rfl
theorem xI (a b : ByteArray) : CK .geq (.string a) (.string b) = some (.bool (geS a b)) := rfl
end
def C1 {α β : Type} : Option α → (α → M β) → M β
 | some a, k => k a
 | none, _ => .fail
section
variable (s : List V) (d : Nat)
theorem xJ (x : Ca) : Av s d (.mv x) = .ret (A6 s x) := rfl
def pY (c a b : V) : M V := match c with
 | .t (.v (.bool t)) => .ret (if t then a else b)
 | _ => .fail
theorem pZ (c a b : Ca) : Av s d (.pick c a b) = pY (A6 s c) (A6 s a) (A6 s b) := rfl
theorem tY (a b : V) : pY (.t (.v (.bool true))) a b = .ret a := rfl
theorem tZ (a b : V) : pY (.t (.v (.bool false))) a b = .ret b := rfl
theorem mg (z : List T) : Av s d (.alloc z) = .new [.mem [z] 0 false] (.ret (.ptr (d, 0) [] 0 0 1 0)) := rfl
theorem ta (x : Ca) : Av s d (.box x) = E7 (cellsOf (A6 s x)) fun ts => if ts.isEmpty then .fail else .new [.mem [ts] 0 false] (.ret (.ptr (d, 0) [] 0 0 1 0)) := rfl
def zM (d : Nat) : V → M V
 | .agg cs => if cs.isEmpty || !cs.all V.one then .fail else .new [.mem [List.replicate cs.length .hole] 0 false] (.ret (.vb (d, 0) 0 0 cs))
 | _ => .fail
theorem pc (x : Ca) : Av s d (.vbox x) = zM d (A6 s x) := by
 simp only [Av]; generalize A6 s x = v; cases v <;> rfl
def tb (id : Id) (n : Nat) (cs : List V) : DH → M V
 | .mem [row] stt fx => if row.length = n then .set id (.mem [List.replicate n .hole] (stt + 1) fx) (.ret (.vb id 0 (stt + 1) cs)) else .fail
 | _ => .fail
def tc (n : Nat) (x y : V) : M V := match WR x, y with
 | some id, .agg cs => if cs.length = n ∧ cs.all V.one = true then .get id (tb id n cs) else .fail
 | _, _ => .fail
theorem td (n : Nat) (x y : Ca) : Av s d (.vst n x y) = tc n (A6 s x) (A6 s y) := by
 simp only [Av]
 generalize A6 s x = v
 generalize A6 s y = u
 simp only [tc]
 generalize WR v = q
 cases q with
 | none => rfl
 | some id =>
  cases u <;> try rfl
def zV : T → V
 | .sl true [] => .nil
 | c => .t c
theorem mh (z : List T) (parts : List (Nat × Nat × Ca)) : Av s d (.build z parts) = C1 (bld s (z.map zV) parts) fun cs => .ret (.agg cs) := by
 have e : Av s d (.build z parts) = match bld s (z.map zV) parts with | some cs => .ret (.agg cs) | none => .fail := rfl
 rw [e]
 cases bld s (z.map zV) parts <;> rfl
def zN (d sz : Nat) (rs : Rows) : M V := if rs.all fun r => r.length == sz then .new [.mem rs 0 false] (.ret (.ref (d, 0) rs.length)) else .fail
theorem te (sz : Nat) (parts : List Ca) : Av s d (.bsl sz parts) = CA (parts.map fun q => cellsOf (A6 s q)) (zN d sz) := rfl
def vz (d sz : Nat) (rs : Rows) : M V := if rs.all fun r => r.length == sz then .new [.mem rs 0 false] (.set (d, 0) .dead (.ret (.t (.sl false (AX rs))))) else .fail
theorem pd (sz : Nat) (parts : List Ca) : Av s d (.bslz sz parts) = CA (parts.map fun q => cellsOf (A6 s q)) (vz d sz) := rfl
def X5 (ag : Bool) (vs : List V) : M V := if ag then .ret (.agg vs) else match vs with | [v] => .ret v | _ => .fail
theorem tf (vs : List V) : X5 true vs = .ret (.agg vs) := rfl
theorem pe (v : V) : X5 false [v] = .ret v := rfl
def ldE (n : Nat) (ag : Bool) (id : Id) (p : Path) (i off m st : Nat) : DH → M V
 | .mem rows stt _ => C1 (Cl rows stt p i m st) fun row => if off + n ≤ row.length then X5 ag (Jl id p i off stt ((row.drop off).take n)) else .fail
 | .dead => .fail
def ldX (n : Nat) (ag : Bool) (off st : Nat) (cs : List V) : DH → M V
 | .mem rows stt _ => if (st = stt ∧ rows.length = 1) ∧ off + n ≤ cs.length then X5 ag ((cs.drop off).take n) else .fail
 | .dead => .fail
def ldV (n : Nat) (ag : Bool) : V → M V
 | .ptr id p i off m st => .get id (ldE n ag id p i off m st)
 | .vb id off st cs => .get id (ldX n ag off st cs)
 | .pp cs => if n ≤ cs.length then X5 ag ((cs.take n).map V.t) else .fail
 | _ => .fail
theorem xK (n : Nat) (ag : Bool) (x : Ca) : Av s d (.ld n ag x) = ldV n ag (A6 s x) := by
 simp only [Av]
 generalize A6 s x = v
 cases v <;> try rfl
 ·simp only [ldV]
  congr 1
  funext e
  cases e <;> try rfl
  simp only [ldE]
  generalize Cl _ _ _ _ _ _ = o
  cases o <;> rfl
 ·simp only [ldV]
  congr 1
  funext e
  cases e <;> rfl
def stE (id : Id) (p : Path) (i off m st n : Nat) (ts : List T) : DH → M V
 | .mem rows stt fx => C1 (Cl rows stt p i m st) fun row => if ts.length = n ∧ off + n ≤ row.length then .set id (.mem (G0 rows p i off ts) (stt + 1) fx) (.ret .dead) else .fail
 | .dead => .fail
def stV (n : Nat) (x y : V) : M V := match x with
 | .ptr id p i off m st => E7 (cellsOf y) fun ts => .get id (stE id p i off m st n ts)
 | _ => .fail
theorem tg (n : Nat) (id : Id) (p : Path) (i off m st : Nat) (y : V) : stV n (.ptr id p i off m st) y = E7 (cellsOf y) fun ts => .get id (stE id p i off m st n ts) := rfl
theorem xL (n : Nat) (x y : Ca) : Av s d (.st n x y) = stV n (A6 s x) (A6 s y) := by
 simp only [Av]
 generalize A6 s x = v
 cases v <;> try rfl
 simp only [stV]
 congr 1
 funext ts
 congr 1
 funext e
 cases e <;> try rfl
 simp only [stE]
 generalize Cl _ _ _ _ _ _ = o
 cases o <;> rfl
def tj (id : Id) (p : Path) (i off m st : Nat) (ts : List T) : DH → M V
 | .mem rows stt fx => C1 (Cl rows stt p i m st) fun row => if ts.length = 1 ∧ off + 1 ≤ row.length then .set id (.mem (G0 rows p i off ts) (stt + 1) fx) (.ret (dL id p i off (stt + 1) ts)) else .fail
 | .dead => .fail
theorem pf (id : Id) (p : Path) (i off m st : Nat) (ts : List T) (rows : Rows) (stt : Nat) (fx : Bool) : tj id p i off m st ts (.mem rows stt fx) = C1 (Cl rows stt p i m st) fun row => if ts.length = 1 ∧ off + 1 ≤ row.length then .set id (.mem (G0 rows p i off ts) (stt + 1) fx) (.ret (dL id p i off (stt + 1) ts)) else .fail := rfl
def xM (x y : V) : M V := match x, y with
 | .ptr id p i off m st, .ref id2 n2 => E7 [.ref id2 n2] fun ts => .get id (tj id p i off m st ts)
 | _, _ => .fail
theorem pg (id : Id) (p : Path) (i off m st : Nat) (id2 : Id) (n2 : Nat) : xM (.ptr id p i off m st) (.ref id2 n2) = E7 [.ref id2 n2] fun ts => .get id (tj id p i off m st ts) := rfl
theorem tk (id : Id) (p : Path) (i off st : Nat) (rs : Rows) : dL id p i off st [.sl true rs] = .sub id p i off rs.length st := rfl
theorem tl (x y : Ca) : Av s d (.stk x y) = xM (A6 s x) (A6 s y) := by
 simp only [Av]
 generalize A6 s x = v
 generalize A6 s y = u
 cases v <;> cases u <;> try rfl
 simp only [xM]
 congr 1
 funext ts
 congr 1
 funext e
 cases e with
 | dead => rfl
 | mem rows stt fx =>
  simp only [tj]
  cases Cl rows stt _ _ _ _ <;> rfl
theorem zO : zV (.sl false []) = .t (.sl false []) := rfl
def lj : V → M V
 | .ptr a b c d e f => .ret (.ptr a b c d e f)
 | .vb a b c d => .ret (.vb a b c d)
 | .pp cs => .ret (.pp cs)
 | .fn f caps => .ret (.fn f caps)
 | _ => .fail
theorem ph (x : Ca) : Av s d (.nilc x) = lj (A6 s x) := by
 simp only [Av]; generalize A6 s x = v; cases v <;> rfl
def xO (op : BinOp) (x y : V) : M V := match x, y with
 | .t (.v a), .t (.v b) => C1 (CK op a b) fun r => .ret (.t (.v r))
 | _, _ => .fail
theorem xP (op : BinOp) (a b : Value) : xO op (.t (.v a)) (.t (.v b)) = C1 (CK op a b) fun r => .ret (.t (.v r)) := rfl
theorem tn (op : BinOp) (x y : Ca) : Av s d (.bin op x y) = xO op (A6 s x) (A6 s y) := by
 simp only [Av]
 generalize A6 s x = a
 generalize A6 s y = b
 cases a <;> try rfl
 rename_i a; cases a <;> try rfl
 cases b <;> try rfl
 rename_i b; cases b <;> try rfl
 rename_i a b
 simp only [xO]
 cases CK op a b <;> rfl
def xQ (ne : Bool) (ks : List FK) (x y : V) : M V := match x, y with
 | .agg as, .agg bs => C1 (VB ks as bs) fun r => .ret (.t (.v (.bool (if ne then !r else r))))
 | _, _ => .fail
theorem pi (ne : Bool) (ks : List FK) (as bs : List V) : xQ ne ks (.agg as) (.agg bs) = C1 (VB ks as bs) fun r => .ret (.t (.v (.bool (if ne then !r else r)))) := rfl
theorem tq (ne : Bool) (ks : List FK) (x y : Ca) : Av s d (.eqs ne ks x y) = xQ ne ks (A6 s x) (A6 s y) := by
 simp only [Av]
 generalize A6 s x = a
 generalize A6 s y = b
 cases a <;> try rfl
 cases b <;> try rfl
 rename_i a b
 simp only [xQ]
 cases VB ks a b <;> rfl
def xR (ne : Bool) (x y : V) : M V := match x, y with
 | .t (.v (.bool a)), .t (.v (.bool b)) => .ret (.t (.v (.bool (if ne then neB a b else eqB a b))))
 | _, _ => .fail
theorem xS (a b : Bool) : xR false (.t (.v (.bool a))) (.t (.v (.bool b))) = .ret (.t (.v (.bool (eqB a b)))) := rfl
theorem xT (a b : Bool) : xR true (.t (.v (.bool a))) (.t (.v (.bool b))) = .ret (.t (.v (.bool (neB a b)))) := rfl
theorem tr (ne : Bool) (x y : Ca) : Av s d (.beq ne x y) = xR ne (A6 s x) (A6 s y) := rfl
def tt (ne : Bool) : V → M V
 | .nil => .ret (.t (.v (.bool (!ne))))
 | .t (.v (.slice q _ _)) => .ret (.t (.v (.bool (if ne then !q.isNone else q.isNone))))
 | .t (.sl _ (_ :: _)) => .ret (.t (.v (.bool ne)))
 | _ => .fail
theorem pj (ne : Bool) : tt ne .nil = .ret (.t (.v (.bool (!ne)))) := rfl
theorem xU (ne : Bool) (q : Option Addr) (n c : Nat) : tt ne (.t (.v (.slice q n c))) = .ret (.t (.v (.bool (if ne then !q.isNone else q.isNone)))) := rfl
theorem xV (ne o : Bool) (r : List T) (rs : Rows) : tt ne (.t (.sl o (r :: rs))) = .ret (.t (.v (.bool ne))) := rfl
theorem tu (ne : Bool) (x : Ca) : Av s d (.eqn ne x) = tt ne (A6 s x) := by
 simp only [Av]
 generalize A6 s x = v
 cases v <;> try rfl
def unV (op : UnOp) (x : V) : M V := match op, x with
 | .not, .t (.v (.bool b)) => .ret (.t (.v (.bool (!b))))
 | .neg, .t (.v (.int k n)) => .ret (.t (.v (.int k (k.wrap (0 - n)))))
 | _, _ => .fail
theorem tw (b : Bool) : unV .not (.t (.v (.bool b))) = .ret (.t (.v (.bool (!b)))) := rfl
theorem tz (n : Int) : unV .neg (.t (.v (.int .i64 n))) = .ret (.t (.v (.int .i64 (A01 n)))) := rfl
def zP (ne : Bool) : V → M V
 | .t (.v .nilIface) => .ret (.t (.v (.bool (!ne))))
 | _ => .fail
theorem pk (ne : Bool) : zP ne (.t (.v .nilIface)) = .ret (.t (.v (.bool (!ne)))) := rfl
theorem u9 (ne : Bool) (x : Ca) : Av s d (.eqi ne x) = zP ne (A6 s x) := rfl
theorem xW (op : UnOp) (x : Ca) : Av s d (.un op x) = unV op (A6 s x) := rfl
def cvV (c : Cv) (x : V) : M V := match c with
 | .str => (match x with
  | .sub .. => .fail
  | x => Do x fun rows => C1 (C4 rows) fun l => .ret (.t (.v (.string ⟨l.toArray⟩))))
 | c => C1 (WQ c x) .ret
theorem xX (k k' : IntKind) (n : Int) : cvV (.int k') (.t (.v (.int k n))) = .ret (.t (.v (.int k' (wr k' n)))) := rfl
theorem uA (k : IntKind) (n : Int) : cvV .rune (.t (.v (.int k n))) = .ret (.t (.v (.string (zK n)))) := rfl
def pl (s : ByteArray) : List Int := s.data.toList.map fun b => (b.toNat : Int)
def kA (s : ByteArray) : Option (List Int) := if s.size ≤ maxLen then some (pl s) else none
theorem pm (x : ByteArray) : cvV .bytes (.t (.v (.string x))) = C1 (kA x) fun l => .ret (.t (.sl false (l.map (rK .u8)))) := by
 simp only [cvV, WQ, kA]
 split
 ·simp only [C1, Tx, pl, List.map_map]; rfl
 ·rfl
theorem uB (x : ByteArray) : cvV .same (.t (.v (.string x))) = .ret (.t (.v (.string x))) := rfl
def uC (rows : Rows) : M V := C1 (C4 rows) fun l => .ret (.t (.v (.string ⟨l.toArray⟩)))
theorem uD (rows : Rows) : uC rows = C1 (C4 rows) fun l => .ret (.t (.v (.string ⟨l.toArray⟩))) := rfl
theorem pn (o : Bool) (rows : Rows) : cvV .str (.t (.sl o rows)) = uC rows := rfl
theorem kB : cvV .str .nil = uC [] := rfl
theorem kC (id : Id) (n : Nat) : cvV .str (.ref id n) = Do (.ref id n) uC := rfl
theorem po (c : Cv) (x : Ca) : Av s d (.conv c x) = cvV c (A6 s x) := by
 cases c <;> simp only [Av, cvV]
 case str =>
  generalize A6 s x = v
  cases v <;> try rfl
  ·rename_i c; cases c <;> try rfl
   simp only [Do]
   cases C4 _ <;> rfl
  ·show Do _ _ = Do _ _
   congr 1; funext rows; cases C4 rows <;> rfl
 all_goals (cases WQ _ (A6 s x) <;> rfl)
def xY (d : Nat) (z : List T) (byt : Nat) : V → M V
 | .t (.v (.int _ n)) => C1 (mkN n byt) fun m => .new [.mem (List.replicate m z) 0 false] (.ret (.ref (d, 0) m))
 | _ => .fail
theorem uE (z : List T) (byt : Nat) (x : Ca) : Av s d (.mks z byt x) = xY d z byt (A6 s x) := by
 simp only [Av]
 generalize A6 s x = v
 cases v <;> try rfl
 rename_i c; cases c <;> try rfl
 rename_i x; cases x <;> try rfl
 simp only [xY, mkN]
 split <;> rfl
def iaK (sz : Nat) (id : Id) (p : Path) (n m st : Nat) (row : List T) : M V := if row.length = sz then .ret (.ptr id p n 0 m st) else .fail
def iaS (sz : Nat) (id : Id) (p : Path) (n : Int) (m st : Nat) (rows : Rows) : M V := if rows.length = m then C1 (getI rows n) (iaK sz id p n.toNat m st) else .fail
def iaE (sz : Nat) (id : Id) (m : Nat) (n : Int) : DH → M V
 | .mem rows _ _ => iaS sz id [] n m 0 rows
 | .dead => .fail
def iaC (sz : Nat) (id : Id) (p : Path) (j c : Nat) (n : Int) (m st : Nat) : DH → M V
 | .mem rows stt _ => if st = stt then C1 (BK rows p j c) fun
   | .sl true rs => iaS sz id (p ++ [(j, c)]) n m st rs
   | _ => .fail
  else .fail
 | .dead => .fail
def iaP (sz : Nat) (row : List T) : M V := if row.length = sz then .ret (.pp row) else .fail
def iaV (sz : Nat) (x i : V) : M V := match i with
 | .t (.v (.int _ n)) => if 0 ≤ n then (match x with
  | .t (.sl _ rows) => C1 (getI rows n) (iaP sz)
  | .ref id m => .get id (iaE sz id m n)
  | .sub id p j c m st => .get id (iaC sz id p j c n m st)
  | _ => .fail) else .fail
 | _ => .fail
theorem xZ (sz : Nat) (o : Bool) (rows : Rows) (k : IntKind) (n : Int) : iaV sz (.t (.sl o rows)) (.t (.v (.int k n))) = if 0 ≤ n then C1 (getI rows n) (iaP sz) else .fail := rfl
theorem uF (sz : Nat) (id : Id) (m : Nat) (k : IntKind) (n : Int) : iaV sz (.ref id m) (.t (.v (.int k n))) = if 0 ≤ n then .get id (iaE sz id m n) else .fail := rfl
theorem uG (sz : Nat) (id : Id) (p : Path) (j c m st : Nat) (k : IntKind) (n : Int) : iaV sz (.sub id p j c m st) (.t (.v (.int k n))) = if 0 ≤ n then .get id (iaC sz id p j c n m st) else .fail := rfl
theorem UI {α : Type} {l : List α} {n : Int} (h : 0 ≤ n) : getI l n = l[n.toNat]? := if_pos h
theorem xa (sz : Nat) (id : Id) (p : Path) (n m st : Nat) (o : Option (List T)) : (match o with | some row => if row.length = sz then M.ret (V.ptr id p n 0 m st) else .fail | none => .fail) = C1 o (iaK sz id p n m st) := by cases o <;> rfl
theorem xc (sz : Nat) (x i : Ca) : Av s d (.ia sz x i) = iaV sz (A6 s x) (A6 s i) := by
 simp only [Av]
 generalize A6 s x = a
 generalize A6 s i = b
 cases b <;> try rfl
 rename_i b; cases b <;> try rfl
 rename_i b; cases b <;> try rfl
 rename_i k n
 simp only [iaV]
 split
 ·rename_i h0
  cases a <;> try rfl
  ·rename_i a; cases a <;> try rfl
   rename_i rows
   simp only [UI h0, C1]
   cases rows[n.toNat]? <;> rfl
  ·show M.get _ _ = M.get _ _
   congr 1
   funext e; cases e <;> try rfl
   simp only [iaE, iaS, UI h0]
   rw [← xa]; rfl
  ·show M.get _ _ = M.get _ _
   congr 1
   funext e; cases e <;> try rfl
   simp only [iaC, iaS, UI h0]
   split
   ·cases BK _ _ _ _ with
    | none => rfl
    | some t =>
     cases t <;> try rfl
     rename_i o rs
     cases o <;> try rfl
     simp only [C1]
     split
     ·cases rs[n.toNat]? <;> rfl
     ·rfl
   ·rfl
 ·rfl
def faV (off : Nat) : V → M V
 | .ptr id p i o n st => .ret (.ptr id p i (o + off) n st)
 | .vb id o st cs => .ret (.vb id (o + off) st cs)
 | .pp cs => .ret (.pp (cs.drop off))
 | _ => .fail
theorem uH (off : Nat) (id : Id) (p : Path) (i o n st : Nat) : faV off (.ptr id p i o n st) = .ret (.ptr id p i (o + off) n st) := rfl
theorem xe (off : Nat) (cs : List T) : faV off (.pp cs) = .ret (.pp (cs.drop off)) := rfl
theorem xf (off : Nat) (x : Ca) : Av s d (.fa off x) = faV off (A6 s x) := by
 simp only [Av]; generalize A6 s x = v; cases v <;> rfl
def zQ (off n : Nat) (ag : Bool) : V → M V
 | .agg cs => if off + n ≤ cs.length then X5 ag ((cs.drop off).take n) else .fail
 | _ => .fail
theorem pq (off n : Nat) (ag : Bool) (cs : List V) : zQ off n ag (.agg cs) = if off + n ≤ cs.length then X5 ag ((cs.drop off).take n) else .fail := rfl
theorem uI (off n : Nat) (ag : Bool) (x : Ca) : Av s d (.fld off n ag x) = zQ off n ag (A6 s x) := by
 simp only [Av]; generalize A6 s x = v; cases v <;> rfl
def ixV (x i : V) : M V := match x, i with
 | .t (.v (.string st)), .t (.v (.int _ n)) => C1 (PM st n) fun b => .ret (.t (.v (.int .u8 b)))
 | _, _ => .fail
theorem zR (st : ByteArray) (k : IntKind) (n : Int) : ixV (.t (.v (.string st))) (.t (.v (.int k n))) = C1 (PM st n) fun b => .ret (.t (.v (.int .u8 b))) := rfl
theorem xg (x i : Ca) : Av s d (.ix x i) = ixV (A6 s x) (A6 s i) := by
 simp only [Av]
 generalize A6 s x = a
 generalize A6 s i = b
 cases a <;> try rfl
 rename_i a; cases a <;> try rfl
 rename_i a; cases a <;> try rfl
 cases b <;> try rfl
 rename_i b; cases b <;> try rfl
 rename_i b; cases b <;> try rfl
 simp only [ixV, PM]
 split <;> rfl
def zS (sz len : Nat) (ag : Bool) (x i : V) : M V := match x, i with
 | .agg cs, .t (.v (.int _ n)) => if 0 ≤ n ∧ n < len ∧ cs.length = len * sz then X5 ag ((cs.drop (n.toNat * sz)).take sz) else .fail
 | _, _ => .fail
theorem pr (sz len : Nat) (ag : Bool) (cs : List V) (k : IntKind) (n : Int) : zS sz len ag (.agg cs) (.t (.v (.int k n))) = if 0 ≤ n ∧ n < len ∧ cs.length = len * sz then X5 ag ((cs.drop (n.toNat * sz)).take sz) else .fail := rfl
theorem uJ (sz len : Nat) (ag : Bool) (x i : Ca) : Av s d (.ixa sz len ag x i) = zS sz len ag (A6 s x) (A6 s i) := by
 simp only [Av]
 generalize A6 s x = a
 generalize A6 s i = b
 cases a <;> rfl
def bnd (o : Option V) (e : Int) : Option Int := match o with
 | none => some e
 | some (.t (.v (.int _ n))) => some n
 | _ => none
theorem pt (e : Int) : bnd none e = some e := rfl
theorem pu (e : Int) (k : IntKind) (n : Int) : bnd (some (.t (.v (.int k n)))) e = some n := rfl
def pv (sz : Nat) (x : V) (lo hi : Option V) : M V := match x with
 | .t (.v (.string st)) => C1 (bnd lo 0) fun l => C1 (bnd hi (AU st)) fun h => if sz = 0 then C1 (PN st l h) fun z => .ret (.t (.v (.string z))) else .fail
 | .t (.sl _ rows) => C1 (bnd lo 0) fun l => C1 (bnd hi (AC rows)) fun h => if 0 < sz ∧ (rows.all fun r => r.length == sz) then C1 (slL rows l h) fun z => .ret (.t (.sl false z)) else .fail
 | _ => .fail
theorem xj (sz : Nat) (st : ByteArray) (lo hi : Option V) : pv sz (.t (.v (.string st))) lo hi = C1 (bnd lo 0) fun l => C1 (bnd hi (AU st)) fun h => if sz = 0 then C1 (PN st l h) fun z => .ret (.t (.v (.string z))) else .fail := rfl
theorem xk (sz : Nat) (o : Bool) (rows : Rows) (lo hi : Option V) : pv sz (.t (.sl o rows)) lo hi = C1 (bnd lo 0) fun l => C1 (bnd hi (AC rows)) fun h => if 0 < sz ∧ (rows.all fun r => r.length == sz) then C1 (slL rows l h) fun z => .ret (.t (.sl false z)) else .fail := rfl
def uK (sz : Nat) (x : V) (l h : Option Int → Option Int) : M V := match x with
 | .t (.v (.string st)) => (match l (some 0), h (some st.size) with
   | some l, some h => if (0 ≤ l ∧ l ≤ h ∧ h ≤ st.size) ∧ sz = 0 then .ret (.t (.v (.string (st.extract l.toNat h.toNat)))) else .fail
   | _, _ => .fail)
 | .t (.sl _ rows) => (match l (some 0), h (some rows.length) with
   | some l, some h => if (0 ≤ l ∧ l ≤ h ∧ h ≤ rows.length) ∧ 0 < sz ∧ (rows.all fun r => r.length == sz) then .ret (.t (.sl false ((rows.drop l.toNat).take (h.toNat - l.toNat)))) else .fail
   | _, _ => .fail)
 | _ => .fail
def bnE (s : List V) (o : Option Ca) (e : Option Int) : Option Int := match o with
 | none => e
 | some q => match A6 s q with | .t (.v (.int _ n)) => some n | _ => none
theorem pw (sz : Nat) (x : Ca) (lo hi : Option Ca) : Av s d (.slc sz x lo hi) = uK sz (A6 s x) (bnE s lo) (bnE s hi) := by
 simp only [Av, uK]
 cases lo <;> cases hi <;> rfl
theorem pz (o : Option Ca) (e : Int) : bnE s o (some e) = bnd (o.map (A6 s)) e := by
 cases o with
 | none => rfl
 | some q =>
  simp only [Option.map_some, bnE]
  generalize A6 s q = v
  cases v <;> try rfl
  rename_i v; cases v <;> try rfl
  rename_i v; cases v <;> rfl
theorem lk {A C : Prop} [Decidable A] [Decidable C] {α : Type} (k : α → M V) (x : α) : (if A ∧ C then k x else M.fail) = if C then C1 (if A then some x else none) k else M.fail := by
 by_cases A <;> by_cases C <;> simp_all [C1]
theorem uL (sz : Nat) (x : Ca) (lo hi : Option Ca) : Av s d (.slc sz x lo hi) = pv sz (A6 s x) (lo.map (A6 s)) (hi.map (A6 s)) := by
 rw [pw]
 generalize A6 s x = a
 cases a <;> try rfl
 rename_i a; cases a <;> try rfl
 ·rename_i a; cases a <;> try rfl
  rename_i st
  simp only [pv, uK, AU, pz]
  generalize bnd (lo.map (A6 s)) 0 = l
  generalize bnd (hi.map (A6 s)) (st.size : Int) = h
  cases l <;> cases h <;> try rfl
  exact lk (fun z => .ret (.t (.v (.string z)))) _
 ·rename_i o rows
  simp only [pv, uK, AC, pz]
  generalize bnd (lo.map (A6 s)) 0 = l
  generalize bnd (hi.map (A6 s)) (rows.length : Int) = h
  cases l <;> cases h <;> try rfl
  exact lk (fun z => .ret (.t (.sl false z))) _
theorem q7 (f : FuncId) (md : List Md) (own : List Bool) (args : List Ca) : Av s d (.call f md own args) = QF d f md own (args.map (A6 s)) := rfl
def cvv (d : Nat) (md : List Md) (own : List Bool) (args : List V) : V → M V
 | .fn f caps => QF d f (md ++ (caps.map fun _ => Md.ref)) own (args ++ caps)
 | _ => .fail
theorem mi (x : Ca) (md : List Md) (own : List Bool) (args : List Ca) : Av s d (.callv x md own args) = cvv d md own (args.map (A6 s)) (A6 s x) := by
 simp only [Av]; generalize A6 s x = v; cases v <;> rfl
def xl (id : Id) (n sz byt : Nat) (new : Rows) : DH → M V
 | .mem rows st _ => if rows.length = n ∧ (rows.all fun r => r.length == sz) then C1 (room (n + new.length) byt) fun _ => .set id (.mem (rows ++ new) st false) (.ret (.ref id (n + new.length))) else .fail
 | .dead => .fail
def xm (d sz byt : Nat) (new : Rows) : T → M V
 | .sl true rows => if (rows.all fun r => r.length == sz) then C1 (room (rows.length + new.length) byt) fun _ => .new [.mem (rows ++ new) 0 false] (.ret (.ref (d, 0) (rows.length + new.length))) else .fail
 | _ => .fail
def kD (d sz byt : Nat) (new : Rows) : V → M V
 | .nil => C1 (room new.length byt) fun _ => .new [.mem new 0 false] (.ret (.ref (d, 0) new.length))
 | .ref id n => .get id (xl id n sz byt new)
 | .sub id p i c n st => take (.sub id p i c n st) (xm d sz byt new)
 | _ => .fail
def mj (d sz byt : Nat) (a : V) (new : Rows) : M V := if (new.all fun r => r.length == sz) then kD d sz byt new a else .fail
theorem q8 (d sz byt : Nat) (new : Rows) : kD d sz byt new .nil = C1 (room new.length byt) fun _ => .new [.mem new 0 false] (.ret (.ref (d, 0) new.length)) := rfl
theorem q9 (d sz byt : Nat) (new : Rows) (id : Id) (n : Nat) : kD d sz byt new (.ref id n) = .get id (xl id n sz byt new) := rfl
theorem qA (d sz byt : Nat) (new : Rows) (id : Id) (p : Path) (i c n st : Nat) : kD d sz byt new (.sub id p i c n st) = take (.sub id p i c n st) (xm d sz byt new) := rfl
theorem qB (id : Id) (n sz byt : Nat) (new rows : Rows) (st : Nat) (fx : Bool) : xl id n sz byt new (.mem rows st fx) = if rows.length = n ∧ (rows.all fun r => r.length == sz) then C1 (room (n + new.length) byt) fun _ => .set id (.mem (rows ++ new) st false) (.ret (.ref id (n + new.length))) else .fail := rfl
theorem uM (d sz byt : Nat) (new rows : Rows) : xm d sz byt new (.sl true rows) = if (rows.all fun r => r.length == sz) then C1 (room (rows.length + new.length) byt) fun _ => .new [.mem (rows ++ new) 0 false] (.ret (.ref (d, 0) (rows.length + new.length))) else .fail := rfl
theorem qC {A B C D : Prop} [Decidable A] [Decidable B] [Decidable C] [Decidable D] (X : M V) : (if A ∧ B ∧ C ∧ D then X else M.fail) = if A ∧ D then C1 (if B ∧ C then some () else none) (fun _ => X) else M.fail := by
 by_cases A <;> by_cases B <;> by_cases C <;> by_cases D <;> simp_all [C1]
theorem cW {B C D : Prop} [Decidable B] [Decidable C] [Decidable D] (X : M V) : (if B ∧ C ∧ D then X else M.fail) = if D then C1 (if B ∧ C then some () else none) (fun _ => X) else M.fail := by
 by_cases B <;> by_cases C <;> by_cases D <;> simp_all [C1]
theorem uN (sz byt : Nat) (a x : Ca) : Av s d (.app sz byt a x) = Fn (A6 s x) (mj d sz byt (A6 s a)) := by
 simp only [Av]
 congr 1
 funext new
 simp only [mj]
 split
 ·generalize A6 s a = v
  cases v <;> try rfl
  ·simp only [kD, room]; split <;> rfl
  ·show M.get _ _ = M.get _ _
   congr 1
   funext e; cases e <;> try rfl
   exact qC _
  ·simp only [kD]
   congr 1
   funext e; cases e <;> try rfl
   rename_i o rows
   cases o <;> try rfl
   exact cW _
 ·rfl
def uO (id : Id) (p : Path) (i off m st : Nat) : DH → M V
 | .mem rows stt _ => C1 (Cl rows stt p i m st) fun row => C1 (row[off]?) fun t => .ret (LD id p i off stt t)
 | .dead => .fail
theorem qD (id : Id) (p : Path) (i off m st : Nat) (rows : Rows) (stt : Nat) (fx : Bool) : uO id p i off m st (.mem rows stt fx) = C1 (Cl rows stt p i m st) fun row => C1 (row[off]?) fun t => .ret (LD id p i off stt t) := rfl
def xn : V → M V
 | .ptr id p i off m st => if p = [] then .get id (uO id p i off m st) else .fail
 | _ => .fail
theorem qE (id : Id) (i off m st : Nat) : xn (.ptr id [] i off m st) = .get id (uO id [] i off m st) := rfl
theorem uP (x : Ca) : Av s d (.ldr x) = xn (A6 s x) := by
 simp only [Av]
 generalize A6 s x = v
 cases v with
 | ptr id p i off m st =>
  simp only [xn]
  split
  ·congr 1
   funext e
   cases e with
   | dead => rfl
   | mem rows stt fx =>
    simp only [uO]
    generalize Cl rows stt p i m st = o
    cases o with
    | none => rfl
    | some row =>
     show (match row[off]? with | some t => M.ret (LD id p i off stt t) | none => M.fail) = C1 (row[off]?) _
     generalize row[off]? = o
     cases o <;> rfl
  ·rfl
 | _ => rfl
def ll (d q sz byt : Nat) (a x : V) : M V := match a, x with
 | .sub id p i c n st, .ref id2 n2 => if p ≠ [] ∧ id.1 = q ∧ id2.1 ≠ q then Fn (.ref id2 n2) (mj d sz byt (.sub id p i c n st)) else .fail
 | _, _ => .fail
theorem ml (d q sz byt : Nat) (a b : Nat) (y : Nat × Nat) (p : Path) (i c n st : Nat) (a2 b2 n2 : Nat) : ll d q sz byt (.sub (a, b) (y :: p) i c n st) (.ref (a2, b2) n2) = if a = q then (if a2 = q then .fail else Fn (.ref (a2, b2) n2) (mj d sz byt (.sub (a, b) (y :: p) i c n st))) else .fail := by
 simp only [ll]
 by_cases h1 : a = q <;> by_cases h2 : a2 = q <;> simp [h1, h2]
theorem qF (q sz byt : Nat) (a x : Ca) : Av s d (.appn q sz byt a x) = ll d q sz byt (A6 s a) (A6 s x) := by
 simp only [Av]
 generalize A6 s a = v
 generalize A6 s x = u
 cases v <;> cases u <;> try rfl
 simp only [ll]
 split
 ·congr 1
  funext new
  simp only [mj, kD]
  split
  ·congr 1
   funext t
   cases t with
   | sl o rows => cases o with
    | true => exact cW _
    | false => rfl
   | _ => rfl
  ·rfl
 ·rfl
def mn (str : Bool) (x : V) : M V := match str, x with
 | true, .t (.v (.string st)) => .ret (.t (.v (.int .i64 (AU st))))
 | false, .t (.sl _ rows) => .ret (.t (.v (.int .i64 (AC rows))))
 | false, .nil => .ret (.t (.v (.int .i64 0)))
 | false, .ref _ n => .ret (.t (.v (.int .i64 n)))
 | false, .sub _ _ _ _ n _ => .ret (.t (.v (.int .i64 n)))
 | _, _ => .fail
theorem xp (st : ByteArray) : mn true (.t (.v (.string st))) = .ret (.t (.v (.int .i64 (AU st)))) := rfl
theorem xq (o : Bool) (rows : Rows) : mn false (.t (.sl o rows)) = .ret (.t (.v (.int .i64 (AC rows)))) := rfl
theorem qG : mn false .nil = .ret (.t (.v (.int .i64 0))) := rfl
theorem qH (id : Id) (n : Nat) : mn false (.ref id n) = .ret (.t (.v (.int .i64 n))) := rfl
theorem qI (id : Id) (p : Path) (i c n st : Nat) : mn false (.sub id p i c n st) = .ret (.t (.v (.int .i64 n))) := rfl
theorem uQ (str : Bool) (x : Ca) : Av s d (.len str x) = mn str (A6 s x) := by
 simp only [Av]
 generalize A6 s x = v
 cases str <;> cases v <;> try rfl
def mmV (mx : Bool) (x y : V) : M V := match x, y with
 | .t (.v (.int k a)), .t (.v (.int _ b)) => .ret (.t (.v (.int k (if mx then zJ a b else zI a b))))
 | _, _ => .fail
theorem zT (k k' : IntKind) (a b : Int) : mmV true (.t (.v (.int k a))) (.t (.v (.int k' b))) = .ret (.t (.v (.int k (zJ a b)))) := rfl
theorem zU (k k' : IntKind) (a b : Int) : mmV false (.t (.v (.int k a))) (.t (.v (.int k' b))) = .ret (.t (.v (.int k (zI a b)))) := rfl
theorem xr (mx : Bool) (x y : Ca) : Av s d (.mm mx x y) = mmV mx (A6 s x) (A6 s y) := rfl
def xt (i : Nat) : V → M V
 | .tup vs => C1 vs[i]? .ret
 | _ => .fail
theorem qJ (i : Nat) (vs : List V) : xt i (.tup vs) = C1 vs[i]? .ret := rfl
theorem uR (x : Ca) (i : Nat) : Av s d (.ext x i) = xt i (A6 s x) := by
 simp only [Av]; generalize A6 s x = v; cases v <;> try rfl
 rename_i vs
 simp only [xt]
 cases vs[i]? <;> rfl
theorem uS (f : FuncId) (caps : List Ca) : Av s d (.mkf f caps) = .ret (.fn f (caps.map (A6 s))) := rfl
end
end TT
