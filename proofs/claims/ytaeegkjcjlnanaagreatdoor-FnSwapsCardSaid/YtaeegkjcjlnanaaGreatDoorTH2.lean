import Derived.Test.YtaeegkjcjlnanaaGreatDoorTH1
set_option linter.unusedVariables false
set_option linter.unusedSimpArgs false
namespace TT
open Go
def wr (k : IntKind) (a : Int) : Int := k.wrap a
def AY (a b : Int) : Int := IntKind.i64.wrap (a + b)
def BE (a b : Int) : Int := IntKind.i64.wrap (a - b)
def Uz (a b : Int) : Int := IntKind.i64.wrap (a * b)
def A17 (a : Int) : Int := IntKind.i64.wrap (0 - a)
def yV (a b : Int) : Option Int := if b = 0 then none else some (IntKind.i64.wrap (a.tdiv b))
def lW (a b : Int) : Option Int := if b = 0 then none else some (a.tmod b)
def Jw (a b : Int) : Bool := decide (a < b)
def SR (a b : Int) : Bool := decide (a ≤ b)
def NN (a b : Int) : Bool := decide (a > b)
def geI (a b : Int) : Bool := decide (a ≥ b)
def Al (a b : Int) : Bool := a == b
def SZ (a b : Int) : Bool := a != b
def Y1 (x y : ByteArray) : Option ByteArray := if x.size + y.size ≤ 9223372036854775807 then some (x ++ y) else none
def Cu (x y : ByteArray) : Bool := x.toList == y.toList
def neS (x y : ByteArray) : Bool := !(x.toList == y.toList)
def ltS (x y : ByteArray) : Bool := Op.bytesLess x.toList y.toList
def leS (x y : ByteArray) : Bool := Op.bytesLess x.toList y.toList || x.toList == y.toList
def gtS (x y : ByteArray) : Bool := !(Op.bytesLess x.toList y.toList || x.toList == y.toList)
def geS (x y : ByteArray) : Bool := !(Op.bytesLess x.toList y.toList)
def eqB (a b : Bool) : Bool := a == b
def neB (a b : Bool) : Bool := !(a == b)
def A0Z (a b : Int) : Int := if b < a then b else a
def A0a (a b : Int) : Int := if a < b then b else a
def AU (x : ByteArray) : Int := x.size
def A8 {α : Type} (l : List α) : Int := l.length
def A0b (n : Int) : ByteArray := Utf8.encode n
def getI {α : Type} (l : List α) (i : Int) : Option α := if 0 ≤ i then l[i.toNat]? else none
def Q1 (s : ByteArray) (i : Int) : Option Int := if h : 0 ≤ i ∧ i.toNat < s.size then some (s[i.toNat]'h.2).toNat else none
def Q2 (s : ByteArray) (l h : Int) : Option ByteArray := if 0 ≤ l ∧ l ≤ h ∧ h ≤ s.size then some (s.extract l.toNat h.toNat) else none
def slL {α : Type} (s : List α) (l h : Int) : Option (List α) := if 0 ≤ l ∧ l ≤ h ∧ h ≤ s.length then some ((s.drop l.toNat).take (h.toNat - l.toNat)) else none
def mkN (n : Int) (byt : Nat) : Option Nat := if 0 ≤ n ∧ n.toNat * byt ≤ LIM ∧ 0 < byt then some n.toNat else none
def room (n byt : Nat) : Option Unit := if n * byt ≤ LIM ∧ 0 < byt then some () else none
def rI (x : Int) : List T := [.v (.int .i64 x)]
def rK (k : IntKind) (x : Int) : List T := [.v (.int k x)]
def rS (x : ByteArray) : List T := [.v (.string x)]
def rB (x : Bool) : List T := [.v (.bool x)]
def rL {α : Type} (o : Bool) (f : α → List T) (l : List α) : List T := [.sl o (l.map f)]
def Ok {ρ : Type} (x : Option ρ) (e : ρ → Am) (y : Option Am) : Prop := ∀ r, x = some r → y = some (e r)
theorem fU {ρ : Type} {r : ρ} {e : ρ → Am} {y : Option Am} (h : y = some (e r)) : Ok (some r) e y := fun r' h' => by cases h'; exact h
theorem um {ρ : Type} {e : ρ → Am} {y : Option Am} : Ok none e y := fun r' h' => by cases h'
theorem A0c {ρ : Type} {b : Bool} {x x' : Option ρ} {e : ρ → Am} {y : Option Am} (h1 : b = true → Ok x e y) (h2 : b = false → Ok x' e y) : Ok (if b then x else x') e y := by
 cases b
 ·exact h2 rfl
 ·exact h1 rfl
theorem EB {α ρ : Type} {p : Option α} {f : α → Option ρ} {e : ρ → Am} {y : Option Am} (h : ∀ a, p = some a → Ok (f a) e y) : Ok (p >>= f) e y := fun r hr => by
 obtain ⟨a, h1, h2⟩ := Option.bind_eq_some_iff.1 hr
 exact h a h1 r h2
theorem DG {β ρ : Type} {g : Option β} {f : β → Option ρ} {e : ρ → Am} {e' : β → Am} {Y : Option Am} {k : Am → Option Am} (hg : Ok g e' Y) (h : ∀ v, Ok (f v) e (k (e' v))) : Ok (g >>= f) e (Y.bind k) := fun r hr => by
 obtain ⟨a, h1, h2⟩ := Option.bind_eq_some_iff.1 hr
 rw [hg a h1]
 exact h a r h2
section
def Qf (k : IntKind) (a b : Int) : Int := Go.bits .and k a b
def orK (k : IntKind) (a b : Int) : Int := Go.bits .or k a b
def uo (k : IntKind) (a b : Int) : Int := Go.bits .xor k a b
def nS (k : IntKind) (a b : Int) : Int := Go.bits .andNot k a b
def uq (k : IntKind) (a b : Int) : Int := k.wrap (a + b)
def ur (k : IntKind) (a b : Int) : Int := k.wrap (a - b)
def ut (k : IntKind) (a b : Int) : Int := k.wrap (a * b)
def yW (k : IntKind) (a b : Int) : Option Int := if b = 0 then none else some (k.wrap (a.tdiv b))
def A18 (k : IntKind) (a b : Int) : Option Int := if b = 0 then none else some (k.wrap (a.tmod b))
def yX (k : IntKind) (a b : Int) : Option Int := if b < 0 then none else some (k.wrap (a * 2 ^ (min b.toNat k.bits)))
def lX (k : IntKind) (a b : Int) : Option Int := if b < 0 then none else some (a.fdiv (2 ^ (min b.toNat k.bits)))
theorem uv (k : IntKind) (a b : Int) : CO .and (.int k a) (.int k b) = some (.int k (Qf k a b)) := by simp [CO, NR, Qf]
theorem yY (k : IntKind) (a b : Int) : CO .or (.int k a) (.int k b) = some (.int k (orK k a b)) := by simp [CO, NR, orK]
theorem uw (k : IntKind) (a b : Int) : CO .xor (.int k a) (.int k b) = some (.int k (uo k a b)) := by simp [CO, NR, uo]
theorem lY (k : IntKind) (a b : Int) : CO .andNot (.int k a) (.int k b) = some (.int k (nS k a b)) := by simp [CO, NR, nS]
theorem uy (k k' : IntKind) (a b : Int) : CO .shl (.int k a) (.int k' b) = (yX k a b).map (Value.int k) := by simp only [CO, yX]; split <;> rfl
theorem uz (k k' : IntKind) (a b : Int) : CO .shr (.int k a) (.int k' b) = (lX k a b).map (Value.int k) := by simp only [CO, lX]; split <;> rfl
theorem lZ (a b : Int) : CO .add (.int .u8 a) (.int .u8 b) = some (.int .u8 (uq .u8 a b)) := rfl
theorem la (a b : Int) : CO .sub (.int .u8 a) (.int .u8 b) = some (.int .u8 (ur .u8 a b)) := rfl
theorem lg (a b : Int) : CO .mul (.int .u8 a) (.int .u8 b) = some (.int .u8 (ut .u8 a b)) := rfl
theorem jP (a b : Int) : CO .add (.int .i32 a) (.int .i32 b) = some (.int .i32 (uq .i32 a b)) := rfl
theorem jQ (a b : Int) : CO .sub (.int .i32 a) (.int .i32 b) = some (.int .i32 (ur .i32 a b)) := rfl
theorem jR (a b : Int) : CO .mul (.int .i32 a) (.int .i32 b) = some (.int .i32 (ut .i32 a b)) := rfl
theorem jS (a b : Int) : CO .add (.int .u32 a) (.int .u32 b) = some (.int .u32 (uq .u32 a b)) := rfl
theorem jT (a b : Int) : CO .sub (.int .u32 a) (.int .u32 b) = some (.int .u32 (ur .u32 a b)) := rfl
theorem jU (a b : Int) : CO .mul (.int .u32 a) (.int .u32 b) = some (.int .u32 (ut .u32 a b)) := rfl
theorem jV (a b : Int) : CO .add (.int .u64 a) (.int .u64 b) = some (.int .u64 (uq .u64 a b)) := rfl
theorem jW (a b : Int) : CO .sub (.int .u64 a) (.int .u64 b) = some (.int .u64 (ur .u64 a b)) := rfl
theorem jX (a b : Int) : CO .mul (.int .u64 a) (.int .u64 b) = some (.int .u64 (ut .u64 a b)) := rfl
theorem v8 (a b : Int) : CO .add (.int .i64 a) (.int .i64 b) = some (.int .i64 (AY a b)) := rfl
theorem vA (a b : Int) : CO .sub (.int .i64 a) (.int .i64 b) = some (.int .i64 (BE a b)) := rfl
theorem vB (a b : Int) : CO .mul (.int .i64 a) (.int .i64 b) = some (.int .i64 (Uz a b)) := rfl
theorem vC (a b : Int) : CO .quo (.int .i64 a) (.int .i64 b) = (yV a b).map (Value.int .i64) := by simp only [CO, NR, yV, if_true]; split <;> rfl
theorem jY (a b : Int) : CO .quo (.int .u64 a) (.int .u64 b) = (yW .u64 a b).map (Value.int .u64) := by simp only [CO, NR, yW, if_true]; split <;> rfl
theorem vD (a b : Int) : CO .rem (.int .i64 a) (.int .i64 b) = (lW a b).map (Value.int .i64) := by simp only [CO, NR, lW, if_true]; split <;> rfl
theorem yZ (k : IntKind) (a b : Int) : CO .lss (.int k a) (.int k b) = some (.bool (Jw a b)) := by simp only [CO, NR, Jw, if_true]
theorem ya (k : IntKind) (a b : Int) : CO .leq (.int k a) (.int k b) = some (.bool (SR a b)) := by simp only [CO, NR, SR, if_true]
theorem yb (k : IntKind) (a b : Int) : CO .gtr (.int k a) (.int k b) = some (.bool (NN a b)) := by simp only [CO, NR, NN, if_true]
theorem yc (k : IntKind) (a b : Int) : CO .geq (.int k a) (.int k b) = some (.bool (geI a b)) := by simp only [CO, NR, geI, if_true]
theorem yd (k : IntKind) (a b : Int) : CO .eql (.int k a) (.int k b) = some (.bool (Al a b)) := by simp only [CO, NR, Al, if_true]
theorem ye (k : IntKind) (a b : Int) : CO .neq (.int k a) (.int k b) = some (.bool (SZ a b)) := by simp only [CO, NR, SZ, if_true]
theorem vE (a b : ByteArray) : CO .add (.string a) (.string b) = (Y1 a b).map Value.string := by simp only [CO, q9, Y1]; split <;> rfl
theorem yf (a b : ByteArray) : CO .eql (.string a) (.string b) = some (.bool (Cu a b)) := rfl
theorem yg (a b : ByteArray) : CO .neq (.string a) (.string b) = some (.bool (neS a b)) := rfl
theorem yh (a b : ByteArray) : CO .lss (.string a) (.string b) = some (.bool (ltS a b)) := rfl
theorem yi (a b : ByteArray) : CO .leq (.string a) (.string b) = some (.bool (leS a b)) := rfl
theorem yj (a b : ByteArray) : CO .gtr (.string a) (.string b) = some (.bool (gtS a b)) := rfl
theorem yl (a b : ByteArray) : CO .geq (.string a) (.string b) = some (.bool (geS a b)) := rfl
end
def C3 {α β : Type} : Option α → (α → M β) → M β
 | some a, k => k a
 | none, _ => .fail
section
variable (s : List V) (d : Nat)
theorem ym (x : Cd) : Av s d (.mv x) = .ret (A6 s x) := rfl
def qz (c a b : V) : M V := match c with
 | .t (.v (.bool t)) => .ret (if t then a else b)
 | _ => .fail
theorem rA (c a b : Cd) : Av s d (.pick c a b) = qz (A6 s c) (A6 s a) (A6 s b) := rfl
theorem vF (a b : V) : qz (.t (.v (.bool true))) a b = .ret a := rfl
theorem vG (a b : V) : qz (.t (.v (.bool false))) a b = .ret b := rfl
theorem oH (z : List T) : Av s d (.alloc z) = .new [.mem [z] 0 false] (.ret (.ptr (d, 0) [] 0 0 1 0)) := rfl
theorem vH (x : Cd) : Av s d (.box x) = ED (cellsOf (A6 s x)) fun ts => if ts.isEmpty then .fail else .new [.mem [ts] 0 false] (.ret (.ptr (d, 0) [] 0 0 1 0)) := rfl
def A0d (d : Nat) : V → M V
 | .agg cs => if cs.isEmpty || !cs.all V.one then .fail else .new [.mem [List.replicate cs.length .hole] 0 false] (.ret (.vb (d, 0) 0 0 cs))
 | _ => .fail
theorem rC (x : Cd) : Av s d (.vbox x) = A0d d (A6 s x) := by
 simp only [Av]; generalize A6 s x = v; cases v <;> rfl
def vI (id : Id) (n : Nat) (cs : List V) : DK → M V
 | .mem [row] stt fx => if row.length = n then .set id (.mem [List.replicate n .hole] (stt + 1) fx) (.ret (.vb id 0 (stt + 1) cs)) else .fail
 | _ => .fail
def vJ (n : Nat) (x y : V) : M V := match XL x, y with
 | some id, .agg cs => if cs.length = n ∧ cs.all V.one = true then .get id (vI id n cs) else .fail
 | _, _ => .fail
theorem vK (n : Nat) (x y : Cd) : Av s d (.vst n x y) = vJ n (A6 s x) (A6 s y) := by
 simp only [Av]
 generalize A6 s x = v
 generalize A6 s y = u
 simp only [vJ]
 generalize XL v = q
 cases q with
 | none => rfl
 | some id =>
  cases u <;> try rfl
def zV : T → V
 | .sl true [] => .nil
 | c => .t c
theorem oI (z : List T) (parts : List (Nat × Nat × Cd)) : Av s d (.build z parts) = C3 (bld s (z.map zV) parts) fun cs => .ret (.agg cs) := by
 have e : Av s d (.build z parts) = match bld s (z.map zV) parts with | some cs => .ret (.agg cs) | none => .fail := rfl
 rw [e]
 cases bld s (z.map zV) parts <;> rfl
def A0e (d sz : Nat) (rs : Rows) : M V := if rs.all fun r => r.length == sz then .new [.mem rs 0 false] (.ret (.ref (d, 0) rs.length)) else .fail
theorem vL (sz : Nat) (parts : List Cd) : Av s d (.bsl sz parts) = CD (parts.map fun q => cellsOf (A6 s q)) (A0e d sz) := rfl
def xa (d sz : Nat) (rs : Rows) : M V := if rs.all fun r => r.length == sz then .new [.mem rs 0 false] (.set (d, 0) .dead (.ret (.t (.sl false (AV rs))))) else .fail
theorem rD (sz : Nat) (parts : List Cd) : Av s d (.bslz sz parts) = CD (parts.map fun q => cellsOf (A6 s q)) (xa d sz) := rfl
def Y2 (ag : Bool) (vs : List V) : M V := if ag then .ret (.agg vs) else match vs with | [v] => .ret v | _ => .fail
theorem vM (vs : List V) : Y2 true vs = .ret (.agg vs) := rfl
theorem rE (v : V) : Y2 false [v] = .ret v := rfl
def ldE (n : Nat) (ag : Bool) (id : Id) (p : Path) (i off m st : Nat) : DK → M V
 | .mem rows stt _ => C3 (Cq rows stt p i m st) fun row => if off + n ≤ row.length then Y2 ag (Jz id p i off stt ((row.drop off).take n)) else .fail
 | .dead => .fail
def ldX (n : Nat) (ag : Bool) (off st : Nat) (cs : List V) : DK → M V
 | .mem rows stt _ => if (st = stt ∧ rows.length = 1) ∧ off + n ≤ cs.length then Y2 ag ((cs.drop off).take n) else .fail
 | .dead => .fail
def ldV (n : Nat) (ag : Bool) : V → M V
 | .ptr id p i off m st => .get id (ldE n ag id p i off m st)
 | .vb id off st cs => .get id (ldX n ag off st cs)
 | .pp cs => if n ≤ cs.length then Y2 ag ((cs.take n).map V.t) else .fail
 | _ => .fail
theorem yp (n : Nat) (ag : Bool) (x : Cd) : Av s d (.ld n ag x) = ldV n ag (A6 s x) := by
 simp only [Av]
 generalize A6 s x = v
 cases v <;> try rfl
 ·simp only [ldV]
  congr 1
  funext e
  cases e <;> try rfl
  simp only [ldE]
  generalize Cq _ _ _ _ _ _ = o
  cases o <;> rfl
 ·simp only [ldV]
  congr 1
  funext e
  cases e <;> rfl
def stE (id : Id) (p : Path) (i off m st n : Nat) (ts : List T) : DK → M V
 | .mem rows stt fx => C3 (Cq rows stt p i m st) fun row => if ts.length = n ∧ off + n ≤ row.length then .set id (.mem (GC rows p i off ts) (stt + 1) fx) (.ret .dead) else .fail
 | .dead => .fail
def stV (n : Nat) (x y : V) : M V := match x with
 | .ptr id p i off m st => ED (cellsOf y) fun ts => .get id (stE id p i off m st n ts)
 | _ => .fail
theorem vN (n : Nat) (id : Id) (p : Path) (i off m st : Nat) (y : V) : stV n (.ptr id p i off m st) y = ED (cellsOf y) fun ts => .get id (stE id p i off m st n ts) := rfl
theorem yq (n : Nat) (x y : Cd) : Av s d (.st n x y) = stV n (A6 s x) (A6 s y) := by
 simp only [Av]
 generalize A6 s x = v
 cases v <;> try rfl
 simp only [stV]
 congr 1
 funext ts
 congr 1
 funext e
 cases e <;> try rfl
 simp only [stE]
 generalize Cq _ _ _ _ _ _ = o
 cases o <;> rfl
def vO (id : Id) (p : Path) (i off m st : Nat) (ts : List T) : DK → M V
 | .mem rows stt fx => C3 (Cq rows stt p i m st) fun row => if ts.length = 1 ∧ off + 1 ≤ row.length then .set id (.mem (GC rows p i off ts) (stt + 1) fx) (.ret (fB id p i off (stt + 1) ts)) else .fail
 | .dead => .fail
theorem rF (id : Id) (p : Path) (i off m st : Nat) (ts : List T) (rows : Rows) (stt : Nat) (fx : Bool) : vO id p i off m st ts (.mem rows stt fx) = C3 (Cq rows stt p i m st) fun row => if ts.length = 1 ∧ off + 1 ≤ row.length then .set id (.mem (GC rows p i off ts) (stt + 1) fx) (.ret (fB id p i off (stt + 1) ts)) else .fail := rfl
def yr (x y : V) : M V := match x, y with
 | .ptr id p i off m st, .ref id2 n2 => ED [.ref id2 n2] fun ts => .get id (vO id p i off m st ts)
 | _, _ => .fail
theorem rH (id : Id) (p : Path) (i off m st : Nat) (id2 : Id) (n2 : Nat) : yr (.ptr id p i off m st) (.ref id2 n2) = ED [.ref id2 n2] fun ts => .get id (vO id p i off m st ts) := rfl
theorem vP (id : Id) (p : Path) (i off st : Nat) (rs : Rows) : fB id p i off st [.sl true rs] = .sub id p i off rs.length st := rfl
theorem vQ (x y : Cd) : Av s d (.stk x y) = yr (A6 s x) (A6 s y) := by
 simp only [Av]
 generalize A6 s x = v
 generalize A6 s y = u
 cases v <;> cases u <;> try rfl
 simp only [yr]
 congr 1
 funext ts
 congr 1
 funext e
 cases e with
 | dead => rfl
 | mem rows stt fx =>
  simp only [vO]
  cases Cq rows stt _ _ _ _ <;> rfl
theorem A0f : zV (.sl false []) = .t (.sl false []) := rfl
def nT : V → M V
 | .ptr a b c d e f => .ret (.ptr a b c d e f)
 | .vb a b c d => .ret (.vb a b c d)
 | .pp cs => .ret (.pp cs)
 | .fn f caps => .ret (.fn f caps)
 | _ => .fail
theorem rJ (x : Cd) : Av s d (.nilc x) = nT (A6 s x) := by
 simp only [Av]; generalize A6 s x = v; cases v <;> rfl
def yt (op : BinOp) (x y : V) : M V := match x, y with
 | .t (.v a), .t (.v b) => C3 (CO op a b) fun r => .ret (.t (.v r))
 | _, _ => .fail
theorem yu (op : BinOp) (a b : Value) : yt op (.t (.v a)) (.t (.v b)) = C3 (CO op a b) fun r => .ret (.t (.v r)) := rfl
theorem vR (op : BinOp) (x y : Cd) : Av s d (.bin op x y) = yt op (A6 s x) (A6 s y) := by
 simp only [Av]
 generalize A6 s x = a
 generalize A6 s y = b
 cases a <;> try rfl
 rename_i a; cases a <;> try rfl
 cases b <;> try rfl
 rename_i b; cases b <;> try rfl
 rename_i a b
 simp only [yt]
 cases CO op a b <;> rfl
def yv (ne : Bool) (ks : List FK) (x y : V) : M V := match x, y with
 | .agg as, .agg bs => C3 (Vz ks as bs) fun r => .ret (.t (.v (.bool (if ne then !r else r))))
 | _, _ => .fail
theorem rM (ne : Bool) (ks : List FK) (as bs : List V) : yv ne ks (.agg as) (.agg bs) = C3 (Vz ks as bs) fun r => .ret (.t (.v (.bool (if ne then !r else r)))) := rfl
theorem vS (ne : Bool) (ks : List FK) (x y : Cd) : Av s d (.eqs ne ks x y) = yv ne ks (A6 s x) (A6 s y) := by
 simp only [Av]
 generalize A6 s x = a
 generalize A6 s y = b
 cases a <;> try rfl
 cases b <;> try rfl
 rename_i a b
 simp only [yv]
 cases Vz ks a b <;> rfl
def yw (ne : Bool) (x y : V) : M V := match x, y with
 | .t (.v (.bool a)), .t (.v (.bool b)) => .ret (.t (.v (.bool (if ne then neB a b else eqB a b))))
 | _, _ => .fail
theorem yx (a b : Bool) : yw false (.t (.v (.bool a))) (.t (.v (.bool b))) = .ret (.t (.v (.bool (eqB a b)))) := rfl
theorem yy (a b : Bool) : yw true (.t (.v (.bool a))) (.t (.v (.bool b))) = .ret (.t (.v (.bool (neB a b)))) := rfl
theorem vT (ne : Bool) (x y : Cd) : Av s d (.beq ne x y) = yw ne (A6 s x) (A6 s y) := rfl
def vU (ne : Bool) : V → M V
 | .nil => .ret (.t (.v (.bool (!ne))))
 | .t (.v (.slice q _ _)) => .ret (.t (.v (.bool (if ne then !q.isNone else q.isNone))))
 | .t (.sl _ (_ :: _)) => .ret (.t (.v (.bool ne)))
 | _ => .fail
theorem rN (ne : Bool) : vU ne .nil = .ret (.t (.v (.bool (!ne)))) := rfl
theorem yz (ne : Bool) (q : Option Addr) (n c : Nat) : vU ne (.t (.v (.slice q n c))) = .ret (.t (.v (.bool (if ne then !q.isNone else q.isNone)))) := rfl
theorem z6 (ne o : Bool) (r : List T) (rs : Rows) : vU ne (.t (.sl o (r :: rs))) = .ret (.t (.v (.bool ne))) := rfl
theorem vV (ne : Bool) (x : Cd) : Av s d (.eqn ne x) = vU ne (A6 s x) := by
 simp only [Av]
 generalize A6 s x = v
 cases v <;> try rfl
def unV (op : UnOp) (x : V) : M V := match op, x with
 | .not, .t (.v (.bool b)) => .ret (.t (.v (.bool (!b))))
 | .neg, .t (.v (.int k n)) => .ret (.t (.v (.int k (k.wrap (0 - n)))))
 | _, _ => .fail
theorem vW (b : Bool) : unV .not (.t (.v (.bool b))) = .ret (.t (.v (.bool (!b)))) := rfl
theorem vX (n : Int) : unV .neg (.t (.v (.int .i64 n))) = .ret (.t (.v (.int .i64 (A17 n)))) := rfl
def A0g (ne : Bool) : V → M V
 | .t (.v .nilIface) => .ret (.t (.v (.bool (!ne))))
 | _ => .fail
theorem rO (ne : Bool) : A0g ne (.t (.v .nilIface)) = .ret (.t (.v (.bool (!ne)))) := rfl
theorem vY (ne : Bool) (x : Cd) : Av s d (.eqi ne x) = A0g ne (A6 s x) := rfl
theorem z7 (op : UnOp) (x : Cd) : Av s d (.un op x) = unV op (A6 s x) := rfl
def cvV (c : Cv) (x : V) : M V := match c with
 | .str => (match x with
  | .sub .. => .fail
  | x => Ds x fun rows => C3 (C6 rows) fun l => .ret (.t (.v (.string ⟨l.toArray⟩))))
 | c => C3 (XK c x) .ret
theorem z8 (k k' : IntKind) (n : Int) : cvV (.int k') (.t (.v (.int k n))) = .ret (.t (.v (.int k' (wr k' n)))) := rfl
theorem vZ (k : IntKind) (n : Int) : cvV .rune (.t (.v (.int k n))) = .ret (.t (.v (.string (A0b n)))) := rfl
def rP (s : ByteArray) : List Int := s.data.toList.map fun b => (b.toNat : Int)
def lh (s : ByteArray) : Option (List Int) := if s.size ≤ maxLen then some (rP s) else none
theorem rQ (x : ByteArray) : cvV .bytes (.t (.v (.string x))) = C3 (lh x) fun l => .ret (.t (.sl false (l.map (rK .u8)))) := by
 simp only [cvV, XK, lh]
 split
 ·simp only [C3, Uf, rP, List.map_map]; rfl
 ·rfl
theorem vc (x : ByteArray) : cvV .same (.t (.v (.string x))) = .ret (.t (.v (.string x))) := rfl
def ve (rows : Rows) : M V := C3 (C6 rows) fun l => .ret (.t (.v (.string ⟨l.toArray⟩)))
theorem vf (rows : Rows) : ve rows = C3 (C6 rows) fun l => .ret (.t (.v (.string ⟨l.toArray⟩))) := rfl
theorem rR (o : Bool) (rows : Rows) : cvV .str (.t (.sl o rows)) = ve rows := rfl
theorem li : cvV .str .nil = ve [] := rfl
theorem lj (id : Id) (n : Nat) : cvV .str (.ref id n) = Ds (.ref id n) ve := rfl
theorem rT (c : Cv) (x : Cd) : Av s d (.conv c x) = cvV c (A6 s x) := by
 cases c <;> simp only [Av, cvV]
 case str =>
  generalize A6 s x = v
  cases v <;> try rfl
  ·rename_i c; cases c <;> try rfl
   simp only [Ds]
   cases C6 _ <;> rfl
  ·show Ds _ _ = Ds _ _
   congr 1; funext rows; cases C6 rows <;> rfl
 all_goals (cases XK _ (A6 s x) <;> rfl)
def zA (d : Nat) (z : List T) (byt : Nat) : V → M V
 | .t (.v (.int _ n)) => C3 (mkN n byt) fun m => .new [.mem (List.replicate m z) 0 false] (.ret (.ref (d, 0) m))
 | _ => .fail
theorem vg (z : List T) (byt : Nat) (x : Cd) : Av s d (.mks z byt x) = zA d z byt (A6 s x) := by
 simp only [Av]
 generalize A6 s x = v
 cases v <;> try rfl
 rename_i c; cases c <;> try rfl
 rename_i x; cases x <;> try rfl
 simp only [zA, mkN]
 split <;> rfl
def iaK (sz : Nat) (id : Id) (p : Path) (n m st : Nat) (row : List T) : M V := if row.length = sz then .ret (.ptr id p n 0 m st) else .fail
def iaS (sz : Nat) (id : Id) (p : Path) (n : Int) (m st : Nat) (rows : Rows) : M V := if rows.length = m then C3 (getI rows n) (iaK sz id p n.toNat m st) else .fail
def iaE (sz : Nat) (id : Id) (m : Nat) (n : Int) : DK → M V
 | .mem rows _ _ => iaS sz id [] n m 0 rows
 | .dead => .fail
def iaC (sz : Nat) (id : Id) (p : Path) (j c : Nat) (n : Int) (m st : Nat) : DK → M V
 | .mem rows stt _ => if st = stt then C3 (BD rows p j c) fun
   | .sl true rs => iaS sz id (p ++ [(j, c)]) n m st rs
   | _ => .fail
  else .fail
 | .dead => .fail
def iaP (sz : Nat) (row : List T) : M V := if row.length = sz then .ret (.pp row) else .fail
def iaV (sz : Nat) (x i : V) : M V := match i with
 | .t (.v (.int _ n)) => if 0 ≤ n then (match x with
  | .t (.sl _ rows) => C3 (getI rows n) (iaP sz)
  | .ref id m => .get id (iaE sz id m n)
  | .sub id p j c m st => .get id (iaC sz id p j c n m st)
  | _ => .fail) else .fail
 | _ => .fail
theorem zB (sz : Nat) (o : Bool) (rows : Rows) (k : IntKind) (n : Int) : iaV sz (.t (.sl o rows)) (.t (.v (.int k n))) = if 0 ≤ n then C3 (getI rows n) (iaP sz) else .fail := rfl
theorem vh (sz : Nat) (id : Id) (m : Nat) (k : IntKind) (n : Int) : iaV sz (.ref id m) (.t (.v (.int k n))) = if 0 ≤ n then .get id (iaE sz id m n) else .fail := rfl
theorem vi (sz : Nat) (id : Id) (p : Path) (j c m st : Nat) (k : IntKind) (n : Int) : iaV sz (.sub id p j c m st) (.t (.v (.int k n))) = if 0 ≤ n then .get id (iaC sz id p j c n m st) else .fail := rfl
theorem V0 {α : Type} {l : List α} {n : Int} (h : 0 ≤ n) : getI l n = l[n.toNat]? := if_pos h
theorem zC (sz : Nat) (id : Id) (p : Path) (n m st : Nat) (o : Option (List T)) : (match o with | some row => if row.length = sz then M.ret (V.ptr id p n 0 m st) else .fail | none => .fail) = C3 o (iaK sz id p n m st) := by cases o <;> rfl
theorem zD (sz : Nat) (x i : Cd) : Av s d (.ia sz x i) = iaV sz (A6 s x) (A6 s i) := by
 simp only [Av]
 generalize A6 s x = a
 generalize A6 s i = b
 cases b <;> try rfl
 rename_i b; cases b <;> try rfl
 rename_i b; cases b <;> try rfl
 rename_i k n
 simp only [iaV]
 split
 ·rename_i h0
  cases a <;> try rfl
  ·rename_i a; cases a <;> try rfl
   rename_i rows
   simp only [V0 h0, C3]
   cases rows[n.toNat]? <;> rfl
  ·show M.get _ _ = M.get _ _
   congr 1
   funext e; cases e <;> try rfl
   simp only [iaE, iaS, V0 h0]
   rw [← zC]; rfl
  ·show M.get _ _ = M.get _ _
   congr 1
   funext e; cases e <;> try rfl
   simp only [iaC, iaS, V0 h0]
   split
   ·cases BD _ _ _ _ with
    | none => rfl
    | some t =>
     cases t <;> try rfl
     rename_i o rs
     cases o <;> try rfl
     simp only [C3]
     split
     ·cases rs[n.toNat]? <;> rfl
     ·rfl
   ·rfl
 ·rfl
def faV (off : Nat) : V → M V
 | .ptr id p i o n st => .ret (.ptr id p i (o + off) n st)
 | .vb id o st cs => .ret (.vb id (o + off) st cs)
 | .pp cs => .ret (.pp (cs.drop off))
 | _ => .fail
theorem vj (off : Nat) (id : Id) (p : Path) (i o n st : Nat) : faV off (.ptr id p i o n st) = .ret (.ptr id p i (o + off) n st) := rfl
theorem zE (off : Nat) (cs : List T) : faV off (.pp cs) = .ret (.pp (cs.drop off)) := rfl
theorem zF (off : Nat) (x : Cd) : Av s d (.fa off x) = faV off (A6 s x) := by
 simp only [Av]; generalize A6 s x = v; cases v <;> rfl
def A0h (off n : Nat) (ag : Bool) : V → M V
 | .agg cs => if off + n ≤ cs.length then Y2 ag ((cs.drop off).take n) else .fail
 | _ => .fail
theorem rU (off n : Nat) (ag : Bool) (cs : List V) : A0h off n ag (.agg cs) = if off + n ≤ cs.length then Y2 ag ((cs.drop off).take n) else .fail := rfl
theorem vl (off n : Nat) (ag : Bool) (x : Cd) : Av s d (.fld off n ag x) = A0h off n ag (A6 s x) := by
 simp only [Av]; generalize A6 s x = v; cases v <;> rfl
def ixV (x i : V) : M V := match x, i with
 | .t (.v (.string st)), .t (.v (.int _ n)) => C3 (Q1 st n) fun b => .ret (.t (.v (.int .u8 b)))
 | _, _ => .fail
theorem A0i (st : ByteArray) (k : IntKind) (n : Int) : ixV (.t (.v (.string st))) (.t (.v (.int k n))) = C3 (Q1 st n) fun b => .ret (.t (.v (.int .u8 b))) := rfl
theorem zG (x i : Cd) : Av s d (.ix x i) = ixV (A6 s x) (A6 s i) := by
 simp only [Av]
 generalize A6 s x = a
 generalize A6 s i = b
 cases a <;> try rfl
 rename_i a; cases a <;> try rfl
 rename_i a; cases a <;> try rfl
 cases b <;> try rfl
 rename_i b; cases b <;> try rfl
 rename_i b; cases b <;> try rfl
 simp only [ixV, Q1]
 split <;> rfl
def A0j (sz len : Nat) (ag : Bool) (x i : V) : M V := match x, i with
 | .agg cs, .t (.v (.int _ n)) => if 0 ≤ n ∧ n < len ∧ cs.length = len * sz then Y2 ag ((cs.drop (n.toNat * sz)).take sz) else .fail
 | _, _ => .fail
theorem rV (sz len : Nat) (ag : Bool) (cs : List V) (k : IntKind) (n : Int) : A0j sz len ag (.agg cs) (.t (.v (.int k n))) = if 0 ≤ n ∧ n < len ∧ cs.length = len * sz then Y2 ag ((cs.drop (n.toNat * sz)).take sz) else .fail := rfl
theorem vm (sz len : Nat) (ag : Bool) (x i : Cd) : Av s d (.ixa sz len ag x i) = A0j sz len ag (A6 s x) (A6 s i) := by
 simp only [Av]
 generalize A6 s x = a
 generalize A6 s i = b
 cases a <;> rfl
def bnd (o : Option V) (e : Int) : Option Int := match o with
 | none => some e
 | some (.t (.v (.int _ n))) => some n
 | _ => none
theorem rW (e : Int) : bnd none e = some e := rfl
theorem rX (e : Int) (k : IntKind) (n : Int) : bnd (some (.t (.v (.int k n)))) e = some n := rfl
def rY (sz : Nat) (x : V) (lo hi : Option V) : M V := match x with
 | .t (.v (.string st)) => C3 (bnd lo 0) fun l => C3 (bnd hi (AU st)) fun h => if sz = 0 then C3 (Q2 st l h) fun z => .ret (.t (.v (.string z))) else .fail
 | .t (.sl _ rows) => C3 (bnd lo 0) fun l => C3 (bnd hi (A8 rows)) fun h => if 0 < sz ∧ (rows.all fun r => r.length == sz) then C3 (slL rows l h) fun z => .ret (.t (.sl false z)) else .fail
 | _ => .fail
theorem zH (sz : Nat) (st : ByteArray) (lo hi : Option V) : rY sz (.t (.v (.string st))) lo hi = C3 (bnd lo 0) fun l => C3 (bnd hi (AU st)) fun h => if sz = 0 then C3 (Q2 st l h) fun z => .ret (.t (.v (.string z))) else .fail := rfl
theorem zI (sz : Nat) (o : Bool) (rows : Rows) (lo hi : Option V) : rY sz (.t (.sl o rows)) lo hi = C3 (bnd lo 0) fun l => C3 (bnd hi (A8 rows)) fun h => if 0 < sz ∧ (rows.all fun r => r.length == sz) then C3 (slL rows l h) fun z => .ret (.t (.sl false z)) else .fail := rfl
def vn (sz : Nat) (x : V) (l h : Option Int → Option Int) : M V := match x with
 | .t (.v (.string st)) => (match l (some 0), h (some st.size) with
   | some l, some h => if (0 ≤ l ∧ l ≤ h ∧ h ≤ st.size) ∧ sz = 0 then .ret (.t (.v (.string (st.extract l.toNat h.toNat)))) else .fail
   | _, _ => .fail)
 | .t (.sl _ rows) => (match l (some 0), h (some rows.length) with
   | some l, some h => if (0 ≤ l ∧ l ≤ h ∧ h ≤ rows.length) ∧ 0 < sz ∧ (rows.all fun r => r.length == sz) then .ret (.t (.sl false ((rows.drop l.toNat).take (h.toNat - l.toNat)))) else .fail
   | _, _ => .fail)
 | _ => .fail
def bnE (s : List V) (o : Option Cd) (e : Option Int) : Option Int := match o with
 | none => e
 | some q => match A6 s q with | .t (.v (.int _ n)) => some n | _ => none
theorem rZ (sz : Nat) (x : Cd) (lo hi : Option Cd) : Av s d (.slc sz x lo hi) = vn sz (A6 s x) (bnE s lo) (bnE s hi) := by
 simp only [Av, vn]
 cases lo <;> cases hi <;> rfl
theorem ra (o : Option Cd) (e : Int) : bnE s o (some e) = bnd (o.map (A6 s)) e := by
 cases o with
 | none => rfl
 | some q =>
  simp only [Option.map_some, bnE]
  generalize A6 s q = v
  cases v <;> try rfl
  rename_i v; cases v <;> try rfl
  rename_i v; cases v <;> rfl
theorem nU {A C : Prop} [Decidable A] [Decidable C] {α : Type} (k : α → M V) (x : α) : (if A ∧ C then k x else M.fail) = if C then C3 (if A then some x else none) k else M.fail := by
 by_cases A <;> by_cases C <;> simp_all [C3]
theorem vo (sz : Nat) (x : Cd) (lo hi : Option Cd) : Av s d (.slc sz x lo hi) = rY sz (A6 s x) (lo.map (A6 s)) (hi.map (A6 s)) := by
 rw [rZ]
 generalize A6 s x = a
 cases a <;> try rfl
 rename_i a; cases a <;> try rfl
 ·rename_i a; cases a <;> try rfl
  rename_i st
  simp only [rY, vn, AU, ra]
  generalize bnd (lo.map (A6 s)) 0 = l
  generalize bnd (hi.map (A6 s)) (st.size : Int) = h
  cases l <;> cases h <;> try rfl
  exact nU (fun z => .ret (.t (.v (.string z)))) _
 ·rename_i o rows
  simp only [rY, vn, A8, ra]
  generalize bnd (lo.map (A6 s)) 0 = l
  generalize bnd (hi.map (A6 s)) (rows.length : Int) = h
  cases l <;> cases h <;> try rfl
  exact nU (fun z => .ret (.t (.sl false z))) _
theorem rb (f : FuncId) (md : List Md) (own : List Bool) (args : List Cd) : Av s d (.call f md own args) = Qp d f md own (args.map (A6 s)) := rfl
def cvv (d : Nat) (md : List Md) (own : List Bool) (args : List V) : V → M V
 | .fn f caps => Qp d f (md ++ (caps.map fun _ => Md.ref)) own (args ++ caps)
 | _ => .fail
theorem oJ (x : Cd) (md : List Md) (own : List Bool) (args : List Cd) : Av s d (.callv x md own args) = cvv d md own (args.map (A6 s)) (A6 s x) := by
 simp only [Av]; generalize A6 s x = v; cases v <;> rfl
def zJ (id : Id) (n sz byt : Nat) (new : Rows) : DK → M V
 | .mem rows st _ => if rows.length = n ∧ (rows.all fun r => r.length == sz) then C3 (room (n + new.length) byt) fun _ => .set id (.mem (rows ++ new) st false) (.ret (.ref id (n + new.length))) else .fail
 | .dead => .fail
def zK (d sz byt : Nat) (new : Rows) : T → M V
 | .sl true rows => if (rows.all fun r => r.length == sz) then C3 (room (rows.length + new.length) byt) fun _ => .new [.mem (rows ++ new) 0 false] (.ret (.ref (d, 0) (rows.length + new.length))) else .fail
 | _ => .fail
def lk (d sz byt : Nat) (new : Rows) : V → M V
 | .nil => C3 (room new.length byt) fun _ => .new [.mem new 0 false] (.ret (.ref (d, 0) new.length))
 | .ref id n => .get id (zJ id n sz byt new)
 | .sub id p i c n st => take (.sub id p i c n st) (zK d sz byt new)
 | _ => .fail
def oK (d sz byt : Nat) (a : V) (new : Rows) : M V := if (new.all fun r => r.length == sz) then lk d sz byt new a else .fail
theorem rc (d sz byt : Nat) (new : Rows) : lk d sz byt new .nil = C3 (room new.length byt) fun _ => .new [.mem new 0 false] (.ret (.ref (d, 0) new.length)) := rfl
theorem re (d sz byt : Nat) (new : Rows) (id : Id) (n : Nat) : lk d sz byt new (.ref id n) = .get id (zJ id n sz byt new) := rfl
theorem rf (d sz byt : Nat) (new : Rows) (id : Id) (p : Path) (i c n st : Nat) : lk d sz byt new (.sub id p i c n st) = take (.sub id p i c n st) (zK d sz byt new) := rfl
theorem rg (id : Id) (n sz byt : Nat) (new rows : Rows) (st : Nat) (fx : Bool) : zJ id n sz byt new (.mem rows st fx) = if rows.length = n ∧ (rows.all fun r => r.length == sz) then C3 (room (n + new.length) byt) fun _ => .set id (.mem (rows ++ new) st false) (.ret (.ref id (n + new.length))) else .fail := rfl
theorem vp (d sz byt : Nat) (new rows : Rows) : zK d sz byt new (.sl true rows) = if (rows.all fun r => r.length == sz) then C3 (room (rows.length + new.length) byt) fun _ => .new [.mem (rows ++ new) 0 false] (.ret (.ref (d, 0) (rows.length + new.length))) else .fail := rfl
theorem rh {A B C D : Prop} [Decidable A] [Decidable B] [Decidable C] [Decidable D] (X : M V) : (if A ∧ B ∧ C ∧ D then X else M.fail) = if A ∧ D then C3 (if B ∧ C then some () else none) (fun _ => X) else M.fail := by
 by_cases A <;> by_cases B <;> by_cases C <;> by_cases D <;> simp_all [C3]
theorem eP {B C D : Prop} [Decidable B] [Decidable C] [Decidable D] (X : M V) : (if B ∧ C ∧ D then X else M.fail) = if D then C3 (if B ∧ C then some () else none) (fun _ => X) else M.fail := by
 by_cases B <;> by_cases C <;> by_cases D <;> simp_all [C3]
theorem vq (sz byt : Nat) (a x : Cd) : Av s d (.app sz byt a x) = Fy (A6 s x) (oK d sz byt (A6 s a)) := by
 simp only [Av]
 congr 1
 funext new
 simp only [oK]
 split
 ·generalize A6 s a = v
  cases v <;> try rfl
  ·simp only [lk, room]; split <;> rfl
  ·show M.get _ _ = M.get _ _
   congr 1
   funext e; cases e <;> try rfl
   exact rh _
  ·simp only [lk]
   congr 1
   funext e; cases e <;> try rfl
   rename_i o rows
   cases o <;> try rfl
   exact eP _
 ·rfl
def vr (id : Id) (p : Path) (i off m st : Nat) : DK → M V
 | .mem rows stt _ => C3 (Cq rows stt p i m st) fun row => C3 (row[off]?) fun t => .ret (LY id p i off stt t)
 | .dead => .fail
theorem ri (id : Id) (p : Path) (i off m st : Nat) (rows : Rows) (stt : Nat) (fx : Bool) : vr id p i off m st (.mem rows stt fx) = C3 (Cq rows stt p i m st) fun row => C3 (row[off]?) fun t => .ret (LY id p i off stt t) := rfl
def zL : V → M V
 | .ptr id p i off m st => if p = [] then .get id (vr id p i off m st) else .fail
 | _ => .fail
theorem rj (id : Id) (i off m st : Nat) : zL (.ptr id [] i off m st) = .get id (vr id [] i off m st) := rfl
theorem vt (x : Cd) : Av s d (.ldr x) = zL (A6 s x) := by
 simp only [Av]
 generalize A6 s x = v
 cases v with
 | ptr id p i off m st =>
  simp only [zL]
  split
  ·congr 1
   funext e
   cases e with
   | dead => rfl
   | mem rows stt fx =>
    simp only [vr]
    generalize Cq rows stt p i m st = o
    cases o with
    | none => rfl
    | some row =>
     show (match row[off]? with | some t => M.ret (LY id p i off stt t) | none => M.fail) = C3 (row[off]?) _
     generalize row[off]? = o
     cases o <;> rfl
  ·rfl
 | _ => rfl
def nV (d q sz byt : Nat) (a x : V) : M V := match a, x with
 | .sub id p i c n st, .ref id2 n2 => if p ≠ [] ∧ id.1 = q ∧ id2.1 ≠ q then Fy (.ref id2 n2) (oK d sz byt (.sub id p i c n st)) else .fail
 | _, _ => .fail
theorem oN (d q sz byt : Nat) (a b : Nat) (y : Nat × Nat) (p : Path) (i c n st : Nat) (a2 b2 n2 : Nat) : nV d q sz byt (.sub (a, b) (y :: p) i c n st) (.ref (a2, b2) n2) = if a = q then (if a2 = q then .fail else Fy (.ref (a2, b2) n2) (oK d sz byt (.sub (a, b) (y :: p) i c n st))) else .fail := by
 simp only [nV]
 by_cases h1 : a = q <;> by_cases h2 : a2 = q <;> simp [h1, h2]
theorem rl (q sz byt : Nat) (a x : Cd) : Av s d (.appn q sz byt a x) = nV d q sz byt (A6 s a) (A6 s x) := by
 simp only [Av]
 generalize A6 s a = v
 generalize A6 s x = u
 cases v <;> cases u <;> try rfl
 simp only [nV]
 split
 ·congr 1
  funext new
  simp only [oK, lk]
  split
  ·congr 1
   funext t
   cases t with
   | sl o rows => cases o with
    | true => exact eP _
    | false => rfl
   | _ => rfl
  ·rfl
 ·rfl
def oO (str : Bool) (x : V) : M V := match str, x with
 | true, .t (.v (.string st)) => .ret (.t (.v (.int .i64 (AU st))))
 | false, .t (.sl _ rows) => .ret (.t (.v (.int .i64 (A8 rows))))
 | false, .nil => .ret (.t (.v (.int .i64 0)))
 | false, .ref _ n => .ret (.t (.v (.int .i64 n)))
 | false, .sub _ _ _ _ n _ => .ret (.t (.v (.int .i64 n)))
 | _, _ => .fail
theorem zM (st : ByteArray) : oO true (.t (.v (.string st))) = .ret (.t (.v (.int .i64 (AU st)))) := rfl
theorem zN (o : Bool) (rows : Rows) : oO false (.t (.sl o rows)) = .ret (.t (.v (.int .i64 (A8 rows)))) := rfl
theorem rn : oO false .nil = .ret (.t (.v (.int .i64 0))) := rfl
theorem ro (id : Id) (n : Nat) : oO false (.ref id n) = .ret (.t (.v (.int .i64 n))) := rfl
theorem rp (id : Id) (p : Path) (i c n st : Nat) : oO false (.sub id p i c n st) = .ret (.t (.v (.int .i64 n))) := rfl
theorem vu (str : Bool) (x : Cd) : Av s d (.len str x) = oO str (A6 s x) := by
 simp only [Av]
 generalize A6 s x = v
 cases str <;> cases v <;> try rfl
def mmV (mx : Bool) (x y : V) : M V := match x, y with
 | .t (.v (.int k a)), .t (.v (.int _ b)) => .ret (.t (.v (.int k (if mx then A0a a b else A0Z a b))))
 | _, _ => .fail
theorem A0k (k k' : IntKind) (a b : Int) : mmV true (.t (.v (.int k a))) (.t (.v (.int k' b))) = .ret (.t (.v (.int k (A0a a b)))) := rfl
theorem A0l (k k' : IntKind) (a b : Int) : mmV false (.t (.v (.int k a))) (.t (.v (.int k' b))) = .ret (.t (.v (.int k (A0Z a b)))) := rfl
theorem zO (mx : Bool) (x y : Cd) : Av s d (.mm mx x y) = mmV mx (A6 s x) (A6 s y) := rfl
def zP (i : Nat) : V → M V
 | .tup vs => C3 vs[i]? .ret
 | _ => .fail
theorem rq (i : Nat) (vs : List V) : zP i (.tup vs) = C3 vs[i]? .ret := rfl
theorem vw (x : Cd) (i : Nat) : Av s d (.ext x i) = zP i (A6 s x) := by
 simp only [Av]; generalize A6 s x = v; cases v <;> try rfl
 rename_i vs
 simp only [zP]
 cases vs[i]? <;> rfl
theorem vy (f : FuncId) (caps : List Cd) : Av s d (.mkf f caps) = .ret (.fn f (caps.map (A6 s))) := rfl
end
end TT
