import Derived.Test.YtjljocncnibofaaGreatDoorTH1
set_option linter.unusedVariables false
set_option linter.unusedSimpArgs false
namespace TT
open Go
def wr (k : IntKind) (a : Int) : Int := k.wrap a
def addI (a b : Int) : Int := IntKind.i64.wrap (a + b)
def subI (a b : Int) : Int := IntKind.i64.wrap (a - b)
def mulI (a b : Int) : Int := IntKind.i64.wrap (a * b)
def negI (a : Int) : Int := IntKind.i64.wrap (0 - a)
def quoI (a b : Int) : Option Int := if b = 0 then none else some (IntKind.i64.wrap (a.tdiv b))
def remI (a b : Int) : Option Int := if b = 0 then none else some (a.tmod b)
def arK (op : BinOp) (k : IntKind) (a b : Int) : Option Int := match op with
 | .add => some (k.wrap (a + b))
 | .sub => some (k.wrap (a - b))
 | .mul => some (k.wrap (a * b))
 | .quo => if b = 0 then none else some (k.wrap (a.tdiv b))
 | .rem => if b = 0 then none else some (a.tmod b)
 | .and => some (Go.bits .and k a b)
 | .or => some (Go.bits .or k a b)
 | .xor => some (Go.bits .xor k a b)
 | .andNot => some (Go.bits .andNot k a b)
 | .shl => if b < 0 then none else some (k.wrap (a * 2 ^ (min b.toNat k.bits)))
 | .shr => if b < 0 then none else some (a.fdiv (2 ^ (min b.toNat k.bits)))
 | _ => none
def ltI (a b : Int) : Bool := decide (a < b)
def leI (a b : Int) : Bool := decide (a ≤ b)
def gtI (a b : Int) : Bool := decide (a > b)
def geI (a b : Int) : Bool := decide (a ≥ b)
def eqI (a b : Int) : Bool := a == b
def neI (a b : Int) : Bool := a != b
def catS (x y : ByteArray) : Option ByteArray := if x.size + y.size ≤ 9223372036854775807 then some (x ++ y) else none
def eqS (x y : ByteArray) : Bool := x.toList == y.toList
def neS (x y : ByteArray) : Bool := !(x.toList == y.toList)
def ltS (x y : ByteArray) : Bool := Op.bytesLess x.toList y.toList
def leS (x y : ByteArray) : Bool := Op.bytesLess x.toList y.toList || x.toList == y.toList
def gtS (x y : ByteArray) : Bool := !(Op.bytesLess x.toList y.toList || x.toList == y.toList)
def geS (x y : ByteArray) : Bool := !(Op.bytesLess x.toList y.toList)
def eqB (a b : Bool) : Bool := a == b
def neB (a b : Bool) : Bool := !(a == b)
def minI (a b : Int) : Int := if b < a then b else a
def maxI (a b : Int) : Int := if a < b then b else a
def lenS (x : ByteArray) : Int := x.size
def lenL {α : Type} (l : List α) : Int := l.length
def runeS (n : Int) : ByteArray := Utf8.encode n
def getI {α : Type} (l : List α) (i : Int) : Option α := if 0 ≤ i then l[i.toNat]? else none
def atS (s : ByteArray) (i : Int) : Option Int := if h : 0 ≤ i ∧ i.toNat < s.size then some (s[i.toNat]'h.2).toNat else none
def subS (s : ByteArray) (l h : Int) : Option ByteArray := if 0 ≤ l ∧ l ≤ h ∧ h ≤ s.size then some (s.extract l.toNat h.toNat) else none
def slL {α : Type} (s : List α) (l h : Int) : Option (List α) := if 0 ≤ l ∧ l ≤ h ∧ h ≤ s.length then some ((s.drop l.toNat).take (h.toNat - l.toNat)) else none
def mkN (n : Int) (byt : Nat) : Option Nat := if 0 ≤ n ∧ n.toNat * byt ≤ LIM ∧ 0 < byt then some n.toNat else none
def room (n byt : Nat) : Option Unit := if n * byt ≤ LIM ∧ 0 < byt then some () else none
def rI (x : Int) : List T := [.v (.int .i64 x)]
def rK (k : IntKind) (x : Int) : List T := [.v (.int k x)]
def rS (x : ByteArray) : List T := [.v (.string x)]
def rB (x : Bool) : List T := [.v (.bool x)]
def rL {α : Type} (o : Bool) (f : α → List T) (l : List α) : List T := [.sl o (l.map f)]
def Ok {ρ : Type} (x : Option ρ) (e : ρ → Res) (y : Option Res) : Prop := ∀ r, x = some r → y = some (e r)
theorem Ok_ret {ρ : Type} {r : ρ} {e : ρ → Res} {y : Option Res} (h : y = some (e r)) : Ok (some r) e y := fun r' h' => by cases h'; exact h
theorem Ok_none {ρ : Type} {e : ρ → Res} {y : Option Res} : Ok none e y := fun r' h' => by cases h'
theorem Ok_if {ρ : Type} {b : Bool} {x x' : Option ρ} {e : ρ → Res} {y : Option Res} (h1 : b = true → Ok x e y) (h2 : b = false → Ok x' e y) : Ok (if b then x else x') e y := by
 cases b
 ·exact h2 rfl
 ·exact h1 rfl
theorem Ok_prim {α ρ : Type} {p : Option α} {f : α → Option ρ} {e : ρ → Res} {y : Option Res} (h : ∀ a, p = some a → Ok (f a) e y) : Ok (p >>= f) e y := fun r hr => by
 obtain ⟨a, h1, h2⟩ := Option.bind_eq_some_iff.1 hr
 exact h a h1 r h2
theorem Ok_call {β ρ : Type} {g : Option β} {f : β → Option ρ} {e : ρ → Res} {e' : β → Res} {Y : Option Res} {k : Res → Option Res} (hg : Ok g e' Y) (h : ∀ v, Ok (f v) e (k (e' v))) : Ok (g >>= f) e (Y.bind k) := fun r hr => by
 obtain ⟨a, h1, h2⟩ := Option.bind_eq_some_iff.1 hr
 rw [hg a h1]
 exact h a r h2
section
def andK (k : IntKind) (a b : Int) : Int := Go.bits .and k a b
def orK (k : IntKind) (a b : Int) : Int := Go.bits .or k a b
def xorK (k : IntKind) (a b : Int) : Int := Go.bits .xor k a b
def andNotK (k : IntKind) (a b : Int) : Int := Go.bits .andNot k a b
def addK (k : IntKind) (a b : Int) : Int := k.wrap (a + b)
def subK (k : IntKind) (a b : Int) : Int := k.wrap (a - b)
def mulK (k : IntKind) (a b : Int) : Int := k.wrap (a * b)
def quoK (k : IntKind) (a b : Int) : Option Int := if b = 0 then none else some (k.wrap (a.tdiv b))
def remK (k : IntKind) (a b : Int) : Option Int := if b = 0 then none else some (k.wrap (a.tmod b))
def shlK (k : IntKind) (a b : Int) : Option Int := if b < 0 then none else some (k.wrap (a * 2 ^ (min b.toNat k.bits)))
def shrK (k : IntKind) (a b : Int) : Option Int := if b < 0 then none else some (a.fdiv (2 ^ (min b.toNat k.bits)))
theorem int_and (k : IntKind) (a b : Int) : binV .and (.int k a) (.int k b) = some (.int k (andK k a b)) := by simp [binV, intOp, andK]
theorem int_or (k : IntKind) (a b : Int) : binV .or (.int k a) (.int k b) = some (.int k (orK k a b)) := by simp [binV, intOp, orK]
theorem int_xor (k : IntKind) (a b : Int) : binV .xor (.int k a) (.int k b) = some (.int k (xorK k a b)) := by simp [binV, intOp, xorK]
theorem int_andNot (k : IntKind) (a b : Int) : binV .andNot (.int k a) (.int k b) = some (.int k (andNotK k a b)) := by simp [binV, intOp, andNotK]
theorem int_shl (k k' : IntKind) (a b : Int) : binV .shl (.int k a) (.int k' b) = (shlK k a b).map (Value.int k) := by simp only [binV, shlK]; split <;> rfl
theorem int_shr (k k' : IntKind) (a b : Int) : binV .shr (.int k a) (.int k' b) = (shrK k a b).map (Value.int k) := by simp only [binV, shrK]; split <;> rfl
theorem int_add_u8 (a b : Int) : binV .add (.int .u8 a) (.int .u8 b) = some (.int .u8 (addK .u8 a b)) := rfl
theorem int_sub_u8 (a b : Int) : binV .sub (.int .u8 a) (.int .u8 b) = some (.int .u8 (subK .u8 a b)) := rfl
theorem int_mul_u8 (a b : Int) : binV .mul (.int .u8 a) (.int .u8 b) = some (.int .u8 (mulK .u8 a b)) := rfl
theorem int_add_i32 (a b : Int) : binV .add (.int .i32 a) (.int .i32 b) = some (.int .i32 (addK .i32 a b)) := rfl
theorem int_sub_i32 (a b : Int) : binV .sub (.int .i32 a) (.int .i32 b) = some (.int .i32 (subK .i32 a b)) := rfl
theorem int_mul_i32 (a b : Int) : binV .mul (.int .i32 a) (.int .i32 b) = some (.int .i32 (mulK .i32 a b)) := rfl
theorem int_add_u32 (a b : Int) : binV .add (.int .u32 a) (.int .u32 b) = some (.int .u32 (addK .u32 a b)) := rfl
theorem int_sub_u32 (a b : Int) : binV .sub (.int .u32 a) (.int .u32 b) = some (.int .u32 (subK .u32 a b)) := rfl
theorem int_mul_u32 (a b : Int) : binV .mul (.int .u32 a) (.int .u32 b) = some (.int .u32 (mulK .u32 a b)) := rfl
theorem int_add_u64 (a b : Int) : binV .add (.int .u64 a) (.int .u64 b) = some (.int .u64 (addK .u64 a b)) := rfl
theorem int_sub_u64 (a b : Int) : binV .sub (.int .u64 a) (.int .u64 b) = some (.int .u64 (subK .u64 a b)) := rfl
theorem int_mul_u64 (a b : Int) : binV .mul (.int .u64 a) (.int .u64 b) = some (.int .u64 (mulK .u64 a b)) := rfl
theorem int_add (a b : Int) : binV .add (.int .i64 a) (.int .i64 b) = some (.int .i64 (addI a b)) := rfl
theorem int_sub (a b : Int) : binV .sub (.int .i64 a) (.int .i64 b) = some (.int .i64 (subI a b)) := rfl
theorem int_mul (a b : Int) : binV .mul (.int .i64 a) (.int .i64 b) = some (.int .i64 (mulI a b)) := rfl
theorem int_quo (a b : Int) : binV .quo (.int .i64 a) (.int .i64 b) = (quoI a b).map (Value.int .i64) := by simp only [binV, intOp, quoI, if_true]; split <;> rfl
theorem int_quo_u64 (a b : Int) : binV .quo (.int .u64 a) (.int .u64 b) = (quoK .u64 a b).map (Value.int .u64) := by simp only [binV, intOp, quoK, if_true]; split <;> rfl
theorem int_rem (a b : Int) : binV .rem (.int .i64 a) (.int .i64 b) = (remI a b).map (Value.int .i64) := by simp only [binV, intOp, remI, if_true]; split <;> rfl
theorem int_lt (k : IntKind) (a b : Int) : binV .lss (.int k a) (.int k b) = some (.bool (ltI a b)) := by simp only [binV, intOp, ltI, if_true]
theorem int_le (k : IntKind) (a b : Int) : binV .leq (.int k a) (.int k b) = some (.bool (leI a b)) := by simp only [binV, intOp, leI, if_true]
theorem int_gt (k : IntKind) (a b : Int) : binV .gtr (.int k a) (.int k b) = some (.bool (gtI a b)) := by simp only [binV, intOp, gtI, if_true]
theorem int_ge (k : IntKind) (a b : Int) : binV .geq (.int k a) (.int k b) = some (.bool (geI a b)) := by simp only [binV, intOp, geI, if_true]
theorem int_eq (k : IntKind) (a b : Int) : binV .eql (.int k a) (.int k b) = some (.bool (eqI a b)) := by simp only [binV, intOp, eqI, if_true]
theorem int_ne (k : IntKind) (a b : Int) : binV .neq (.int k a) (.int k b) = some (.bool (neI a b)) := by simp only [binV, intOp, neI, if_true]
theorem str_add (a b : ByteArray) : binV .add (.string a) (.string b) = (catS a b).map Value.string := by simp only [binV, strOp, catS]; split <;> rfl
theorem str_eq (a b : ByteArray) : binV .eql (.string a) (.string b) = some (.bool (eqS a b)) := rfl
theorem str_ne (a b : ByteArray) : binV .neq (.string a) (.string b) = some (.bool (neS a b)) := rfl
theorem str_lt (a b : ByteArray) : binV .lss (.string a) (.string b) = some (.bool (ltS a b)) := rfl
theorem str_le (a b : ByteArray) : binV .leq (.string a) (.string b) = some (.bool (leS a b)) := rfl
theorem str_gt (a b : ByteArray) : binV .gtr (.string a) (.string b) = some (.bool (gtS a b)) := rfl
theorem str_ge (a b : ByteArray) : binV .geq (.string a) (.string b) = some (.bool (geS a b)) := rfl
end
def oneM {α β : Type} : Option α → (α → M β) → M β
 | some a, k => k a
 | none, _ => .fail
section
variable (s : List V) (d : Nat)
theorem sem_mv (x : Opd) : sem s d (.mv x) = .ret (evalO s x) := rfl
def pickV (c a b : V) : M V := match c with
 | .t (.v (.bool t)) => .ret (if t then a else b)
 | _ => .fail
theorem sem_pick (c a b : Opd) : sem s d (.pick c a b) = pickV (evalO s c) (evalO s a) (evalO s b) := rfl
theorem pick_tt (a b : V) : pickV (.t (.v (.bool true))) a b = .ret a := rfl
theorem pick_ff (a b : V) : pickV (.t (.v (.bool false))) a b = .ret b := rfl
theorem sem_alloc (z : List T) : sem s d (.alloc z) = .new [.mem [z] 0 false] (.ret (.ptr (d, 0) [] 0 0 1 0)) := rfl
theorem sem_box (x : Opd) : sem s d (.box x) = takes (cellsOf (evalO s x)) fun ts => if ts.isEmpty then .fail else .new [.mem [ts] 0 false] (.ret (.ptr (d, 0) [] 0 0 1 0)) := rfl
def boxV (d : Nat) : V → M V
 | .agg cs => if cs.isEmpty || !cs.all V.one then .fail else .new [.mem [List.replicate cs.length .hole] 0 false] (.ret (.vb (d, 0) 0 0 cs))
 | _ => .fail
theorem sem_vbox (x : Opd) : sem s d (.vbox x) = boxV d (evalO s x) := by
 simp only [sem]; generalize evalO s x = v; cases v <;> rfl
def vstE (id : Id) (n : Nat) (cs : List V) : Ent → M V
 | .mem [row] stt fx => if row.length = n then .set id (.mem [List.replicate n .hole] (stt + 1) fx) (.ret (.vb id 0 (stt + 1) cs)) else .fail
 | _ => .fail
def vstV (n : Nat) (x y : V) : M V := match boxId x, y with
 | some id, .agg cs => if cs.length = n ∧ cs.all V.one = true then .get id (vstE id n cs) else .fail
 | _, _ => .fail
theorem sem_vst (n : Nat) (x y : Opd) : sem s d (.vst n x y) = vstV n (evalO s x) (evalO s y) := by
 simp only [sem]
 generalize evalO s x = v
 generalize evalO s y = u
 simp only [vstV]
 generalize boxId v = q
 cases q with
 | none => rfl
 | some id =>
  cases u <;> try rfl
def zV : T → V
 | .sl true [] => .nil
 | c => .t c
theorem sem_build (z : List T) (parts : List (Nat × Nat × Opd)) : sem s d (.build z parts) = oneM (bld s (z.map zV) parts) fun cs => .ret (.agg cs) := by
 have e : sem s d (.build z parts) = match bld s (z.map zV) parts with | some cs => .ret (.agg cs) | none => .fail := rfl
 rw [e]
 cases bld s (z.map zV) parts <;> rfl
def bslK (d sz : Nat) (rs : Rows) : M V := if rs.all fun r => r.length == sz then .new [.mem rs 0 false] (.ret (.ref (d, 0) rs.length)) else .fail
theorem sem_bsl (sz : Nat) (parts : List Opd) : sem s d (.bsl sz parts) = takeRows (parts.map fun q => cellsOf (evalO s q)) (bslK d sz) := rfl
def oneV (ag : Bool) (vs : List V) : M V := if ag then .ret (.agg vs) else match vs with | [v] => .ret v | _ => .fail
theorem oneV_ag (vs : List V) : oneV true vs = .ret (.agg vs) := rfl
theorem oneV_one (v : V) : oneV false [v] = .ret v := rfl
def ldE (n : Nat) (ag : Bool) (id : Id) (p : Path) (i off m st : Nat) : Ent → M V
 | .mem rows stt _ => oneM (ptrRow rows stt p i m st) fun row => if off + n ≤ row.length then oneV ag (cellsV id p i off stt ((row.drop off).take n)) else .fail
 | .dead => .fail
def ldX (n : Nat) (ag : Bool) (off st : Nat) (cs : List V) : Ent → M V
 | .mem rows stt _ => if (st = stt ∧ rows.length = 1) ∧ off + n ≤ cs.length then oneV ag ((cs.drop off).take n) else .fail
 | .dead => .fail
def ldV (n : Nat) (ag : Bool) : V → M V
 | .ptr id p i off m st => .get id (ldE n ag id p i off m st)
 | .vb id off st cs => .get id (ldX n ag off st cs)
 | .pp cs => if n ≤ cs.length then oneV ag ((cs.take n).map V.t) else .fail
 | _ => .fail
theorem sem_ld (n : Nat) (ag : Bool) (x : Opd) : sem s d (.ld n ag x) = ldV n ag (evalO s x) := by
 simp only [sem]
 generalize evalO s x = v
 cases v <;> try rfl
 ·simp only [ldV]
  congr 1
  funext e
  cases e <;> try rfl
  simp only [ldE]
  generalize ptrRow _ _ _ _ _ _ = o
  cases o <;> rfl
 ·simp only [ldV]
  congr 1
  funext e
  cases e <;> rfl
def stE (id : Id) (p : Path) (i off m st n : Nat) (ts : List T) : Ent → M V
 | .mem rows stt fx => oneM (ptrRow rows stt p i m st) fun row => if ts.length = n ∧ off + n ≤ row.length then .set id (.mem (setCs rows p i off ts) (stt + 1) fx) (.ret .dead) else .fail
 | .dead => .fail
def stV (n : Nat) (x y : V) : M V := match x with
 | .ptr id p i off m st => takes (cellsOf y) fun ts => .get id (stE id p i off m st n ts)
 | _ => .fail
theorem stV_ptr (n : Nat) (id : Id) (p : Path) (i off m st : Nat) (y : V) : stV n (.ptr id p i off m st) y = takes (cellsOf y) fun ts => .get id (stE id p i off m st n ts) := rfl
theorem sem_st (n : Nat) (x y : Opd) : sem s d (.st n x y) = stV n (evalO s x) (evalO s y) := by
 simp only [sem]
 generalize evalO s x = v
 cases v <;> try rfl
 simp only [stV]
 congr 1
 funext ts
 congr 1
 funext e
 cases e <;> try rfl
 simp only [stE]
 generalize ptrRow _ _ _ _ _ _ = o
 cases o <;> rfl
def nilcV : V → M V
 | .ptr a b c d e f => .ret (.ptr a b c d e f)
 | .vb a b c d => .ret (.vb a b c d)
 | .pp cs => .ret (.pp cs)
 | .fn f caps => .ret (.fn f caps)
 | _ => .fail
theorem sem_nilc (x : Opd) : sem s d (.nilc x) = nilcV (evalO s x) := by
 simp only [sem]; generalize evalO s x = v; cases v <;> rfl
def binM (op : BinOp) (x y : V) : M V := match x, y with
 | .t (.v a), .t (.v b) => oneM (binV op a b) fun r => .ret (.t (.v r))
 | _, _ => .fail
theorem binM_t (op : BinOp) (a b : Value) : binM op (.t (.v a)) (.t (.v b)) = oneM (binV op a b) fun r => .ret (.t (.v r)) := rfl
theorem sem_bin (op : BinOp) (x y : Opd) : sem s d (.bin op x y) = binM op (evalO s x) (evalO s y) := by
 simp only [sem]
 generalize evalO s x = a
 generalize evalO s y = b
 cases a <;> try rfl
 rename_i a; cases a <;> try rfl
 cases b <;> try rfl
 rename_i b; cases b <;> try rfl
 rename_i a b
 simp only [binM]
 cases binV op a b <;> rfl
def eqsV (ne : Bool) (ks : List FK) (x y : V) : M V := match x, y with
 | .agg as, .agg bs => oneM (eqVs ks as bs) fun r => .ret (.t (.v (.bool (if ne then !r else r))))
 | _, _ => .fail
theorem eqsV_agg (ne : Bool) (ks : List FK) (as bs : List V) : eqsV ne ks (.agg as) (.agg bs) = oneM (eqVs ks as bs) fun r => .ret (.t (.v (.bool (if ne then !r else r)))) := rfl
theorem sem_eqs (ne : Bool) (ks : List FK) (x y : Opd) : sem s d (.eqs ne ks x y) = eqsV ne ks (evalO s x) (evalO s y) := by
 simp only [sem]
 generalize evalO s x = a
 generalize evalO s y = b
 cases a <;> try rfl
 cases b <;> try rfl
 rename_i a b
 simp only [eqsV]
 cases eqVs ks a b <;> rfl
def beqV (ne : Bool) (x y : V) : M V := match x, y with
 | .t (.v (.bool a)), .t (.v (.bool b)) => .ret (.t (.v (.bool (if ne then neB a b else eqB a b))))
 | _, _ => .fail
theorem beqV_f (a b : Bool) : beqV false (.t (.v (.bool a))) (.t (.v (.bool b))) = .ret (.t (.v (.bool (eqB a b)))) := rfl
theorem beqV_t (a b : Bool) : beqV true (.t (.v (.bool a))) (.t (.v (.bool b))) = .ret (.t (.v (.bool (neB a b)))) := rfl
theorem sem_beq (ne : Bool) (x y : Opd) : sem s d (.beq ne x y) = beqV ne (evalO s x) (evalO s y) := rfl
def eqnV (ne : Bool) : V → M V
 | .nil => .ret (.t (.v (.bool (!ne))))
 | .t (.v (.slice q _ _)) => .ret (.t (.v (.bool (if ne then !q.isNone else q.isNone))))
 | .t (.sl _ (_ :: _)) => .ret (.t (.v (.bool ne)))
 | _ => .fail
theorem eqnV_nil (ne : Bool) : eqnV ne .nil = .ret (.t (.v (.bool (!ne)))) := rfl
theorem eqnV_v (ne : Bool) (q : Option Addr) (n c : Nat) : eqnV ne (.t (.v (.slice q n c))) = .ret (.t (.v (.bool (if ne then !q.isNone else q.isNone)))) := rfl
theorem eqnV_c (ne o : Bool) (r : List T) (rs : Rows) : eqnV ne (.t (.sl o (r :: rs))) = .ret (.t (.v (.bool ne))) := rfl
theorem sem_eqn (ne : Bool) (x : Opd) : sem s d (.eqn ne x) = eqnV ne (evalO s x) := by
 simp only [sem]
 generalize evalO s x = v
 cases v <;> try rfl
def unV (op : UnOp) (x : V) : M V := match op, x with
 | .not, .t (.v (.bool b)) => .ret (.t (.v (.bool (!b))))
 | .neg, .t (.v (.int k n)) => .ret (.t (.v (.int k (k.wrap (0 - n)))))
 | _, _ => .fail
theorem unV_not (b : Bool) : unV .not (.t (.v (.bool b))) = .ret (.t (.v (.bool (!b)))) := rfl
theorem unV_neg (n : Int) : unV .neg (.t (.v (.int .i64 n))) = .ret (.t (.v (.int .i64 (negI n)))) := rfl
def eqiV (ne : Bool) : V → M V
 | .t (.v .nilIface) => .ret (.t (.v (.bool (!ne))))
 | _ => .fail
theorem eqiV_nil (ne : Bool) : eqiV ne (.t (.v .nilIface)) = .ret (.t (.v (.bool (!ne)))) := rfl
theorem sem_eqi (ne : Bool) (x : Opd) : sem s d (.eqi ne x) = eqiV ne (evalO s x) := rfl
theorem sem_un (op : UnOp) (x : Opd) : sem s d (.un op x) = unV op (evalO s x) := rfl
def cvV (c : Cv) (x : V) : M V := match c with
 | .str => (match x with
  | .sub .. => .fail
  | x => rowsOf x fun rows => oneM (bytesOf rows) fun l => .ret (.t (.v (.string ⟨l.toArray⟩))))
 | c => oneM (convV c x) .ret
theorem cv_int (k k' : IntKind) (n : Int) : cvV (.int k') (.t (.v (.int k n))) = .ret (.t (.v (.int k' (wr k' n)))) := rfl
theorem cv_rune (k : IntKind) (n : Int) : cvV .rune (.t (.v (.int k n))) = .ret (.t (.v (.string (runeS n)))) := rfl
def bytesL (s : ByteArray) : List Int := s.data.toList.map fun b => (b.toNat : Int)
def bytesK (s : ByteArray) : Option (List Int) := if s.size ≤ maxLen then some (bytesL s) else none
theorem cv_bytes (x : ByteArray) : cvV .bytes (.t (.v (.string x))) = oneM (bytesK x) fun l => .ret (.t (.sl false (l.map (rK .u8)))) := by
 simp only [cvV, convV, bytesK]
 split
 ·simp only [oneM, byteRows, bytesL, List.map_map]; rfl
 ·rfl
theorem cv_same (x : ByteArray) : cvV .same (.t (.v (.string x))) = .ret (.t (.v (.string x))) := rfl
def strK (rows : Rows) : M V := oneM (bytesOf rows) fun l => .ret (.t (.v (.string ⟨l.toArray⟩)))
theorem strK_eq (rows : Rows) : strK rows = oneM (bytesOf rows) fun l => .ret (.t (.v (.string ⟨l.toArray⟩))) := rfl
theorem cv_str_t (o : Bool) (rows : Rows) : cvV .str (.t (.sl o rows)) = strK rows := rfl
theorem cv_str_nil : cvV .str .nil = strK [] := rfl
theorem cv_str_ref (id : Id) (n : Nat) : cvV .str (.ref id n) = rowsOf (.ref id n) strK := rfl
theorem sem_conv (c : Cv) (x : Opd) : sem s d (.conv c x) = cvV c (evalO s x) := by
 cases c <;> simp only [sem, cvV]
 case str =>
  generalize evalO s x = v
  cases v <;> try rfl
  ·rename_i c; cases c <;> try rfl
   simp only [rowsOf]
   cases bytesOf _ <;> rfl
  ·show rowsOf _ _ = rowsOf _ _
   congr 1; funext rows; cases bytesOf rows <;> rfl
 all_goals (cases convV _ (evalO s x) <;> rfl)
def mksV (d : Nat) (z : List T) (byt : Nat) : V → M V
 | .t (.v (.int _ n)) => oneM (mkN n byt) fun m => .new [.mem (List.replicate m z) 0 false] (.ret (.ref (d, 0) m))
 | _ => .fail
theorem sem_mks (z : List T) (byt : Nat) (x : Opd) : sem s d (.mks z byt x) = mksV d z byt (evalO s x) := by
 simp only [sem]
 generalize evalO s x = v
 cases v <;> try rfl
 rename_i c; cases c <;> try rfl
 rename_i x; cases x <;> try rfl
 simp only [mksV, mkN]
 split <;> rfl
def iaK (sz : Nat) (id : Id) (p : Path) (n m st : Nat) (row : List T) : M V := if row.length = sz then .ret (.ptr id p n 0 m st) else .fail
def iaS (sz : Nat) (id : Id) (p : Path) (n : Int) (m st : Nat) (rows : Rows) : M V := if rows.length = m then oneM (getI rows n) (iaK sz id p n.toNat m st) else .fail
def iaE (sz : Nat) (id : Id) (m : Nat) (n : Int) : Ent → M V
 | .mem rows _ _ => iaS sz id [] n m 0 rows
 | .dead => .fail
def iaC (sz : Nat) (id : Id) (p : Path) (j c : Nat) (n : Int) (m st : Nat) : Ent → M V
 | .mem rows stt _ => if st = stt then oneM (getC rows p j c) fun
   | .sl true rs => iaS sz id (p ++ [(j, c)]) n m st rs
   | _ => .fail
  else .fail
 | .dead => .fail
def iaP (sz : Nat) (row : List T) : M V := if row.length = sz then .ret (.pp row) else .fail
def iaV (sz : Nat) (x i : V) : M V := match i with
 | .t (.v (.int _ n)) => if 0 ≤ n then (match x with
  | .t (.sl _ rows) => oneM (getI rows n) (iaP sz)
  | .ref id m => .get id (iaE sz id m n)
  | .sub id p j c m st => .get id (iaC sz id p j c n m st)
  | _ => .fail) else .fail
 | _ => .fail
theorem iaV_sh (sz : Nat) (o : Bool) (rows : Rows) (k : IntKind) (n : Int) : iaV sz (.t (.sl o rows)) (.t (.v (.int k n))) = if 0 ≤ n then oneM (getI rows n) (iaP sz) else .fail := rfl
theorem iaV_ref (sz : Nat) (id : Id) (m : Nat) (k : IntKind) (n : Int) : iaV sz (.ref id m) (.t (.v (.int k n))) = if 0 ≤ n then .get id (iaE sz id m n) else .fail := rfl
theorem iaV_sub (sz : Nat) (id : Id) (p : Path) (j c m st : Nat) (k : IntKind) (n : Int) : iaV sz (.sub id p j c m st) (.t (.v (.int k n))) = if 0 ≤ n then .get id (iaC sz id p j c n m st) else .fail := rfl
theorem getI_pos {α : Type} {l : List α} {n : Int} (h : 0 ≤ n) : getI l n = l[n.toNat]? := if_pos h
theorem iaK_eq (sz : Nat) (id : Id) (p : Path) (n m st : Nat) (o : Option (List T)) : (match o with | some row => if row.length = sz then M.ret (V.ptr id p n 0 m st) else .fail | none => .fail) = oneM o (iaK sz id p n m st) := by cases o <;> rfl
theorem sem_ia (sz : Nat) (x i : Opd) : sem s d (.ia sz x i) = iaV sz (evalO s x) (evalO s i) := by
 simp only [sem]
 generalize evalO s x = a
 generalize evalO s i = b
 cases b <;> try rfl
 rename_i b; cases b <;> try rfl
 rename_i b; cases b <;> try rfl
 rename_i k n
 simp only [iaV]
 split
 ·rename_i h0
  cases a <;> try rfl
  ·rename_i a; cases a <;> try rfl
   rename_i rows
   simp only [getI_pos h0, oneM]
   cases rows[n.toNat]? <;> rfl
  ·show M.get _ _ = M.get _ _
   congr 1
   funext e; cases e <;> try rfl
   simp only [iaE, iaS, getI_pos h0]
   rw [← iaK_eq]; rfl
  ·show M.get _ _ = M.get _ _
   congr 1
   funext e; cases e <;> try rfl
   simp only [iaC, iaS, getI_pos h0]
   split
   ·cases getC _ _ _ _ with
    | none => rfl
    | some t =>
     cases t <;> try rfl
     rename_i o rs
     cases o <;> try rfl
     simp only [oneM]
     split
     ·cases rs[n.toNat]? <;> rfl
     ·rfl
   ·rfl
 ·rfl
def faV (off : Nat) : V → M V
 | .ptr id p i o n st => .ret (.ptr id p i (o + off) n st)
 | .vb id o st cs => .ret (.vb id (o + off) st cs)
 | .pp cs => .ret (.pp (cs.drop off))
 | _ => .fail
theorem faV_ptr (off : Nat) (id : Id) (p : Path) (i o n st : Nat) : faV off (.ptr id p i o n st) = .ret (.ptr id p i (o + off) n st) := rfl
theorem faV_pp (off : Nat) (cs : List T) : faV off (.pp cs) = .ret (.pp (cs.drop off)) := rfl
theorem sem_fa (off : Nat) (x : Opd) : sem s d (.fa off x) = faV off (evalO s x) := by
 simp only [sem]; generalize evalO s x = v; cases v <;> rfl
def fldV (off n : Nat) (ag : Bool) : V → M V
 | .agg cs => if off + n ≤ cs.length then oneV ag ((cs.drop off).take n) else .fail
 | _ => .fail
theorem fldV_agg (off n : Nat) (ag : Bool) (cs : List V) : fldV off n ag (.agg cs) = if off + n ≤ cs.length then oneV ag ((cs.drop off).take n) else .fail := rfl
theorem sem_fld (off n : Nat) (ag : Bool) (x : Opd) : sem s d (.fld off n ag x) = fldV off n ag (evalO s x) := by
 simp only [sem]; generalize evalO s x = v; cases v <;> rfl
def ixV (x i : V) : M V := match x, i with
 | .t (.v (.string st)), .t (.v (.int _ n)) => oneM (atS st n) fun b => .ret (.t (.v (.int .u8 b)))
 | _, _ => .fail
theorem ixV_s (st : ByteArray) (k : IntKind) (n : Int) : ixV (.t (.v (.string st))) (.t (.v (.int k n))) = oneM (atS st n) fun b => .ret (.t (.v (.int .u8 b))) := rfl
theorem sem_ix (x i : Opd) : sem s d (.ix x i) = ixV (evalO s x) (evalO s i) := by
 simp only [sem]
 generalize evalO s x = a
 generalize evalO s i = b
 cases a <;> try rfl
 rename_i a; cases a <;> try rfl
 rename_i a; cases a <;> try rfl
 cases b <;> try rfl
 rename_i b; cases b <;> try rfl
 rename_i b; cases b <;> try rfl
 simp only [ixV, atS]
 split <;> rfl
def ixaV (sz len : Nat) (ag : Bool) (x i : V) : M V := match x, i with
 | .agg cs, .t (.v (.int _ n)) => if 0 ≤ n ∧ n < len ∧ cs.length = len * sz then oneV ag ((cs.drop (n.toNat * sz)).take sz) else .fail
 | _, _ => .fail
theorem ixaV_agg (sz len : Nat) (ag : Bool) (cs : List V) (k : IntKind) (n : Int) : ixaV sz len ag (.agg cs) (.t (.v (.int k n))) = if 0 ≤ n ∧ n < len ∧ cs.length = len * sz then oneV ag ((cs.drop (n.toNat * sz)).take sz) else .fail := rfl
theorem sem_ixa (sz len : Nat) (ag : Bool) (x i : Opd) : sem s d (.ixa sz len ag x i) = ixaV sz len ag (evalO s x) (evalO s i) := by
 simp only [sem]
 generalize evalO s x = a
 generalize evalO s i = b
 cases a <;> rfl
def bnd (o : Option V) (e : Int) : Option Int := match o with
 | none => some e
 | some (.t (.v (.int _ n))) => some n
 | _ => none
theorem bnd_none (e : Int) : bnd none e = some e := rfl
theorem bnd_some (e : Int) (k : IntKind) (n : Int) : bnd (some (.t (.v (.int k n)))) e = some n := rfl
def slcV (sz : Nat) (x : V) (lo hi : Option V) : M V := match x with
 | .t (.v (.string st)) => oneM (bnd lo 0) fun l => oneM (bnd hi (lenS st)) fun h => if sz = 0 then oneM (subS st l h) fun z => .ret (.t (.v (.string z))) else .fail
 | .t (.sl _ rows) => oneM (bnd lo 0) fun l => oneM (bnd hi (lenL rows)) fun h => if 0 < sz ∧ (rows.all fun r => r.length == sz) then oneM (slL rows l h) fun z => .ret (.t (.sl false z)) else .fail
 | _ => .fail
theorem slcV_s (sz : Nat) (st : ByteArray) (lo hi : Option V) : slcV sz (.t (.v (.string st))) lo hi = oneM (bnd lo 0) fun l => oneM (bnd hi (lenS st)) fun h => if sz = 0 then oneM (subS st l h) fun z => .ret (.t (.v (.string z))) else .fail := rfl
theorem slcV_l (sz : Nat) (o : Bool) (rows : Rows) (lo hi : Option V) : slcV sz (.t (.sl o rows)) lo hi = oneM (bnd lo 0) fun l => oneM (bnd hi (lenL rows)) fun h => if 0 < sz ∧ (rows.all fun r => r.length == sz) then oneM (slL rows l h) fun z => .ret (.t (.sl false z)) else .fail := rfl
def slcB (sz : Nat) (x : V) (l h : Option Int → Option Int) : M V := match x with
 | .t (.v (.string st)) => (match l (some 0), h (some st.size) with
   | some l, some h => if (0 ≤ l ∧ l ≤ h ∧ h ≤ st.size) ∧ sz = 0 then .ret (.t (.v (.string (st.extract l.toNat h.toNat)))) else .fail
   | _, _ => .fail)
 | .t (.sl _ rows) => (match l (some 0), h (some rows.length) with
   | some l, some h => if (0 ≤ l ∧ l ≤ h ∧ h ≤ rows.length) ∧ 0 < sz ∧ (rows.all fun r => r.length == sz) then .ret (.t (.sl false ((rows.drop l.toNat).take (h.toNat - l.toNat)))) else .fail
   | _, _ => .fail)
 | _ => .fail
def bnE (s : List V) (o : Option Opd) (e : Option Int) : Option Int := match o with
 | none => e
 | some q => match evalO s q with | .t (.v (.int _ n)) => some n | _ => none
theorem sem_slc0 (sz : Nat) (x : Opd) (lo hi : Option Opd) : sem s d (.slc sz x lo hi) = slcB sz (evalO s x) (bnE s lo) (bnE s hi) := by
 simp only [sem, slcB]
 cases lo <;> cases hi <;> rfl
theorem bnE_eq (o : Option Opd) (e : Int) : bnE s o (some e) = bnd (o.map (evalO s)) e := by
 cases o with
 | none => rfl
 | some q =>
  simp only [Option.map_some, bnE]
  generalize evalO s q = v
  cases v <;> try rfl
  rename_i v; cases v <;> try rfl
  rename_i v; cases v <;> rfl
theorem ite_slc {A C : Prop} [Decidable A] [Decidable C] {α : Type} (k : α → M V) (x : α) : (if A ∧ C then k x else M.fail) = if C then oneM (if A then some x else none) k else M.fail := by
 by_cases A <;> by_cases C <;> simp_all [oneM]
theorem sem_slc (sz : Nat) (x : Opd) (lo hi : Option Opd) : sem s d (.slc sz x lo hi) = slcV sz (evalO s x) (lo.map (evalO s)) (hi.map (evalO s)) := by
 rw [sem_slc0]
 generalize evalO s x = a
 cases a <;> try rfl
 rename_i a; cases a <;> try rfl
 ·rename_i a; cases a <;> try rfl
  rename_i st
  simp only [slcV, slcB, lenS, bnE_eq]
  generalize bnd (lo.map (evalO s)) 0 = l
  generalize bnd (hi.map (evalO s)) (st.size : Int) = h
  cases l <;> cases h <;> try rfl
  exact ite_slc (fun z => .ret (.t (.v (.string z)))) _
 ·rename_i o rows
  simp only [slcV, slcB, lenL, bnE_eq]
  generalize bnd (lo.map (evalO s)) 0 = l
  generalize bnd (hi.map (evalO s)) (rows.length : Int) = h
  cases l <;> cases h <;> try rfl
  exact ite_slc (fun z => .ret (.t (.sl false z))) _
theorem sem_call (f : FuncId) (md : List Md) (own : List Bool) (args : List Opd) : sem s d (.call f md own args) = doCall d f md own (args.map (evalO s)) := rfl
def cvv (d : Nat) (md : List Md) (own : List Bool) (args : List V) : V → M V
 | .fn f caps => doCall d f (md ++ (caps.map fun _ => Md.ref)) own (args ++ caps)
 | _ => .fail
theorem sem_callv (x : Opd) (md : List Md) (own : List Bool) (args : List Opd) : sem s d (.callv x md own args) = cvv d md own (args.map (evalO s)) (evalO s x) := by
 simp only [sem]; generalize evalO s x = v; cases v <;> rfl
def appE (id : Id) (n sz byt : Nat) (new : Rows) : Ent → M V
 | .mem rows st _ => if rows.length = n ∧ (rows.all fun r => r.length == sz) then oneM (room (n + new.length) byt) fun _ => .set id (.mem (rows ++ new) st false) (.ret (.ref id (n + new.length))) else .fail
 | .dead => .fail
def appC (d sz byt : Nat) (new : Rows) : T → M V
 | .sl true rows => if (rows.all fun r => r.length == sz) then oneM (room (rows.length + new.length) byt) fun _ => .new [.mem (rows ++ new) 0 false] (.ret (.ref (d, 0) (rows.length + new.length))) else .fail
 | _ => .fail
def appA (d sz byt : Nat) (new : Rows) : V → M V
 | .nil => oneM (room new.length byt) fun _ => .new [.mem new 0 false] (.ret (.ref (d, 0) new.length))
 | .ref id n => .get id (appE id n sz byt new)
 | .sub id p i c n st => take (.sub id p i c n st) (appC d sz byt new)
 | _ => .fail
def appK (d sz byt : Nat) (a : V) (new : Rows) : M V := if (new.all fun r => r.length == sz) then appA d sz byt new a else .fail
theorem appA_nil (d sz byt : Nat) (new : Rows) : appA d sz byt new .nil = oneM (room new.length byt) fun _ => .new [.mem new 0 false] (.ret (.ref (d, 0) new.length)) := rfl
theorem appA_ref (d sz byt : Nat) (new : Rows) (id : Id) (n : Nat) : appA d sz byt new (.ref id n) = .get id (appE id n sz byt new) := rfl
theorem appA_sub (d sz byt : Nat) (new : Rows) (id : Id) (p : Path) (i c n st : Nat) : appA d sz byt new (.sub id p i c n st) = take (.sub id p i c n st) (appC d sz byt new) := rfl
theorem appE_mem (id : Id) (n sz byt : Nat) (new rows : Rows) (st : Nat) (fx : Bool) : appE id n sz byt new (.mem rows st fx) = if rows.length = n ∧ (rows.all fun r => r.length == sz) then oneM (room (n + new.length) byt) fun _ => .set id (.mem (rows ++ new) st false) (.ret (.ref id (n + new.length))) else .fail := rfl
theorem appC_sl (d sz byt : Nat) (new rows : Rows) : appC d sz byt new (.sl true rows) = if (rows.all fun r => r.length == sz) then oneM (room (rows.length + new.length) byt) fun _ => .new [.mem (rows ++ new) 0 false] (.ret (.ref (d, 0) (rows.length + new.length))) else .fail := rfl
theorem ite_room {A B C D : Prop} [Decidable A] [Decidable B] [Decidable C] [Decidable D] (X : M V) : (if A ∧ B ∧ C ∧ D then X else M.fail) = if A ∧ D then oneM (if B ∧ C then some () else none) (fun _ => X) else M.fail := by
 by_cases A <;> by_cases B <;> by_cases C <;> by_cases D <;> simp_all [oneM]
theorem ite_room' {B C D : Prop} [Decidable B] [Decidable C] [Decidable D] (X : M V) : (if B ∧ C ∧ D then X else M.fail) = if D then oneM (if B ∧ C then some () else none) (fun _ => X) else M.fail := by
 by_cases B <;> by_cases C <;> by_cases D <;> simp_all [oneM]
theorem sem_app (sz byt : Nat) (a x : Opd) : sem s d (.app sz byt a x) = takeSl (evalO s x) (appK d sz byt (evalO s a)) := by
 simp only [sem]
 congr 1
 funext new
 simp only [appK]
 split
 ·generalize evalO s a = v
  cases v <;> try rfl
  ·simp only [appA, room]; split <;> rfl
  ·show M.get _ _ = M.get _ _
   congr 1
   funext e; cases e <;> try rfl
   exact ite_room _
  ·simp only [appA]
   congr 1
   funext e; cases e <;> try rfl
   rename_i o rows
   cases o <;> try rfl
   exact ite_room' _
 ·rfl
def lenV (str : Bool) (x : V) : M V := match str, x with
 | true, .t (.v (.string st)) => .ret (.t (.v (.int .i64 (lenS st))))
 | false, .t (.sl _ rows) => .ret (.t (.v (.int .i64 (lenL rows))))
 | false, .nil => .ret (.t (.v (.int .i64 0)))
 | false, .ref _ n => .ret (.t (.v (.int .i64 n)))
 | false, .sub _ _ _ _ n _ => .ret (.t (.v (.int .i64 n)))
 | _, _ => .fail
theorem lenV_s (st : ByteArray) : lenV true (.t (.v (.string st))) = .ret (.t (.v (.int .i64 (lenS st)))) := rfl
theorem lenV_l (o : Bool) (rows : Rows) : lenV false (.t (.sl o rows)) = .ret (.t (.v (.int .i64 (lenL rows)))) := rfl
theorem lenV_nil : lenV false .nil = .ret (.t (.v (.int .i64 0))) := rfl
theorem lenV_ref (id : Id) (n : Nat) : lenV false (.ref id n) = .ret (.t (.v (.int .i64 n))) := rfl
theorem lenV_sub (id : Id) (p : Path) (i c n st : Nat) : lenV false (.sub id p i c n st) = .ret (.t (.v (.int .i64 n))) := rfl
theorem sem_len (str : Bool) (x : Opd) : sem s d (.len str x) = lenV str (evalO s x) := by
 simp only [sem]
 generalize evalO s x = v
 cases str <;> cases v <;> try rfl
def mmV (mx : Bool) (x y : V) : M V := match x, y with
 | .t (.v (.int k a)), .t (.v (.int _ b)) => .ret (.t (.v (.int k (if mx then maxI a b else minI a b))))
 | _, _ => .fail
theorem mmV_t (k k' : IntKind) (a b : Int) : mmV true (.t (.v (.int k a))) (.t (.v (.int k' b))) = .ret (.t (.v (.int k (maxI a b)))) := rfl
theorem mmV_f (k k' : IntKind) (a b : Int) : mmV false (.t (.v (.int k a))) (.t (.v (.int k' b))) = .ret (.t (.v (.int k (minI a b)))) := rfl
theorem sem_mm (mx : Bool) (x y : Opd) : sem s d (.mm mx x y) = mmV mx (evalO s x) (evalO s y) := rfl
def extV (i : Nat) : V → M V
 | .tup vs => oneM vs[i]? .ret
 | _ => .fail
theorem extV_tup (i : Nat) (vs : List V) : extV i (.tup vs) = oneM vs[i]? .ret := rfl
theorem sem_ext (x : Opd) (i : Nat) : sem s d (.ext x i) = extV i (evalO s x) := by
 simp only [sem]; generalize evalO s x = v; cases v <;> try rfl
 rename_i vs
 simp only [extV]
 cases vs[i]? <;> rfl
theorem sem_mkf (f : FuncId) (caps : List Opd) : sem s d (.mkf f caps) = .ret (.fn f (caps.map (evalO s))) := rfl
end
end TT
