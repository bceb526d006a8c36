import Derived.Test.YtaeegkjcjlnanaaGreatDoorTD19
import Derived.Lib.ConvBytes
set_option linter.unusedVariables false
set_option linter.unusedSimpArgs false
namespace TT
open Go
def xS (P : Program) (t t' : TypeId) (k : IntKind) : Bool := (P.underlying t).isSome && (match P.underlying t' with | some (.int k') => k == k' | _ => false)
def xT (P : Program) (t : TypeId) : Bool := match P.underlying t with | some .bool => true | _ => false
def bx (P : Program) (t : TypeId) : Bool := match P.underlying t with | some .string => true | _ => false
def ifB (P : Program) (t : TypeId) : Bool := match P.underlying t with | some (.interface _) => true | _ => false
def slB (P : Program) (t : TypeId) : Bool := match P.underlying t with | some (.slice _) => true | _ => false
def uQ (P : Program) (t : TypeId) : Bool := match P.underlying t with
 | some (.slice e) => (match P.underlying e with | some (.int .u8) => (match P.info? e with | some i => i.size == 1 | none => false) | _ => false)
 | _ => false
def qP (P : Program) (t : TypeId) (sz : Nat) : Bool := match P.underlying t with
 | some .string => sz == 0
 | some (.slice e) => sz != 0 && (match P.info? e with | some i => i.size == sz | none => false)
 | _ => false
def dz : Option Cd → Option Operand → Bool
 | none, none => true
 | some x, some y => Gy x y
 | _, _ => false
def K3 (P : Program) : O → Callee → List Operand → List TypeId → Bool
 | .len true x, .builtin .len, [y], [t] => bx P t && Gy x y
 | .len false x, .builtin .len, [y], [t] => slB P t && Gy x y
 | .mm true x y, .builtin .max, [x', y'], _ => Gy x x' && Gy y y'
 | .mm false x y, .builtin .min, [x', y'], _ => Gy x x' && Gy y y'
 | .app sz byt s x, .builtin .append, [s', x'], [t, t'] => t == t' && qJ P t sz byt && Gy s s' && Gy x x'
 | .call f _ _ as, .value (.func g), as', _ => f == g && ZE as as'
 | .callv x _ _ as, .value y, as', _ => Gy x y && ZE as as'
 | _, _, _, _ => false
def CC (P : Program) : O → Op → Bool
 | .mv x, .move y => Gy x y
 | .mv x, .assign y => Gy x y
 | .pick c a b, .pick c' a' b' => Gy c c' && Gy a a' && Gy b b'
 | .alloc z, .alloc t => ZI P t z
 | .box x, .box _ y => Gy x y
 | .vbox x, .box _ y => Gy x y
 | .bsl sz ps, .buildSlice t n qs => kp P t n sz && Um ps qs.toList n
 | .bslz sz ps, .buildSlice t n qs => kp P t n sz && Um ps qs.toList n
 | .ld n ag x, .load t y => ldB P t n ag && decide (0 < n) && Gy x y
 | .st n x y, .store t x' y' => stB P t n && Gy x x' && Gy y y'
 | .nilc x, .nilCheck y => Gy x y
 | .bin op x y, .binOp op' _ x' y' _ => op == op' && Gy x x' && Gy y y'
 | .beq ne x y, .binOp op t x' y' _ => (if ne then op == .neq else op == .eql) && xT P t && Gy x x' && Gy y y'
 | .eqn ne x, .binOp op t x' (.const (.slice none 0 0)) _ => (if ne then op == .neq else op == .eql) && slB P t && Gy x x'
 | .eqi ne x, .binOp op t x' (.const .nilIface) _ => (if ne then op == .neq else op == .eql) && ifB P t && Gy x x'
 | .eqs ne ks x y, .binOp op t x' y' _ => (if ne then op == .neq else op == .eql) && xr P t ks && Gy x x' && Gy y y'
 | .un op x, .unOp op' _ y => op == op' && Gy x y
 | .conv (.int k) x, .convert t t' y => xS P t t' k && Gy x y
 | .conv .rune x, .convert t t' y => (P.underlying t).isSome && bx P t' && Gy x y
 | .conv .same x, .convert t t' y => (P.underlying t).isSome && bx P t' && Gy x y
 | .conv .bytes x, .convert t t' y => (P.underlying t).isSome && uQ P t' && Gy x y
 | .conv .str x, .convert t t' y => uQ P t && bx P t' && Gy x y
 | .build z ps, .build t qs => ZI P t (z.map uO) && fH P t && ZO P t ps qs.toList
 | .slc sz x lo hi, .slice t y lo' hi' none => qP P t sz && Gy x y && dz lo lo' && dz hi hi'
 | .fld off n ag x, .field t y f => yB P t f off n ag && Gy x y
 | .ix x i, .index t x' i' => bx P t && Gy x x' && Gy i i'
 | .ixa sz len ag x i, .index t x' i' => yD P t sz len ag && decide (0 < sz) && Gy x x' && Gy i i'
 | .mks z byt (.s t0), .makeSlice t (.tmp t1) (.tmp t2) => xy P t z byt && t0 == t1 && t1 == t2
 | .fa off x, .fieldAddr t y f => faB P t f off && Gy x y
 | .fa off x, .indexAddr t y (.const (.int _ n)) => aaB P t n off && Gy x y
 | .ia sz x i, .indexAddr t x' i' => iaB P t sz && Gy x x' && Gy i i'
 | .ext x i, .extract y j => i == j && Gy x y
 | .mkf f caps, .makeFunc (.func g) first ys => f == g && first.isEmpty && ZE caps ys.toList
 | x, .call c => K3 P x c.callee c.args.toList c.argTypes.toList
 | _, _ => false
def agG (Ct : Array Oper) : Option (Nat × Bool) → Option (Nat × Bool) → Bool
 | none, none => true
 | some (t, w), some (j, w') => w == w' && (match (Ct[j]?).bind (·.dst) with | some t' => t == t' | none => false)
 | _, _ => false
def nO : O → Bool
 | .ext (.c (.bool _)) _ => true
 | _ => false
theorem qQ {x : O} (h : nO x = true) : ∃ v i, x = .ext (.c (.bool v)) i := by
 unfold nO at h
 split at h
 ·exact ⟨_, _, rfl⟩
 ·cases h
def fJ : O → O
 | .ldr x => .ld 1 false x
 | .appn _ sz byt s x => .app sz byt s x
 | x => x
theorem o7 {call : AN} {s : List V} {d : Nat} {x : O} {r : R} {out : V × R} (h : (Av s d x).run call d r = some out) : (Av s d (fJ x)).run call d r = some out := by
 cases x <;> try exact h
 case ldr x =>
  simp only [Av] at h
  simp only [fJ, Av]
  split at h
  ·rename_i id p i off m st he
   split at h
   ·rw [he]
    simp only [M.run] at h ⊢
    cases hg : AK r id with
    | dead => rw [hg] at h; simp [M.run] at h
    | mem rows stt fx =>
     rw [hg] at h
     simp only at h ⊢
     cases hr : Cq rows stt p i m st with
     | none => rw [hr] at h; simp [M.run] at h
     | some row =>
      rw [hr] at h
      simp only at h ⊢
      cases ht : row[off]? with
      | none => rw [ht] at h; simp [M.run] at h
      | some t =>
       rw [ht] at h
       simp only [M.run, Option.some.injEq] at h
       have hlt := (List.getElem?_eq_some_iff.1 ht).1
       rw [if_pos (by omega)]
       have e : (row.drop off).take 1 = [t] := by
        rw [List.drop_eq_getElem_cons hlt, List.take_succ_cons, List.take_zero]
        rw [(List.getElem?_eq_some_iff.1 ht).2]
       simp only [e, Jz, Bool.false_eq_true, if_false, M.run, h]
   ·simp [M.run] at h
  ·simp [M.run] at h
 case appn q sz byt a x =>
  simp only [Av] at h
  simp only [fJ, Av]
  split at h
  ·rename_i id p i c n st id2 n2 h1 h2
   split at h
   ·rw [h1, h2]; exact h
   ·simp [M.run] at h
  ·simp [M.run] at h
def agX (P : Program) (x : O) (o : Op) : Bool := nO x || CC P (fJ x) o
def agE (P : Program) (Ct : Array Oper) (e : IT) (o : Oper) : Bool := e.d == o.dst && agG Ct e.g o.guard && agX P e.o o.op
theorem NV {α : Type} {call : AN} {d : Nat} {rd wr : List Nat} : ∀ {m : M α} {r : R} {x : α × R}, m.runA call d rd wr r = some x → m.run call d r = some x
 | .ret v, r, x, h => h
 | .fail, r, x, h => by simp [M.runA] at h
 | .get id k, r, x, h => by
  simp only [M.runA] at h
  split at h
  ·simp only [M.run]; exact NV h
  ·cases h
 | .set id e m, r, x, h => by
  simp only [M.runA] at h
  split at h
  ·simp only [M.run]; exact NV h
  ·cases h
 | .new es m, r, x, h => by
  simp only [M.runA] at h
  split at h
  ·rename_i hc
   simp only [Bool.and_eq_true] at hc
   simp only [M.run]
   rw [if_pos (by simp only [Bool.and_eq_true]; exact hc.2)]
   exact NV h
  ·cases h
 | .call f args k, r, x, h => by
  simp only [M.runA] at h
  simp only [M.run]
  obtain ⟨res, h1, h2⟩ := Option.bind_eq_some_iff.1 h
  exact Option.bind_eq_some_iff.2 ⟨res, h1, NV h2⟩
theorem A0A {α : Type} {a : Array α} {x : α} (h : a.toList = [x]) : a = #[x] := Array.ext' (by simpa using h)
theorem yE {α : Type} {a : Array α} {x y : α} (h : a.toList = [x, y]) : a = #[x, y] := Array.ext' (by simpa using h)
section
variable {P : Program} {c : Qm} {w w' : World} {B B' B2 : Nat → Prop} {ρ ρ' : Id → Et} {Sf : Id → Nat → Prop} {X : Nat → Prop} {r r' r0 : R} {a : Act} {o : Oper} {id0 : Id}
def Gz (P : Program) (c : Qm) (o : Oper) (a : Act) (w : World) (B : Nat → Prop) (ρ : Id → Et) (r : R) (x : V × R) : Prop :=
 let after : Value → World → Prop := fun u w' => ∃ B' ρ' Sf', Cf c w' B' ρ' Sf' (fun _ => False) x.2 ∧ x.2.length = r.length ∧ (∀ v u, A5 w B ρ r v u → A5 w' B' ρ' x.2 v u) ∧ A5 w' B' ρ' x.2 x.1 u
 (∃ u w', Mi P o a w u w' ∧ after u w') ∨ (∃ w', Uo P o a w w' ∧ after undef w') ∨
 (∃ f us, (execOp a.eval o).run P w = .ok (.enter f us) w ∧ Calls P f us w fun | .returned v, w' => after v w' | _, _ => False)
theorem AH (hI : Cf c w B ρ Sf (fun _ => False) r) {v : V} {u : Value} (hy : Mi P o a w u w) (hv : A5 w B ρ r v u) : Gz P c o a w B ρ r (v, r) :=
 .inl ⟨u, w, hy, B, ρ, Sf, hI, rfl, fun _ _ h => h, hv⟩
theorem ZP {f : FuncId} {cs : Array Value} {as : Array Operand} {y : Operand} {ats : Array TypeId} (h : o.op = .call { callee := .value y, args := as, argTypes := ats }) (hy : a.eval y = .func (.func f) #[] cs) (hb : OB P f = true) :
  (execOp a.eval o).run P w = .ok (.enter f (as.map a.eval ++ cs)) w := by
 unfold OB at hb
 cases hf : P.funcs[f]? with
 | none => rw [hf] at hb; cases hb
 | some fn =>
  rw [hf] at hb
  simp only [Bool.and_eq_true, bne_iff_ne, ne_eq, Option.isSome_iff_exists] at hb
  obtain ⟨h1, body, h2⟩ := hb
  unfold execOp
  rw [h]
  simp [resolve, Deferred.ofValue, hy, invoke, callFunc, hf, h1, h2]
theorem ky {sz byt : Nat} {s x : Cd} {ce : Callee} {as : List Operand} {ts : List TypeId} (h : K3 P (.app sz byt s x) ce as ts = true) : ∃ s' x' t, ce = .builtin .append ∧ as = [s', x'] ∧ ts = [t, t] ∧ qJ P t sz byt = true ∧ Gy s s' = true ∧ Gy x x' = true := by
 unfold K3 at h
 split at h <;> first | (exact absurd h Bool.false_ne_true) | (rename_i e1; cases e1)
 ·simp only [Bool.and_eq_true, beq_iff_eq] at h
  obtain ⟨⟨⟨rfl, h1⟩, h2⟩, h3⟩ := h
  exact ⟨_, _, _, rfl, rfl, rfl, h1, h2, h3⟩
theorem j5 {f : FuncId} {md : List Md} {own : List Bool} {xs : List Cd} {ce : Callee} {as : List Operand} {ts : List TypeId} (h : K3 P (.call f md own xs) ce as ts = true) : ce = .value (.func f) ∧ ZE xs as = true := by
 unfold K3 at h
 split at h <;> first | (exact absurd h Bool.false_ne_true) | (rename_i e1; cases e1)
 ·simp only [Bool.and_eq_true, beq_iff_eq] at h
  obtain ⟨rfl, h2⟩ := h
  exact ⟨rfl, h2⟩
theorem fK {x : Cd} {md : List Md} {own : List Bool} {xs : List Cd} {ce : Callee} {as : List Operand} {ts : List TypeId} (h : K3 P (.callv x md own xs) ce as ts = true) : ∃ y, ce = .value y ∧ Gy x y = true ∧ ZE xs as = true := by
 unfold K3 at h
 split at h <;> first | (exact absurd h Bool.false_ne_true) | (rename_i e1; cases e1)
 ·simp only [Bool.and_eq_true] at h
  exact ⟨_, rfl, h.1, h.2⟩
theorem kz {str : Bool} {x : Cd} {ce : Callee} {as : List Operand} {ts : List TypeId} (h : K3 P (.len str x) ce as ts = true) : ∃ y t, ce = .builtin .len ∧ as = [y] ∧ ts = [t] ∧ (if str then bx P t else slB P t) = true ∧ Gy x y = true := by
 unfold K3 at h
 split at h <;> first | (exact absurd h Bool.false_ne_true) | (rename_i e1; cases e1)
 ·simp only [Bool.and_eq_true] at h
  exact ⟨_, _, rfl, rfl, rfl, h.1, h.2⟩
 ·simp only [Bool.and_eq_true] at h
  exact ⟨_, _, rfl, rfl, rfl, h.1, h.2⟩
theorem o8 {mx : Bool} {x y : Cd} {ce : Callee} {as : List Operand} {ts : List TypeId} (h : K3 P (.mm mx x y) ce as ts = true) : ∃ x' y', ce = .builtin (if mx then .max else .min) ∧ as = [x', y'] ∧ Gy x x' = true ∧ Gy y y' = true := by
 unfold K3 at h
 split at h <;> first | (exact absurd h Bool.false_ne_true) | (rename_i e1; cases e1)
 ·simp only [Bool.and_eq_true] at h
  exact ⟨_, _, rfl, rfl, h.1, h.2⟩
 ·simp only [Bool.and_eq_true] at h
  exact ⟨_, _, rfl, rfl, h.1, h.2⟩
theorem e9 {f : FuncId} {us : Array Value} {out : V × R} (h1 : (execOp a.eval o).run P w = .ok (.enter f us) w) (h2 : Calls P f us w (iw c w B ρ r out)) : Gz P c o a w B ρ r out := by
 refine .inr (.inr ⟨f, us, h1, Calls.mono h2 fun e w' hp => ?_⟩)
 cases e with
 | returned v =>
  obtain ⟨B', ρ', Sf', g1, g2, g3, g4⟩ := hp
  exact ⟨B', ρ', Sf', g1, g2, g3, g4⟩
 | panicked ch => exact hp
 | outgrown => exact hp
theorem l9 {call : AN} (hS : DZ c.G P call) {x : O} {cl : Call} (hop : o.op = .call cl) (hag : K3 P x cl.callee cl.args.toList cl.argTypes.toList = true) {s : List V} {d : Nat} {out : V × R} (hrun : (Av s d x).run call d r = some out) (hI : Cf c w B ρ Sf (fun _ => False) r) (hs : EE w B ρ r s a) :
  Gz P c o a w B ρ r out := by
 obtain ⟨ce, as, ats⟩ := cl
 simp only at hag
 cases x <;> try (simp only [K3] at hag; cases hag; done)
 case app sz byt sx x =>
  obtain ⟨s', x', t, rfl, e1, e2, h1, h2, h3⟩ := ky hag
  rw [yE e1, yE e2] at hop
  simp only [Av] at hrun
  obtain ⟨w', u, ρ', Sf', g1, g2, g3, g4, g5⟩ := y9 hI hop h1 (hs.eval h2) (hs.eval h3) hrun
  exact .inl ⟨u, w', g1, B, ρ', Sf', g2, g3, g4, g5⟩
 case call f md own xs =>
  obtain ⟨rfl, h1⟩ := j5 hag
  simp only [Av] at hrun
  obtain ⟨g1, g2⟩ := nM hS hI (hs.evals h1) hrun
  have he := ZP (P := P) (w := w) (a := a) (cs := #[]) hop rfl g1
  refine e9 he ?_
  have : (as.map a.eval ++ #[]) = (as.toList.map a.eval).toArray := by apply Array.ext'; simp
  rw [this]; exact g2
 case callv x md own xs =>
  obtain ⟨y, rfl, h1, h2⟩ := fK hag
  have hx := hs.eval h1
  simp only [Av] at hrun
  split at hrun
  ·rename_i f caps he
   rw [he] at hx
   simp only [A5] at hx
   obtain ⟨cs, e1, e2⟩ := hx
   obtain ⟨g1, g2⟩ := nM hS hI ((hs.evals h2).append e2) hrun
   have he := ZP (P := P) (w := w) (a := a) hop e1 g1
   refine e9 he ?_
   have : (as.map a.eval ++ cs) = (as.toList.map a.eval ++ cs.toList).toArray := by apply Array.ext'; simp
   rw [this]; exact g2
  ·simp [M.run] at hrun
 case len str x =>
  obtain ⟨y, t, rfl, e1, e2, h1, h2⟩ := kz hag
  rw [A0A e1, A0A e2] at hop
  have hx := hs.eval h2
  simp only [Av] at hrun
  have hsl : str = false → ∃ e, P.underlying t = some (.slice e) := fun e => by
   rw [e] at h1
   simp only [Bool.false_eq_true, if_false, slB] at h1
   split at h1
   ·rename_i e' he'; exact ⟨e', he'⟩
   ·cases h1
  split at hrun
  ·rename_i st he
   rw [he] at hx
   simp only [M.run, Option.some.injEq] at hrun
   subst hrun
   have ht : P.underlying t = some .string := by
    simp only [if_true, bx] at h1
    split at h1
    ·assumption
    ·cases h1
   exact AH hI (ig (ats := #[]) hop ht (CN hx).1) (H9 rfl)
  ·rename_i ow rows he
   rw [he] at hx
   simp only [M.run, Option.some.injEq] at hrun
   subst hrun
   obtain ⟨e', ht⟩ := hsl rfl
   simp only [A5] at hx
   cases ow with
   | true => have := hx.1; simp only [Dq] at this
   | false =>
    have := hx.1
    simp only [Dq] at this
    obtain ⟨q, cap, e3, _⟩ := this
    exact AH hI (Pw hop ht e3) (H9 rfl)
  ·rename_i he
   rw [he] at hx
   simp only [M.run, Option.some.injEq] at hrun
   subst hrun
   obtain ⟨e', ht⟩ := hsl rfl
   simp only [A5] at hx
   exact AH hI (Pw hop ht hx) (H9 rfl)
  ·rename_i id n he
   rw [he] at hx
   simp only [M.run, Option.some.injEq] at hrun
   subst hrun
   obtain ⟨e', ht⟩ := hsl rfl
   simp only [A5] at hx
   obtain ⟨_, ⟨q, cap, e3, _⟩, _⟩ := hx
   exact AH hI (Pw hop ht e3) (H9 rfl)
  ·rename_i he
   rw [he] at hx
   simp only [M.run, Option.some.injEq] at hrun
   subst hrun
   obtain ⟨e', ht⟩ := hsl rfl
   simp only [A5] at hx
   obtain ⟨_, ⟨q, cap, e3, _⟩, _⟩ := hx
   exact AH hI (Pw hop ht e3) (H9 rfl)
  ·simp [M.run] at hrun
 case mm mx x y =>
  obtain ⟨x', y', rfl, e1, h1, h2⟩ := o8 hag
  rw [yE e1] at hop
  have hx := hs.eval h1
  have hy := hs.eval h2
  simp only [Av] at hrun
  split at hrun
  ·rename_i k n k' m ha hb
   rw [ha] at hx
   rw [hb] at hy
   simp only [M.run, Option.some.injEq] at hrun
   subst hrun
   exact AH hI (xq hop (CN hx).1 (CN hy).1) (H9 rfl)
  ·simp [M.run] at hrun
theorem Uu (d : Nat) (t : TypeId) {ms} (h : P.underlying t = some (.interface ms)) : (Op.equalIn (d + 1) t .nilIface .nilIface).run P w = .ok true w := by
 simp [Op.equalIn, run_underlying h]
theorem uR {op : BinOp} {t ty : TypeId} {x : Operand} (h : o.op = .binOp op t x (.const .nilIface) ty) (ho : op = .eql ∨ op = .neq) {ms} (ht : P.underlying t = some (.interface ms)) (hx : a.eval x = .nilIface) : Mi P o a w (.bool (if op = .neq then false else true)) w := by
 have hc : a.eval (.const .nilIface) = .nilIface := rfl
 refine CK (s := do eqGuard op t x (.const .nilIface) .nilIface .nilIface; binOp op t .nilIface .nilIface) (by unfold execOp; rw [h]; simp only [hx, hc]) ?_
 have hg : (eqGuard op t x (.const .nilIface) .nilIface .nilIface).run P w = .ok () w := by
  rcases ho with rfl | rfl <;> simp [eqGuard]
 rw [Sem.run_bind, hg]
 simp only [Result.andThen_ok]
 rcases ho with rfl | rfl
 ·simp only [binOp]
  simp [Op.equal, Op.maxDepth, Uu 9999 t ht]
 ·simp only [binOp]
  simp [Op.equal, Op.maxDepth, Uu 9999 t ht]
theorem j7 {call : AN} (hS : DZ c.G P call) {x : O} {op' : BinOp} {t : TypeId} {x' y' : Operand} {ty : TypeId} (hop : o.op = .binOp op' t x' y' ty) (hag : CC P x (.binOp op' t x' y' ty) = true) {s : List V} {d : Nat} {out : V × R} (hrun : (Av s d x).run call d r = some out) (hI : Cf c w B ρ Sf (fun _ => False) r) (hs : EE w B ρ r s a) :
  Gz P c o a w B ρ r out := by
 cases x <;> first | (exact absurd hag Bool.false_ne_true) | (simp only [CC] at hag; cases hag; done) | skip
 case bin op x y =>
  simp only [CC, Bool.and_eq_true, beq_iff_eq] at hag
  obtain ⟨⟨rfl, h2⟩, h3⟩ := hag
  have hx := hs.eval h2
  have hy := hs.eval h3
  simp only [Av] at hrun
  split at hrun
  ·rename_i va vb ha hb
   rw [ha] at hx
   rw [hb] at hy
   split at hrun
   ·rename_i u hu
    simp only [M.run, Option.some.injEq] at hrun
    subst hrun
    rw [← (CN hx).1, ← (CN hy).1] at hu
    exact AH hI (uG hop hu) (H9 (nG (P := P) (w := w) (t := t) hu x' y').2)
   ·simp [M.run] at hrun
  ·simp [M.run] at hrun
 case beq ne x y =>
  simp only [CC, Bool.and_eq_true] at hag
  obtain ⟨⟨⟨h0, h1⟩, h2⟩, h3⟩ := hag
  have hx := hs.eval h2
  have hy := hs.eval h3
  have ht : P.underlying t = some .bool := by
   unfold xT at h1
   split at h1
   ·assumption
   ·cases h1
  have ho : op' = if ne then .neq else .eql := by cases ne <;> simpa using h0
  simp only [Av] at hrun
  split at hrun
  ·rename_i va vb ha hb
   rw [ha] at hx
   rw [hb] at hy
   simp only [M.run, Option.some.injEq] at hrun
   subst hrun
   have := uH (P := P) (w := w) (a := a) hop (by cases ne <;> simp [ho]) ht (CN hx).1 (CN hy).1
   refine AH hI this ?_
   have e : (if op' = .neq then !(va == vb) else va == vb) = (if ne then !(va == vb) else va == vb) := by cases ne <;> simp [ho]
   rw [e]
   exact H9 rfl
  ·simp [M.run] at hrun
 case eqi ne x =>
  cases y' with
  | const cv =>
   cases cv <;> try (simp only [CC] at hag; cases hag; done)
   simp only [CC, Bool.and_eq_true] at hag
   obtain ⟨⟨h0, h1⟩, h2⟩ := hag
   have hx := hs.eval h2
   have ho : op' = if ne then .neq else .eql := by cases ne <;> simpa using h0
   obtain ⟨ms, ht⟩ : ∃ ms, P.underlying t = some (.interface ms) := by
    unfold ifB at h1
    split at h1
    ·rename_i ms he; exact ⟨ms, he⟩
    ·cases h1
   simp only [Av] at hrun
   split at hrun
   ·rename_i he
    rw [he] at hx
    simp only [M.run, Option.some.injEq] at hrun
    subst hrun
    have := uR (P := P) (w := w) (a := a) hop (by cases ne <;> simp [ho]) ht (CN hx).1
    have e' : (if op' = .neq then false else true) = !ne := by cases ne <;> simp [ho]
    rw [e'] at this
    exact AH hI this (H9 rfl)
   ·simp [M.run] at hrun
  | _ => simp only [CC] at hag; cases hag
 case eqn ne x =>
  cases y' with
  | const cv =>
   cases cv <;> try (simp only [CC] at hag; cases hag; done)
   rename_i q0 n0 c0
   cases q0 with
   | some _ => simp only [CC] at hag; cases hag
   | none =>
   cases n0 with
   | succ _ => simp only [CC] at hag; cases hag
   | zero =>
   cases c0 with
   | succ _ => simp only [CC] at hag; cases hag
   | zero =>
   simp only [CC, Bool.and_eq_true] at hag
   obtain ⟨⟨h0, h1⟩, h2⟩ := hag
   have hx := hs.eval h2
   have ht : ∃ e, P.underlying t = some (.slice e) := by
    unfold slB at h1
    split at h1
    ·rename_i e he; exact ⟨e, he⟩
    ·cases h1
   obtain ⟨e, ht⟩ := ht
   have ho : op' = if ne then .neq else .eql := by cases ne <;> simpa using h0
   have fin : ∀ {q : Option Addr} {n cap : Nat} {b : Bool}, a.eval x' = .slice q n cap → b = (if ne then !q.isNone else q.isNone) → Gz P c o a w B ρ r (.t (.v (.bool b)), r) := by
    intro q n cap b hq hb
    have := uP (P := P) (w := w) (a := a) hop (by cases ne <;> simp [ho]) ht hq
    have e' : (if op' = .neq then !q.isNone else q.isNone) = b := by rw [hb]; cases ne <;> simp [ho]
    rw [e'] at this
    exact AH hI this (H9 rfl)
   simp only [Av] at hrun
   split at hrun
   ·rename_i he
    rw [he] at hx
    simp only [M.run, Option.some.injEq] at hrun
    subst hrun
    simp only [A5] at hx
    exact fin hx (by cases ne <;> rfl)
   ·rename_i q n cap he
    rw [he] at hx
    simp only [M.run, Option.some.injEq] at hrun
    subst hrun
    exact fin (CN hx).1 rfl
   ·rename_i ow row rows he
    rw [he] at hx
    simp only [M.run, Option.some.injEq] at hrun
    subst hrun
    simp only [A5] at hx
    cases ow with
    | true => have := hx.1; simp only [Dq] at this
    | false =>
     have hx1 := hx.1
     simp only [Dq] at hx1
     obtain ⟨q, cap, e1, _, _, e4⟩ := hx1
     rcases e4 with e4 | ⟨b, k, sz, rfl, _⟩
     ·cases e4
     ·exact fin e1 (by cases ne <;> rfl)
   ·simp [M.run] at hrun
  | _ => simp only [CC] at hag; cases hag
 case eqs ne ks x y =>
  simp only [CC, Bool.and_eq_true] at hag
  obtain ⟨⟨⟨h0, h1⟩, h2⟩, h3⟩ := hag
  have hx := hs.eval h2
  have hy := hs.eval h3
  have ho : op' = if ne then .neq else .eql := by cases ne <;> simpa using h0
  simp only [Av] at hrun
  split at hrun
  ·rename_i va vb ha hb
   rw [ha] at hx
   rw [hb] at hy
   split at hrun
   ·rename_i e he
    simp only [M.run, Option.some.injEq] at hrun
    subst hrun
    refine AH hI (uI hop (by cases ne <;> simp [ho]) h1 hx hy he) ?_
    have e' : (if op' = .neq then !e else e) = (if ne then !e else e) := by cases ne <;> simp [ho]
    rw [e']
    exact H9 rfl
   ·simp [M.run] at hrun
  ·simp [M.run] at hrun
theorem XT {b : Nat} : ∀ (l : List UInt8) (o : Nat), (∀ j, j < l.length → w.cell? ⟨b, o + j, none⟩ = some (.int .u8 (l.getD j 0).toNat)) → BV w B b o 1 (l.map fun b => [.v (.int .u8 (b.toNat : Int))])
 | [], o, h => by simp [BV]
 | x :: l, o, h => by
  simp only [List.map_cons, BV, Jy]
  refine ⟨rfl, ⟨⟨_, by have := h 0 (by simp); simpa using this, rfl, by simp [Dq]⟩, trivial⟩, XT l (o + 1) fun j hj => ?_⟩
  have := h (j + 1) (by simpa using hj)
  rw [show o + 1 + j = o + (j + 1) by omega, this]
  simp
theorem bz {call : AN} (hS : DZ c.G P call) {x : O} {t t' : TypeId} {y : Operand} (hop : o.op = .convert t t' y) (hag : CC P x (.convert t t' y) = true) {s : List V} {d : Nat} {out : V × R} (hrun : (Av s d x).run call d r = some out) (hI : Cf c w B ρ Sf (fun _ => False) r) (hs : EE w B ρ r s a) :
  Gz P c o a w B ρ r out := by
 cases x <;> first | (exact absurd hag Bool.false_ne_true) | (simp only [CC] at hag; cases hag; done) | skip
 case conv cv x =>
  have hstr : ∀ {t' : TypeId}, bx P t' = true → P.underlying t' = some .string := by
   intro t' h
   unfold bx at h
   split at h
   ·assumption
   ·cases h
  cases cv
  case int k =>
   simp only [CC, Bool.and_eq_true] at hag
   obtain ⟨h1, h2⟩ := hag
   have hx := hs.eval h2
   simp only [Av] at hrun
   split at hrun
   ·rename_i v hv
    simp only [M.run, Option.some.injEq] at hrun
    subst hrun
    simp only [xS, Bool.and_eq_true, Option.isSome_iff_exists] at h1
    obtain ⟨⟨dd, h1⟩, h3⟩ := h1
    have h4 : P.underlying t' = some (.int k) := by
     split at h3
     ·rename_i k' hk; simp only [beq_iff_eq] at h3; rw [h3]; exact hk
     ·cases h3
    unfold XK at hv
    split at hv
    ·rename_i k0 n he
     rw [he] at hx
     simp only [Option.some.injEq] at hv
     subst hv
     exact AH hI (fC (d' := dd) hop h1 h4 (CN hx).1) (H9 rfl)
    ·simp at hv
    ·cases hv
   ·simp [M.run] at hrun
  case rune =>
   simp only [CC, Bool.and_eq_true, Option.isSome_iff_exists] at hag
   obtain ⟨⟨⟨dd, h1⟩, h3⟩, h2⟩ := hag
   have hx := hs.eval h2
   simp only [Av] at hrun
   split at hrun
   ·rename_i v hv
    simp only [M.run, Option.some.injEq] at hrun
    subst hrun
    unfold XK at hv
    split at hv
    ·rename_i k0 n he
     rw [he] at hx
     simp only [Option.some.injEq] at hv
     subst hv
     exact AH hI (bv hop h1 (hstr h3) (CN hx).1) (H9 rfl)
    ·simp at hv
    ·cases hv
   ·simp [M.run] at hrun
  case same =>
   simp only [CC, Bool.and_eq_true, Option.isSome_iff_exists] at hag
   obtain ⟨⟨⟨dd, h1⟩, h3⟩, h2⟩ := hag
   have hx := hs.eval h2
   simp only [Av] at hrun
   split at hrun
   ·rename_i v hv
    simp only [M.run, Option.some.injEq] at hrun
    subst hrun
    unfold XK at hv
    split at hv
    ·simp at hv
    ·rename_i st he
     rw [he] at hx
     simp only [Option.some.injEq] at hv
     subst hv
     exact AH hI (bw hop h1 (hstr h3) (CN hx).1) (H9 rfl)
    ·cases hv
   ·simp [M.run] at hrun
  case bytes =>
   simp only [CC, Bool.and_eq_true, Option.isSome_iff_exists] at hag
   obtain ⟨⟨⟨dd, h1⟩, h3⟩, h2⟩ := hag
   have hx := hs.eval h2
   obtain ⟨e, g1, g2⟩ : ∃ e, P.underlying t' = some (.slice e) ∧ P.underlying e = some (.int .u8) := by
    unfold uQ at h3
    split at h3
    ·rename_i e hu
     split at h3
     ·rename_i hu'; exact ⟨e, hu, hu'⟩
     ·cases h3
    ·cases h3
   simp only [Av] at hrun
   split at hrun
   case h_2 => simp [M.run] at hrun
   rename_i v hv
   simp only [M.run, Option.some.injEq] at hrun
   subst hrun
   unfold XK at hv
   split at hv
   ·simp at hv
   case h_3 => cases hv
   rename_i st he
   rw [he] at hx
   simp only at hv
   split at hv
   case isFalse => cases hv
   rename_i hsz
   simp only [Option.some.injEq] at hv
   subst hv
   have hu : a.eval y = .string st := (CN hx).1
   have hrun2 := Lib.run_convert_string_bytes (P := P) w t t' e st h1 g1 g2
   have hold : ∀ j, j < w.heap.size → (Lib.bytesWorld w e st).heap[j]? = w.heap[j]? := fun j hj => Lib.bytesWorld_at_old w e st j hj
   have hsame : Dr B w (Lib.bytesWorld w e st) := fun b hb => hold b (hI.inB b hb)
   refine .inl ⟨_, _, CK (by unfold execOp; rw [hop]; simp only [hu]) hrun2, fun b => B b ∨ b = w.heap.size, ρ, Sf, ?_, rfl, fun v u h => ?_, ?_⟩
   ·exact hI.world (fun b hb _ => hold b hb) (by rw [Lib.bytesWorld_size]; omega) rfl rfl rfl (fun _ h => .inl h) (fun b h => h.elim .inl fun h => .inr (.inr (by omega))) (fun b h => by
     rw [Lib.bytesWorld_size]
     rcases h with h | h
     ·have := hI.inB b h; omega
     ·omega) (fun _ h => .inl h) (fun _ h => h.elim) (fun _ h => h.elim)
   ·exact D8 (fun _ h => .inl h) hsame (fun id rows stt fx hg => ⟨Sf id, (hI.mem hg).1, fun b hb => hold b ((hI.ents id).inHeap b hb)⟩) h
   ·have hl : (Uf st).length = st.size := by simp [Uf]
    simp only [A5, Dq]
    refine ⟨⟨_, _, by rw [hl], by rw [hl]; exact grownCap_ge w st.size 0 e, grownCap_le_maxLen w _ 0 e hsz, .inr ⟨w.heap.size, 0, 1, rfl, .inr rfl, Nat.one_pos, ?_⟩⟩, rfl⟩
    exact XT st.data.toList 0 fun j hj => by
     rw [Nat.zero_add]
     exact Lib.bytesWorld_cell w e st j (by simpa using hj)
  case str =>
   simp only [CC, Bool.and_eq_true] at hag
   obtain ⟨⟨h1, h3⟩, h2⟩ := hag
   have hx := hs.eval h2
   have h1' : ∃ e i, P.underlying t = some (.slice e) ∧ P.underlying e = some (.int .u8) ∧ P.info? e = some i ∧ i.size = 1 := by
    unfold uQ at h1
    split at h1
    ·rename_i e hu
     split at h1
     ·rename_i hu'
      split at h1
      ·rename_i i hi
       exact ⟨e, i, hu, hu', hi, by simpa using h1⟩
      ·cases h1
     ·cases h1
    ·cases h1
   obtain ⟨e, ti, g1, g2, g3, g4⟩ := h1'
   have fin : ∀ {q : Option Addr} {n cap : Nat} {l : List UInt8}, a.eval y = .slice q n cap → (Conv.bytesToString (.slice q n cap)).run P w = .ok (.string ⟨l.toArray⟩) w → Mi P o a w (.string ⟨l.toArray⟩) w := by
    intro q n cap l hu hr
    refine CK (s := convert t t' (.slice q n cap)) (by unfold execOp; rw [hop]; simp only [hu]) ?_
    unfold convert
    rw [Sem.run_bind, run_underlying g1]
    simp only [Result.andThen_ok]
    rw [Sem.run_bind, run_underlying (hstr h3)]
    simp only [Result.andThen_ok]
    cases q <;> simp [run_underlying g2, hr]
   have nilr : ∀ {rows : Rows} {l : List UInt8} {len cap : Nat}, C6 rows = some l → rows = [] → (Conv.bytesToString (.slice none len cap)).run P w = .ok (.string ⟨l.toArray⟩) w := by
    intro rows l len cap h1 h2
    subst h2
    simp only [C6, Option.some.injEq] at h1
    subst h1
    rfl
   have own : ∀ {q : Option Addr} {cap : Nat} {rows : Rows} {S : Nat → Prop} {l : List UInt8}, FA w B q cap rows S → C6 rows = some l → (Conv.bytesToString (.slice q rows.length cap)).run P w = .ok (.string ⟨l.toArray⟩) w := by
    intro q cap rows S l hO hb
    rcases hO with ⟨rfl, rfl, rfl, _⟩ | ⟨b, sz, e', cur, S', rfl, k1, k2, k3, k4, k5, k6, k7⟩
    ·exact nilr hb rfl
    ·cases rows with
     | nil =>
      simp only [C6, Option.some.injEq] at hb
      subst hb
      exact SN (us := []) rfl (fun j u h => by simp at h) rfl
     | cons row rows =>
      have hsz : sz = 1 := by
       have k7' := k7
       simp only [BX] at k7'
       obtain ⟨_, _, e1, _⟩ := k7'
       unfold C6 at hb
       split at hb
       ·cases ‹_ :: _ = []›
       ·rename_i he; cases he; exact e1.symm
       ·cases hb
      subst hsz
      obtain ⟨us, i1, i2, i3⟩ := ZN hb (BX.sh1 hb k7)
      exact SN i1 i2 i3
   simp only [Av] at hrun
   generalize A6 s x = v at hx hrun
   cases v <;> try (simp [Ds, M.run] at hrun; done)
   case t ct =>
    cases ct <;> try (simp [Ds, M.run] at hrun; done)
    rename_i ow rows
    simp only [Ds] at hrun
    split at hrun
    ·rename_i l hb
     simp only [M.run, Option.some.injEq] at hrun
     subst hrun
     simp only [A5] at hx
     cases ow with
     | true => have := hx.1; simp only [Dq] at this
     | false =>
      have hx1 := hx.1
      simp only [Dq] at hx1
      obtain ⟨q, cap, e1, e2, e3, e4⟩ := hx1
      refine AH hI (fin e1 ?_) (H9 rfl)
      rcases e4 with e4 | ⟨b, k, sz, rfl, _, _, e5⟩
      ·subst e4
       simp only [C6, Option.some.injEq] at hb
       subst hb
       cases q with
       | none => rfl
       | some ad =>
        obtain ⟨b, k, x⟩ := ad
        simp [Conv.bytesToString, loadCells]
        rfl
      ·cases rows with
       | nil =>
        simp only [C6, Option.some.injEq] at hb
        subst hb
        exact SN (us := []) rfl (fun j u h => by simp at h) rfl
       | cons row rows =>
        have hsz : sz = 1 := by
         have e5' := e5
         simp only [BV] at e5'
         unfold C6 at hb
         split at hb
         ·cases ‹_ :: _ = []›
         ·rename_i he; cases he; exact e5'.1.symm
         ·cases hb
        subst hsz
        obtain ⟨us, i1, i2, i3⟩ := ZN hb e5
        exact SN i1 i2 i3
    ·simp [M.run] at hrun
   case nil =>
    simp only [Ds, C6, M.run, Option.some.injEq] at hrun
    subst hrun
    simp only [A5] at hx
    exact AH hI (fin hx (nilr (rows := []) (l := []) rfl rfl)) (H9 rfl)
   case ref id n =>
    simp only [Ds, M.run] at hrun
    split at hrun
    ·rename_i rows st fx hg
     split at hrun
     ·rename_i hl
      split at hrun
      ·rename_i l hb
       simp only [M.run, Option.some.injEq] at hrun
       subst hrun
       simp only [A5] at hx
       have hu := (hx.2.2 rows st fx hg).2 hl
       have hO := (hI.mem hg).1
       rw [← hl] at hu
       exact AH hI (fin hu (own hO hb)) (H9 rfl)
      ·simp [M.run] at hrun
     ·simp [M.run] at hrun
    ·simp [M.run] at hrun
theorem j8 {call : AN} (hS : DZ c.G P call) {x : O} {t : TypeId} {y : Operand} {lo' hi' mx : Option Operand} (hop : o.op = .slice t y lo' hi' mx) (hag : CC P x (.slice t y lo' hi' mx) = true) {s : List V} {d : Nat} {out : V × R} (hrun : (Av s d x).run call d r = some out) (hI : Cf c w B ρ Sf (fun _ => False) r) (hs : EE w B ρ r s a) :
  Gz P c o a w B ρ r out := by
 cases x <;> first | (exact absurd hag Bool.false_ne_true) | (simp only [CC] at hag; cases hag; done) | skip
 case slc sz x lo hi =>
  cases mx with
  | some m => simp only [CC] at hag; cases hag
  | none =>
  simp only [CC, Bool.and_eq_true] at hag
  obtain ⟨⟨⟨h1, h2⟩, h3⟩, h4⟩ := hag
  have hx := hs.eval h2
  have hbnd : ∀ {q : Option Cd} {q' : Option Operand} {e : Nat} {l : Int}, dz q q' = true → (match q with | none => some (e : Int) | some q => match A6 s q with | .t (.v (.int _ n)) => some n | _ => none) = some l → 0 ≤ l → ZL (q'.map a.eval) e l.toNat := by
   intro q q' e l hq he hl
   cases q with
   | none =>
    cases q' with
    | none => simp only [Option.some.injEq] at he; exact .inl ⟨rfl, by omega⟩
    | some y => simp [dz] at hq
   | some q =>
    cases q' with
    | none => simp [dz] at hq
    | some y =>
     simp only [dz] at hq
     have hv := hs.eval hq
     simp only at he
     split at he
     ·rename_i k n hn
      rw [hn] at hv
      simp only [Option.some.injEq] at he
      subst he
      exact .inr ⟨k, by simp only [Option.map_some]; rw [(CN hv).1, Int.toNat_of_nonneg hl]⟩
     ·cases he
  simp only [Av] at hrun
  split at hrun
  ·rename_i st he
   rw [he] at hx
   split at hrun
   ·rename_i l h hl hh
    split at hrun
    ·rename_i hc
     simp only [M.run, Option.some.injEq] at hrun
     subst hrun
     obtain ⟨hc, h0⟩ := hc
     subst h0
     have ht : P.underlying t = some .string := by
      unfold qP at h1
      split at h1
      ·assumption
      ·simp at h1
      ·cases h1
     exact AH hI (iy hop ht (CN hx).1 (hbnd h3 hl hc.1) (hbnd h4 hh (by omega)) (by omega) (by omega)) (H9 rfl)
    ·simp [M.run] at hrun
   ·simp [M.run] at hrun
  ·rename_i ow rows he
   rw [he] at hx
   split at hrun
   ·rename_i l h hl hh
    split at hrun
    ·rename_i hc
     obtain ⟨hc, h0, hall⟩ := hc
     simp only [M.run, Option.some.injEq] at hrun
     subst hrun
     have ht : ∃ e i, P.underlying t = some (.slice e) ∧ P.info? e = some i ∧ i.size = sz := by
      unfold qP at h1
      split at h1
      ·simp only [beq_iff_eq] at h1; omega
      ·rename_i e hu
       simp only [Bool.and_eq_true] at h1
       obtain ⟨_, h1⟩ := h1
       split at h1
       ·rename_i i hi
        exact ⟨e, i, hu, hi, by simpa using h1⟩
       ·cases h1
      ·cases h1
     obtain ⟨e, i, g1, g2, rfl⟩ := ht
     cases ow with
     | true => simp only [A5] at hx; have := hx.1; simp only [Dq] at this
     | false =>
      have hq : ∃ q cap, a.eval y = .slice q rows.length cap := by
       simp only [A5, Dq] at hx
       obtain ⟨⟨q, cap, e1, _⟩, _⟩ := hx
       exact ⟨q, cap, e1⟩
      obtain ⟨q, cap, hq⟩ := hq
      rw [hq] at hx
      obtain ⟨_, k2, k3⟩ := kx hx (l := l.toNat) (h := h.toNat) (sz := i.size) (by omega) (by omega) (fun row hr => by simpa using List.all_eq_true.1 hall row hr)
      exact AH hI (kw hop g1 g2 hq (hbnd h3 hl hc.1) (hbnd h4 hh (by omega)) (by omega) (by omega)) k3
    ·simp [M.run] at hrun
   ·simp [M.run] at hrun
  ·simp [M.run] at hrun
theorem j9 {call : AN} (hS : DZ c.G P call) {x : O} {t : TypeId} {x' i' : Operand} (hop : o.op = .index t x' i') (hag : CC P x (.index t x' i') = true) {s : List V} {d : Nat} {out : V × R} (hrun : (Av s d x).run call d r = some out) (hI : Cf c w B ρ Sf (fun _ => False) r) (hs : EE w B ρ r s a) :
  Gz P c o a w B ρ r out := by
 cases x <;> first | (exact absurd hag Bool.false_ne_true) | (simp only [CC] at hag; cases hag; done) | skip
 case ix x i =>
  simp only [CC, Bool.and_eq_true] at hag
  obtain ⟨⟨h1, h2⟩, h3⟩ := hag
  have hx := hs.eval h2
  have hi := hs.eval h3
  simp only [Av] at hrun
  split at hrun
  ·rename_i st k n ha hb
   rw [ha] at hx
   rw [hb] at hi
   split at hrun
   ·rename_i hc
    simp only [M.run, Option.some.injEq] at hrun
    subst hrun
    have ht : P.underlying t = some .string := by
     simp only [bx] at h1
     split at h1
     ·assumption
     ·cases h1
    exact AH hI (yC hop ht (CN hx).1 (CN hi).1 hc.1 hc.2) (H9 rfl)
   ·simp [M.run] at hrun
  ·simp [M.run] at hrun
 case ixa sz len ag x i =>
  simp only [CC, Bool.and_eq_true, decide_eq_true_eq] at hag
  obtain ⟨⟨⟨h1, h0⟩, h2⟩, h3⟩ := hag
  have hx := hs.eval h2
  have hi := hs.eval h3
  simp only [Av] at hrun
  split at hrun
  ·rename_i cs k n ha hb
   rw [ha] at hx
   rw [hb] at hi
   simp only [A5] at hx
   obtain ⟨us, e1, e2⟩ := hx
   split at hrun
   ·rename_i hc
    have hlen : us.size = cs.length := by rw [← AB.length e2]; simp
    have hy := uN (P := P) (w := w) hop h1 e1 (CN hi).1 hc.1 hc.2.1 (by rw [hlen]; exact hc.2.2)
    have hr := (e2.drop (n.toNat * sz)).take sz
    cases ag with
    | true =>
     simp only [if_true, M.run, Option.some.injEq] at hrun
     subst hrun
     exact AH hI hy (I9 (ag := true) hr (by simp))
    | false =>
     simp only [Bool.false_eq_true, if_false] at hrun
     split at hrun
     ·rename_i v hv
      simp only [M.run, Option.some.injEq] at hrun
      subst hrun
      have := I9 (ag := false) hr (by rw [hv]; simp)
      rw [hv] at this
      exact AH hI hy this
     ·simp [M.run] at hrun
   ·simp [M.run] at hrun
  ·simp [M.run] at hrun
theorem jA {call : AN} {off : Nat} {x : Cd} {y : Operand} (hyes : ∀ ad, a.eval y = .pointer (some ad) → Mi P o a w (.pointer (some (ad.add off))) w) (h2 : Gy x y = true) {s : List V} {d : Nat} {out : V × R} (hrun : (Av s d (.fa off x)).run call d r = some out) (hI : Cf c w B ρ Sf (fun _ => False) r) (hs : EE w B ρ r s a) :
  Gz P c o a w B ρ r out := by
 have hx := hs.eval h2
 simp only [Av] at hrun
 split at hrun
 ·rename_i id p i o' n st he
  rw [he] at hx
  simp only [M.run, Option.some.injEq] at hrun
  subst hrun
  obtain ⟨ad, e1, e2⟩ := qF (off := off) hx
  exact AH hI (hyes _ e1) e2
 ·rename_i id o' st cs he
  rw [he] at hx
  simp only [M.run, Option.some.injEq] at hrun
  subst hrun
  simp only [A5] at hx
  obtain ⟨hth, hP, us, hvs, hC⟩ := hx
  obtain ⟨ad, e1, e2⟩ := qF (w := w) (B := B) (ρ := ρ) (r := r) (id := id) (p := []) (i := 0) (m := 1) (st := 0) (off' := o') (off := off) (by simp only [A5]; exact ⟨hth, hP⟩)
  refine AH hI (hyes _ e1) ?_
  simp only [A5] at e2 ⊢
  exact ⟨hth, e2.2, us, hvs, hC⟩
 ·rename_i cs he
  rw [he] at hx
  simp only [M.run, Option.some.injEq] at hrun
  subst hrun
  simp only [A5] at hx
  obtain ⟨b, k, e1, e2, e3⟩ := hx
  refine AH hI (hyes _ e1) ?_
  rw [FC]
  simp only [A5]
  refine ⟨b, k + off, rfl, e2, ?_⟩
  by_cases hle : off ≤ cs.length
  ·exact Jy.drop cs off e3 hle
  ·rw [List.drop_eq_nil_of_le (by omega)]; simp only [Jy]
 ·simp [M.run] at hrun
theorem Xz {call : AN} (hS : DZ c.G P call) {x : O} {t : TypeId} {x' i' : Operand} (hop : o.op = .indexAddr t x' i') (hag : CC P x (.indexAddr t x' i') = true) {s : List V} {d : Nat} {out : V × R} (hrun : (Av s d x).run call d r = some out) (hI : Cf c w B ρ Sf (fun _ => False) r) (hs : EE w B ρ r s a) :
  Gz P c o a w B ρ r out := by
 cases x <;> first | (exact absurd hag Bool.false_ne_true) | (simp only [CC] at hag; cases hag; done) | skip
 case fa off x =>
  cases i' <;> try (simp only [CC] at hag; cases hag; done)
  rename_i v
  cases v <;> try (simp only [CC] at hag; cases hag; done)
  simp only [CC, Bool.and_eq_true] at hag
  exact jA (fun ad e => xu hop hag.1 e) hag.2 hrun hI hs
 case ia sz x i =>
  simp only [CC, Bool.and_eq_true] at hag
  obtain ⟨⟨h1, h2⟩, h3⟩ := hag
  have hx := hs.eval h2
  have hi := hs.eval h3
  simp only [Av] at hrun
  split at hrun
  ·rename_i kd n he
   rw [he] at hi
   split at hrun
   ·rename_i h0
    split at hrun
    ·rename_i ow rows hx'
     rw [hx'] at hx
     split at hrun
     ·rename_i row hr
      split at hrun
      ·rename_i hsz
       simp only [M.run, Option.some.injEq] at hrun
       subst hrun
       obtain ⟨b, k, cap, e1, e2, e3⟩ := nw hx hr hsz
       exact AH hI (ko hop h1 e1 (CN hi).1 h0 e2) e3
      ·simp [M.run] at hrun
     ·simp [M.run] at hrun
    ·rename_i id m hx'
     rw [hx'] at hx
     simp only [M.run] at hrun
     split at hrun
     ·rename_i rows stt fx hg
      split at hrun
      ·rename_i hl
       split at hrun
       ·rename_i row hr
        split at hrun
        ·rename_i hsz
         simp only [M.run, Option.some.injEq] at hrun
         subst hrun
         obtain ⟨b, k, cap, e1, e2, e3⟩ := xv hI hx hg hl hr hsz
         exact AH hI (ko hop h1 e1 (CN hi).1 h0 e2) e3
        ·simp [M.run] at hrun
       ·simp [M.run] at hrun
      ·simp [M.run] at hrun
     ·simp [M.run] at hrun
    ·rename_i id p j c' m st hx'
     rw [hx'] at hx
     simp only [M.run] at hrun
     split at hrun
     ·rename_i rows stt fx hg
      split at hrun
      ·rename_i hst
       subst hst
       split at hrun
       ·rename_i rs hgc
        split at hrun
        ·rename_i hl
         split at hrun
         ·rename_i row hr
          split at hrun
          ·rename_i hsz
           simp only [M.run, Option.some.injEq] at hrun
           subst hrun
           obtain ⟨b, k, cap, e1, e2, e3⟩ := xw hI hx hg hgc hl hr hsz
           exact AH hI (ko hop h1 e1 (CN hi).1 h0 e2) e3
          ·simp [M.run] at hrun
         ·simp [M.run] at hrun
        ·simp [M.run] at hrun
       ·simp [M.run] at hrun
      ·simp [M.run] at hrun
     ·simp [M.run] at hrun
    ·simp [M.run] at hrun
   ·simp [M.run] at hrun
  ·simp [M.run] at hrun
theorem lA {call : AN} (hS : DZ c.G P call) {x : O} {t : TypeId} {y : Operand} (hop : o.op = .load t y) (hag : CC P x (.load t y) = true) {s : List V} {d : Nat} {out : V × R} (hrun : (Av s d x).run call d r = some out) (hI : Cf c w B ρ Sf (fun _ => False) r) (hs : EE w B ρ r s a) :
  Gz P c o a w B ρ r out := by
 cases x <;> first | (exact absurd hag Bool.false_ne_true) | (simp only [CC] at hag; cases hag; done) | skip
 case ld n ag x =>
  simp only [CC, Bool.and_eq_true, decide_eq_true_eq] at hag
  obtain ⟨⟨h1, h0⟩, h2⟩ := hag
  have hx := hs.eval h2
  have fin : ∀ {vs : List V} {us : List Value} {b k : Nat} {x : V × R}, a.eval y = .pointer (some ⟨b, k, none⟩) → us.length = n → vs.length = n → EF w b k us → AB w B ρ r vs us →
    (if ag then (M.ret (.agg vs) : M V) else match vs with | [v] => .ret v | _ => .fail).run call d r = some x → Gz P c o a w B ρ r x := by
   intro vs us b k x hy hl hlv hc hr hrun
   cases ag with
   | true =>
    simp only [if_true, M.run, Option.some.injEq] at hrun
    subst hrun
    exact AH hI (qD hop h1 hy hl hc) (I9 (ag := true) hr (by simp))
   | false =>
    simp only [Bool.false_eq_true, if_false] at hrun
    split at hrun
    ·simp only [M.run, Option.some.injEq] at hrun
     subst hrun
     exact AH hI (qD hop h1 hy hl hc) (I9 (ag := false) hr (by simp))
    ·simp [M.run] at hrun
  simp only [Av] at hrun
  split at hrun
  ·rename_i id p i off m st he
   rw [he] at hx
   simp only [M.run] at hrun
   split at hrun
   ·rename_i rows stt fx hg
    split at hrun
    ·rename_i row hr
     split at hrun
     ·rename_i hle
      obtain ⟨b, k, us, e1, e2, e3, e4, e5⟩ := SL hI hg hx hr h0 hle
      exact fin e1 e2 (by rw [← AB.length e4, e2]) e3 e4 hrun
     ·simp [M.run] at hrun
    ·simp [M.run] at hrun
   ·simp [M.run] at hrun
  ·rename_i id off st cs he
   rw [he] at hx
   simp only [M.run] at hrun
   split at hrun
   ·rename_i rows stt fx hg
    split at hrun
    ·rename_i hc
     obtain ⟨⟨hst, hrl⟩, hle⟩ := hc
     simp only [A5] at hx
     obtain ⟨hth, ⟨ad, e1, hP⟩, us, hvs, hC⟩ := hx
     obtain ⟨row, b, rfl, z2, z3, z4⟩ := (hC _ _ _ hg).2.2 hst hrl
     have hul := AB.length hvs
     obtain ⟨b', k, hloc, rfl⟩ := ((hP _ _ _ hg).2.2 (fun _ => rfl) (fun e => absurd rfl e)).2 row (by simp [BY]) (by omega)
     obtain ⟨hq, row1, hr1, hlt, hk⟩ := hloc
     simp only [Nat.zero_mul, Nat.zero_add] at hk
     subst hk
     rw [z3] at hq
     simp only [Option.some.injEq, Addr.mk.injEq, and_true] at hq
     subst hq
     refine fin (us := (us.drop k).take n) e1 (by simp; omega) (by simp; omega) (fun j u hj => ?_) ((hvs.drop k).take n) hrun
     rw [List.getElem?_take] at hj
     split at hj
     ·rw [List.getElem?_drop] at hj
      exact z4 _ _ hj
     ·cases hj
    ·simp [M.run] at hrun
   ·simp [M.run] at hrun
  ·rename_i cs he
   rw [he] at hx
   simp only [A5] at hx
   obtain ⟨b, k, e1, e2, e3⟩ := hx
   split at hrun
   ·rename_i hle
    obtain ⟨us, f1, f2, f3⟩ := ik (ρ := ρ) (r := r) cs n e3 hle
    exact fin e1 f1 (by rw [← AB.length f3, f1]) f2 f3 hrun
   ·simp [M.run] at hrun
  ·simp [M.run] at hrun
theorem jB {call : AN} (hS : DZ c.G P call) {x : O} {t : TypeId} {x' y' : Operand} (hop : o.op = .store t x' y') (hag : CC P x (.store t x' y') = true) {s : List V} {d : Nat} {out : V × R} (hrun : (Av s d x).run call d r = some out) (hI : Cf c w B ρ Sf (fun _ => False) r) (hs : EE w B ρ r s a) :
  Gz P c o a w B ρ r out := by
 cases x <;> first | (exact absurd hag Bool.false_ne_true) | (simp only [CC] at hag; cases hag; done) | skip
 case st n x y =>
  simp only [CC, Bool.and_eq_true] at hag
  obtain ⟨⟨h1, h2⟩, h3⟩ := hag
  have hx := hs.eval h2
  simp only [Av] at hrun
  split at hrun
  ·rename_i id p i off m st he
   rw [he] at hx
   obtain ⟨w', Sf', g1, g2, g3, g4, g5⟩ := A09 hI hop h1 (hs.eval h3) hx hrun
   refine .inr (.inl ⟨w', g1, B, ρ, Sf', g2, g3, g4, ?_⟩)
   rw [g5]; simp only [A5]
  ·simp [M.run] at hrun
set_option maxHeartbeats 1000000 in
theorem lC {α β : Type} {call : AN} {d : Nat} (v : V) (k : T → M α) {r : R} {x : α × R} (h : (take v k).run call d r = some x) : ∃ t r1, (k t).run call d r1 = some x ∧ ∀ (k' : T → M β), (take v k').run call d r = (k' t).run call d r1 := by
 cases v with
 | t c => exact ⟨c, r, h, fun _ => rfl⟩
 | nil => exact ⟨_, r, h, fun _ => rfl⟩
 | ref id n =>
  simp only [take, M.run] at h
  cases he : AK r id with
  | dead => rw [he] at h; simp [M.run] at h
  | mem rows stt fx =>
   rw [he] at h
   simp only at h
   split at h
   ·rename_i hn
    exact ⟨_, _, h, fun k' => by simp only [take, M.run, he, if_pos hn]⟩
   ·simp [M.run] at h
 | sub id p i c n st =>
  simp only [take, M.run] at h
  cases he : AK r id with
  | dead => rw [he] at h; simp [M.run] at h
  | mem rows stt fx =>
   rw [he] at h
   simp only at h
   split at h
   ·rename_i hst
    split at h
    ·rename_i rs hg
     split at h
     ·rename_i hn
      exact ⟨_, _, h, fun k' => by simp only [take, M.run, he, if_pos hst, hg, if_pos hn]⟩
     ·simp [M.run] at h
    ·simp [M.run] at h
   ·simp [M.run] at h
 | _ => simp [take, M.run] at h
theorem XU {α β : Type} {call : AN} {d : Nat} : ∀ (vs : List V) (k : List T → M α) {r : R} {x : α × R}, (ED vs k).run call d r = some x → ∃ ts r1, (k ts).run call d r1 = some x ∧ ∀ (k' : List T → M β), (ED vs k').run call d r = (k' ts).run call d r1
 | [], k, r, x, h => ⟨[], r, h, fun _ => rfl⟩
 | v :: vs, k, r, x, h => by
  simp only [ED] at h
  obtain ⟨t, r1, h1, h2⟩ := lC (β := β) v _ h
  obtain ⟨ts, r2, g1, g2⟩ := XU (β := β) vs _ h1
  exact ⟨t :: ts, r2, g1, fun k' => by simp only [ED]; rw [h2, g2]⟩
theorem Qv {α β : Type} {call : AN} {d : Nat} : ∀ (vss : List (List V)) (k : Rows → M α) {r : R} {x : α × R}, (CD vss k).run call d r = some x → ∃ rs r1, (k rs).run call d r1 = some x ∧ ∀ (k' : Rows → M β), (CD vss k').run call d r = (k' rs).run call d r1
 | [], k, r, x, h => ⟨[], r, h, fun _ => rfl⟩
 | vs :: vss, k, r, x, h => by
  simp only [CD] at h
  obtain ⟨t, r1, h1, h2⟩ := XU (β := β) vs _ h
  obtain ⟨ts, r2, g1, g2⟩ := Qv (β := β) vss _ h1
  exact ⟨t :: ts, r2, g1, fun k' => by simp only [CD]; rw [h2, g2]⟩
theorem uS (hI : Cf c w B ρ Sf (fun _ => False) r) {t : TypeId} {n sz : Nat} {qs : Array (Nat × Operand)} {s : List V} {ps : List Cd} (h : o.op = .buildSlice t n qs) (hb : kp P t n sz = true) (hp : Um ps qs.toList n = true) (hs : EE w B ρ r s a) {call : AN} {d : Nat} {x : V × R}
  (hrun : (CD (ps.map fun q => cellsOf (A6 s q)) fun rs => if rs.all fun r => r.length == sz then .new [.mem rs 0 false] (.set (d, 0) .dead (.ret (.t (.sl false (AV rs))))) else .fail).run call d r = some x) : Gz P c o a w B ρ r x := by
 obtain ⟨rs, r1, g1, g2⟩ := Qv (β := V) _ _ hrun
 split at g1
 ·rename_i hall
  obtain ⟨hd, hr, g3⟩ := Mj g1
  simp only [M.run, Option.some.injEq] at g3
  subst g3
  have hrun2 : (CD (ps.map fun q => cellsOf (A6 s q)) fun rs => if rs.all fun r => r.length == sz then M.new [.mem rs 0 false] (.ret (V.ref (d, 0) rs.length)) else .fail).run call d r = some (.ref (d, 0) rs.length, r1.set d [.mem rs 0 false]) := by
   rw [g2, if_pos hall]
   simp only [M.run, hd, hr, List.isEmpty_nil, decide_true, Bool.and_self, if_true]
  obtain ⟨w', u, ρ', Sf', h1, h2, h3, h4, h5⟩ := qI hI h hb hp hs hrun2
  have he : AK (r1.set d [.mem rs 0 false]) (d, 0) = .mem rs 0 false := by simp [AK, List.getD, hd]
  have hL := NM (r0 := r) h2 he
  have hI2 := hL.inv.share (Y := Sf' (d, 0)) (X' := fun _ => False) (fun b hb => .inr hb) (fun b hb => hb.elim) (fun b hb => hb.elim)
  have h5' := h5
  simp only [A5] at h5
  have hu := (h5.2.2 rs 0 false he).2 rfl
  have hf := Ep.frz (B := B) (B' := fun b => B b ∨ Sf' (d, 0) b) (fun _ h => .inl h) (t := .sl true rs) (u := u) (S := Sf' (d, 0)) (fun _ h => .inr h) (DP.2 ⟨_, _, hu, (h2.mem he).1⟩)
  simp only [TT.frz] at hf
  refine .inl ⟨u, w', h1, _, ρ', _, hI2, by rw [Az]; exact h3, fun v u hh => ?_, ?_⟩
  ·exact D8 (fun _ h => .inl h) (fun _ _ => rfl) (fun j => Gg hL.inv j) (hL.claims v u (h4 v u hh))
  ·simp only [A5]
   exact ⟨hf, by rw [hu]; rfl⟩
 ·simp [M.run] at g1
set_option maxHeartbeats 1000000 in
theorem o9 {call : AN} (hS : DZ c.G P call) {x : O} (hag : CC P x o.op = true) {s : List V} {d : Nat} {out : V × R} (hrun : (Av s d x).run call d r = some out) (hI : Cf c w B ρ Sf (fun _ => False) r) (hs : EE w B ρ r s a) :
  Gz P c o a w B ρ r out := by
 cases hop : o.op
 case call cl =>
  rw [hop] at hag
  refine l9 hS hop ?_ hrun hI hs
  cases x <;> simpa only [CC] using hag
 case binOp op' t x' y' ty => rw [hop] at hag; exact j7 hS hop hag hrun hI hs
 case convert t t' y => rw [hop] at hag; exact bz hS hop hag hrun hI hs
 case slice t y lo' hi' mx => rw [hop] at hag; exact j8 hS hop hag hrun hI hs
 case index t x' i' => rw [hop] at hag; exact j9 hS hop hag hrun hI hs
 case indexAddr t x' i' => rw [hop] at hag; exact Xz hS hop hag hrun hI hs
 case load t y => rw [hop] at hag; exact lA hS hop hag hrun hI hs
 case store t x' y' => rw [hop] at hag; exact jB hS hop hag hrun hI hs
 all_goals rw [hop] at hag
 all_goals cases x <;> first | (exact absurd hag Bool.false_ne_true) | (simp only [CC] at hag; cases hag; done) | skip
 case move.mv y x =>
  simp only [Av, M.run, Option.some.injEq] at hrun
  subst hrun
  exact AH hI (qB (.inl hop)) (hs.eval hag)
 case assign.mv y x =>
  simp only [Av, M.run, Option.some.injEq] at hrun
  subst hrun
  exact AH hI (qB (.inr hop)) (hs.eval hag)
 case pick.pick c' a' b' cc aa bb =>
  simp only [CC, Bool.and_eq_true] at hag
  obtain ⟨⟨h1, h2⟩, h3⟩ := hag
  have hc := hs.eval h1
  simp only [Av] at hrun
  split at hrun
  ·rename_i t he
   simp only [M.run, Option.some.injEq] at hrun
   subst hrun
   rw [he] at hc
   refine AH hI (qC hop (CN hc).1) ?_
   cases t
   ·exact hs.eval h3
   ·exact hs.eval h2
  ·simp [M.run] at hrun
 case alloc.alloc t z =>
  simp only [CC] at hag
  simp only [Av] at hrun
  obtain ⟨hd, hr, hrun⟩ := Mj hrun
  simp only [M.run, Option.some.injEq] at hrun
  subst hrun
  obtain ⟨w', u, ρ', Sf', h1, h2, h3, h4⟩ := qG hI hop hag hd hr
  exact .inl ⟨u, w', h1, B, ρ', Sf', h2, by rw [List.length_set], h3, h4⟩
 case box.box t y x =>
  simp only [CC] at hag
  simp only [Av] at hrun
  obtain ⟨w', u, ρ', Sf', h1, h2, h3, h4, h5⟩ := xx hI hop (hs.eval hag) hrun
  exact .inl ⟨u, w', h1, B, ρ', Sf', h2, h3, h4, h5⟩
 case box.vbox t y x =>
  simp only [CC] at hag
  have hx := hs.eval hag
  simp only [Av] at hrun
  split at hrun
  ·rename_i cs he
   rw [he] at hx
   obtain ⟨w', u, ρ', Sf', h1, h2, h3, h4, h5⟩ := uJ hI hop hx hrun
   exact .inl ⟨u, w', h1, B, ρ', Sf', h2, h3, h4, h5⟩
  ·simp [M.run] at hrun
 case buildSlice.bsl t n qs sz ps =>
  simp only [CC, Bool.and_eq_true] at hag
  simp only [Av] at hrun
  obtain ⟨w', u, ρ', Sf', h1, h2, h3, h4, h5⟩ := qI hI hop hag.1 hag.2 hs hrun
  exact .inl ⟨u, w', h1, B, ρ', Sf', h2, h3, h4, h5⟩
 case buildSlice.bslz t n qs sz ps =>
  simp only [CC, Bool.and_eq_true] at hag
  simp only [Av] at hrun
  exact uS hI hop hag.1 hag.2 hs hrun
 case nilCheck.nilc y x =>
  simp only [CC] at hag
  have hx := hs.eval hag
  simp only [Av] at hrun
  split at hrun
  ·rename_i he
   simp only [M.run, Option.some.injEq] at hrun
   subst hrun
   rw [he] at hx
   refine AH hI (Ui hop rfl (.inl ?_)) hx
   simp only [A5] at hx
   obtain ⟨_, ad, h, _⟩ := hx
   exact ⟨ad, h⟩
  ·rename_i he
   simp only [M.run, Option.some.injEq] at hrun
   subst hrun
   rw [he] at hx
   refine AH hI (Ui hop rfl (.inl ?_)) hx
   simp only [A5] at hx
   obtain ⟨_, ⟨ad, h, _⟩, _⟩ := hx
   exact ⟨ad, h⟩
  ·rename_i he
   simp only [M.run, Option.some.injEq] at hrun
   subst hrun
   rw [he] at hx
   refine AH hI (Ui hop rfl (.inl ?_)) hx
   simp only [A5] at hx
   obtain ⟨b, k, h, _⟩ := hx
   exact ⟨_, h⟩
  ·rename_i he
   simp only [M.run, Option.some.injEq] at hrun
   subst hrun
   rw [he] at hx
   refine AH hI (Ui hop rfl (.inr ?_)) hx
   simp only [A5] at hx
   obtain ⟨us, h, _⟩ := hx
   exact ⟨_, us, h⟩
  ·simp [M.run] at hrun
 case unOp.un op' t y op x =>
  simp only [CC, Bool.and_eq_true, beq_iff_eq] at hag
  obtain ⟨rfl, h2⟩ := hag
  have hx := hs.eval h2
  simp only [Av] at hrun
  split at hrun
  ·rename_i b he
   rw [he] at hx
   simp only [M.run, Option.some.injEq] at hrun
   subst hrun
   exact AH hI (kl hop (CN hx).1) (H9 rfl)
  ·rename_i k n he
   rw [he] at hx
   simp only [M.run, Option.some.injEq] at hrun
   subst hrun
   exact AH hI (km hop (CN hx).1) (H9 rfl)
  ·simp [M.run] at hrun
 case makeSlice.mks t l cp z byt x =>
  cases x <;> try (simp only [CC] at hag; cases hag; done)
  rename_i t0
  cases l <;> try (simp only [CC] at hag; cases hag; done)
  rename_i t1
  cases cp <;> try (simp only [CC] at hag; cases hag; done)
  rename_i t2
  simp only [CC, Bool.and_eq_true, beq_iff_eq] at hag
  obtain ⟨⟨h1, rfl⟩, rfl⟩ := hag
  have hx := hs t0
  simp only [Av, A6] at hrun
  split at hrun
  ·rename_i k n he
   rw [he] at hx
   split at hrun
   ·rename_i hc
    obtain ⟨hd, hr, hrun⟩ := Mj hrun
    simp only [M.run, Option.some.injEq] at hrun
    subst hrun
    obtain ⟨w', u, ρ', Sf', g1, g2, g3, g4⟩ := xz hI hop h1 (CN hx).1 hc.1 hc.2.1 hc.2.2 hd hr
    exact .inl ⟨u, w', g1, B, ρ', Sf', g2, by rw [List.length_set], g3, g4⟩
   ·simp [M.run] at hrun
  ·simp [M.run] at hrun
 case build.build t qs z ps =>
  simp only [CC, Bool.and_eq_true] at hag
  obtain ⟨⟨h1, h2⟩, h3⟩ := hag
  simp only [Av] at hrun
  split at hrun
  ·rename_i cs hb
   simp only [M.run, Option.some.injEq] at hrun
   subst hrun
   obtain ⟨u, g1, g2⟩ := o6 (P := P) (w := w) hop h1 h2 h3 hs hb
   exact AH hI g1 g2
  ·simp [M.run] at hrun
 case field.fld t y f off n ag x =>
  simp only [CC, Bool.and_eq_true] at hag
  obtain ⟨h1, h2⟩ := hag
  have hx := hs.eval h2
  simp only [Av] at hrun
  split at hrun
  ·rename_i cs he
   rw [he] at hx
   simp only [A5] at hx
   obtain ⟨us, e1, e2⟩ := hx
   split at hrun
   ·rename_i hle
    have hlen : us.size = cs.length := by rw [← AB.length e2]; simp
    have hy := uM (P := P) (w := w) (n := n) (ag := ag) hop h1 e1 (by omega)
    have hr := (e2.drop off).take n
    cases ag with
    | true =>
     simp only [if_true, M.run, Option.some.injEq] at hrun
     subst hrun
     exact AH hI hy (I9 (ag := true) hr (by simp))
    | false =>
     simp only [Bool.false_eq_true, if_false] at hrun
     split at hrun
     ·rename_i v hv
      simp only [M.run, Option.some.injEq] at hrun
      subst hrun
      have := I9 (ag := false) hr (by rw [hv]; simp)
      rw [hv] at this
      exact AH hI hy this
     ·simp [M.run] at hrun
   ·simp [M.run] at hrun
  ·simp [M.run] at hrun
 case fieldAddr.fa t y f off x =>
  simp only [CC, Bool.and_eq_true] at hag
  exact jA (fun ad e => xt hop hag.1 e) hag.2 hrun hI hs
 case extract.ext y j x i =>
  simp only [CC, Bool.and_eq_true, beq_iff_eq] at hag
  obtain ⟨rfl, h2⟩ := hag
  have hx := hs.eval h2
  simp only [Av] at hrun
  split at hrun
  ·rename_i vs he
   rw [he] at hx
   split at hrun
   ·rename_i v hv
    simp only [M.run, Option.some.injEq] at hrun
    subst hrun
    simp only [A5] at hx
    obtain ⟨us, e1, e2⟩ := hx
    obtain ⟨u, e3, e4⟩ := e2.get i v hv
    exact AH hI (uE hop e1 (by simpa using e3)) e4
   ·simp [M.run] at hrun
  ·simp [M.run] at hrun
 case makeFunc.mkf fn first ys f caps =>
  cases fn <;> try (simp only [CC] at hag; cases hag; done)
  rename_i g
  simp only [CC, Bool.and_eq_true, beq_iff_eq, Array.isEmpty_iff] at hag
  obtain ⟨⟨rfl, h1⟩, h2⟩ := hag
  subst h1
  simp only [Av, M.run, Option.some.injEq] at hrun
  subst hrun
  refine AH hI (uF hop) ?_
  simp only [A5]
  exact ⟨_, rfl, by have := hs.evals h2; simpa using this⟩
theorem qR {call : AN} (hS : DZ c.G P call) {x : O} (hag : agX P x o.op = true) {s : List V} {d : Nat} {out : V × R} (hrun : (Av s d x).run call d r = some out) (hI : Cf c w B ρ Sf (fun _ => False) r) (hs : EE w B ρ r s a) :
  Gz P c o a w B ρ r out := by
 unfold agX at hag
 cases h : nO x with
 | true =>
  obtain ⟨v, i, rfl⟩ := qQ h
  exact absurd hrun (by simp [Av, A6, OU, M.run])
 | false =>
  rw [h, Bool.false_or] at hag
  exact o9 hS hag (o7 hrun) hI hs
end
end TT
