import Derived.Test.YtknfhlnfombmgaaDoorTD5
set_option linter.unusedVariables false
set_option linter.unusedSimpArgs false
namespace TT
open Go

/-! ### Operations that leave the world as it is -/

section
variable {P : Program} {c : Ctx} {w : World} {B : Nat → Prop} {ρ : Id → Loc} {Sf : Id → Nat → Prop} {r : R} {a : Act} {o : Oper}

/-- The operation gives u and leaves w'. -/
def Yes (P : Program) (o : Oper) (a : Act) (w : World) (u : Value) (w' : World) : Prop := (execOp a.eval o).run P w = .ok (.value u) w'

theorem yes_of {s : Sem Value} {u : Value} {w' : World} (he : execOp a.eval o = (do let x ← s; pure (.value x))) (hr : s.run P w = .ok u w') : Yes P o a w u w' := by
  unfold Yes
  rw [he, Sem.run_bind, hr]
  rfl

theorem mv_yes {y : Operand} (h : o.op = .move y ∨ o.op = .assign y) : Yes P o a w (a.eval y) w := by
  unfold Yes execOp
  rcases h with h | h <;> rw [h] <;> rfl

theorem rep_t {x : Value} {u : Value} (h : RepV w B ρ r (.t (.v x)) u) : u = x ∧ x.oneCell' = true := by
  simp only [RepV, ShC] at h
  obtain ⟨h1, h2⟩ := h
  subst h1
  exact ⟨rfl, h2⟩
theorem t_rep {x : Value} (h : x.oneCell' = true) : RepV w B ρ r (.t (.v x)) x := by
  simp only [RepV, ShC]; exact ⟨trivial, h⟩

theorem pick_yes {y p q : Operand} {t : Bool} (h : o.op = .pick y p q) (hy : a.eval y = .bool t) : Yes P o a w (if t then a.eval p else a.eval q) w := by
  unfold Yes execOp
  rw [h]
  simp only [hy, asBool]
  cases t <;> rfl

theorem nilc_yes {y : Operand} {u : Value} (h : o.op = .nilCheck y) (hy : a.eval y = u) (hu : (∃ b, u = .pointer (some b)) ∨ ∃ f us, u = .func (.func f) #[] us) : Yes P o a w u w := by
  unfold Yes execOp
  rw [h]
  simp only [hy]
  rcases hu with ⟨b, rfl⟩ | ⟨f, us, rfl⟩ <;> rfl

theorem ext_yes {y : Operand} {i : Nat} {us : Array Value} {u : Value} (h : o.op = .extract y i) (hy : a.eval y = .tuple us) (hi : us[i]? = some u) : Yes P o a w u w := by
  refine yes_of (s := Instr.extract (.tuple us) i) ?_ ?_
  · unfold execOp; rw [h]; simp only [hy]
  · simp only [Instr.extract, hi]; rfl

theorem mkf_yes {f : FuncId} {ys : Array Operand} (h : o.op = .makeFunc (.func f) #[] ys) : Yes P o a w (.func (.func f) #[] (ys.map a.eval)) w := by
  refine yes_of (s := Instr.makeFunc (.func f) #[] (ys.map a.eval)) ?_ rfl
  unfold execOp; rw [h]; simp

theorem bin_run {op : BinOp} {t : TypeId} {x y u : Value} (h : binV op x y = some u) (xo yo : Operand) :
    ((do eqGuard op t xo yo x y; binOp op t x y) : Sem Value).run P w = .ok u w ∧ u.oneCell' = true := by
  unfold binV at h
  split at h
  · rename_i k n yk m
    have hg : eqGuard op t xo yo (.int k n) (.int yk m) = pure () := by cases op <;> rfl
    rw [hg]
    cases op <;> simp only [] at h
    case shl =>
      split at h
      · cases h
      · rename_i hm; cases h
        exact ⟨by simp [binOp, Op.shift, hm], rfl⟩
    case shr =>
      split at h
      · cases h
      · rename_i hm; cases h
        exact ⟨by simp [binOp, Op.shift, hm], rfl⟩
    all_goals
      split at h
      · rename_i hk
        subst hk
        simp only [intOp] at h
        first
          | (cases h; exact ⟨by first | (simp [binOp, Op.intArith]; done) | (simp [binOp, Op.intCmp]; done) | (simp [binOp]; rfl), rfl⟩)
          | (split at h
             · cases h
             · rename_i h0; cases h; exact ⟨by simp [binOp, Op.intDiv, h0], rfl⟩)
          | cases h
      · cases h
  · rename_i x y
    have hg : eqGuard op t xo yo (.string x) (.string y) = pure () := by cases op <;> rfl
    rw [hg]
    cases op <;> simp only [strOp] at h <;> first
      | (cases h; done)
      | (cases h; exact ⟨by simp [binOp, Op.stringOp], rfl⟩)
      | (split at h
         · rename_i h0; cases h
           refine ⟨?_, rfl⟩
           have h1 : ¬ (((x.size + y.size : Nat) : Int) > 9223372036854775807) := by omega
           simp only [binOp, Op.stringOp, IntKind.max_i64, if_neg h1]
           rfl
         · cases h)
  · cases h

theorem bin_yes {op : BinOp} {t ty : TypeId} {x y : Operand} {u : Value} (h : o.op = .binOp op t x y ty) (hu : binV op (a.eval x) (a.eval y) = some u) : Yes P o a w u w :=
  yes_of (by unfold execOp; rw [h]) (bin_run hu x y).1

theorem beq_yes {op : BinOp} {t ty : TypeId} {x y : Operand} {p q : Bool} (h : o.op = .binOp op t x y ty) (ho : op = .eql ∨ op = .neq) (ht : P.underlying t = some .bool) (hx : a.eval x = .bool p) (hy : a.eval y = .bool q) :
    Yes P o a w (.bool (if op = .neq then !(p == q) else p == q)) w := by
  refine yes_of (s := do eqGuard op t x y (.bool p) (.bool q); binOp op t (.bool p) (.bool q)) (by unfold execOp; rw [h]; simp only [hx, hy]) ?_
  have hg : eqGuard op t x y (.bool p) (.bool q) = pure () := by cases op <;> rfl
  rw [hg]
  rcases ho with rfl | rfl
  · simp [binOp, run_equal_bool w t p q ht]
  · simp [binOp, run_equal_bool w t p q ht]

theorem un_not_yes {t : TypeId} {x : Operand} {b : Bool} (h : o.op = .unOp .not t x) (hx : a.eval x = .bool b) : Yes P o a w (.bool (!b)) w :=
  yes_of (s := Op.unary .not (.bool b)) (by unfold execOp; rw [h]; simp only [hx]) rfl
theorem un_neg_yes {t : TypeId} {x : Operand} {k : IntKind} {n : Int} (h : o.op = .unOp .neg t x) (hx : a.eval x = .int k n) : Yes P o a w (.int k (k.wrap (0 - n))) w :=
  yes_of (s := Op.unary .neg (.int k n)) (by unfold execOp; rw [h]; simp only [hx]) rfl
theorem conv_int_yes {t t' : TypeId} {d d' : TypeDesc} {x : Operand} {k k' : IntKind} {n : Int} (h : o.op = .convert t t' x) (hs : P.underlying t = some d) (hd : P.underlying t' = some (.int k')) (hx : a.eval x = .int k n) :
    Yes P o a w (.int k' (k'.wrap n)) w :=
  yes_of (s := convert t t' (.int k n)) (by unfold execOp; rw [h]; simp only [hx]) (by simp [convert, run_underlying hs, run_underlying hd, Conv.intToInt])

theorem len_str_yes {ats : Array TypeId} {x : Operand} {t : TypeId} {st : ByteArray} (h : o.op = .call { callee := .builtin .len, args := #[x], argTypes := #[t] }) (ht : P.underlying t = some .string) (hx : a.eval x = .string st) :
    Yes P o a w (.int .i64 st.size) w := by
  unfold Yes execOp
  rw [h]
  simp [resolve, invoke, builtin, Builtin.len_, hx, run_underlying ht, goInt]
theorem len_sl_yes {x : Operand} {t e : TypeId} {q : Option Addr} {n cap : Nat} (h : o.op = .call { callee := .builtin .len, args := #[x], argTypes := #[t] }) (ht : P.underlying t = some (.slice e)) (hx : a.eval x = .slice q n cap) :
    Yes P o a w (.int .i64 n) w := by
  unfold Yes execOp
  rw [h]
  simp [resolve, invoke, builtin, Builtin.len_, hx, run_underlying ht, goInt]
theorem mm_yes {mx : Bool} {x y : Operand} {ts : Array TypeId} {k k' : IntKind} {n m : Int} (h : o.op = .call { callee := .builtin (if mx then .max else .min), args := #[x, y], argTypes := ts }) (hx : a.eval x = .int k n) (hy : a.eval y = .int k' m) :
    Yes P o a w (.int k (if mx then (if n < m then m else n) else (if m < n then m else n))) w := by
  unfold Yes execOp
  rw [h]
  cases mx <;> simp [resolve, invoke, builtin, Builtin.max_, Builtin.min_, Builtin.max2, Builtin.min2, hx, hy]

/-! '==' of structs -/

def kindB (P : Program) (t : TypeId) : FK → Bool
  | .int => (match P.underlying t with | some (.int _) => true | _ => false)
  | .str => (match P.underlying t with | some .string => true | _ => false)
  | .bool => (match P.underlying t with | some .bool => true | _ => false)
def fieldsB (P : Program) : Nat → List Field → List FK → Bool
  | _, [], [] => true
  | i, f :: fs, k :: ks => f.name != "_" && f.offset == i && kindB P f.type k && fieldsB P (i + 1) fs ks
  | _, _, _ => false
def eqsB (P : Program) (t : TypeId) (ks : List FK) : Bool := (match P.underlying t with | some (.struct fs) => fieldsB P 0 fs.toList ks | _ => false) && !P.stoodInHeld t && !P.eqGuardType P.depth t

theorem part_run {t : TypeId} {k : FK} (h : kindB P t k = true) {cs : Array Value} {off : Nat} {v : Value} (hv : cs[off]? = some v) : (part t cs off).run P w = .ok v w := by
  have : ∃ d, P.underlying t = some d ∧ (match d with | .struct _ => true | .array _ _ => true | _ => false) = false := by
    cases k <;> simp only [kindB] at h <;> split at h <;> first | exact ⟨_, by assumption, rfl⟩ | cases h
  obtain ⟨d, h1, h2⟩ := this
  unfold part isAgg
  rw [Sem.run_bind, Sem.run_bind, run_underlying h1]
  cases d <;> simp [hv] at h2 ⊢

theorem fields_run : ∀ {fs : List Field} {ks : List FK} {i : Nat} {as bs : List V} {xs ys : List Value} {e : Bool}, fieldsB P i fs ks = true → RepVs w B ρ r as xs → RepVs w B ρ r bs ys → eqVs ks as bs = some e → ∀ (px py : List Value), px.length = i → py.length = i →
    (Op.eqFields 9999 (px ++ xs).toArray (py ++ ys).toArray fs).run P w = .ok e w
  | [], ks, i, as, bs, xs, ys, e, hf, ha, hb, he, px, py, hx, hy => by
    cases ks with
    | cons k ks => simp [fieldsB] at hf
    | nil =>
      unfold eqVs at he
      split at he
      · simp only [Option.some.injEq] at he; subst he; simp [Op.eqFields]
      · rename_i h; cases h
      · cases he
  | f :: fs, ks, i, as, bs, xs, ys, e, hf, ha, hb, he, px, py, hx, hy => by
    cases ks with
    | nil => simp [fieldsB] at hf
    | cons k ks =>
      simp only [fieldsB, Bool.and_eq_true, bne_iff_ne, ne_eq, beq_iff_eq] at hf
      obtain ⟨⟨⟨h1, h2⟩, h3⟩, h4⟩ := hf
      cases as with
      | nil => simp [eqVs] at he
      | cons va as => cases bs with
        | nil => simp [eqVs] at he
        | cons vb bs =>
          simp only [eqVs] at he
          obtain ⟨e1, he1, he⟩ := Option.bind_eq_some_iff.1 he
          obtain ⟨e2, he2, he⟩ := Option.map_eq_some_iff.1 he
          simp only [RepVs] at ha hb
          obtain ⟨x, xs', rfl, ha1, ha2⟩ := ha
          obtain ⟨y, ys', rfl, hb1, hb2⟩ := hb
          have ex : (px ++ x :: xs').toArray[f.offset]? = some x := by rw [h2, ← hx]; simp
          have ey : (py ++ y :: ys').toArray[f.offset]? = some y := by rw [h2, ← hy]; simp
          have hk : (Op.equalIn 9999 f.type x y).run P w = .ok e1 w := by
            unfold eqK at he1
            split at he1
            · split at he1
              · rename_i hkk
                subst hkk
                simp only [Option.some.injEq] at he1; subst he1
                rw [(rep_t ha1).1, (rep_t hb1).1]
                simp only [kindB] at h3
                split at h3
                · rename_i hu; exact run_equalIn_int w 9998 f.type _ _ _ _ hu
                · cases h3
              · cases he1
            · simp only [Option.some.injEq] at he1; subst he1
              rw [(rep_t ha1).1, (rep_t hb1).1]
              simp only [kindB] at h3
              split at h3
              · rename_i hu; exact run_equalIn_string w 9998 f.type _ _ hu
              · cases h3
            · simp only [Option.some.injEq] at he1; subst he1
              rw [(rep_t ha1).1, (rep_t hb1).1]
              simp only [kindB] at h3
              split at h3
              · rename_i hu; exact run_equalIn_bool w 9998 f.type _ _ hu
              · cases h3
            · cases he1
          simp only [Op.eqFields]
          rw [if_pos h1]
          simp only [Sem.run_bind, part_run h3 ex, part_run h3 ey, Result.andThen_ok, hk]
          have ih := fields_run h4 ha2 hb2 he2 (px ++ [x]) (py ++ [y]) (by simp [hx]) (by simp [hy])
          cases e1 with
          | false => simp at he; subst he; simp
          | true =>
            simp at he; subst he
            simp only [Bool.not_true, Bool.false_eq_true, if_false]
            simpa using ih

theorem eqs_yes {op : BinOp} {t ty : TypeId} {x y : Operand} {ks : List FK} {as bs : List V} {e : Bool} (h : o.op = .binOp op t x y ty) (ho : op = .eql ∨ op = .neq) (ht : eqsB P t ks = true) (hx : RepV w B ρ r (.agg as) (a.eval x)) (hy : RepV w B ρ r (.agg bs) (a.eval y)) (he : eqVs ks as bs = some e) :
    Yes P o a w (.bool (if op = .neq then !e else e)) w := by
  simp only [RepV] at hx hy
  obtain ⟨xs, ex, hx⟩ := hx
  obtain ⟨ys, ey, hy⟩ := hy
  simp only [eqsB, Bool.and_eq_true, Bool.not_eq_true'] at ht
  obtain ⟨⟨h1, h2⟩, h3⟩ := ht
  split at h1
  · rename_i fs hu
    have hfo : P.fieldsOf t = fs := by unfold Program.fieldsOf; rw [hu]
    have hu' : P.underlying t = some (.struct (P.fieldsOf t)) := by rw [hfo]; exact hu
    have hrun : (Op.equalIn 10000 t (.agg xs) (.agg ys)).run P w = .ok e w := by
      rw [run_equalIn_struct w 9999 t xs ys hu' h2, hfo]
      have := fields_run h1 hx hy he [] [] rfl rfl
      simpa using this
    refine yes_of (s := do eqGuard op t x y (.agg xs) (.agg ys); binOp op t (.agg xs) (.agg ys)) (by unfold execOp; rw [h]; simp only [ex, ey]) ?_
    rw [Sem.run_bind, run_eqGuard_agg w op t x y xs ys h3]
    rcases ho with rfl | rfl
    · simp only [Result.andThen_ok]; rw [run_eql_struct, hrun]; rfl
    · simp only [Result.andThen_ok]; rw [run_neq_struct, hrun]; rfl
  · cases h1

end
end TT
