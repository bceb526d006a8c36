import Derived.Test.YtaeegkjcjlnanaaGreatDoorTH3
set_option maxRecDepth 10000
set_option linter.unusedVariables false
set_option linter.defProp false
namespace TT
open Go
def S0 (FT : Env) := And.intro (@uf FT) <| And.intro (@A0T FT) <| And.intro (@yR FT) <| And.intro (@yS FT) <| And.intro (@yT FT) <| And.intro (@A16 FT) <| And.intro (@ug FT) <| And.intro (@uh FT) <| And.intro (@qy FT) <| And.intro (@yU FT) <| And.intro (@ui FT) <| And.intro (@uj FT) <| And.intro (@xZ FT) <| And.intro (@A0U FT) <| And.intro (@uk FT) <| And.intro (@A0V FT) <| And.intro (@A0W FT) <| And.intro (@A0X FT) <| And.intro (@A0Y FT) <| And.intro (@yK FT) <| And.intro (@A0I FT) <| And.intro (@A0J FT) <| And.intro (@A0Q FT) <| And.intro (@A0K FT) <| And.intro (@A0L FT) <| And.intro (@A0M FT) <| And.intro (@yL FT) <| And.intro (@A0N FT) <| And.intro (@A0O FT) <| And.intro (@A0P FT) <| And.intro (@yM FT) <| And.intro (@yN FT) <| And.intro (@uZ FT) <| And.intro (@qk FT) <| And.intro (@oE FT) <| And.intro (@yQ FT) <| And.intro (@qp FT) <| And.intro (@qr FT) <| And.intro (@A0S FT) <| And.intro (@uc FT) <| And.intro (@eN FT) <| And.intro (@qu FT) <| And.intro (@qv FT) <| And.intro (@ue FT) <| And.intro (@ud FT) <| And.intro (@eO FT) <| And.intro (@qx FT) <| And.intro (@oG FT) <| And.intro (@ub FT) <| And.intro (@eL FT) <| And.intro (@eM FT) <| And.intro (@A0m FT) <| (@A0n FT)
def S1 := And.intro (@ym) <| And.intro (@rA) <| And.intro (@vF) <| And.intro (@vG) <| And.intro (@oH) <| And.intro (@vH) <| And.intro (@oI) <| And.intro (@vL) <| And.intro (@rD) <| And.intro (@vM) <| And.intro (@rE) <| And.intro (@yp) <| And.intro (@yq) <| And.intro (@A0f) <| And.intro (@vt) <| And.intro (@rj) <| And.intro (@ri) <| And.intro (@rl) <| And.intro (@oN) <| And.intro (@vQ) <| And.intro (@rH) <| And.intro (@rF) <| And.intro (@vP) <| And.intro (@vN) <| And.intro (@rJ) <| And.intro (@yu) <| And.intro (@vR) <| And.intro (@rM) <| And.intro (@vS) <| And.intro (@yx) <| And.intro (@yy) <| And.intro (@vT) <| And.intro (@rN) <| And.intro (@yz) <| And.intro (@z6) <| And.intro (@vV) <| And.intro (@vW) <| And.intro (@vX) <| And.intro (@vY) <| And.intro (@rO) <| And.intro (@z7) <| And.intro (@z8) <| And.intro (@vZ) <| And.intro (@vc) <| And.intro (@rQ) <| And.intro (@rR) <| And.intro (@li) <| And.intro (@lj) <| And.intro (@vf) <| And.intro (@rT) <| And.intro (@vg) <| And.intro (@zB) <| And.intro (@vh) <| And.intro (@vi) <| And.intro (@zD) <| And.intro (@vj) <| And.intro (@zE) <| And.intro (@zF) <| And.intro (@rU) <| And.intro (@vl) <| And.intro (@A0i) <| And.intro (@zG) <| And.intro (@rV) <| And.intro (@vm) <| And.intro (@rW) <| And.intro (@rX) <| And.intro (@zH) <| And.intro (@zI) <| And.intro (@vo) <| And.intro (@rb) <| And.intro (@oJ) <| And.intro (@rc) <| And.intro (@re) <| And.intro (@rf) <| And.intro (@rg) <| And.intro (@vp) <| And.intro (@vq) <| And.intro (@zM) <| And.intro (@zN) <| And.intro (@rn) <| And.intro (@ro) <| And.intro (@rp) <| And.intro (@vu) <| And.intro (@A0k) <| And.intro (@A0l) <| And.intro (@zO) <| And.intro (@rq) <| And.intro (@vw) <| And.intro (@vy) <| And.intro (@uv) <| And.intro (@yY) <| And.intro (@uw) <| And.intro (@lY) <| And.intro (@uy) <| And.intro (@uz) <| And.intro (@lZ) <| And.intro (@la) <| And.intro (@lg) <| And.intro (@jP) <| And.intro (@jQ) <| And.intro (@jR) <| And.intro (@jS) <| And.intro (@jT) <| And.intro (@jU) <| And.intro (@jV) <| And.intro (@jW) <| And.intro (@jX) <| And.intro (@v8) <| And.intro (@vA) <| And.intro (@vB) <| And.intro (@vC) <| And.intro (@jY) <| And.intro (@vD) <| And.intro (@yZ) <| And.intro (@ya) <| And.intro (@yb) <| And.intro (@yc) <| And.intro (@yd) <| And.intro (@ye) <| And.intro (@vE) <| And.intro (@yf) <| And.intro (@yg) <| And.intro (@yh) <| And.intro (@yi) <| And.intro (@yj) <| And.intro (@yl) <| And.intro (@rr) <| And.intro (@vz) <| And.intro (@rt) <| And.intro (@w7) <| And.intro (@ST) <| And.intro (@oP) <| And.intro (@ru) <| And.intro (@A0o) <| And.intro (@A0p) <| And.intro (@ll) <| And.intro (@oQ) <| And.intro (@oR) <| And.intro (@rz) <| And.intro (@oS) <| And.intro (@oT) <| And.intro (@s0) <| And.intro (@s7) <| And.intro (@s9) <| And.intro (@w8) <| And.intro (@w9) <| And.intro (@wA) <| And.intro (@wB) <| And.intro (@lm) <| And.intro (@jZ) <| And.intro (@lq) <| And.intro (@lr) <| And.intro (@ja) <| And.intro (@lt) <| And.intro (@wC) <| And.intro (@oU) <| And.intro (@sA) <| And.intro (@lu) <| And.intro (@lw) <| And.intro (@jb) <| And.intro (@jc) <| And.intro (@oV) <| And.intro (@jd) <| And.intro (@je) <| And.intro (@jf) <| And.intro (@zQ) <| And.intro (@take_nil) <| And.intro (@sB) <| And.intro (@oW) <| And.intro (@sD) <| And.intro (@ly) <| And.intro (@oX) <| And.intro (@lz) <| And.intro (@fV) <| And.intro (@cA) <| And.intro (@sE) <| And.intro (@m9) <| And.intro (@mA) <| And.intro (@oY) <| And.intro (@mB) <| And.intro (@mC) <| And.intro (@sG) <| And.intro (@sH) <| And.intro (@mD) <| And.intro (@mE) <| And.intro (@mF) <| And.intro (@mG) <| And.intro (@zR) <| And.intro (@fX) <| And.intro (@cC) <| And.intro (@fY) <| And.intro (@fZ) <| And.intro (@fb) <| And.intro (@cE) <| And.intro (@fc) <| And.intro (@fe) <| And.intro (@ff) <| And.intro (@oZ) <| And.intro (@cF) <| And.intro (@oa) <| And.intro (@fg) <| And.intro (@mH) <| And.intro (@sK) <| And.intro (@mI) <| And.intro (@wD) <| And.intro (@wE) <| And.intro (@oc) <| And.intro (@mJ) <| And.intro (@fh) <| And.intro (@mK) <| And.intro (@mL) <| And.intro (@jg) <| And.intro (@od) <| And.intro (@jh) <| And.intro (@ji) <| And.intro (@jj) <| And.intro (@fi) <| And.intro (@cH) <| And.intro (@sL) <| And.intro (@mM) <| And.intro (@mN) <| And.intro (@mO) <| And.intro (@jk) <| And.intro (@fj) <| And.intro (@jl) <| And.intro (@fk) <| And.intro (@sM) <| And.intro (@sN) <| And.intro (@fl) <| And.intro (@sO) <| And.intro (@fm) <| And.intro (@jO) <| And.intro (@ql) <| And.intro (@qm) <| And.intro (@qn) <| And.intro (@qo) <| And.intro (@yP) <| And.intro (@wF) <| And.intro (@zS) <| And.intro (@wG) <| And.intro (@zT) <| And.intro (@rC) <| And.intro (@sP) <| And.intro (@vK) <| And.intro (@sQ) <| And.intro (@wH) <| And.intro (@sR) <| And.intro (@A0q) <| And.intro (@wI) <| And.intro (@wJ) <| And.intro (@wK) <| And.intro (@zU) <| And.intro (@wL) <| And.intro (@wM) <| And.intro (@mP) <| And.intro (@mQ) <| And.intro (@sS) <| And.intro (@oe) <| And.intro (@og) <| And.intro (@sT) <| And.intro (@sU) <| And.intro (@sV) <| And.intro (@zW) <| And.intro (@wN) <| And.intro (@zX) <| And.intro (@wO) <| And.intro (@zY) <| And.intro (@oh) <| And.intro (@sW) <| And.intro (@sX) <| And.intro (@sY) <| And.intro (@oi) <| And.intro (@ol) <| And.intro (@om) <| And.intro (@oq) <| And.intro (@za) <| And.intro (@zb) <| And.intro (@zd) <| And.intro (@ze) <| And.intro (@sZ) <| And.intro (@ot) <| And.intro (@wP) <| And.intro (@oy) <| And.intro (@oz) <| And.intro (@mR) <| And.intro (@jm) <| And.intro (@sa) <| And.intro (@Qy) <| And.intro (@U3) <| And.intro (@U4) <| And.intro (@U5) <| And.intro (@Q3) <| And.intro (@Qz) <| And.intro (@U6) <| And.intro (@U7) <| And.intro (@U8) <| And.intro (@Q4) <| And.intro (@zf) <| And.intro (@A0r) <| And.intro (@wQ) <| And.intro (@sd) <| And.intro (@zl) <| And.intro (@zm) <| And.intro (@se) <| And.intro (@sf) <| And.intro (@zn) <| And.intro (@si) <| And.intro (@zg) <| And.intro (@zh) <| And.intro (@zi) <| And.intro (@zj) <| (@zk)
def S2 := And.intro (@jN.eq_1) <| And.intro (@jN.eq_2) <| And.intro (@clS.eq_1) <| And.intro (@clS.eq_2) <| And.intro (@clR.eq_1) <| And.intro (@clR.eq_2) <| And.intro (@K0.eq_1) <| And.intro (@NT.eq_1) <| And.intro (@V.mentions.eq_1) <| And.intro (@V.mentions.eq_2) <| And.intro (@V.mentions.eq_3) <| And.intro (@V.mentions.eq_4) <| And.intro (@V.mentions.eq_5) <| And.intro (@V.mentions.eq_6) <| And.intro (@V.mentions.eq_7) <| And.intro (@V.mentions.eq_8) <| And.intro (@I6.eq_1) <| And.intro (@I6.eq_2) <| And.intro (@V.isDead.eq_1) <| And.intro (@zo) <| And.intro (@sj) <| And.intro (@sk) <| And.intro (@sm) <| And.intro (@sn) <| And.intro (@sq) <| And.intro (@wR) <| And.intro (@wS) <| And.intro (@DK.calm.eq_1) <| And.intro (@DK.calm.eq_2) <| And.intro (@AK.eq_1) <| And.intro (@Bc.eq_1) <| And.intro (@M.run.eq_1) <| And.intro (@M.run.eq_2) <| And.intro (@M.run.eq_3) <| And.intro (@M.run.eq_4) <| And.intro (@M.run.eq_5) <| And.intro (@M.run.eq_6) <| And.intro (@M.runA.eq_1) <| And.intro (@M.runA.eq_2) <| And.intro (@M.runA.eq_3) <| And.intro (@M.runA.eq_4) <| And.intro (@M.runA.eq_5) <| And.intro (@M.runA.eq_6) <| And.intro (@bld.eq_1) <| And.intro (@bld.eq_2) <| And.intro (@no.eq_1) <| And.intro (@no.eq_2) <| And.intro (@zV.eq_1) <| And.intro (@zV.eq_2) <| And.intro (@A0e.eq_1) <| And.intro (@xa.eq_1) <| And.intro (@oK.eq_1) <| And.intro (@Lr.eq_1) <| And.intro (@Lr.eq_2) <| And.intro (@Su.eq_1) <| And.intro (@Su.eq_2) <| And.intro (@Su.eq_3) <| And.intro (@Su.eq_4) <| And.intro (@Su.eq_5) <| And.intro (@Su.eq_6) <| And.intro (@Z7.eq_1) <| And.intro (@Z7.eq_2) <| And.intro (@fin.eq_1) <| And.intro (@bq.eq_1) <| And.intro (@bq.eq_2) <| And.intro (@Z8.eq_1) <| And.intro (@Z8.eq_2) <| And.intro (@Z8.eq_3) <| And.intro (@dh.eq_1) <| And.intro (@dh.eq_2) <| And.intro (@iY.eq_1) <| And.intro (@iY.eq_2) <| And.intro (@np.eq_1) <| And.intro (@np.eq_2) <| And.intro (@MP.eq_1) <| And.intro (@ZA.eq_1) <| And.intro (@Z9.eq_1) <| And.intro (@Z9.eq_2) <| And.intro (@AV.eq_1) <| And.intro (@AV.eq_2) <| And.intro (@GB.eq_1) <| And.intro (@GB.eq_2) <| And.intro (@frz.eq_1) <| And.intro (@frz.eq_2) <| And.intro (@frz.eq_3) <| And.intro (@allOwn.eq_1) <| And.intro (@allOwn.eq_2) <| And.intro (@allOwn.eq_3) <| And.intro (@DQ.eq_1) <| And.intro (@DQ.eq_2) <| And.intro (@BB.eq_1) <| And.intro (@BB.eq_2) <| And.intro (@RV.allOwn.eq_1) <| And.intro (@RV.allOwn.eq_2) <| And.intro (@RV.allOwn.eq_3) <| And.intro (@Ai.eq_1) <| And.intro (@Ai.eq_2) <| And.intro (@Ai.eq_3) <| And.intro (@Ai.eq_4) <| And.intro (@Bx.eq_1) <| And.intro (@Bx.eq_2) <| And.intro (@PA.reads.eq_1) <| And.intro (@PA.reads.eq_2) <| And.intro (@PA.reads.eq_3) <| And.intro (@V.isOwned.eq_1) <| And.intro (@V.isOwned.eq_2) <| And.intro (@V.isOwned.eq_3) <| And.intro (@PA.arg.eq_1) <| And.intro (@PA.arg.eq_2) <| And.intro (@Vz.eq_1) <| And.intro (@Vz.eq_2) <| And.intro (@wT) <| And.intro (@wU) <| And.intro (@ss) <| And.intro (@C6.eq_1) <| And.intro (@mS) <| And.intro (@Option.bind_some.{0, 0}) <| And.intro (@Option.bind_none.{0, 0}) <| And.intro (@Option.map_some.{0, 0}) <| And.intro (@Option.map_none.{0, 0}) <| And.intro (@Option.getD_some.{0}) <| And.intro (@Option.getD_none.{0}) <| And.intro (@Option.bind_assoc.{0, 0, 0}) <| And.intro (@List.map_cons.{0, 0}) <| And.intro (@List.map_nil.{0, 0}) <| And.intro (@List.cons_append.{0}) <| And.intro (@List.nil_append.{0}) <| And.intro (@List.append_nil.{0}) <| And.intro (@List.length_cons.{0}) <| And.intro (@List.length_nil.{0}) <| And.intro (@List.length_map.{0, 0}) <| And.intro (@List.length_append.{0}) <| And.intro (@List.length_replicate.{0}) <| And.intro (@List.take_succ_cons.{0}) <| And.intro (@List.take_zero.{0}) <| And.intro (@List.take_nil.{0}) <| And.intro (@List.drop_succ_cons.{0}) <| And.intro (@List.drop_zero.{0}) <| And.intro (@List.drop_nil.{0}) <| And.intro (@List.replicate_succ.{0}) <| And.intro (@List.replicate_zero.{0}) <| And.intro (@List.all_cons.{0}) <| And.intro (@List.all_nil.{0}) <| And.intro (@List.any_cons.{0}) <| And.intro (@List.any_nil.{0}) <| And.intro (@List.isEmpty_nil.{0}) <| And.intro (@List.isEmpty_cons.{0}) <| And.intro (@List.flatMap_cons.{0, 0}) <| And.intro (@List.flatMap_nil.{0, 0}) <| And.intro (@List.contains_cons.{0}) <| And.intro (@List.contains_nil.{0}) <| And.intro (@List.all_append.{0}) <| And.intro (@Bool.true_and) <| And.intro (@Bool.and_true) <| And.intro (@Bool.false_and) <| And.intro (@Bool.and_false) <| And.intro (@Bool.or_false) <| And.intro (@Bool.false_or) <| And.intro (@Bool.or_true) <| And.intro (@Bool.true_or) <| And.intro (@Bool.not_true) <| And.intro (@Bool.not_false) <| And.intro (@Bool.false_eq_true) <| And.intro (@decide_true) <| And.intro (@decide_false) <| And.intro (@eq_self.{0}) <| And.intro (@true_and) <| And.intro (@and_true) <| And.intro (@false_and) <| And.intro (@and_false) <| And.intro (@Nat.zero_add) <| And.intro (@Nat.add_zero) <| And.intro (@beq_self_eq_true.{0}) <| And.intro (@Bool.and_self) <| And.intro (@not_true_eq_false) <| (@not_false_eq_true)
def SS (FT : Env) := And.intro (S0 FT) (And.intro S1 S2)
end TT
namespace TT
open Go
def BZ : List V → List (Nat × V) → List V
 | s, [] => s
 | s, q :: l => BZ (s.set q.1 q.2) l
def Ba : R → List (Nat × List DK) → R
 | s, [] => s
 | s, q :: l => Ba (s.set q.1 q.2) l
theorem nX {ρ : Type} {x : Option ρ} {e : ρ → Am} {y y' : Option Am} (h : Ok x e y') (he : y = y') : Ok x e y := fun r hr => he.trans (h r hr)
theorem BP {β ρ : Type} {g : Option β} {f : β → Option ρ} {e : ρ → Am} {e' : β → Am} {Y Y' : Option Am} {k : Am → Option Am} (hg : Ok g e' Y) (hy : Y' = Y) (h : ∀ v, Ok (f v) e (k (e' v))) : Ok (g >>= f) e (Y'.bind k) := by
 subst hy; exact DG hg h
theorem zp {α ρ : Type} {l : List α} {i : Int} {f : α → Option ρ} {e : ρ → Am} {y : Option Am} (h : ∀ a, 0 ≤ i ∧ getI l i = some a ∧ l[i.toNat]? = some a ∧ i.toNat < l.length → Ok (f a) e y) : Ok (getI l i >>= f) e y := EB fun a ha => by
 have h0 : 0 ≤ i := by
  unfold getI at ha
  by_cases hi : 0 ≤ i
  ·exact hi
  ·rw [if_neg hi] at ha; cases ha
 have h1 : l[i.toNat]? = some a := by rw [← V0 h0]; exact ha
 exact h a ⟨h0, ha, h1, (List.getElem?_eq_some_iff.1 h1).1⟩
theorem su (s : List V) : BZ s [] = s := rfl
theorem p5 (s : List V) (i : Nat) (v : V) (l : List (Nat × V)) : BZ s ((i, v) :: l) = BZ (s.set i v) l := rfl
theorem sy (s : R) : Ba s [] = s := rfl
theorem p6 (s : R) (i : Nat) (v : List DK) (l : List (Nat × List DK)) : Ba s ((i, v) :: l) = Ba (s.set i v) l := rfl
theorem t6 (rows : Rows) (i c : Nat) (t : T) : Er rows i c t = match rows[i]? with | some row => rows.set i (row.set c t) | none => rows := rfl
theorem A3 {α β : Type} (a : α) (f : α → Option β) : (some a >>= f) = f a := rfl
theorem A0s (x : Int) : rI x = [.v (.int .i64 x)] := rfl
theorem A0t (k : IntKind) (x : Int) : rK k x = [.v (.int k x)] := rfl
theorem A0u (x : ByteArray) : rS x = [.v (.string x)] := rfl
theorem A0v (x : Bool) : rB x = [.v (.bool x)] := rfl
theorem A0w {α : Type} (o : Bool) (f : α → List T) (l : List α) : rL o f l = [.sl o (l.map f)] := rfl
def xk {α β : Type} (l : List α) (l' : List β) : Option Unit := if l.length = l'.length then some () else none
theorem Mm {α : Type} (f : α → List T) (n : Nat) (h : ∀ x, (f x).length = n) (l l' : List α) : ((l.map f).map (·.length) = (l'.map f).map (·.length)) = ((if l.length = l'.length then some () else none) = some ()) := by
 have e : ∀ l : List α, (l.map f).map (·.length) = List.replicate l.length n := by
  intro l
  induction l with
  | nil => rfl
  | cons x l ih => simp only [List.map_cons, ih, h, List.length_cons, List.replicate_succ]
 rw [e, e]
 apply propext
 constructor
 ·intro hh
  have := congrArg List.length hh
  simp only [List.length_replicate] at this
  rw [if_pos this]
 ·intro hh
  split at hh
  ·rename_i h1; rw [h1]
  ·cases hh
theorem zq (l l' : List Int) : ((l.map rI).map (·.length) = (l'.map rI).map (·.length)) = ((if l.length = l'.length then some () else none) = some ()) := Mm rI 1 (fun _ => rfl) l l'
theorem zr (l l' : List ByteArray) : ((l.map rS).map (·.length) = (l'.map rS).map (·.length)) = ((if l.length = l'.length then some () else none) = some ()) := Mm rS 1 (fun _ => rfl) l l'
theorem zt {α : Type} (o : Bool) (f : α → List T) (l l' : List (List α)) : ((l.map (rL o f)).map (·.length) = (l'.map (rL o f)).map (·.length)) = ((if l.length = l'.length then some () else none) = some ()) := Mm (rL o f) 1 (fun _ => rfl) l l'
theorem wV {α β ρ : Type} {l : List α} {l' : List β} {f : Unit → Option ρ} {e : ρ → Am} {y : Option Am} (h : l.length = l'.length → Ok (f ()) e y) : Ok (xk l l' >>= f) e y := EB fun a ha => by
 unfold xk at ha
 split at ha
 ·rename_i h1; cases ha; exact h h1
 ·cases ha
theorem jn (rows : Rows) (stt : Nat) (q : Nat × Nat) (p : Path) (i n st : Nat) : Cq rows stt (q :: p) i n st = if st = stt then (BY rows (q :: p)).bind (·[i]?) else none := rfl
theorem t7 (rows : Rows) : BY rows [] = some rows := rfl
def t8 (p : Path) : Option T → Option Rows
 | some (.sl true rows) => BY rows p
 | _ => none
theorem mT (p : Path) (rows : Rows) : t8 p (some (.sl true rows)) = BY rows p := rfl
theorem p7 (rows : Rows) (i c : Nat) (p : Path) : BY rows ((i, c) :: p) = t8 p (rows[i]?.bind (·[c]?)) := by
 simp only [BY, t8]; cases rows[i]?.bind (·[c]?) with
 | none => rfl
 | some t => cases t <;> try rfl
theorem tA (rows : Rows) (p : Path) (i c : Nat) : BD rows p i c = (BY rows p).bind fun rs => rs[i]?.bind (·[c]?) := rfl
def tB (rows : Rows) (i0 c0 : Nat) (p : Path) (i c : Nat) (t : T) : Option T → Rows
 | some (.sl true rows') => Er rows i0 c0 (.sl true (An rows' p i c t))
 | _ => rows
theorem mU (rows : Rows) (i0 c0 : Nat) (p : Path) (i c : Nat) (t : T) (rows' : Rows) : tB rows i0 c0 p i c t (some (.sl true rows')) = Er rows i0 c0 (.sl true (An rows' p i c t)) := rfl
theorem p8 (rows : Rows) (i0 c0 : Nat) (p : Path) (i c : Nat) (t : T) : An rows ((i0, c0) :: p) i c t = tB rows i0 c0 p i c t (rows[i0]?.bind (·[c0]?)) := by
 simp only [An, tB]; cases rows[i0]?.bind (·[c0]?) with
 | none => rfl
 | some t => cases t <;> try rfl
theorem cJ {α : Type} (l : List α) (i : Int) (x : α) : getI (l.set i.toNat x) i = if 0 ≤ i then (if i.toNat < l.length then some x else none) else none := by
 unfold getI
 split
 ·simp [List.getElem?_set]
 ·rfl
def A0x (sz : Nat) (id : Id) (p : Path) (n : Int) (m st : Nat) : T → M V
 | .sl true rs => iaS sz id p n m st rs
 | _ => .fail
theorem wW (sz : Nat) (id : Id) (p : Path) (n : Int) (m st : Nat) (rs : Rows) : A0x sz id p n m st (.sl true rs) = iaS sz id p n m st rs := rfl
theorem wX (sz : Nat) (id : Id) (p : Path) (j c : Nat) (n : Int) (m st : Nat) (rows : Rows) (stt : Nat) (fx : Bool) : iaC sz id p j c n m st (.mem rows stt fx) = if st = stt then C3 (BD rows p j c) (A0x sz id (p ++ [(j, c)]) n m st) else .fail := by
 simp only [iaC]; split
 ·cases BD rows p j c with
  | none => rfl
  | some t => cases t <;> try rfl
 ·rfl
theorem Qg {α : Type} (f : α → List T) (l : List α) (i : Nat) (x : α) (r : List T) (h : f x = r) : (l.map f).set i r = (l.set i x).map f := by rw [← h, List.map_set]
theorem R0 {α : Type} (f : α → List T) (l : List α) (x : α) (r : List T) (rs : Rows) (h : f x = r) : l.map f ++ (r :: rs) = (l ++ [x]).map f ++ rs := by rw [← h]; simp
theorem wY (l : List Int) (i : Nat) (x : Int) : (l.map rI).set i [.v (.int .i64 x)] = (l.set i x).map rI := Qg rI l i x _ rfl
theorem wZ (k : IntKind) (l : List Int) (i : Nat) (x : Int) : (l.map (rK k)).set i [.v (.int k x)] = (l.set i x).map (rK k) := Qg (rK k) l i x _ rfl
theorem wa (l : List ByteArray) (i : Nat) (x : ByteArray) : (l.map rS).set i [.v (.string x)] = (l.set i x).map rS := Qg rS l i x _ rfl
theorem wb (l : List Bool) (i : Nat) (x : Bool) : (l.map rB).set i [.v (.bool x)] = (l.set i x).map rB := Qg rB l i x _ rfl
theorem wc {α : Type} (o : Bool) (f : α → List T) (l : List (List α)) (i : Nat) (x : List α) : (l.map (rL o f)).set i [.sl o (x.map f)] = (l.set i x).map (rL o f) := Qg (rL o f) l i x _ rfl
theorem tC {α : Type} (o : Bool) (f : α → List T) (l : List (List α)) (i : Nat) : (l.map (rL o f)).set i [.sl o []] = (l.set i []).map (rL o f) := Qg (rL o f) l i [] _ rfl
theorem we (l : List Int) (x : Int) (rs : Rows) : l.map rI ++ ([.v (.int .i64 x)] :: rs) = (l ++ [x]).map rI ++ rs := R0 rI l x _ rs rfl
theorem wg (k : IntKind) (l : List Int) (x : Int) (rs : Rows) : l.map (rK k) ++ ([.v (.int k x)] :: rs) = (l ++ [x]).map (rK k) ++ rs := R0 (rK k) l x _ rs rfl
theorem wh (l : List ByteArray) (x : ByteArray) (rs : Rows) : l.map rS ++ ([.v (.string x)] :: rs) = (l ++ [x]).map rS ++ rs := R0 rS l x _ rs rfl
theorem wi (l : List Bool) (x : Bool) (rs : Rows) : l.map rB ++ ([.v (.bool x)] :: rs) = (l ++ [x]).map rB ++ rs := R0 rB l x _ rs rfl
theorem wj {α : Type} (o : Bool) (f : α → List T) (l : List (List α)) (x : List α) (rs : Rows) : l.map (rL o f) ++ ([.sl o (x.map f)] :: rs) = (l ++ [x]).map (rL o f) ++ rs := R0 (rL o f) l x _ rs rfl
theorem tD {α : Type} (o : Bool) (f : α → List T) (l : List (List α)) (rs : Rows) : l.map (rL o f) ++ ([.sl o []] :: rs) = (l ++ [[]]).map (rL o f) ++ rs := R0 (rL o f) l [] _ rs rfl
theorem tE {α : Type} (f : α → List T) (l l' : List α) : l.map f ++ l'.map f = (l ++ l').map f := by simp
theorem U9 {α : Type} (f : α → List T) (n : Nat) (x : α) (r : List T) (h : f x = r) : List.replicate n r = (List.replicate n x).map f := by rw [← h, List.map_replicate]
theorem wk (n : Nat) (x : Int) : List.replicate n [T.v (.int .i64 x)] = (List.replicate n x).map rI := U9 rI n x _ rfl
theorem wl (n : Nat) (x : ByteArray) : List.replicate n [T.v (.string x)] = (List.replicate n x).map rS := U9 rS n x _ rfl
theorem wm (n : Nat) (x : Bool) : List.replicate n [T.v (.bool x)] = (List.replicate n x).map rB := U9 rB n x _ rfl
theorem tF (n : Nat) (o : Bool) : List.replicate n [T.sl o []] = (List.replicate n []).map (rL o rI) := U9 (rL o rI) n [] _ rfl
def S3 := And.intro wk <| And.intro wl <| And.intro wm <| And.intro tF <| And.intro wY <| And.intro wZ <| And.intro wa <| And.intro wb <| And.intro (@wc) <| And.intro (@tC) <| And.intro we <| And.intro wg <| And.intro wh <| And.intro wi <| And.intro (@wj) <| And.intro (@tD) <| And.intro (@tE) <| And.intro (@cJ) <| And.intro wW <| And.intro wX <| And.intro jn <| And.intro t7 <| And.intro mT <| And.intro p7 <| And.intro tA <| And.intro mU <| And.intro p8 <| And.intro zq <| And.intro zr <| And.intro (@zt) <| And.intro (@A3) <| And.intro A0s <| And.intro A0t <| And.intro A0u <| And.intro A0v <| And.intro (@A0w) <| And.intro t6 <| And.intro (@List.set_set.{0}) <| And.intro su <| And.intro p5 <| And.intro sy <| And.intro p6 <| And.intro (@List.getElem?_map.{0, 0}) <| And.intro (@List.getElem?_set.{0}) <| (@List.length_set.{0})
end TT
