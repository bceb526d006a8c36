import Derived.Test.YtaeegkjcjlnanaaGreatDoorTH3
set_option maxRecDepth 10000
set_option linter.unusedVariables false
set_option linter.defProp false
namespace TT
open Go
def S0 (FT : Env) := And.intro (@tB FT) <| And.intro (@zC FT) <| And.intro (@wk FT) <| And.intro (@wl FT) <| And.intro (@wm FT) <| And.intro (@A00 FT) <| And.intro (@tC FT) <| And.intro (@tD FT) <| And.intro (@pX FT) <| And.intro (@wn FT) <| And.intro (@tE FT) <| And.intro (@tF FT) <| And.intro (@vy FT) <| And.intro (@zD FT) <| And.intro (@tG FT) <| And.intro (@zE FT) <| And.intro (@zF FT) <| And.intro (@zG FT) <| And.intro (@zH FT) <| And.intro (@wb FT) <| And.intro (@yu FT) <| And.intro (@yv FT) <| And.intro (@z8 FT) <| And.intro (@yw FT) <| And.intro (@yx FT) <| And.intro (@yy FT) <| And.intro (@wc FT) <| And.intro (@yz FT) <| And.intro (@z6 FT) <| And.intro (@z7 FT) <| And.intro (@we FT) <| And.intro (@wg FT) <| And.intro (@sw FT) <| And.intro (@pL FT) <| And.intro (@mc FT) <| And.intro (@wj FT) <| And.intro (@pQ FT) <| And.intro (@pR FT) <| And.intro (@zB FT) <| And.intro (@t7 FT) <| And.intro (@cU FT) <| And.intro (@pT FT) <| And.intro (@pU FT) <| And.intro (@tA FT) <| And.intro (@t8 FT) <| And.intro (@cV FT) <| And.intro (@pW FT) <| And.intro (@mf FT) <| And.intro (@t6 FT) <| And.intro (@cS FT) <| And.intro (@cT FT) <| And.intro (@zW FT) <| (@zX FT)
def S1 := And.intro (@xJ) <| And.intro (@pZ) <| And.intro (@tY) <| And.intro (@tZ) <| And.intro (@mg) <| And.intro (@ta) <| And.intro (@mh) <| And.intro (@te) <| And.intro (@pd) <| And.intro (@tf) <| And.intro (@pe) <| And.intro (@xK) <| And.intro (@xL) <| And.intro (@zO) <| And.intro (@uP) <| And.intro (@qE) <| And.intro (@qD) <| And.intro (@qF) <| And.intro (@ml) <| And.intro (@tl) <| And.intro (@pg) <| And.intro (@pf) <| And.intro (@tk) <| And.intro (@tg) <| And.intro (@ph) <| And.intro (@xP) <| And.intro (@tn) <| And.intro (@pi) <| And.intro (@tq) <| And.intro (@xS) <| And.intro (@xT) <| And.intro (@tr) <| And.intro (@pj) <| And.intro (@xU) <| And.intro (@xV) <| And.intro (@tu) <| And.intro (@tw) <| And.intro (@tz) <| And.intro (@u9) <| And.intro (@pk) <| And.intro (@xW) <| And.intro (@xX) <| And.intro (@uA) <| And.intro (@uB) <| And.intro (@pm) <| And.intro (@pn) <| And.intro (@kB) <| And.intro (@kC) <| And.intro (@uD) <| And.intro (@po) <| And.intro (@uE) <| And.intro (@xZ) <| And.intro (@uF) <| And.intro (@uG) <| And.intro (@xc) <| And.intro (@uH) <| And.intro (@xe) <| And.intro (@xf) <| And.intro (@pq) <| And.intro (@uI) <| And.intro (@zR) <| And.intro (@xg) <| And.intro (@pr) <| And.intro (@uJ) <| And.intro (@pt) <| And.intro (@pu) <| And.intro (@xj) <| And.intro (@xk) <| And.intro (@uL) <| And.intro (@q7) <| And.intro (@mi) <| And.intro (@q8) <| And.intro (@q9) <| And.intro (@qA) <| And.intro (@qB) <| And.intro (@uM) <| And.intro (@uN) <| And.intro (@xp) <| And.intro (@xq) <| And.intro (@qG) <| And.intro (@qH) <| And.intro (@qI) <| And.intro (@uQ) <| And.intro (@zT) <| And.intro (@zU) <| And.intro (@xr) <| And.intro (@qJ) <| And.intro (@uR) <| And.intro (@uS) <| And.intro (@tN) <| And.intro (@wv) <| And.intro (@tO) <| And.intro (@jy) <| And.intro (@tP) <| And.intro (@tQ) <| And.intro (@jz) <| And.intro (@k8) <| And.intro (@k9) <| And.intro (@gt) <| And.intro (@gu) <| And.intro (@gv) <| And.intro (@gw) <| And.intro (@gy) <| And.intro (@gz) <| And.intro (@hH) <| And.intro (@hJ) <| And.intro (@hQ) <| And.intro (@tR) <| And.intro (@tT) <| And.intro (@tU) <| And.intro (@tV) <| And.intro (@hZ) <| And.intro (@tW) <| And.intro (@ww) <| And.intro (@wy) <| And.intro (@wz) <| And.intro (@xA) <| And.intro (@xB) <| And.intro (@xC) <| And.intro (@tX) <| And.intro (@xD) <| And.intro (@xE) <| And.intro (@xF) <| And.intro (@xG) <| And.intro (@xH) <| And.intro (@xI) <| And.intro (@qK) <| And.intro (@uT) <| And.intro (@qL) <| And.intro (@uU) <| And.intro (@Rh) <| And.intro (@mo) <| And.intro (@qM) <| And.intro (@zY) <| And.intro (@zZ) <| And.intro (@kE) <| And.intro (@mp) <| And.intro (@mq) <| And.intro (@qN) <| And.intro (@mr) <| And.intro (@mt) <| And.intro (@qO) <| And.intro (@qP) <| And.intro (@qQ) <| And.intro (@uV) <| And.intro (@uW) <| And.intro (@uX) <| And.intro (@uY) <| And.intro (@kF) <| And.intro (@i6) <| And.intro (@kG) <| And.intro (@kH) <| And.intro (@i7) <| And.intro (@kI) <| And.intro (@uZ) <| And.intro (@mu) <| And.intro (@qR) <| And.intro (@kJ) <| And.intro (@kK) <| And.intro (@i8) <| And.intro (@iA) <| And.intro (@mw) <| And.intro (@iB) <| And.intro (@iC) <| And.intro (@iD) <| And.intro (@xu) <| And.intro (@take_nil) <| And.intro (@qS) <| And.intro (@my) <| And.intro (@qU) <| And.intro (@kL) <| And.intro (@mz) <| And.intro (@kM) <| And.intro (@dh) <| And.intro (@aW) <| And.intro (@qV) <| And.intro (@kN) <| And.intro (@kO) <| And.intro (@n7) <| And.intro (@kP) <| And.intro (@kQ) <| And.intro (@qX) <| And.intro (@qY) <| And.intro (@kR) <| And.intro (@kS) <| And.intro (@kT) <| And.intro (@kU) <| And.intro (@xv) <| And.intro (@dj) <| And.intro (@aX) <| And.intro (@dk) <| And.intro (@dl) <| And.intro (@dm) <| And.intro (@aY) <| And.intro (@dp) <| And.intro (@dq) <| And.intro (@dt) <| And.intro (@n8) <| And.intro (@aZ) <| And.intro (@n9) <| And.intro (@du) <| And.intro (@kV) <| And.intro (@qb) <| And.intro (@kW) <| And.intro (@ua) <| And.intro (@ub) <| And.intro (@nB) <| And.intro (@kX) <| And.intro (@dv) <| And.intro (@kY) <| And.intro (@kZ) <| And.intro (@iE) <| And.intro (@nC) <| And.intro (@iF) <| And.intro (@iG) <| And.intro (@iH) <| And.intro (@dw) <| And.intro (@ae) <| And.intro (@qc) <| And.intro (@ka) <| And.intro (@kb) <| And.intro (@kc) <| And.intro (@iI) <| And.intro (@dz) <| And.intro (@iJ) <| And.intro (@e9) <| And.intro (@qd) <| And.intro (@qe) <| And.intro (@eA) <| And.intro (@qf) <| And.intro (@eB) <| And.intro (@gq) <| And.intro (@pM) <| And.intro (@pN) <| And.intro (@pO) <| And.intro (@pP) <| And.intro (@wi) <| And.intro (@uc) <| And.intro (@xw) <| And.intro (@ud) <| And.intro (@xx) <| And.intro (@pc) <| And.intro (@qg) <| And.intro (@td) <| And.intro (@qh) <| And.intro (@ue) <| And.intro (@qi) <| And.intro (@za) <| And.intro (@uf) <| And.intro (@ug) <| And.intro (@uh) <| And.intro (@xy) <| And.intro (@ui) <| And.intro (@uj) <| And.intro (@ke) <| And.intro (@kf) <| And.intro (@qj) <| And.intro (@nE) <| And.intro (@nF) <| And.intro (@qk) <| And.intro (@ql) <| And.intro (@qm) <| And.intro (@xz) <| And.intro (@uk) <| And.intro (@y8) <| And.intro (@ul) <| And.intro (@y9) <| And.intro (@nG) <| And.intro (@qn) <| And.intro (@qo) <| And.intro (@qp) <| And.intro (@nH) <| And.intro (@nI) <| And.intro (@nJ) <| And.intro (@nK) <| And.intro (@yB) <| And.intro (@yC) <| And.intro (@yD) <| And.intro (@yE) <| And.intro (@qr) <| And.intro (@nL) <| And.intro (@um) <| And.intro (@nM) <| And.intro (@nN) <| And.intro (@kg) <| And.intro (@iK) <| And.intro (@qt) <| And.intro (@QO) <| And.intro (@TQ) <| And.intro (@TR) <| And.intro (@TS) <| And.intro (@PO) <| And.intro (@QP) <| And.intro (@TU) <| And.intro (@TV) <| And.intro (@TW) <| And.intro (@PP) <| And.intro (@yF) <| And.intro (@zb) <| And.intro (@uo) <| And.intro (@qu) <| And.intro (@yL) <| And.intro (@yM) <| And.intro (@qv) <| And.intro (@qw) <| And.intro (@yN) <| And.intro (@qx) <| And.intro (@yG) <| And.intro (@yH) <| And.intro (@yI) <| And.intro (@yJ) <| (@yK)
def S2 := And.intro (@gp.eq_1) <| And.intro (@gp.eq_2) <| And.intro (@clS.eq_1) <| And.intro (@clS.eq_2) <| And.intro (@clR.eq_1) <| And.intro (@clR.eq_2) <| And.intro (@Jm.eq_1) <| And.intro (@N2.eq_1) <| And.intro (@V.mentions.eq_1) <| And.intro (@V.mentions.eq_2) <| And.intro (@V.mentions.eq_3) <| And.intro (@V.mentions.eq_4) <| And.intro (@V.mentions.eq_5) <| And.intro (@V.mentions.eq_6) <| And.intro (@V.mentions.eq_7) <| And.intro (@V.mentions.eq_8) <| And.intro (@I5.eq_1) <| And.intro (@I5.eq_2) <| And.intro (@V.isDead.eq_1) <| And.intro (@yO) <| And.intro (@qy) <| And.intro (@qz) <| And.intro (@rA) <| And.intro (@rC) <| And.intro (@rD) <| And.intro (@uq) <| And.intro (@ur) <| And.intro (@DH.calm.eq_1) <| And.intro (@DH.calm.eq_2) <| And.intro (@AJ.eq_1) <| And.intro (@Bc.eq_1) <| And.intro (@M.run.eq_1) <| And.intro (@M.run.eq_2) <| And.intro (@M.run.eq_3) <| And.intro (@M.run.eq_4) <| And.intro (@M.run.eq_5) <| And.intro (@M.run.eq_6) <| And.intro (@M.runA.eq_1) <| And.intro (@M.runA.eq_2) <| And.intro (@M.runA.eq_3) <| And.intro (@M.runA.eq_4) <| And.intro (@M.runA.eq_5) <| And.intro (@M.runA.eq_6) <| And.intro (@bld.eq_1) <| And.intro (@bld.eq_2) <| And.intro (@mI.eq_1) <| And.intro (@mI.eq_2) <| And.intro (@zV.eq_1) <| And.intro (@zV.eq_2) <| And.intro (@zN.eq_1) <| And.intro (@vz.eq_1) <| And.intro (@mj.eq_1) <| And.intro (@LR.eq_1) <| And.intro (@LR.eq_2) <| And.intro (@SB.eq_1) <| And.intro (@SB.eq_2) <| And.intro (@SB.eq_3) <| And.intro (@SB.eq_4) <| And.intro (@SB.eq_5) <| And.intro (@SB.eq_6) <| And.intro (@Y0.eq_1) <| And.intro (@Y0.eq_2) <| And.intro (@fin.eq_1) <| And.intro (@aM.eq_1) <| And.intro (@aM.eq_2) <| And.intro (@Y1.eq_1) <| And.intro (@Y1.eq_2) <| And.intro (@Y1.eq_3) <| And.intro (@bo.eq_1) <| And.intro (@bo.eq_2) <| And.intro (@fu.eq_1) <| And.intro (@fu.eq_2) <| And.intro (@mJ.eq_1) <| And.intro (@mJ.eq_2) <| And.intro (@M1.eq_1) <| And.intro (@Y3.eq_1) <| And.intro (@Y2.eq_1) <| And.intro (@Y2.eq_2) <| And.intro (@AX.eq_1) <| And.intro (@AX.eq_2) <| And.intro (@Fz.eq_1) <| And.intro (@Fz.eq_2) <| And.intro (@frz.eq_1) <| And.intro (@frz.eq_2) <| And.intro (@frz.eq_3) <| And.intro (@allOwn.eq_1) <| And.intro (@allOwn.eq_2) <| And.intro (@allOwn.eq_3) <| And.intro (@DO.eq_1) <| And.intro (@DO.eq_2) <| And.intro (@BF.eq_1) <| And.intro (@BF.eq_2) <| And.intro (@RV.allOwn.eq_1) <| And.intro (@RV.allOwn.eq_2) <| And.intro (@RV.allOwn.eq_3) <| And.intro (@Aj.eq_1) <| And.intro (@Aj.eq_2) <| And.intro (@Aj.eq_3) <| And.intro (@Aj.eq_4) <| And.intro (@Bv.eq_1) <| And.intro (@Bv.eq_2) <| And.intro (@PA.reads.eq_1) <| And.intro (@PA.reads.eq_2) <| And.intro (@PA.reads.eq_3) <| And.intro (@V.isOwned.eq_1) <| And.intro (@V.isOwned.eq_2) <| And.intro (@V.isOwned.eq_3) <| And.intro (@PA.arg.eq_1) <| And.intro (@PA.arg.eq_2) <| And.intro (@VB.eq_1) <| And.intro (@VB.eq_2) <| And.intro (@ut) <| And.intro (@uv) <| And.intro (@rE) <| And.intro (@C4.eq_1) <| And.intro (@kh) <| And.intro (@Option.bind_some.{0, 0}) <| And.intro (@Option.bind_none.{0, 0}) <| And.intro (@Option.map_some.{0, 0}) <| And.intro (@Option.map_none.{0, 0}) <| And.intro (@Option.getD_some.{0}) <| And.intro (@Option.getD_none.{0}) <| And.intro (@Option.bind_assoc.{0, 0, 0}) <| And.intro (@List.map_cons.{0, 0}) <| And.intro (@List.map_nil.{0, 0}) <| And.intro (@List.cons_append.{0}) <| And.intro (@List.nil_append.{0}) <| And.intro (@List.append_nil.{0}) <| And.intro (@List.length_cons.{0}) <| And.intro (@List.length_nil.{0}) <| And.intro (@List.length_map.{0, 0}) <| And.intro (@List.length_append.{0}) <| And.intro (@List.length_replicate.{0}) <| And.intro (@List.take_succ_cons.{0}) <| And.intro (@List.take_zero.{0}) <| And.intro (@List.take_nil.{0}) <| And.intro (@List.drop_succ_cons.{0}) <| And.intro (@List.drop_zero.{0}) <| And.intro (@List.drop_nil.{0}) <| And.intro (@List.replicate_succ.{0}) <| And.intro (@List.replicate_zero.{0}) <| And.intro (@List.all_cons.{0}) <| And.intro (@List.all_nil.{0}) <| And.intro (@List.any_cons.{0}) <| And.intro (@List.any_nil.{0}) <| And.intro (@List.isEmpty_nil.{0}) <| And.intro (@List.isEmpty_cons.{0}) <| And.intro (@List.flatMap_cons.{0, 0}) <| And.intro (@List.flatMap_nil.{0, 0}) <| And.intro (@List.contains_cons.{0}) <| And.intro (@List.contains_nil.{0}) <| And.intro (@List.all_append.{0}) <| And.intro (@Bool.true_and) <| And.intro (@Bool.and_true) <| And.intro (@Bool.false_and) <| And.intro (@Bool.and_false) <| And.intro (@Bool.or_false) <| And.intro (@Bool.false_or) <| And.intro (@Bool.or_true) <| And.intro (@Bool.true_or) <| And.intro (@Bool.not_true) <| And.intro (@Bool.not_false) <| And.intro (@Bool.false_eq_true) <| And.intro (@decide_true) <| And.intro (@decide_false) <| And.intro (@eq_self.{0}) <| And.intro (@true_and) <| And.intro (@and_true) <| And.intro (@false_and) <| And.intro (@and_false) <| And.intro (@Nat.zero_add) <| And.intro (@Nat.add_zero) <| And.intro (@beq_self_eq_true.{0}) <| And.intro (@Bool.and_self) <| And.intro (@not_true_eq_false) <| (@not_false_eq_true)
def SS (FT : Env) := And.intro (S0 FT) (And.intro S1 S2)
end TT
namespace TT
open Go
def Bk : List V → List (Nat × V) → List V
 | s, [] => s
 | s, q :: l => Bk (s.set q.1 q.2) l
def Bm : R → List (Nat × List DH) → R
 | s, [] => s
 | s, q :: l => Bm (s.set q.1 q.2) l
theorem lq {ρ : Type} {x : Option ρ} {e : ρ → Ap} {y y' : Option Ap} (h : Ok x e y') (he : y = y') : Ok x e y := fun r hr => he.trans (h r hr)
theorem CB {β ρ : Type} {g : Option β} {f : β → Option ρ} {e : ρ → Ap} {e' : β → Ap} {Y Y' : Option Ap} {k : Ap → Option Ap} (hg : Ok g e' Y) (hy : Y' = Y) (h : ∀ v, Ok (f v) e (k (e' v))) : Ok (g >>= f) e (Y'.bind k) := by
 subst hy; exact CD hg h
theorem yP {α ρ : Type} {l : List α} {i : Int} {f : α → Option ρ} {e : ρ → Ap} {y : Option Ap} (h : ∀ a, 0 ≤ i ∧ getI l i = some a ∧ l[i.toNat]? = some a ∧ i.toNat < l.length → Ok (f a) e y) : Ok (getI l i >>= f) e y := E5 fun a ha => by
 have h0 : 0 ≤ i := by
  unfold getI at ha
  by_cases hi : 0 ≤ i
  ·exact hi
  ·rw [if_neg hi] at ha; cases ha
 have h1 : l[i.toNat]? = some a := by rw [← UI h0]; exact ha
 exact h a ⟨h0, ha, h1, (List.getElem?_eq_some_iff.1 h1).1⟩
theorem rF (s : List V) : Bk s [] = s := rfl
theorem nO (s : List V) (i : Nat) (v : V) (l : List (Nat × V)) : Bk s ((i, v) :: l) = Bk (s.set i v) l := rfl
theorem rH (s : R) : Bm s [] = s := rfl
theorem nP (s : R) (i : Nat) (v : List DH) (l : List (Nat × List DH)) : Bm s ((i, v) :: l) = Bm (s.set i v) l := rfl
theorem rJ (rows : Rows) (i c : Nat) (t : T) : Ej rows i c t = match rows[i]? with | some row => rows.set i (row.set c t) | none => rows := rfl
theorem A5 {α β : Type} (a : α) (f : α → Option β) : (some a >>= f) = f a := rfl
theorem zd (x : Int) : rI x = [.v (.int .i64 x)] := rfl
theorem ze (k : IntKind) (x : Int) : rK k x = [.v (.int k x)] := rfl
theorem zf (x : ByteArray) : rS x = [.v (.string x)] := rfl
theorem zg (x : Bool) : rB x = [.v (.bool x)] := rfl
theorem zh {α : Type} (o : Bool) (f : α → List T) (l : List α) : rL o f l = [.sl o (l.map f)] := rfl
def wC {α β : Type} (l : List α) (l' : List β) : Option Unit := if l.length = l'.length then some () else none
theorem MO {α : Type} (f : α → List T) (n : Nat) (h : ∀ x, (f x).length = n) (l l' : List α) : ((l.map f).map (·.length) = (l'.map f).map (·.length)) = ((if l.length = l'.length then some () else none) = some ()) := by
 have e : ∀ l : List α, (l.map f).map (·.length) = List.replicate l.length n := by
  intro l
  induction l with
  | nil => rfl
  | cons x l ih => simp only [List.map_cons, ih, h, List.length_cons, List.replicate_succ]
 rw [e, e]
 apply propext
 constructor
 ·intro hh
  have := congrArg List.length hh
  simp only [List.length_replicate] at this
  rw [if_pos this]
 ·intro hh
  split at hh
  ·rename_i h1; rw [h1]
  ·cases hh
theorem yQ (l l' : List Int) : ((l.map rI).map (·.length) = (l'.map rI).map (·.length)) = ((if l.length = l'.length then some () else none) = some ()) := MO rI 1 (fun _ => rfl) l l'
theorem yR (l l' : List ByteArray) : ((l.map rS).map (·.length) = (l'.map rS).map (·.length)) = ((if l.length = l'.length then some () else none) = some ()) := MO rS 1 (fun _ => rfl) l l'
theorem yS {α : Type} (o : Bool) (f : α → List T) (l l' : List (List α)) : ((l.map (rL o f)).map (·.length) = (l'.map (rL o f)).map (·.length)) = ((if l.length = l'.length then some () else none) = some ()) := MO (rL o f) 1 (fun _ => rfl) l l'
theorem uw {α β ρ : Type} {l : List α} {l' : List β} {f : Unit → Option ρ} {e : ρ → Ap} {y : Option Ap} (h : l.length = l'.length → Ok (f ()) e y) : Ok (wC l l' >>= f) e y := E5 fun a ha => by
 unfold wC at ha
 split at ha
 ·rename_i h1; cases ha; exact h h1
 ·cases ha
theorem iL (rows : Rows) (stt : Nat) (q : Nat × Nat) (p : Path) (i n st : Nat) : Cl rows stt (q :: p) i n st = if st = stt then (Bb rows (q :: p)).bind (·[i]?) else none := rfl
theorem rM (rows : Rows) : Bb rows [] = some rows := rfl
def rN (p : Path) : Option T → Option Rows
 | some (.sl true rows) => Bb rows p
 | _ => none
theorem ki (p : Path) (rows : Rows) : rN p (some (.sl true rows)) = Bb rows p := rfl
theorem nQ (rows : Rows) (i c : Nat) (p : Path) : Bb rows ((i, c) :: p) = rN p (rows[i]?.bind (·[c]?)) := by
 simp only [Bb, rN]; cases rows[i]?.bind (·[c]?) with
 | none => rfl
 | some t => cases t <;> try rfl
theorem rO (rows : Rows) (p : Path) (i c : Nat) : BK rows p i c = (Bb rows p).bind fun rs => rs[i]?.bind (·[c]?) := rfl
def rP (rows : Rows) (i0 c0 : Nat) (p : Path) (i c : Nat) (t : T) : Option T → Rows
 | some (.sl true rows') => Ej rows i0 c0 (.sl true (Ao rows' p i c t))
 | _ => rows
theorem kj (rows : Rows) (i0 c0 : Nat) (p : Path) (i c : Nat) (t : T) (rows' : Rows) : rP rows i0 c0 p i c t (some (.sl true rows')) = Ej rows i0 c0 (.sl true (Ao rows' p i c t)) := rfl
theorem nR (rows : Rows) (i0 c0 : Nat) (p : Path) (i c : Nat) (t : T) : Ao rows ((i0, c0) :: p) i c t = rP rows i0 c0 p i c t (rows[i0]?.bind (·[c0]?)) := by
 simp only [Ao, rP]; cases rows[i0]?.bind (·[c0]?) with
 | none => rfl
 | some t => cases t <;> try rfl
theorem af {α : Type} (l : List α) (i : Int) (x : α) : getI (l.set i.toNat x) i = if 0 ≤ i then (if i.toNat < l.length then some x else none) else none := by
 unfold getI
 split
 ·simp [List.getElem?_set]
 ·rfl
def zi (sz : Nat) (id : Id) (p : Path) (n : Int) (m st : Nat) : T → M V
 | .sl true rs => iaS sz id p n m st rs
 | _ => .fail
theorem uy (sz : Nat) (id : Id) (p : Path) (n : Int) (m st : Nat) (rs : Rows) : zi sz id p n m st (.sl true rs) = iaS sz id p n m st rs := rfl
theorem uz (sz : Nat) (id : Id) (p : Path) (j c : Nat) (n : Int) (m st : Nat) (rows : Rows) (stt : Nat) (fx : Bool) : iaC sz id p j c n m st (.mem rows stt fx) = if st = stt then C1 (BK rows p j c) (zi sz id (p ++ [(j, c)]) n m st) else .fail := by
 simp only [iaC]; split
 ·cases BK rows p j c with
  | none => rfl
  | some t => cases t <;> try rfl
 ·rfl
theorem Q8 {α : Type} (f : α → List T) (l : List α) (i : Nat) (x : α) (r : List T) (h : f x = r) : (l.map f).set i r = (l.set i x).map f := by rw [← h, List.map_set]
theorem QQ {α : Type} (f : α → List T) (l : List α) (x : α) (r : List T) (rs : Rows) (h : f x = r) : l.map f ++ (r :: rs) = (l ++ [x]).map f ++ rs := by rw [← h]; simp
theorem v8 (l : List Int) (i : Nat) (x : Int) : (l.map rI).set i [.v (.int .i64 x)] = (l.set i x).map rI := Q8 rI l i x _ rfl
theorem vA (k : IntKind) (l : List Int) (i : Nat) (x : Int) : (l.map (rK k)).set i [.v (.int k x)] = (l.set i x).map (rK k) := Q8 (rK k) l i x _ rfl
theorem vB (l : List ByteArray) (i : Nat) (x : ByteArray) : (l.map rS).set i [.v (.string x)] = (l.set i x).map rS := Q8 rS l i x _ rfl
theorem vC (l : List Bool) (i : Nat) (x : Bool) : (l.map rB).set i [.v (.bool x)] = (l.set i x).map rB := Q8 rB l i x _ rfl
theorem vD {α : Type} (o : Bool) (f : α → List T) (l : List (List α)) (i : Nat) (x : List α) : (l.map (rL o f)).set i [.sl o (x.map f)] = (l.set i x).map (rL o f) := Q8 (rL o f) l i x _ rfl
theorem rQ {α : Type} (o : Bool) (f : α → List T) (l : List (List α)) (i : Nat) : (l.map (rL o f)).set i [.sl o []] = (l.set i []).map (rL o f) := Q8 (rL o f) l i [] _ rfl
theorem vE (l : List Int) (x : Int) (rs : Rows) : l.map rI ++ ([.v (.int .i64 x)] :: rs) = (l ++ [x]).map rI ++ rs := QQ rI l x _ rs rfl
theorem vF (k : IntKind) (l : List Int) (x : Int) (rs : Rows) : l.map (rK k) ++ ([.v (.int k x)] :: rs) = (l ++ [x]).map (rK k) ++ rs := QQ (rK k) l x _ rs rfl
theorem vG (l : List ByteArray) (x : ByteArray) (rs : Rows) : l.map rS ++ ([.v (.string x)] :: rs) = (l ++ [x]).map rS ++ rs := QQ rS l x _ rs rfl
theorem vH (l : List Bool) (x : Bool) (rs : Rows) : l.map rB ++ ([.v (.bool x)] :: rs) = (l ++ [x]).map rB ++ rs := QQ rB l x _ rs rfl
theorem vI {α : Type} (o : Bool) (f : α → List T) (l : List (List α)) (x : List α) (rs : Rows) : l.map (rL o f) ++ ([.sl o (x.map f)] :: rs) = (l ++ [x]).map (rL o f) ++ rs := QQ (rL o f) l x _ rs rfl
theorem rR {α : Type} (o : Bool) (f : α → List T) (l : List (List α)) (rs : Rows) : l.map (rL o f) ++ ([.sl o []] :: rs) = (l ++ [[]]).map (rL o f) ++ rs := QQ (rL o f) l [] _ rs rfl
theorem rT {α : Type} (f : α → List T) (l l' : List α) : l.map f ++ l'.map f = (l ++ l').map f := by simp
theorem TX {α : Type} (f : α → List T) (n : Nat) (x : α) (r : List T) (h : f x = r) : List.replicate n r = (List.replicate n x).map f := by rw [← h, List.map_replicate]
theorem vJ (n : Nat) (x : Int) : List.replicate n [T.v (.int .i64 x)] = (List.replicate n x).map rI := TX rI n x _ rfl
theorem vK (n : Nat) (x : ByteArray) : List.replicate n [T.v (.string x)] = (List.replicate n x).map rS := TX rS n x _ rfl
theorem vL (n : Nat) (x : Bool) : List.replicate n [T.v (.bool x)] = (List.replicate n x).map rB := TX rB n x _ rfl
theorem rU (n : Nat) (o : Bool) : List.replicate n [T.sl o []] = (List.replicate n []).map (rL o rI) := TX (rL o rI) n [] _ rfl
def S3 := And.intro vJ <| And.intro vK <| And.intro vL <| And.intro rU <| And.intro v8 <| And.intro vA <| And.intro vB <| And.intro vC <| And.intro (@vD) <| And.intro (@rQ) <| And.intro vE <| And.intro vF <| And.intro vG <| And.intro vH <| And.intro (@vI) <| And.intro (@rR) <| And.intro (@rT) <| And.intro (@af) <| And.intro uy <| And.intro uz <| And.intro iL <| And.intro rM <| And.intro ki <| And.intro nQ <| And.intro rO <| And.intro kj <| And.intro nR <| And.intro yQ <| And.intro yR <| And.intro (@yS) <| And.intro (@A5) <| And.intro zd <| And.intro ze <| And.intro zf <| And.intro zg <| And.intro (@zh) <| And.intro rJ <| And.intro (@List.set_set.{0}) <| And.intro rF <| And.intro nO <| And.intro rH <| And.intro nP <| And.intro (@List.getElem?_map.{0, 0}) <| And.intro (@List.getElem?_set.{0}) <| (@List.length_set.{0})
end TT
