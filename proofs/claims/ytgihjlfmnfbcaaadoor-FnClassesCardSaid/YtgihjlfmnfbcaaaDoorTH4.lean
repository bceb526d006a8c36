import Derived.Test.YtgihjlfmnfbcaaaDoorTH3
set_option maxRecDepth 10000
set_option linter.unusedVariables false
set_option linter.defProp false
namespace TT
open Go
def S0 (FT : TH) := And.intro (@Vr FT) <| And.intro (@aF FT) <| And.intro (@YS FT) <| And.intro (@YT FT) <| And.intro (@YU FT) <| And.intro (@ax FT) <| And.intro (@Vs FT) <| And.intro (@Vt FT) <| And.intro (@Ta FT) <| And.intro (@YV FT) <| And.intro (@Vu FT) <| And.intro (@Vv FT) <| And.intro (@Xq FT) <| And.intro (@aG FT) <| And.intro (@Vw FT) <| And.intro (@aH FT) <| And.intro (@aI FT) <| And.intro (@aJ FT) <| And.intro (@aK FT) <| And.intro (@YL FT) <| And.intro (@Zx FT) <| And.intro (@Zy FT) <| And.intro (@aC FT) <| And.intro (@Zz FT) <| And.intro (@a6 FT) <| And.intro (@a7 FT) <| And.intro (@YM FT) <| And.intro (@a8 FT) <| And.intro (@aA FT) <| And.intro (@aB FT) <| And.intro (@YN FT) <| And.intro (@YO FT) <| And.intro (@Vk FT) <| And.intro (@TL FT) <| And.intro (@Ra FT) <| And.intro (@YQ FT) <| And.intro (@TR FT) <| And.intro (@TS FT) <| And.intro (@aE FT) <| And.intro (@Vn FT) <| And.intro (@MO FT) <| And.intro (@TV FT) <| And.intro (@TW FT) <| And.intro (@Vq FT) <| And.intro (@Vp FT) <| And.intro (@YR FT) <| And.intro (@TX FT) <| And.intro (@UG FT) <| And.intro (@MP FT) <| And.intro (@TZ FT) <| And.intro (@Rb FT) <| And.intro (@Vm FT) <| And.intro (@MM FT) <| And.intro (@MN FT) <| And.intro (@aY FT) <| (@aZ FT)
def S1 := And.intro (@Yn) <| And.intro (@Wo) <| And.intro (@U9) <| And.intro (@UA) <| And.intro (@OW) <| And.intro (@Wr) <| And.intro (@Wq) <| And.intro (@UD) <| And.intro (@UF) <| And.intro (@Wt) <| And.intro (@ZJ) <| And.intro (@Wv) <| And.intro (@ZL) <| And.intro (@UH) <| And.intro (@Td) <| And.intro (@WB) <| And.intro (@WC) <| And.intro (@Rf) <| And.intro (@WD) <| And.intro (@Rg) <| And.intro (@WH) <| And.intro (@Tf) <| And.intro (@WI) <| And.intro (@Tg) <| And.intro (@Yo) <| And.intro (@Yp) <| And.intro (@aR) <| And.intro (@Wk) <| And.intro (@U2) <| And.intro (@U1) <| And.intro (@U3) <| And.intro (@Rk) <| And.intro (@WM) <| And.intro (@Ti) <| And.intro (@Th) <| And.intro (@WL) <| And.intro (@WJ) <| And.intro (@Tj) <| And.intro (@Ys) <| And.intro (@WN) <| And.intro (@Tk) <| And.intro (@WO) <| And.intro (@Yv) <| And.intro (@Yw) <| And.intro (@WP) <| And.intro (@Tl) <| And.intro (@Yx) <| And.intro (@Yy) <| And.intro (@WR) <| And.intro (@WS) <| And.intro (@WT) <| And.intro (@WU) <| And.intro (@Tm) <| And.intro (@Yz) <| And.intro (@Z0) <| And.intro (@WV) <| And.intro (@WW) <| And.intro (@Tn) <| And.intro (@To) <| And.intro (@Pp) <| And.intro (@Pq) <| And.intro (@WY) <| And.intro (@Tp) <| And.intro (@WZ) <| And.intro (@Z2) <| And.intro (@Wa) <| And.intro (@Wb) <| And.intro (@Z4) <| And.intro (@Wc) <| And.intro (@Z5) <| And.intro (@Z6) <| And.intro (@Tq) <| And.intro (@Wd) <| And.intro (@aU) <| And.intro (@Z7) <| And.intro (@Tr) <| And.intro (@We) <| And.intro (@Ts) <| And.intro (@Tt) <| And.intro (@Z8) <| And.intro (@Z9) <| And.intro (@Wg) <| And.intro (@Tw) <| And.intro (@Rh) <| And.intro (@Tx) <| And.intro (@Ty) <| And.intro (@Tz) <| And.intro (@U0) <| And.intro (@Wh) <| And.intro (@Wi) <| And.intro (@ZC) <| And.intro (@ZD) <| And.intro (@U4) <| And.intro (@U5) <| And.intro (@U6) <| And.intro (@Wl) <| And.intro (@aW) <| And.intro (@aX) <| And.intro (@ZE) <| And.intro (@U7) <| And.intro (@Wm) <| And.intro (@Wn) <| And.intro (@W1) <| And.intro (@Ya) <| And.intro (@W2) <| And.intro (@Pl) <| And.intro (@W3) <| And.intro (@W4) <| And.intro (@Pm) <| And.intro (@Pn) <| And.intro (@Po) <| And.intro (@OL) <| And.intro (@OM) <| And.intro (@ON) <| And.intro (@OO) <| And.intro (@OP) <| And.intro (@OQ) <| And.intro (@OR) <| And.intro (@OS) <| And.intro (@OT) <| And.intro (@W5) <| And.intro (@W6) <| And.intro (@W7) <| And.intro (@W8) <| And.intro (@OU) <| And.intro (@W9) <| And.intro (@Yb) <| And.intro (@Yc) <| And.intro (@Yd) <| And.intro (@Ye) <| And.intro (@Yf) <| And.intro (@Yg) <| And.intro (@WA) <| And.intro (@Yh) <| And.intro (@Yi) <| And.intro (@Yj) <| And.intro (@Yk) <| And.intro (@Yl) <| And.intro (@Ym) <| And.intro (@UI) <| And.intro (@Ww) <| And.intro (@UJ) <| And.intro (@Wx) <| And.intro (@Rm) <| And.intro (@Rn) <| And.intro (@UK) <| And.intro (@ab) <| And.intro (@ac) <| And.intro (@Pt) <| And.intro (@Ro) <| And.intro (@Rp) <| And.intro (@UL) <| And.intro (@Rq) <| And.intro (@Rr) <| And.intro (@UM) <| And.intro (@UN) <| And.intro (@UO) <| And.intro (@Wy) <| And.intro (@Wz) <| And.intro (@X0) <| And.intro (@X1) <| And.intro (@Pu) <| And.intro (@OX) <| And.intro (@Pv) <| And.intro (@Pw) <| And.intro (@OY) <| And.intro (@Px) <| And.intro (@X2) <| And.intro (@Rs) <| And.intro (@UP) <| And.intro (@Py) <| And.intro (@Pz) <| And.intro (@OZ) <| And.intro (@Oa) <| And.intro (@Rt) <| And.intro (@Ob) <| And.intro (@Oc) <| And.intro (@Od) <| And.intro (@ZM) <| And.intro (@take_nil) <| And.intro (@UQ) <| And.intro (@Ru) <| And.intro (@US) <| And.intro (@Q0) <| And.intro (@Rv) <| And.intro (@Q1) <| And.intro (@My) <| And.intro (@LR) <| And.intro (@UT) <| And.intro (@Q2) <| And.intro (@Q3) <| And.intro (@Rw) <| And.intro (@Q4) <| And.intro (@Q5) <| And.intro (@UV) <| And.intro (@UW) <| And.intro (@Q6) <| And.intro (@Q7) <| And.intro (@Q8) <| And.intro (@Q9) <| And.intro (@ZN) <| And.intro (@N0) <| And.intro (@LS) <| And.intro (@N1) <| And.intro (@N2) <| And.intro (@N3) <| And.intro (@LU) <| And.intro (@N4) <| And.intro (@N5) <| And.intro (@N6) <| And.intro (@Rx) <| And.intro (@LV) <| And.intro (@Ry) <| And.intro (@N7) <| And.intro (@QA) <| And.intro (@UZ) <| And.intro (@QB) <| And.intro (@X3) <| And.intro (@X4) <| And.intro (@Rz) <| And.intro (@QC) <| And.intro (@N8) <| And.intro (@QD) <| And.intro (@QE) <| And.intro (@Oe) <| And.intro (@S5) <| And.intro (@Of) <| And.intro (@Og) <| And.intro (@Oh) <| And.intro (@N9) <| And.intro (@LW) <| And.intro (@Ua) <| And.intro (@QF) <| And.intro (@QG) <| And.intro (@QH) <| And.intro (@Oi) <| And.intro (@NA) <| And.intro (@Oj) <| And.intro (@NB) <| And.intro (@Ub) <| And.intro (@Uc) <| And.intro (@NC) <| And.intro (@Ud) <| And.intro (@ND) <| And.intro (@OK) <| And.intro (@TM) <| And.intro (@TN) <| And.intro (@TP) <| And.intro (@TQ) <| And.intro (@YP) <| And.intro (@X5) <| And.intro (@ZO) <| And.intro (@X6) <| And.intro (@ZP) <| And.intro (@Te) <| And.intro (@Ue) <| And.intro (@WG) <| And.intro (@Uf) <| And.intro (@X7) <| And.intro (@Ug) <| And.intro (@ae) <| And.intro (@X8) <| And.intro (@X9) <| And.intro (@XA) <| And.intro (@ZQ) <| And.intro (@XB) <| And.intro (@XC) <| And.intro (@QI) <| And.intro (@QJ) <| And.intro (@Uh) <| And.intro (@S6) <| And.intro (@S7) <| And.intro (@Ui) <| And.intro (@Uj) <| And.intro (@Uk) <| And.intro (@ZR) <| And.intro (@XD) <| And.intro (@ZS) <| And.intro (@XE) <| And.intro (@ZT) <| And.intro (@S8) <| And.intro (@Ul) <| And.intro (@Um) <| And.intro (@Un) <| And.intro (@S9) <| And.intro (@SA) <| And.intro (@SB) <| And.intro (@SC) <| And.intro (@ZV) <| And.intro (@ZW) <| And.intro (@ZX) <| And.intro (@ZY) <| And.intro (@Uo) <| And.intro (@SD) <| And.intro (@XF) <| And.intro (@SE) <| And.intro (@SG) <| And.intro (@QK) <| And.intro (@Ol) <| And.intro (@Up) <| And.intro (@NE) <| And.intro (@QL) <| And.intro (@QM) <| And.intro (@QN) <| And.intro (@NF) <| And.intro (@NG) <| And.intro (@QO) <| And.intro (@QP) <| And.intro (@QQ) <| And.intro (@NH) <| And.intro (@ZZ) <| And.intro (@af) <| And.intro (@XG) <| And.intro (@Uq) <| And.intro (@Zf) <| And.intro (@Zg) <| And.intro (@Ur) <| And.intro (@Us) <| And.intro (@Zh) <| And.intro (@Ut) <| And.intro (@Za) <| And.intro (@Zb) <| And.intro (@Zc) <| And.intro (@Zd) <| (@Ze)
def S2 := And.intro (@OJ.eq_1) <| And.intro (@OJ.eq_2) <| And.intro (@clS.eq_1) <| And.intro (@clS.eq_2) <| And.intro (@clR.eq_1) <| And.intro (@clR.eq_2) <| And.intro (@E9.eq_1) <| And.intro (@FJ.eq_1) <| And.intro (@V.mentions.eq_1) <| And.intro (@V.mentions.eq_2) <| And.intro (@V.mentions.eq_3) <| And.intro (@V.mentions.eq_4) <| And.intro (@V.mentions.eq_5) <| And.intro (@V.mentions.eq_6) <| And.intro (@V.mentions.eq_7) <| And.intro (@V.mentions.eq_8) <| And.intro (@V.mentions.eq_9) <| And.intro (@DP.eq_1) <| And.intro (@DP.eq_2) <| And.intro (@V.isDead.eq_1) <| And.intro (@Zi) <| And.intro (@Uu) <| And.intro (@Uv) <| And.intro (@Uw) <| And.intro (@Ux) <| And.intro (@Uy) <| And.intro (@XH) <| And.intro (@XI) <| And.intro (@BO.calm.eq_1) <| And.intro (@BO.calm.eq_2) <| And.intro (@A9.eq_1) <| And.intro (@AS.eq_1) <| And.intro (@M.run.eq_1) <| And.intro (@M.run.eq_2) <| And.intro (@M.run.eq_3) <| And.intro (@M.run.eq_4) <| And.intro (@M.run.eq_5) <| And.intro (@M.run.eq_6) <| And.intro (@M.runA.eq_1) <| And.intro (@M.runA.eq_2) <| And.intro (@M.runA.eq_3) <| And.intro (@M.runA.eq_4) <| And.intro (@M.runA.eq_5) <| And.intro (@M.runA.eq_6) <| And.intro (@Qm.eq_1) <| And.intro (@Qm.eq_2) <| And.intro (@RA.eq_1) <| And.intro (@RA.eq_2) <| And.intro (@zV.eq_1) <| And.intro (@zV.eq_2) <| And.intro (@aQ.eq_1) <| And.intro (@Xr.eq_1) <| And.intro (@Rj.eq_1) <| And.intro (@Em.eq_1) <| And.intro (@Em.eq_2) <| And.intro (@HS.eq_1) <| And.intro (@HS.eq_2) <| And.intro (@HS.eq_3) <| And.intro (@HS.eq_4) <| And.intro (@HS.eq_5) <| And.intro (@HS.eq_6) <| And.intro (@K6.eq_1) <| And.intro (@K6.eq_2) <| And.intro (@fin.eq_1) <| And.intro (@LK.eq_1) <| And.intro (@LK.eq_2) <| And.intro (@K7.eq_1) <| And.intro (@K7.eq_2) <| And.intro (@K7.eq_3) <| And.intro (@Lq.eq_1) <| And.intro (@Lq.eq_2) <| And.intro (@Nc.eq_1) <| And.intro (@Nc.eq_2) <| And.intro (@RB.eq_1) <| And.intro (@RB.eq_2) <| And.intro (@Gg.eq_1) <| And.intro (@K9.eq_1) <| And.intro (@K8.eq_1) <| And.intro (@K8.eq_2) <| And.intro (@AG.eq_1) <| And.intro (@AG.eq_2) <| And.intro (@D7.eq_1) <| And.intro (@D7.eq_2) <| And.intro (@frz.eq_1) <| And.intro (@frz.eq_2) <| And.intro (@frz.eq_3) <| And.intro (@allOwn.eq_1) <| And.intro (@allOwn.eq_2) <| And.intro (@allOwn.eq_3) <| And.intro (@Cf.eq_1) <| And.intro (@Cf.eq_2) <| And.intro (@Au.eq_1) <| And.intro (@Au.eq_2) <| And.intro (@RV.allOwn.eq_1) <| And.intro (@RV.allOwn.eq_2) <| And.intro (@RV.allOwn.eq_3) <| And.intro (@AK.eq_1) <| And.intro (@AK.eq_2) <| And.intro (@AK.eq_3) <| And.intro (@AK.eq_4) <| And.intro (@Am.eq_1) <| And.intro (@Am.eq_2) <| And.intro (@PA.reads.eq_1) <| And.intro (@PA.reads.eq_2) <| And.intro (@PA.reads.eq_3) <| And.intro (@V.isOwned.eq_1) <| And.intro (@V.isOwned.eq_2) <| And.intro (@V.isOwned.eq_3) <| And.intro (@PA.arg.eq_1) <| And.intro (@PA.arg.eq_2) <| And.intro (@Ir.eq_1) <| And.intro (@Ir.eq_2) <| And.intro (@XJ) <| And.intro (@XK) <| And.intro (@Uz) <| And.intro (@Ai.eq_1) <| And.intro (@QR) <| And.intro (@Option.bind_some.{0, 0}) <| And.intro (@Option.bind_none.{0, 0}) <| And.intro (@Option.map_some.{0, 0}) <| And.intro (@Option.map_none.{0, 0}) <| And.intro (@Option.getD_some.{0}) <| And.intro (@Option.getD_none.{0}) <| And.intro (@Option.bind_assoc.{0, 0, 0}) <| And.intro (@List.map_cons.{0, 0}) <| And.intro (@List.map_nil.{0, 0}) <| And.intro (@List.cons_append.{0}) <| And.intro (@List.nil_append.{0}) <| And.intro (@List.append_nil.{0}) <| And.intro (@List.length_cons.{0}) <| And.intro (@List.length_nil.{0}) <| And.intro (@List.length_map.{0, 0}) <| And.intro (@List.length_append.{0}) <| And.intro (@List.length_replicate.{0}) <| And.intro (@List.take_succ_cons.{0}) <| And.intro (@List.take_zero.{0}) <| And.intro (@List.take_nil.{0}) <| And.intro (@List.drop_succ_cons.{0}) <| And.intro (@List.drop_zero.{0}) <| And.intro (@List.drop_nil.{0}) <| And.intro (@List.replicate_succ.{0}) <| And.intro (@List.replicate_zero.{0}) <| And.intro (@List.all_cons.{0}) <| And.intro (@List.all_nil.{0}) <| And.intro (@List.any_cons.{0}) <| And.intro (@List.any_nil.{0}) <| And.intro (@List.isEmpty_nil.{0}) <| And.intro (@List.isEmpty_cons.{0}) <| And.intro (@List.flatMap_cons.{0, 0}) <| And.intro (@List.flatMap_nil.{0, 0}) <| And.intro (@List.contains_cons.{0}) <| And.intro (@List.contains_nil.{0}) <| And.intro (@List.all_append.{0}) <| And.intro (@Bool.true_and) <| And.intro (@Bool.and_true) <| And.intro (@Bool.false_and) <| And.intro (@Bool.and_false) <| And.intro (@Bool.or_false) <| And.intro (@Bool.false_or) <| And.intro (@Bool.or_true) <| And.intro (@Bool.true_or) <| And.intro (@Bool.not_true) <| And.intro (@Bool.not_false) <| And.intro (@Bool.false_eq_true) <| And.intro (@decide_true) <| And.intro (@decide_false) <| And.intro (@eq_self.{0}) <| And.intro (@true_and) <| And.intro (@and_true) <| And.intro (@false_and) <| And.intro (@and_false) <| And.intro (@Nat.zero_add) <| And.intro (@Nat.add_zero) <| And.intro (@beq_self_eq_true.{0}) <| And.intro (@Bool.and_self) <| And.intro (@not_true_eq_false) <| (@not_false_eq_true)
def SS (FT : TH) := And.intro (S0 FT) (And.intro S1 S2)
end TT
namespace TT
open Go
def Gs : List V → List (Nat × V) → List V
 | s, [] => s
 | s, q :: l => Gs (s.set q.1 q.2) l
def Gu : R → List (Nat × List BO) → R
 | s, [] => s
 | s, q :: l => Gu (s.set q.1 q.2) l
theorem R5 {ρ : Type} {x : Option ρ} {e : ρ → BU} {y y' : Option BU} (h : Ok x e y') (he : y = y') : Ok x e y := fun r hr => he.trans (h r hr)
theorem AF {β ρ : Type} {g : Option β} {f : β → Option ρ} {e : ρ → BU} {e' : β → BU} {Y Y' : Option BU} {k : BU → Option BU} (hg : Ok g e' Y) (hy : Y' = Y) (h : ∀ v, Ok (f v) e (k (e' v))) : Ok (g >>= f) e (Y'.bind k) := by
 subst hy; exact AI hg h
theorem Zj {α ρ : Type} {l : List α} {i : Int} {f : α → Option ρ} {e : ρ → BU} {y : Option BU} (h : ∀ a, 0 ≤ i ∧ getI l i = some a ∧ l[i.toNat]? = some a ∧ i.toNat < l.length → Ok (f a) e y) : Ok (getI l i >>= f) e y := Bt fun a ha => by
 have h0 : 0 ≤ i := by
  unfold getI at ha
  by_cases hi : 0 ≤ i
  ·exact hi
  ·rw [if_neg hi] at ha; cases ha
 have h1 : l[i.toNat]? = some a := by rw [← Ia h0]; exact ha
 exact h a ⟨h0, ha, h1, (List.getElem?_eq_some_iff.1 h1).1⟩
theorem V0 (s : List V) : Gs s [] = s := rfl
theorem SH (s : List V) (i : Nat) (v : V) (l : List (Nat × V)) : Gs s ((i, v) :: l) = Gs (s.set i v) l := rfl
theorem V1 (s : R) : Gu s [] = s := rfl
theorem SI (s : R) (i : Nat) (v : List BO) (l : List (Nat × List BO)) : Gu s ((i, v) :: l) = Gu (s.set i v) l := rfl
theorem V2 (rows : Rows) (i c : Nat) (t : T) : CC rows i c t = match rows[i]? with | some row => rows.set i (row.set c t) | none => rows := rfl
theorem BL {α β : Type} (a : α) (f : α → Option β) : (some a >>= f) = f a := rfl
theorem ah (x : Int) : rI x = [.v (.int .i64 x)] := rfl
theorem ai (k : IntKind) (x : Int) : rK k x = [.v (.int k x)] := rfl
theorem aj (x : ByteArray) : rS x = [.v (.string x)] := rfl
theorem ak (x : Bool) : rB x = [.v (.bool x)] := rfl
theorem al {α : Type} (o : Bool) (f : α → List T) (l : List α) : rL o f l = [.sl o (l.map f)] := rfl
def Xx {α β : Type} (l : List α) (l' : List β) : Option Unit := if l.length = l'.length then some () else none
theorem Ib {α : Type} (f : α → List T) (n : Nat) (h : ∀ x, (f x).length = n) (l l' : List α) : ((l.map f).map (·.length) = (l'.map f).map (·.length)) = ((if l.length = l'.length then some () else none) = some ()) := by
 have e : ∀ l : List α, (l.map f).map (·.length) = List.replicate l.length n := by
  intro l
  induction l with
  | nil => rfl
  | cons x l ih => simp only [List.map_cons, ih, h, List.length_cons, List.replicate_succ]
 rw [e, e]
 apply propext
 constructor
 ·intro hh
  have := congrArg List.length hh
  simp only [List.length_replicate] at this
  rw [if_pos this]
 ·intro hh
  split at hh
  ·rename_i h1; rw [h1]
  ·cases hh
theorem Zk (l l' : List Int) : ((l.map rI).map (·.length) = (l'.map rI).map (·.length)) = ((if l.length = l'.length then some () else none) = some ()) := Ib rI 1 (fun _ => rfl) l l'
theorem Zl (l l' : List ByteArray) : ((l.map rS).map (·.length) = (l'.map rS).map (·.length)) = ((if l.length = l'.length then some () else none) = some ()) := Ib rS 1 (fun _ => rfl) l l'
theorem Zm {α : Type} (o : Bool) (f : α → List T) (l l' : List (List α)) : ((l.map (rL o f)).map (·.length) = (l'.map (rL o f)).map (·.length)) = ((if l.length = l'.length then some () else none) = some ()) := Ib (rL o f) 1 (fun _ => rfl) l l'
theorem XL {α β ρ : Type} {l : List α} {l' : List β} {f : Unit → Option ρ} {e : ρ → BU} {y : Option BU} (h : l.length = l'.length → Ok (f ()) e y) : Ok (Xx l l' >>= f) e y := Bt fun a ha => by
 unfold Xx at ha
 split at ha
 ·rename_i h1; cases ha; exact h h1
 ·cases ha
theorem Om (rows : Rows) (stt : Nat) (q : Nat × Nat) (p : AE) (i n st : Nat) : BG rows stt (q :: p) i n st = if st = stt then (Af rows (q :: p)).bind (·[i]?) else none := rfl
theorem V3 (rows : Rows) : Af rows [] = some rows := rfl
def V4 (p : AE) : Option T → Option Rows
 | some (.sl true rows) => Af rows p
 | _ => none
theorem QS (p : AE) (rows : Rows) : V4 p (some (.sl true rows)) = Af rows p := rfl
theorem SJ (rows : Rows) (i c : Nat) (p : AE) : Af rows ((i, c) :: p) = V4 p (rows[i]?.bind (·[c]?)) := by
 simp only [Af, V4]; cases rows[i]?.bind (·[c]?) with
 | none => rfl
 | some t => cases t <;> try rfl
theorem V5 (rows : Rows) (p : AE) (i c : Nat) : AX rows p i c = (Af rows p).bind fun rs => rs[i]?.bind (·[c]?) := rfl
def V6 (rows : Rows) (i0 c0 : Nat) (p : AE) (i c : Nat) (t : T) : Option T → Rows
 | some (.sl true rows') => CC rows i0 c0 (.sl true (AO rows' p i c t))
 | _ => rows
theorem QT (rows : Rows) (i0 c0 : Nat) (p : AE) (i c : Nat) (t : T) (rows' : Rows) : V6 rows i0 c0 p i c t (some (.sl true rows')) = CC rows i0 c0 (.sl true (AO rows' p i c t)) := rfl
theorem SK (rows : Rows) (i0 c0 : Nat) (p : AE) (i c : Nat) (t : T) : AO rows ((i0, c0) :: p) i c t = V6 rows i0 c0 p i c t (rows[i0]?.bind (·[c0]?)) := by
 simp only [AO, V6]; cases rows[i0]?.bind (·[c0]?) with
 | none => rfl
 | some t => cases t <;> try rfl
theorem LX {α : Type} (l : List α) (i : Int) (x : α) : getI (l.set i.toNat x) i = if 0 ≤ i then (if i.toNat < l.length then some x else none) else none := by
 unfold getI
 split
 ·simp [List.getElem?_set]
 ·rfl
def am (sz : Nat) (id : Id) (p : AE) (n : Int) (m st : Nat) : T → M V
 | .sl true rs => iaS sz id p n m st rs
 | _ => .fail
theorem XM (sz : Nat) (id : Id) (p : AE) (n : Int) (m st : Nat) (rs : Rows) : am sz id p n m st (.sl true rs) = iaS sz id p n m st rs := rfl
theorem XN (sz : Nat) (id : Id) (p : AE) (j c : Nat) (n : Int) (m st : Nat) (rows : Rows) (stt : Nat) (fx : Bool) : iaC sz id p j c n m st (.mem rows stt fx) = if st = stt then AW (AX rows p j c) (am sz id (p ++ [(j, c)]) n m st) else .fail := by
 simp only [iaC]; split
 ·cases AX rows p j c with
  | none => rfl
  | some t => cases t <;> try rfl
 ·rfl
theorem QU {α : Type} (f : α → List T) (l : List α) (i : Nat) (x : α) (r : List T) (h : f x = r) : (l.map f).set i r = (l.set i x).map f := by rw [← h, List.map_set]
theorem QV {α : Type} (f : α → List T) (l : List α) (x : α) (r : List T) (rs : Rows) (h : f x = r) : l.map f ++ (r :: rs) = (l ++ [x]).map f ++ rs := by rw [← h]; simp
theorem XO (l : List Int) (i : Nat) (x : Int) : (l.map rI).set i [.v (.int .i64 x)] = (l.set i x).map rI := QU rI l i x _ rfl
theorem XP (k : IntKind) (l : List Int) (i : Nat) (x : Int) : (l.map (rK k)).set i [.v (.int k x)] = (l.set i x).map (rK k) := QU (rK k) l i x _ rfl
theorem XQ (l : List ByteArray) (i : Nat) (x : ByteArray) : (l.map rS).set i [.v (.string x)] = (l.set i x).map rS := QU rS l i x _ rfl
theorem XR (l : List Bool) (i : Nat) (x : Bool) : (l.map rB).set i [.v (.bool x)] = (l.set i x).map rB := QU rB l i x _ rfl
theorem XS {α : Type} (o : Bool) (f : α → List T) (l : List (List α)) (i : Nat) (x : List α) : (l.map (rL o f)).set i [.sl o (x.map f)] = (l.set i x).map (rL o f) := QU (rL o f) l i x _ rfl
theorem V7 {α : Type} (o : Bool) (f : α → List T) (l : List (List α)) (i : Nat) : (l.map (rL o f)).set i [.sl o []] = (l.set i []).map (rL o f) := QU (rL o f) l i [] _ rfl
theorem XT (l : List Int) (x : Int) (rs : Rows) : l.map rI ++ ([.v (.int .i64 x)] :: rs) = (l ++ [x]).map rI ++ rs := QV rI l x _ rs rfl
theorem XU (k : IntKind) (l : List Int) (x : Int) (rs : Rows) : l.map (rK k) ++ ([.v (.int k x)] :: rs) = (l ++ [x]).map (rK k) ++ rs := QV (rK k) l x _ rs rfl
theorem XV (l : List ByteArray) (x : ByteArray) (rs : Rows) : l.map rS ++ ([.v (.string x)] :: rs) = (l ++ [x]).map rS ++ rs := QV rS l x _ rs rfl
theorem XW (l : List Bool) (x : Bool) (rs : Rows) : l.map rB ++ ([.v (.bool x)] :: rs) = (l ++ [x]).map rB ++ rs := QV rB l x _ rs rfl
theorem XX {α : Type} (o : Bool) (f : α → List T) (l : List (List α)) (x : List α) (rs : Rows) : l.map (rL o f) ++ ([.sl o (x.map f)] :: rs) = (l ++ [x]).map (rL o f) ++ rs := QV (rL o f) l x _ rs rfl
theorem V8 {α : Type} (o : Bool) (f : α → List T) (l : List (List α)) (rs : Rows) : l.map (rL o f) ++ ([.sl o []] :: rs) = (l ++ [[]]).map (rL o f) ++ rs := QV (rL o f) l [] _ rs rfl
theorem V9 {α : Type} (f : α → List T) (l l' : List α) : l.map f ++ l'.map f = (l ++ l').map f := by simp
theorem VA {α : Type} (f : α → List T) (n : Nat) (x : α) (r : List T) (h : f x = r) : List.replicate n r = (List.replicate n x).map f := by rw [← h, List.map_replicate]
theorem XY (n : Nat) (x : Int) : List.replicate n [T.v (.int .i64 x)] = (List.replicate n x).map rI := VA rI n x _ rfl
theorem XZ (n : Nat) (x : ByteArray) : List.replicate n [T.v (.string x)] = (List.replicate n x).map rS := VA rS n x _ rfl
theorem Xa (n : Nat) (x : Bool) : List.replicate n [T.v (.bool x)] = (List.replicate n x).map rB := VA rB n x _ rfl
theorem VB (n : Nat) (o : Bool) : List.replicate n [T.sl o []] = (List.replicate n []).map (rL o rI) := VA (rL o rI) n [] _ rfl
def S3 := And.intro XY <| And.intro XZ <| And.intro Xa <| And.intro VB <| And.intro XO <| And.intro XP <| And.intro XQ <| And.intro XR <| And.intro (@XS) <| And.intro (@V7) <| And.intro XT <| And.intro XU <| And.intro XV <| And.intro XW <| And.intro (@XX) <| And.intro (@V8) <| And.intro (@V9) <| And.intro (@LX) <| And.intro XM <| And.intro XN <| And.intro Om <| And.intro V3 <| And.intro QS <| And.intro SJ <| And.intro V5 <| And.intro QT <| And.intro SK <| And.intro Zk <| And.intro Zl <| And.intro (@Zm) <| And.intro (@BL) <| And.intro ah <| And.intro ai <| And.intro aj <| And.intro ak <| And.intro (@al) <| And.intro V2 <| And.intro (@List.set_set.{0}) <| And.intro V0 <| And.intro SH <| And.intro V1 <| And.intro SI <| And.intro (@List.getElem?_map.{0, 0}) <| And.intro (@List.getElem?_set.{0}) <| (@List.length_set.{0})
end TT
