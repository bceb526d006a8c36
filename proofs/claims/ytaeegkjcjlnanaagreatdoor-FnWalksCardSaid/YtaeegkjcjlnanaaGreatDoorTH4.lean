import Derived.Test.YtaeegkjcjlnanaaGreatDoorTH3
set_option maxRecDepth 10000
set_option linter.unusedVariables false
set_option linter.defProp false
namespace TT
open Go
def S0 (FT : Env) := And.intro (@uN FT) <| And.intro (@A07 FT) <| And.intro (@y8 FT) <| And.intro (@y9 FT) <| And.intro (@yA FT) <| And.intro (@A0m FT) <| And.intro (@uO FT) <| And.intro (@uP FT) <| And.intro (@qU FT) <| And.intro (@yB FT) <| And.intro (@uQ FT) <| And.intro (@uR FT) <| And.intro (@xH FT) <| And.intro (@A08 FT) <| And.intro (@uS FT) <| And.intro (@A09 FT) <| And.intro (@A0A FT) <| And.intro (@A0B FT) <| And.intro (@A0C FT) <| And.intro (@xt FT) <| And.intro (@zw FT) <| And.intro (@zx FT) <| And.intro (@A04 FT) <| And.intro (@zy FT) <| And.intro (@zz FT) <| And.intro (@A00 FT) <| And.intro (@xu FT) <| And.intro (@A01 FT) <| And.intro (@A02 FT) <| And.intro (@A03 FT) <| And.intro (@xv FT) <| And.intro (@xw FT) <| And.intro (@uH FT) <| And.intro (@qI FT) <| And.intro (@nh FT) <| And.intro (@xz FT) <| And.intro (@qN FT) <| And.intro (@qO FT) <| And.intro (@A06 FT) <| And.intro (@uK FT) <| And.intro (@dc FT) <| And.intro (@qQ FT) <| And.intro (@qR FT) <| And.intro (@uM FT) <| And.intro (@uL FT) <| And.intro (@de FT) <| And.intro (@qT FT) <| And.intro (@ni FT) <| And.intro (@uJ FT) <| And.intro (@da FT) <| And.intro (@db FT) <| And.intro (@A0P FT) <| (@A0Q FT)
def S1 := And.intro (@yS) <| And.intro (@qW) <| And.intro (@uj) <| And.intro (@uk) <| And.intro (@nj) <| And.intro (@ul) <| And.intro (@nk) <| And.intro (@ur) <| And.intro (@qY) <| And.intro (@ut) <| And.intro (@qZ) <| And.intro (@yT) <| And.intro (@yU) <| And.intro (@A0I) <| And.intro (@vW) <| And.intro (@rA) <| And.intro (@qz) <| And.intro (@rC) <| And.intro (@no) <| And.intro (@uz) <| And.intro (@qb) <| And.intro (@qa) <| And.intro (@uy) <| And.intro (@uv) <| And.intro (@qc) <| And.intro (@yX) <| And.intro (@v8) <| And.intro (@qd) <| And.intro (@vA) <| And.intro (@ya) <| And.intro (@yb) <| And.intro (@vB) <| And.intro (@qe) <| And.intro (@yc) <| And.intro (@yd) <| And.intro (@vD) <| And.intro (@vE) <| And.intro (@vF) <| And.intro (@vG) <| And.intro (@qf) <| And.intro (@ye) <| And.intro (@yf) <| And.intro (@vH) <| And.intro (@vI) <| And.intro (@qh) <| And.intro (@qi) <| And.intro (@kw) <| And.intro (@kx) <| And.intro (@vK) <| And.intro (@qj) <| And.intro (@vL) <| And.intro (@yh) <| And.intro (@vM) <| And.intro (@vN) <| And.intro (@yj) <| And.intro (@vO) <| And.intro (@yl) <| And.intro (@ym) <| And.intro (@qk) <| And.intro (@vP) <| And.intro (@A0L) <| And.intro (@yp) <| And.intro (@ql) <| And.intro (@vQ) <| And.intro (@qm) <| And.intro (@qn) <| And.intro (@yq) <| And.intro (@yr) <| And.intro (@vS) <| And.intro (@qt) <| And.intro (@nl) <| And.intro (@qu) <| And.intro (@qv) <| And.intro (@qw) <| And.intro (@qx) <| And.intro (@vT) <| And.intro (@vU) <| And.intro (@yw) <| And.intro (@yx) <| And.intro (@rD) <| And.intro (@rE) <| And.intro (@rF) <| And.intro (@vX) <| And.intro (@A0N) <| And.intro (@A0O) <| And.intro (@yy) <| And.intro (@rH) <| And.intro (@vY) <| And.intro (@vZ) <| And.intro (@uZ) <| And.intro (@yF) <| And.intro (@ua) <| And.intro (@kq) <| And.intro (@ub) <| And.intro (@uc) <| And.intro (@kr) <| And.intro (@kt) <| And.intro (@ku) <| And.intro (@iq) <| And.intro (@ir) <| And.intro (@it) <| And.intro (@iu) <| And.intro (@iv) <| And.intro (@iw) <| And.intro (@iy) <| And.intro (@iz) <| And.intro (@j3) <| And.intro (@ud) <| And.intro (@ue) <| And.intro (@uf) <| And.intro (@ug) <| And.intro (@j5) <| And.intro (@uh) <| And.intro (@yG) <| And.intro (@yH) <| And.intro (@yI) <| And.intro (@yJ) <| And.intro (@yK) <| And.intro (@yL) <| And.intro (@ui) <| And.intro (@yM) <| And.intro (@yN) <| And.intro (@yO) <| And.intro (@yP) <| And.intro (@yQ) <| And.intro (@yR) <| And.intro (@rJ) <| And.intro (@vc) <| And.intro (@rM) <| And.intro (@ve) <| And.intro (@Ro) <| And.intro (@nq) <| And.intro (@rN) <| And.intro (@A0R) <| And.intro (@A0S) <| And.intro (@kz) <| And.intro (@ns) <| And.intro (@nu) <| And.intro (@rO) <| And.intro (@nv) <| And.intro (@nw) <| And.intro (@rP) <| And.intro (@rQ) <| And.intro (@rR) <| And.intro (@vf) <| And.intro (@vg) <| And.intro (@vh) <| And.intro (@vi) <| And.intro (@l9) <| And.intro (@j7) <| And.intro (@lA) <| And.intro (@lC) <| And.intro (@j8) <| And.intro (@lD) <| And.intro (@vj) <| And.intro (@nx) <| And.intro (@rT) <| And.intro (@lE) <| And.intro (@lF) <| And.intro (@j9) <| And.intro (@jA) <| And.intro (@ny) <| And.intro (@jB) <| And.intro (@jC) <| And.intro (@jD) <| And.intro (@z6) <| And.intro (@take_nil) <| And.intro (@rU) <| And.intro (@nz) <| And.intro (@rW) <| And.intro (@lG) <| And.intro (@o4) <| And.intro (@lH) <| And.intro (@eu) <| And.intro (@bQ) <| And.intro (@rX) <| And.intro (@lI) <| And.intro (@lJ) <| And.intro (@o5) <| And.intro (@lK) <| And.intro (@lL) <| And.intro (@rZ) <| And.intro (@ra) <| And.intro (@lM) <| And.intro (@lN) <| And.intro (@lO) <| And.intro (@lP) <| And.intro (@z7) <| And.intro (@ez) <| And.intro (@bR) <| And.intro (@f8) <| And.intro (@f9) <| And.intro (@fA) <| And.intro (@bS) <| And.intro (@fB) <| And.intro (@fC) <| And.intro (@fD) <| And.intro (@o6) <| And.intro (@bT) <| And.intro (@o7) <| And.intro (@fE) <| And.intro (@lQ) <| And.intro (@re) <| And.intro (@lR) <| And.intro (@vl) <| And.intro (@vm) <| And.intro (@o8) <| And.intro (@lS) <| And.intro (@fF) <| And.intro (@lU) <| And.intro (@lV) <| And.intro (@jE) <| And.intro (@o9) <| And.intro (@jF) <| And.intro (@jG) <| And.intro (@jH) <| And.intro (@fG) <| And.intro (@bU) <| And.intro (@rf) <| And.intro (@lW) <| And.intro (@lX) <| And.intro (@lY) <| And.intro (@jI) <| And.intro (@fH) <| And.intro (@jJ) <| And.intro (@fI) <| And.intro (@rg) <| And.intro (@rh) <| And.intro (@fJ) <| And.intro (@ri) <| And.intro (@fK) <| And.intro (@ip) <| And.intro (@qJ) <| And.intro (@qK) <| And.intro (@qL) <| And.intro (@qM) <| And.intro (@xy) <| And.intro (@vn) <| And.intro (@z8) <| And.intro (@vo) <| And.intro (@zA) <| And.intro (@qX) <| And.intro (@rj) <| And.intro (@uq) <| And.intro (@rl) <| And.intro (@vp) <| And.intro (@rn) <| And.intro (@A0T) <| And.intro (@vq) <| And.intro (@vr) <| And.intro (@vt) <| And.intro (@zB) <| And.intro (@vu) <| And.intro (@vw) <| And.intro (@lZ) <| And.intro (@la) <| And.intro (@ro) <| And.intro (@oB) <| And.intro (@oC) <| And.intro (@rp) <| And.intro (@rq) <| And.intro (@rr) <| And.intro (@zC) <| And.intro (@vy) <| And.intro (@zD) <| And.intro (@vz) <| And.intro (@zE) <| And.intro (@oD) <| And.intro (@rt) <| And.intro (@ru) <| And.intro (@rz) <| And.intro (@oE) <| And.intro (@oG) <| And.intro (@oH) <| And.intro (@oI) <| And.intro (@zG) <| And.intro (@zH) <| And.intro (@zI) <| And.intro (@zJ) <| And.intro (@s0) <| And.intro (@oJ) <| And.intro (@w7) <| And.intro (@oK) <| And.intro (@oN) <| And.intro (@lg) <| And.intro (@jK) <| And.intro (@s7) <| And.intro (@QV) <| And.intro (@Td) <| And.intro (@Te) <| And.intro (@Tf) <| And.intro (@PW) <| And.intro (@QW) <| And.intro (@Tg) <| And.intro (@Th) <| And.intro (@Ti) <| And.intro (@PX) <| And.intro (@zK) <| And.intro (@A0U) <| And.intro (@w8) <| And.intro (@s9) <| And.intro (@zQ) <| And.intro (@zR) <| And.intro (@sA) <| And.intro (@sB) <| And.intro (@zS) <| And.intro (@sC) <| And.intro (@zL) <| And.intro (@zM) <| And.intro (@zN) <| And.intro (@zO) <| (@zP)
def S2 := And.intro (@io.eq_1) <| And.intro (@io.eq_2) <| And.intro (@clS.eq_1) <| And.intro (@clS.eq_2) <| And.intro (@clR.eq_1) <| And.intro (@clR.eq_2) <| And.intro (@Jj.eq_1) <| And.intro (@NG.eq_1) <| And.intro (@V.mentions.eq_1) <| And.intro (@V.mentions.eq_2) <| And.intro (@V.mentions.eq_3) <| And.intro (@V.mentions.eq_4) <| And.intro (@V.mentions.eq_5) <| And.intro (@V.mentions.eq_6) <| And.intro (@V.mentions.eq_7) <| And.intro (@V.mentions.eq_8) <| And.intro (@Ht.eq_1) <| And.intro (@Ht.eq_2) <| And.intro (@V.isDead.eq_1) <| And.intro (@zT) <| And.intro (@sD) <| And.intro (@sE) <| And.intro (@sF) <| And.intro (@sG) <| And.intro (@sH) <| And.intro (@w9) <| And.intro (@wA) <| And.intro (@DB.calm.eq_1) <| And.intro (@DB.calm.eq_2) <| And.intro (@AJ.eq_1) <| And.intro (@BZ.eq_1) <| And.intro (@M.run.eq_1) <| And.intro (@M.run.eq_2) <| And.intro (@M.run.eq_3) <| And.intro (@M.run.eq_4) <| And.intro (@M.run.eq_5) <| And.intro (@M.run.eq_6) <| And.intro (@M.runA.eq_1) <| And.intro (@M.runA.eq_2) <| And.intro (@M.runA.eq_3) <| And.intro (@M.runA.eq_4) <| And.intro (@M.runA.eq_5) <| And.intro (@M.runA.eq_6) <| And.intro (@bld.eq_1) <| And.intro (@bld.eq_2) <| And.intro (@nL.eq_1) <| And.intro (@nL.eq_2) <| And.intro (@zV.eq_1) <| And.intro (@zV.eq_2) <| And.intro (@A0H.eq_1) <| And.intro (@xI.eq_1) <| And.intro (@nn.eq_1) <| And.intro (@LV.eq_1) <| And.intro (@LV.eq_2) <| And.intro (@SJ.eq_1) <| And.intro (@SJ.eq_2) <| And.intro (@SJ.eq_3) <| And.intro (@SJ.eq_4) <| And.intro (@SJ.eq_5) <| And.intro (@SJ.eq_6) <| And.intro (@YT.eq_1) <| And.intro (@YT.eq_2) <| And.intro (@fin.eq_1) <| And.intro (@bG.eq_1) <| And.intro (@bG.eq_2) <| And.intro (@YU.eq_1) <| And.intro (@YU.eq_2) <| And.intro (@YU.eq_3) <| And.intro (@dB.eq_1) <| And.intro (@dB.eq_2) <| And.intro (@hZ.eq_1) <| And.intro (@hZ.eq_2) <| And.intro (@nM.eq_1) <| And.intro (@nM.eq_2) <| And.intro (@M5.eq_1) <| And.intro (@YW.eq_1) <| And.intro (@YV.eq_1) <| And.intro (@YV.eq_2) <| And.intro (@AU.eq_1) <| And.intro (@AU.eq_2) <| And.intro (@Fz.eq_1) <| And.intro (@Fz.eq_2) <| And.intro (@frz.eq_1) <| And.intro (@frz.eq_2) <| And.intro (@frz.eq_3) <| And.intro (@allOwn.eq_1) <| And.intro (@allOwn.eq_2) <| And.intro (@allOwn.eq_3) <| And.intro (@DG.eq_1) <| And.intro (@DG.eq_2) <| And.intro (@B5.eq_1) <| And.intro (@B5.eq_2) <| And.intro (@RV.allOwn.eq_1) <| And.intro (@RV.allOwn.eq_2) <| And.intro (@RV.allOwn.eq_3) <| And.intro (@Ae.eq_1) <| And.intro (@Ae.eq_2) <| And.intro (@Ae.eq_3) <| And.intro (@Ae.eq_4) <| And.intro (@Bt.eq_1) <| And.intro (@Bt.eq_2) <| And.intro (@PA.reads.eq_1) <| And.intro (@PA.reads.eq_2) <| And.intro (@PA.reads.eq_3) <| And.intro (@V.isOwned.eq_1) <| And.intro (@V.isOwned.eq_2) <| And.intro (@V.isOwned.eq_3) <| And.intro (@PA.arg.eq_1) <| And.intro (@PA.arg.eq_2) <| And.intro (@Ve.eq_1) <| And.intro (@Ve.eq_2) <| And.intro (@wB) <| And.intro (@wC) <| And.intro (@sI) <| And.intro (@C3.eq_1) <| And.intro (@lh) <| And.intro (@Option.bind_some.{0, 0}) <| And.intro (@Option.bind_none.{0, 0}) <| And.intro (@Option.map_some.{0, 0}) <| And.intro (@Option.map_none.{0, 0}) <| And.intro (@Option.getD_some.{0}) <| And.intro (@Option.getD_none.{0}) <| And.intro (@Option.bind_assoc.{0, 0, 0}) <| And.intro (@List.map_cons.{0, 0}) <| And.intro (@List.map_nil.{0, 0}) <| And.intro (@List.cons_append.{0}) <| And.intro (@List.nil_append.{0}) <| And.intro (@List.append_nil.{0}) <| And.intro (@List.length_cons.{0}) <| And.intro (@List.length_nil.{0}) <| And.intro (@List.length_map.{0, 0}) <| And.intro (@List.length_append.{0}) <| And.intro (@List.length_replicate.{0}) <| And.intro (@List.take_succ_cons.{0}) <| And.intro (@List.take_zero.{0}) <| And.intro (@List.take_nil.{0}) <| And.intro (@List.drop_succ_cons.{0}) <| And.intro (@List.drop_zero.{0}) <| And.intro (@List.drop_nil.{0}) <| And.intro (@List.replicate_succ.{0}) <| And.intro (@List.replicate_zero.{0}) <| And.intro (@List.all_cons.{0}) <| And.intro (@List.all_nil.{0}) <| And.intro (@List.any_cons.{0}) <| And.intro (@List.any_nil.{0}) <| And.intro (@List.isEmpty_nil.{0}) <| And.intro (@List.isEmpty_cons.{0}) <| And.intro (@List.flatMap_cons.{0, 0}) <| And.intro (@List.flatMap_nil.{0, 0}) <| And.intro (@List.contains_cons.{0}) <| And.intro (@List.contains_nil.{0}) <| And.intro (@List.all_append.{0}) <| And.intro (@Bool.true_and) <| And.intro (@Bool.and_true) <| And.intro (@Bool.false_and) <| And.intro (@Bool.and_false) <| And.intro (@Bool.or_false) <| And.intro (@Bool.false_or) <| And.intro (@Bool.or_true) <| And.intro (@Bool.true_or) <| And.intro (@Bool.not_true) <| And.intro (@Bool.not_false) <| And.intro (@Bool.false_eq_true) <| And.intro (@decide_true) <| And.intro (@decide_false) <| And.intro (@eq_self.{0}) <| And.intro (@true_and) <| And.intro (@and_true) <| And.intro (@false_and) <| And.intro (@and_false) <| And.intro (@Nat.zero_add) <| And.intro (@Nat.add_zero) <| And.intro (@beq_self_eq_true.{0}) <| And.intro (@Bool.and_self) <| And.intro (@not_true_eq_false) <| (@not_false_eq_true)
def SS (FT : Env) := And.intro (S0 FT) (And.intro S1 S2)
end TT
namespace TT
open Go
def Ba : List V → List (Nat × V) → List V
 | s, [] => s
 | s, q :: l => Ba (s.set q.1 q.2) l
def Bb : R → List (Nat × List DB) → R
 | s, [] => s
 | s, q :: l => Bb (s.set q.1 q.2) l
theorem my {ρ : Type} {x : Option ρ} {e : ρ → Af} {y y' : Option Af} (h : Ok x e y') (he : y = y') : Ok x e y := fun r hr => he.trans (h r hr)
theorem B6 {β ρ : Type} {g : Option β} {f : β → Option ρ} {e : ρ → Af} {e' : β → Af} {Y Y' : Option Af} {k : Af → Option Af} (hg : Ok g e' Y) (hy : Y' = Y) (h : ∀ v, Ok (f v) e (k (e' v))) : Ok (g >>= f) e (Y'.bind k) := by
 subst hy; exact BH hg h
theorem zU {α ρ : Type} {l : List α} {i : Int} {f : α → Option ρ} {e : ρ → Af} {y : Option Af} (h : ∀ a, 0 ≤ i ∧ getI l i = some a ∧ l[i.toNat]? = some a ∧ i.toNat < l.length → Ok (f a) e y) : Ok (getI l i >>= f) e y := Dx fun a ha => by
 have h0 : 0 ≤ i := by
  unfold getI at ha
  by_cases hi : 0 ≤ i
  ·exact hi
  ·rw [if_neg hi] at ha; cases ha
 have h1 : l[i.toNat]? = some a := by rw [← UZ h0]; exact ha
 exact h a ⟨h0, ha, h1, (List.getElem?_eq_some_iff.1 h1).1⟩
theorem sJ (s : List V) : Ba s [] = s := rfl
theorem oO (s : List V) (i : Nat) (v : V) (l : List (Nat × V)) : Ba s ((i, v) :: l) = Ba (s.set i v) l := rfl
theorem sK (s : R) : Bb s [] = s := rfl
theorem oP (s : R) (i : Nat) (v : List DB) (l : List (Nat × List DB)) : Bb s ((i, v) :: l) = Bb (s.set i v) l := rfl
theorem sL (rows : Rows) (i c : Nat) (t : T) : Ef rows i c t = match rows[i]? with | some row => rows.set i (row.set c t) | none => rows := rfl
theorem A5 {α β : Type} (a : α) (f : α → Option β) : (some a >>= f) = f a := rfl
theorem A0V (x : Int) : rI x = [.v (.int .i64 x)] := rfl
theorem A0W (k : IntKind) (x : Int) : rK k x = [.v (.int k x)] := rfl
theorem A0X (x : ByteArray) : rS x = [.v (.string x)] := rfl
theorem A0Y (x : Bool) : rB x = [.v (.bool x)] := rfl
theorem A0Z {α : Type} (o : Bool) (f : α → List T) (l : List α) : rL o f l = [.sl o (l.map f)] := rfl
def xP {α β : Type} (l : List α) (l' : List β) : Option Unit := if l.length = l'.length then some () else none
theorem MV {α : Type} (f : α → List T) (n : Nat) (h : ∀ x, (f x).length = n) (l l' : List α) : ((l.map f).map (·.length) = (l'.map f).map (·.length)) = ((if l.length = l'.length then some () else none) = some ()) := by
 have e : ∀ l : List α, (l.map f).map (·.length) = List.replicate l.length n := by
  intro l
  induction l with
  | nil => rfl
  | cons x l ih => simp only [List.map_cons, ih, h, List.length_cons, List.replicate_succ]
 rw [e, e]
 apply propext
 constructor
 ·intro hh
  have := congrArg List.length hh
  simp only [List.length_replicate] at this
  rw [if_pos this]
 ·intro hh
  split at hh
  ·rename_i h1; rw [h1]
  ·cases hh
theorem zW (l l' : List Int) : ((l.map rI).map (·.length) = (l'.map rI).map (·.length)) = ((if l.length = l'.length then some () else none) = some ()) := MV rI 1 (fun _ => rfl) l l'
theorem zX (l l' : List ByteArray) : ((l.map rS).map (·.length) = (l'.map rS).map (·.length)) = ((if l.length = l'.length then some () else none) = some ()) := MV rS 1 (fun _ => rfl) l l'
theorem zY {α : Type} (o : Bool) (f : α → List T) (l l' : List (List α)) : ((l.map (rL o f)).map (·.length) = (l'.map (rL o f)).map (·.length)) = ((if l.length = l'.length then some () else none) = some ()) := MV (rL o f) 1 (fun _ => rfl) l l'
theorem wD {α β ρ : Type} {l : List α} {l' : List β} {f : Unit → Option ρ} {e : ρ → Af} {y : Option Af} (h : l.length = l'.length → Ok (f ()) e y) : Ok (xP l l' >>= f) e y := Dx fun a ha => by
 unfold xP at ha
 split at ha
 ·rename_i h1; cases ha; exact h h1
 ·cases ha
theorem jL (rows : Rows) (stt : Nat) (q : Nat × Nat) (p : Path) (i n st : Nat) : Cl rows stt (q :: p) i n st = if st = stt then (BY rows (q :: p)).bind (·[i]?) else none := rfl
theorem sM (rows : Rows) : BY rows [] = some rows := rfl
def sN (p : Path) : Option T → Option Rows
 | some (.sl true rows) => BY rows p
 | _ => none
theorem li (p : Path) (rows : Rows) : sN p (some (.sl true rows)) = BY rows p := rfl
theorem oQ (rows : Rows) (i c : Nat) (p : Path) : BY rows ((i, c) :: p) = sN p (rows[i]?.bind (·[c]?)) := by
 simp only [BY, sN]; cases rows[i]?.bind (·[c]?) with
 | none => rfl
 | some t => cases t <;> try rfl
theorem sO (rows : Rows) (p : Path) (i c : Nat) : B9 rows p i c = (BY rows p).bind fun rs => rs[i]?.bind (·[c]?) := rfl
def sP (rows : Rows) (i0 c0 : Nat) (p : Path) (i c : Nat) (t : T) : Option T → Rows
 | some (.sl true rows') => Ef rows i0 c0 (.sl true (Ai rows' p i c t))
 | _ => rows
theorem lj (rows : Rows) (i0 c0 : Nat) (p : Path) (i c : Nat) (t : T) (rows' : Rows) : sP rows i0 c0 p i c t (some (.sl true rows')) = Ef rows i0 c0 (.sl true (Ai rows' p i c t)) := rfl
theorem oR (rows : Rows) (i0 c0 : Nat) (p : Path) (i c : Nat) (t : T) : Ai rows ((i0, c0) :: p) i c t = sP rows i0 c0 p i c t (rows[i0]?.bind (·[c0]?)) := by
 simp only [Ai, sP]; cases rows[i0]?.bind (·[c0]?) with
 | none => rfl
 | some t => cases t <;> try rfl
theorem bV {α : Type} (l : List α) (i : Int) (x : α) : getI (l.set i.toNat x) i = if 0 ≤ i then (if i.toNat < l.length then some x else none) else none := by
 unfold getI
 split
 ·simp [List.getElem?_set]
 ·rfl
def A0a (sz : Nat) (id : Id) (p : Path) (n : Int) (m st : Nat) : T → M V
 | .sl true rs => iaS sz id p n m st rs
 | _ => .fail
theorem wE (sz : Nat) (id : Id) (p : Path) (n : Int) (m st : Nat) (rs : Rows) : A0a sz id p n m st (.sl true rs) = iaS sz id p n m st rs := rfl
theorem wF (sz : Nat) (id : Id) (p : Path) (j c : Nat) (n : Int) (m st : Nat) (rows : Rows) (stt : Nat) (fx : Bool) : iaC sz id p j c n m st (.mem rows stt fx) = if st = stt then Bx (B9 rows p j c) (A0a sz id (p ++ [(j, c)]) n m st) else .fail := by
 simp only [iaC]; split
 ·cases B9 rows p j c with
  | none => rfl
  | some t => cases t <;> try rfl
 ·rfl
theorem QE {α : Type} (f : α → List T) (l : List α) (i : Nat) (x : α) (r : List T) (h : f x = r) : (l.map f).set i r = (l.set i x).map f := by rw [← h, List.map_set]
theorem QX {α : Type} (f : α → List T) (l : List α) (x : α) (r : List T) (rs : Rows) (h : f x = r) : l.map f ++ (r :: rs) = (l ++ [x]).map f ++ rs := by rw [← h]; simp
theorem wG (l : List Int) (i : Nat) (x : Int) : (l.map rI).set i [.v (.int .i64 x)] = (l.set i x).map rI := QE rI l i x _ rfl
theorem wH (k : IntKind) (l : List Int) (i : Nat) (x : Int) : (l.map (rK k)).set i [.v (.int k x)] = (l.set i x).map (rK k) := QE (rK k) l i x _ rfl
theorem wI (l : List ByteArray) (i : Nat) (x : ByteArray) : (l.map rS).set i [.v (.string x)] = (l.set i x).map rS := QE rS l i x _ rfl
theorem wJ (l : List Bool) (i : Nat) (x : Bool) : (l.map rB).set i [.v (.bool x)] = (l.set i x).map rB := QE rB l i x _ rfl
theorem wK {α : Type} (o : Bool) (f : α → List T) (l : List (List α)) (i : Nat) (x : List α) : (l.map (rL o f)).set i [.sl o (x.map f)] = (l.set i x).map (rL o f) := QE (rL o f) l i x _ rfl
theorem sQ {α : Type} (o : Bool) (f : α → List T) (l : List (List α)) (i : Nat) : (l.map (rL o f)).set i [.sl o []] = (l.set i []).map (rL o f) := QE (rL o f) l i [] _ rfl
theorem wL (l : List Int) (x : Int) (rs : Rows) : l.map rI ++ ([.v (.int .i64 x)] :: rs) = (l ++ [x]).map rI ++ rs := QX rI l x _ rs rfl
theorem wM (k : IntKind) (l : List Int) (x : Int) (rs : Rows) : l.map (rK k) ++ ([.v (.int k x)] :: rs) = (l ++ [x]).map (rK k) ++ rs := QX (rK k) l x _ rs rfl
theorem wN (l : List ByteArray) (x : ByteArray) (rs : Rows) : l.map rS ++ ([.v (.string x)] :: rs) = (l ++ [x]).map rS ++ rs := QX rS l x _ rs rfl
theorem wO (l : List Bool) (x : Bool) (rs : Rows) : l.map rB ++ ([.v (.bool x)] :: rs) = (l ++ [x]).map rB ++ rs := QX rB l x _ rs rfl
theorem wP {α : Type} (o : Bool) (f : α → List T) (l : List (List α)) (x : List α) (rs : Rows) : l.map (rL o f) ++ ([.sl o (x.map f)] :: rs) = (l ++ [x]).map (rL o f) ++ rs := QX (rL o f) l x _ rs rfl
theorem sR {α : Type} (o : Bool) (f : α → List T) (l : List (List α)) (rs : Rows) : l.map (rL o f) ++ ([.sl o []] :: rs) = (l ++ [[]]).map (rL o f) ++ rs := QX (rL o f) l [] _ rs rfl
theorem sS {α : Type} (f : α → List T) (l l' : List α) : l.map f ++ l'.map f = (l ++ l').map f := by simp
theorem Tj {α : Type} (f : α → List T) (n : Nat) (x : α) (r : List T) (h : f x = r) : List.replicate n r = (List.replicate n x).map f := by rw [← h, List.map_replicate]
theorem wQ (n : Nat) (x : Int) : List.replicate n [T.v (.int .i64 x)] = (List.replicate n x).map rI := Tj rI n x _ rfl
theorem wR (n : Nat) (x : ByteArray) : List.replicate n [T.v (.string x)] = (List.replicate n x).map rS := Tj rS n x _ rfl
theorem wS (n : Nat) (x : Bool) : List.replicate n [T.v (.bool x)] = (List.replicate n x).map rB := Tj rB n x _ rfl
theorem sT (n : Nat) (o : Bool) : List.replicate n [T.sl o []] = (List.replicate n []).map (rL o rI) := Tj (rL o rI) n [] _ rfl
def S3 := And.intro wQ <| And.intro wR <| And.intro wS <| And.intro sT <| And.intro wG <| And.intro wH <| And.intro wI <| And.intro wJ <| And.intro (@wK) <| And.intro (@sQ) <| And.intro wL <| And.intro wM <| And.intro wN <| And.intro wO <| And.intro (@wP) <| And.intro (@sR) <| And.intro (@sS) <| And.intro (@bV) <| And.intro wE <| And.intro wF <| And.intro jL <| And.intro sM <| And.intro li <| And.intro oQ <| And.intro sO <| And.intro lj <| And.intro oR <| And.intro zW <| And.intro zX <| And.intro (@zY) <| And.intro (@A5) <| And.intro A0V <| And.intro A0W <| And.intro A0X <| And.intro A0Y <| And.intro (@A0Z) <| And.intro sL <| And.intro (@List.set_set.{0}) <| And.intro sJ <| And.intro oO <| And.intro sK <| And.intro oP <| And.intro (@List.getElem?_map.{0, 0}) <| And.intro (@List.getElem?_set.{0}) <| (@List.length_set.{0})
end TT
