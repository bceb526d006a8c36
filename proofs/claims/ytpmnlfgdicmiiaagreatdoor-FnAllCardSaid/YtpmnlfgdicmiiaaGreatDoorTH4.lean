import Derived.Test.YtpmnlfgdicmiiaaGreatDoorTH3
set_option maxRecDepth 10000
set_option linter.unusedVariables false
set_option linter.defProp false
namespace TT
open Go
def S0 (FT:Env):=And.intro (@A0s FT)<|And.intro (@A5x FT)<|And.intro (@A41 FT)<|And.intro (@A42 FT)<|And.intro (@A43 FT)<|And.intro (@A6o FT)<|And.intro (@A0t FT)<|And.intro (@A0u FT)<|And.intro (@wq FT)<|And.intro (@A44 FT)<|And.intro (@A0v FT)<|And.intro (@A0w FT)<|And.intro (@A3J FT)<|And.intro (@A5y FT)<|And.intro (@A0x FT)<|And.intro (@A5z FT)<|And.intro (@A60 FT)<|And.intro (@A61 FT)<|And.intro (@A62 FT)<|And.intro (@A3u FT)<|And.intro (@A5m FT)<|And.intro (@A5n FT)<|And.intro (@A5u FT)<|And.intro (@A5o FT)<|And.intro (@A5p FT)<|And.intro (@A5q FT)<|And.intro (@A3v FT)<|And.intro (@A5r FT)<|And.intro (@A5s FT)<|And.intro (@A5t FT)<|And.intro (@A3w FT)<|And.intro (@A3x FT)<|And.intro (@A0l FT)<|And.intro (@wZ FT)<|And.intro (@tY FT)<|And.intro (@A3z FT)<|And.intro (@wh FT)<|And.intro (@wi FT)<|And.intro (@A5w FT)<|And.intro (@A0o FT)<|And.intro (@jJ FT)<|And.intro (@wk FT)<|And.intro (@wl FT)<|And.intro (@A0r FT)<|And.intro (@A0q FT)<|And.intro (@A40 FT)<|And.intro (@wm FT)<|And.intro (@xq FT)<|And.intro (@jK FT)<|And.intro (@wo FT)<|And.intro (@tZ FT)<|And.intro (@A0n FT)<|And.intro (@jH FT)<|And.intro (@jI FT)<|And.intro (@A6G FT)<|(@A6H FT)
def S1 := And.intro (@A4L)<|And.intro (@y9)<|And.intro (@yA)<|And.intro (@A6r)<|And.intro (@A6K)<|And.intro (@A6L)<|And.intro (@A6M)<|And.intro (@qh)<|And.intro (@qi)<|And.intro (@A25)<|And.intro (@yB)<|And.intro (@yC)<|And.intro (@yD)<|And.intro (@yE)<|And.intro (@frz.eq_4)<|And.intro (@frz.eq_5)<|And.intro (@A1q)<|And.intro (@xf)<|And.intro (@xg)<|And.intro (@nj)<|And.intro (@A1t)<|And.intro (@A1s)<|And.intro (@xm)<|And.intro (@xp)<|And.intro (@A1v)<|And.intro (@A4s)<|And.intro (@A1x)<|And.intro (@A4u)<|And.intro (@xr)<|And.intro (@wv)<|And.intro (@A1D)<|And.intro (@A1E)<|And.intro (@ta)<|And.intro (@A1F)<|And.intro (@tb)<|And.intro (@A1J)<|And.intro (@wy)<|And.intro (@A1K)<|And.intro (@wz)<|And.intro (@A4M)<|And.intro (@A4N)<|And.intro (@A69)<|And.intro (@A1m)<|And.intro (@xW)<|And.intro (@xV)<|And.intro (@xX)<|And.intro (@tf)<|And.intro (@A1O)<|And.intro (@xB)<|And.intro (@xA)<|And.intro (@A1N)<|And.intro (@A1L)<|And.intro (@xC)<|And.intro (@A4Q)<|And.intro (@A1P)<|And.intro (@xD)<|And.intro (@A1Q)<|And.intro (@A4T)<|And.intro (@A4U)<|And.intro (@A1R)<|And.intro (@xE)<|And.intro (@A4V)<|And.intro (@A4W)<|And.intro (@A1T)<|And.intro (@A1U)<|And.intro (@A1V)<|And.intro (@A1W)<|And.intro (@xF)<|And.intro (@A4X)<|And.intro (@A4Y)<|And.intro (@A1X)<|And.intro (@A1Y)<|And.intro (@xG)<|And.intro (@xH)<|And.intro (@qX)<|And.intro (@qY)<|And.intro (@A1a)<|And.intro (@xI)<|And.intro (@A1b)<|And.intro (@A4a)<|And.intro (@A1c)<|And.intro (@A1d)<|And.intro (@A4c)<|And.intro (@A1e)<|And.intro (@A4d)<|And.intro (@A4e)<|And.intro (@xJ)<|And.intro (@A1f)<|And.intro (@A6C)<|And.intro (@A4f)<|And.intro (@xK)<|And.intro (@A1g)<|And.intro (@xL)<|And.intro (@xM)<|And.intro (@A4g)<|And.intro (@A4h)<|And.intro (@A1i)<|And.intro (@xQ)<|And.intro (@tc)<|And.intro (@xR)<|And.intro (@xS)<|And.intro (@xT)<|And.intro (@xU)<|And.intro (@A1j)<|And.intro (@A1k)<|And.intro (@A4k)<|And.intro (@A4l)<|And.intro (@xY)<|And.intro (@xZ)<|And.intro (@xa)<|And.intro (@A1n)<|And.intro (@A6E)<|And.intro (@A6F)<|And.intro (@A4m)<|And.intro (@xc)<|And.intro (@A1o)<|And.intro (@A1p)<|And.intro (@A13)<|And.intro (@A48)<|And.intro (@A14)<|And.intro (@qT)<|And.intro (@A15)<|And.intro (@A16)<|And.intro (@qU)<|And.intro (@qV)<|And.intro (@qW)<|And.intro (@nU)<|And.intro (@nV)<|And.intro (@nW)<|And.intro (@nX)<|And.intro (@nY)<|And.intro (@nZ)<|And.intro (@nc)<|And.intro (@nd)<|And.intro (@nf)<|And.intro (@A17)<|And.intro (@A18)<|And.intro (@A19)<|And.intro (@A1A)<|And.intro (@ng)<|And.intro (@A1B)<|And.intro (@A49)<|And.intro (@A4A)<|And.intro (@A4B)<|And.intro (@A4C)<|And.intro (@A4D)<|And.intro (@A4E)<|And.intro (@A1C)<|And.intro (@A4F)<|And.intro (@A4G)<|And.intro (@A4H)<|And.intro (@A4I)<|And.intro (@A4J)<|And.intro (@A4K)<|And.intro (@xu)<|And.intro (@A1y)<|And.intro (@cy)<|And.intro (@A1z)<|And.intro (@Vf)<|And.intro (@tj)<|And.intro (@xv)<|And.intro (@A6I)<|And.intro (@A6J)<|And.intro (@qa)<|And.intro (@tk)<|And.intro (@tl)<|And.intro (@xw)<|And.intro (@tn)<|And.intro (@tq)<|And.intro (@xx)<|And.intro (@xy)<|And.intro (@xz)<|And.intro (@A20)<|And.intro (@A21)<|And.intro (@A22)<|And.intro (@A23)<|And.intro (@qb)<|And.intro (@nk)<|And.intro (@qc)<|And.intro (@qd)<|And.intro (@nl)<|And.intro (@qe)<|And.intro (@A24)<|And.intro (@tr)<|And.intro (@y8)<|And.intro (@qf)<|And.intro (@qg)<|And.intro (@no)<|And.intro (@np)<|And.intro (@tt)<|And.intro (@nq)<|And.intro (@ns)<|And.intro (@nu)<|And.intro (@A4v)<|And.intro (@take_nil)<|And.intro (@yF)<|And.intro (@tu)<|And.intro (@yH)<|And.intro (@qj)<|And.intro (@tw)<|And.intro (@qk)<|And.intro (@kJ)<|And.intro (@fy)<|And.intro (@yI)<|And.intro (@ql)<|And.intro (@qm)<|And.intro (@tx)<|And.intro (@qn)<|And.intro (@qo)<|And.intro (@yK)<|And.intro (@yL)<|And.intro (@qp)<|And.intro (@qr)<|And.intro (@qt)<|And.intro (@qu)<|And.intro (@A4w)<|And.intro (@kL)<|And.intro (@gA)<|And.intro (@kM)<|And.intro (@kN)<|And.intro (@kO)<|And.intro (@gB)<|And.intro (@kP)<|And.intro (@kQ)<|And.intro (@kR)<|And.intro (@tz)<|And.intro (@gC)<|And.intro (@u9)<|And.intro (@kS)<|And.intro (@qv)<|And.intro (@yO)<|And.intro (@qw)<|And.intro (@A26)<|And.intro (@A27)<|And.intro (@uA)<|And.intro (@qx)<|And.intro (@kT)<|And.intro (@qy)<|And.intro (@qz)<|And.intro (@nv)<|And.intro (@uB)<|And.intro (@nw)<|And.intro (@nx)<|And.intro (@ny)<|And.intro (@kU)<|And.intro (@gD)<|And.intro (@yP)<|And.intro (@rA)<|And.intro (@rC)<|And.intro (@rD)<|And.intro (@o6)<|And.intro (@kV)<|And.intro (@o7)<|And.intro (@kW)<|And.intro (@yQ)<|And.intro (@yR)<|And.intro (@kX)<|And.intro (@yS)<|And.intro (@kY)<|And.intro (@nS)<|And.intro (@wa)<|And.intro (@wb)<|And.intro (@we)<|And.intro (@wg)<|And.intro (@A3y)<|And.intro (@A28)<|And.intro (@A4x)<|And.intro (@A29)<|And.intro (@A4y)<|And.intro (@ww)<|And.intro (@yT)<|And.intro (@A1I)<|And.intro (@yU)<|And.intro (@A2A)<|And.intro (@yV)<|And.intro (@A6N)<|And.intro (@A2B)<|And.intro (@A2C)<|And.intro (@A2D)<|And.intro (@A4z)<|And.intro (@A2E)<|And.intro (@A2F)<|And.intro (@rE)<|And.intro (@rF)<|And.intro (@yW)<|And.intro (@uC)<|And.intro (@uD)<|And.intro (@yX)<|And.intro (@yY)<|And.intro (@yZ)<|And.intro (@A50)<|And.intro (@A2G)<|And.intro (@A51)<|And.intro (@A2H)<|And.intro (@A52)<|And.intro (@uE)<|And.intro (@ya)<|And.intro (@yb)<|And.intro (@yc)<|And.intro (@uF)<|And.intro (@uG)<|And.intro (@uH)<|And.intro (@uI)<|And.intro (@A54)<|And.intro (@A55)<|And.intro (@A56)<|And.intro (@A57)<|And.intro (@yd)<|And.intro (@uJ)<|And.intro (@A2I)<|And.intro (@uK)<|And.intro (@uL)<|And.intro (@rH)<|And.intro (@o8)<|And.intro (@ye)<|And.intro (@KP)<|And.intro (@LM)<|And.intro (@LN)<|And.intro (@LO)<|And.intro (@ID)<|And.intro (@KQ)<|And.intro (@LP)<|And.intro (@LQ)<|And.intro (@LR)<|And.intro (@IE)<|And.intro (@A58)<|And.intro (@A6O)<|And.intro (@A2J)<|And.intro (@yf)<|And.intro (@A5E)<|And.intro (@A5F)<|And.intro (@yg)<|And.intro (@yh)<|And.intro (@A5G)<|And.intro (@yi)<|And.intro (@A59)<|And.intro (@A5A)<|And.intro (@A5B)<|And.intro (@A5C)<|(@A5D)
def S2 := And.intro (@nR.eq_1)<|And.intro (@nR.eq_2)<|And.intro (@clS.eq_1)<|And.intro (@clS.eq_2)<|And.intro (@clR.eq_1)<|And.intro (@clR.eq_2)<|And.intro (@Mr.eq_1)<|And.intro (@QS.eq_1)<|And.intro (@V.mentions.eq_1)<|And.intro (@V.mentions.eq_2)<|And.intro (@V.mentions.eq_3)<|And.intro (@V.mentions.eq_4)<|And.intro (@V.mentions.eq_5)<|And.intro (@V.mentions.eq_6)<|And.intro (@V.mentions.eq_7)<|And.intro (@V.mentions.eq_8)<|And.intro (@V.mentions.eq_9)<|And.intro (@Kn.eq_1)<|And.intro (@Kn.eq_2)<|And.intro (@V.isDead.eq_1)<|And.intro (@A5H)<|And.intro (@yj)<|And.intro (@yl)<|And.intro (@ym)<|And.intro (@yp)<|And.intro (@yq)<|And.intro (@A2K)<|And.intro (@A2L)<|And.intro (@E2.calm.eq_1)<|And.intro (@E2.calm.eq_2)<|And.intro (@AL.eq_1)<|And.intro (@BL.eq_1)<|And.intro (@M.run.eq_1)<|And.intro (@M.run.eq_2)<|And.intro (@M.run.eq_3)<|And.intro (@M.run.eq_4)<|And.intro (@M.run.eq_5)<|And.intro (@M.run.eq_6)<|And.intro (@M.runA.eq_1)<|And.intro (@M.runA.eq_2)<|And.intro (@M.runA.eq_3)<|And.intro (@M.runA.eq_4)<|And.intro (@M.runA.eq_5)<|And.intro (@M.runA.eq_6)<|And.intro (@bld.eq_1)<|And.intro (@bld.eq_2)<|And.intro (@t6.eq_1)<|And.intro (@t6.eq_2)<|And.intro (@zV.eq_1)<|And.intro (@zV.eq_2)<|And.intro (@A68.eq_1)<|And.intro (@A3K.eq_1)<|And.intro (@te.eq_1)<|And.intro (@Oj.eq_1)<|And.intro (@Oj.eq_2)<|And.intro (@inV.eq_1)<|And.intro (@inV.eq_2)<|And.intro (@inV.eq_3)<|And.intro (@inV.eq_4)<|And.intro (@inV.eq_5)<|And.intro (@inV.eq_6)<|And.intro (@bw.eq_1)<|And.intro (@bw.eq_2)<|And.intro (@fin.eq_1)<|And.intro (@fj.eq_1)<|And.intro (@fj.eq_2)<|And.intro (@bx.eq_1)<|And.intro (@bx.eq_2)<|And.intro (@bx.eq_3)<|And.intro (@iX.eq_1)<|And.intro (@iX.eq_2)<|And.intro (@mS.eq_1)<|And.intro (@mS.eq_2)<|And.intro (@t7.eq_1)<|And.intro (@t7.eq_2)<|And.intro (@UK.eq_1)<|And.intro (@c9.eq_1)<|And.intro (@bz.eq_1)<|And.intro (@bz.eq_2)<|And.intro (@AZ.eq_1)<|And.intro (@AZ.eq_2)<|And.intro (@Fm.eq_1)<|And.intro (@Fm.eq_2)<|And.intro (@frz.eq_1)<|And.intro (@frz.eq_2)<|And.intro (@frz.eq_3)<|And.intro (@allOwn.eq_1)<|And.intro (@allOwn.eq_2)<|And.intro (@allOwn.eq_3)<|And.intro (@Cg.eq_1)<|And.intro (@Cg.eq_2)<|And.intro (@Aw.eq_1)<|And.intro (@Aw.eq_2)<|And.intro (@RV.allOwn.eq_1)<|And.intro (@RV.allOwn.eq_2)<|And.intro (@RV.allOwn.eq_3)<|And.intro (@Ay.eq_1)<|And.intro (@Ay.eq_2)<|And.intro (@Ay.eq_3)<|And.intro (@Ay.eq_4)<|And.intro (@Cc.eq_1)<|And.intro (@Cc.eq_2)<|And.intro (@PA.reads.eq_1)<|And.intro (@PA.reads.eq_2)<|And.intro (@PA.reads.eq_3)<|And.intro (@V.isOwned.eq_1)<|And.intro (@V.isOwned.eq_2)<|And.intro (@V.isOwned.eq_3)<|And.intro (@PA.arg.eq_1)<|And.intro (@PA.arg.eq_2)<|And.intro (@Z1.eq_1)<|And.intro (@Z1.eq_2)<|And.intro (@A2M)<|And.intro (@A2N)<|And.intro (@yr)<|And.intro (@CU.eq_1)<|And.intro (@rJ)<|And.intro (@Option.bind_some.{0,0})<|And.intro (@Option.bind_none.{0,0})<|And.intro (@Option.map_some.{0,0})<|And.intro (@Option.map_none.{0,0})<|And.intro (@Option.getD_some.{0})<|And.intro (@Option.getD_none.{0})<|And.intro (@Option.bind_assoc.{0,0,0})<|And.intro (@List.map_cons.{0,0})<|And.intro (@List.map_nil.{0,0})<|And.intro (@List.cons_append.{0})<|And.intro (@List.nil_append.{0})<|And.intro (@List.append_nil.{0})<|And.intro (@List.length_cons.{0})<|And.intro (@List.length_nil.{0})<|And.intro (@List.length_map.{0,0})<|And.intro (@List.length_append.{0})<|And.intro (@List.length_replicate.{0})<|And.intro (@List.take_succ_cons.{0})<|And.intro (@List.take_zero.{0})<|And.intro (@List.take_nil.{0})<|And.intro (@List.drop_succ_cons.{0})<|And.intro (@List.drop_zero.{0})<|And.intro (@List.drop_nil.{0})<|And.intro (@List.replicate_succ.{0})<|And.intro (@List.replicate_zero.{0})<|And.intro (@List.all_cons.{0})<|And.intro (@List.all_nil.{0})<|And.intro (@List.any_cons.{0})<|And.intro (@List.any_nil.{0})<|And.intro (@List.isEmpty_nil.{0})<|And.intro (@List.isEmpty_cons.{0})<|And.intro (@List.flatMap_cons.{0,0})<|And.intro (@List.flatMap_nil.{0,0})<|And.intro (@List.contains_cons.{0})<|And.intro (@List.contains_nil.{0})<|And.intro (@List.all_append.{0})<|And.intro (@Bool.true_and)<|And.intro (@Bool.and_true)<|And.intro (@Bool.false_and)<|And.intro (@Bool.and_false)<|And.intro (@Bool.or_false)<|And.intro (@Bool.false_or)<|And.intro (@Bool.or_true)<|And.intro (@Bool.true_or)<|And.intro (@Bool.not_true)<|And.intro (@Bool.not_false)<|And.intro (@Bool.false_eq_true)<|And.intro (@decide_true)<|And.intro (@decide_false)<|And.intro (@eq_self.{0})<|And.intro (@true_and)<|And.intro (@and_true)<|And.intro (@false_and)<|And.intro (@and_false)<|And.intro (@Nat.zero_add)<|And.intro (@Nat.add_zero)<|And.intro (@beq_self_eq_true.{0})<|And.intro (@Bool.and_self)<|And.intro (@not_true_eq_false)<|(@not_false_eq_true)
def SS (FT:Env):=And.intro (S0 FT) (And.intro S1 S2)
end TT
namespace TT
open Go
def BE : List V→List (Nat×V)→List V
 |s,[]=>s
 |s,q::l=>BE (s.set q.1 q.2) l
def BF : R→List (Nat×List E2)→R
 |s,[]=>s
 |s,q::l=>BF (s.set q.1 q.2) l
theorem sW {ρ:Type} {x:Option ρ} {e:ρ→Ap} {y y':Option Ap} (h:Ok x e y') (he:y=y'):Ok x e y:=fun r hr=>he.trans (h r hr)
theorem Ed {β ρ:Type} {g:Option β} {f:β→Option ρ} {e:ρ→Ap} {e':β→Ap} {Y Y':Option Ap} {k:Ap→Option Ap} (hg:Ok g e' Y) (hy:Y'=Y) (h:∀v,Ok (f v) e (k (e' v))):Ok (g>>=f) e (Y'.bind k):=by
 subst hy;exact ER hg h
theorem A5I {α ρ:Type} {l:List α} {i:Int} {f:α→Option ρ} {e:ρ→Ap} {y:Option Ap} (h:∀a,0≤i∧getI l i=some a∧l[i.toNat]? =some a∧i.toNat<l.length→Ok (f a) e y):Ok (getI l i>>=f) e y:=E6 fun a ha=>by
 have h0:0≤i:=by
  unfold getI at ha
  by_cases hi:0≤i
  ·exact hi
  ·rw[if_neg hi]at ha;cases ha
 have h1:l[i.toNat]? =some a:=by rw[←UW h0];exact ha
 exact h a ⟨h0,ha,h1,(List.getElem?_eq_some_iff.1 h1).1⟩
theorem yt (s:List V):BE s []=s:=rfl
theorem uM (s:List V) (i:Nat) (v:V) (l:List (Nat×V)):BE s ((i,v)::l)=BE (s.set i v) l:=rfl
theorem yu (s:R):BF s []=s:=rfl
theorem uN (s:R) (i:Nat) (v:List E2) (l:List (Nat×List E2)):BF s ((i,v)::l)=BF (s.set i v) l:=rfl
theorem yv (rows:Rows) (i c:Nat) (t:T):GV rows i c t=match rows[i]? with|some row=>rows.set i (row.set c t)|none=>rows:=rfl
theorem A6 {α β:Type} (a:α) (f:α→Option β):(some a>>=f)=f a:=rfl
theorem A6P (x:Int):rI x=[.v (.int .i64 x)]:=rfl
theorem A6Q (k:IntKind) (x:Int):rK k x=[.v (.int k x)]:=rfl
theorem A6R (x:ByteArray):rS x=[.v (.string x)]:=rfl
theorem A6S (x:Bool):rB x=[.v (.bool x)]:=rfl
theorem A6T {α:Type} (o:Bool) (f:α→List T) (l:List α):rL o f l=[.sl o (l.map f)]:=rfl
def Y2 {α β:Type} (l:List α) (l':List β):Option Unit:=if l.length=l'.length then some ()else none
theorem GY {α:Type} (f:α→List T) (n:Nat) (h:∀x,(f x).length=n) (l l':List α):((l.map f).map (·.length)=(l'.map f).map (·.length))=((if l.length=l'.length then some ()else none)=some ()):=by
 have e:∀l:List α,(l.map f).map (·.length)=List.replicate l.length n:=by
  intro l
  induction l with
  |nil=>rfl
  |cons x l ih=>simp only[List.map_cons,ih,h,List.length_cons,List.replicate_succ]
 rw[e,e]
 apply propext
 constructor
 ·intro hh
  have:=congrArg List.length hh
  simp only[List.length_replicate]at this
  rw[if_pos this]
 ·intro hh
  split at hh
  ·rename_i h1;rw[h1]
  ·cases hh
theorem A5J (l l':List Int):((l.map rI).map (·.length)=(l'.map rI).map (·.length))=((if l.length=l'.length then some ()else none)=some ()):=GY rI 1 (fun _=>rfl) l l'
theorem A5K (l l':List ByteArray):((l.map rS).map (·.length)=(l'.map rS).map (·.length))=((if l.length=l'.length then some ()else none)=some ()):=GY rS 1 (fun _=>rfl) l l'
theorem A5L {α:Type} (o:Bool) (f:α→List T) (l l':List (List α)):((l.map (rL o f)).map (·.length)=(l'.map (rL o f)).map (·.length))=((if l.length=l'.length then some ()else none)=some ()):=GY (rL o f) 1 (fun _=>rfl) l l'
theorem A2O {α β ρ:Type} {l:List α} {l':List β} {f:Unit→Option ρ} {e:ρ→Ap} {y:Option Ap} (h:l.length=l'.length→Ok (f ()) e y):Ok (Y2 l l'>>=f) e y:=E6 fun a ha=>by
 unfold Y2 at ha
 split at ha
 ·rename_i h1;cases ha;exact h h1
 ·cases ha
theorem o9 (rows:Rows) (stt:Nat) (q:Nat×Nat) (p:Path) (i n st:Nat):D3 rows stt (q::p) i n st=if st=stt then(CB rows (q::p)).bind (·[i]?)else none:=rfl
theorem yw (rows:Rows):CB rows []=some rows:=rfl
def yx (p:Path):Option T→Option Rows
 |some (.sl true rows)=>CB rows p
 |_=>none
theorem rM (p:Path) (rows:Rows):yx p (some (.sl true rows))=CB rows p:=rfl
theorem uO (rows:Rows) (i c:Nat) (p:Path):CB rows ((i,c)::p)=yx p (rows[i]?.bind (·[c]?)):=by
 simp only[CB,yx];cases rows[i]?.bind (·[c]?)with
 |none=>rfl
 |some t=>cases t<;>try rfl
theorem yy (rows:Rows) (p:Path) (i c:Nat):Be rows p i c=(CB rows p).bind fun rs=>rs[i]?.bind (·[c]?):=rfl
def yz (rows:Rows) (i0 c0:Nat) (p:Path) (i c:Nat) (t:T):Option T→Rows
 |some (.sl true rows')=>GV rows i0 c0 (.sl true (B6 rows' p i c t))
 |_=>rows
theorem rN (rows:Rows) (i0 c0:Nat) (p:Path) (i c:Nat) (t:T) (rows':Rows):yz rows i0 c0 p i c t (some (.sl true rows'))=GV rows i0 c0 (.sl true (B6 rows' p i c t)):=rfl
theorem uP (rows:Rows) (i0 c0:Nat) (p:Path) (i c:Nat) (t:T):B6 rows ((i0,c0)::p) i c t=yz rows i0 c0 p i c t (rows[i0]?.bind (·[c0]?)):=by
 simp only[B6,yz];cases rows[i0]?.bind (·[c0]?)with
 |none=>rfl
 |some t=>cases t<;>try rfl
theorem gE {α:Type} (l:List α) (i:Int) (x:α):getI (l.set i.toNat x) i=if 0≤i then(if i.toNat<l.length then some x else none)else none:=by
 unfold getI
 split
 ·simp[List.getElem?_set]
 ·rfl
def A6U (sz:Nat) (id:Id) (p:Path) (n:Int) (m st:Nat):T→M V
 | .sl true rs=>iaS sz id p n m st rs
 |_=> .fail
theorem A2P (sz:Nat) (id:Id) (p:Path) (n:Int) (m st:Nat) (rs:Rows):A6U sz id p n m st (.sl true rs)=iaS sz id p n m st rs:=rfl
theorem A2Q (sz:Nat) (id:Id) (p:Path) (j c:Nat) (n:Int) (m st:Nat) (rows:Rows) (stt:Nat) (fx:Bool):iaC sz id p j c n m st (.mem rows stt fx)=if st=stt then Bg (Be rows p j c) (A6U sz id (p++[(j,c)]) n m st)else .fail:=by
 simp only[iaC];split
 ·cases Be rows p j c with
  |none=>rfl
  |some t=>cases t<;>try rfl
 ·rfl
theorem Pj {α:Type} (f:α→List T) (l:List α) (i:Nat) (x:α) (r:List T) (h:f x=r):(l.map f).set i r=(l.set i x).map f:=by rw[←h,List.map_set]
theorem Pk {α:Type} (f:α→List T) (l:List α) (x:α) (r:List T) (rs:Rows) (h:f x=r):l.map f++(r::rs)=(l++[x]).map f++rs:=by rw[←h];simp
theorem A2R (l:List Int) (i:Nat) (x:Int):(l.map rI).set i [.v (.int .i64 x)]=(l.set i x).map rI:=Pj rI l i x _ rfl
theorem A2S (k:IntKind) (l:List Int) (i:Nat) (x:Int):(l.map (rK k)).set i [.v (.int k x)]=(l.set i x).map (rK k):=Pj (rK k) l i x _ rfl
theorem A2T (l:List ByteArray) (i:Nat) (x:ByteArray):(l.map rS).set i [.v (.string x)]=(l.set i x).map rS:=Pj rS l i x _ rfl
theorem A2U (l:List Bool) (i:Nat) (x:Bool):(l.map rB).set i [.v (.bool x)]=(l.set i x).map rB:=Pj rB l i x _ rfl
theorem A2V {α:Type} (o:Bool) (f:α→List T) (l:List (List α)) (i:Nat) (x:List α):(l.map (rL o f)).set i [.sl o (x.map f)]=(l.set i x).map (rL o f):=Pj (rL o f) l i x _ rfl
theorem zA {α:Type} (o:Bool) (f:α→List T) (l:List (List α)) (i:Nat):(l.map (rL o f)).set i [.sl o []]=(l.set i []).map (rL o f):=Pj (rL o f) l i [] _ rfl
theorem A2W (l:List Int) (x:Int) (rs:Rows):l.map rI++([.v (.int .i64 x)]::rs)=(l++[x]).map rI++rs:=Pk rI l x _ rs rfl
theorem A2X (k:IntKind) (l:List Int) (x:Int) (rs:Rows):l.map (rK k)++([.v (.int k x)]::rs)=(l++[x]).map (rK k)++rs:=Pk (rK k) l x _ rs rfl
theorem A2Y (l:List ByteArray) (x:ByteArray) (rs:Rows):l.map rS++([.v (.string x)]::rs)=(l++[x]).map rS++rs:=Pk rS l x _ rs rfl
theorem A2Z (l:List Bool) (x:Bool) (rs:Rows):l.map rB++([.v (.bool x)]::rs)=(l++[x]).map rB++rs:=Pk rB l x _ rs rfl
theorem A2a {α:Type} (o:Bool) (f:α→List T) (l:List (List α)) (x:List α) (rs:Rows):l.map (rL o f)++([.sl o (x.map f)]::rs)=(l++[x]).map (rL o f)++rs:=Pk (rL o f) l x _ rs rfl
theorem zB {α:Type} (o:Bool) (f:α→List T) (l:List (List α)) (rs:Rows):l.map (rL o f)++([.sl o []]::rs)=(l++[[]]).map (rL o f)++rs:=Pk (rL o f) l [] _ rs rfl
theorem zC {α:Type} (f:α→List T) (l l':List α):l.map f++l'.map f=(l++l').map f:=by simp
theorem R9 {α:Type} (f:α→List T) (n:Nat) (x:α) (r:List T) (h:f x=r):List.replicate n r=(List.replicate n x).map f:=by rw[←h,List.map_replicate]
theorem A2b (n:Nat) (x:Int):List.replicate n [T.v (.int .i64 x)]=(List.replicate n x).map rI:=R9 rI n x _ rfl
theorem A2c (n:Nat) (x:ByteArray):List.replicate n [T.v (.string x)]=(List.replicate n x).map rS:=R9 rS n x _ rfl
theorem A2d (n:Nat) (x:Bool):List.replicate n [T.v (.bool x)]=(List.replicate n x).map rB:=R9 rB n x _ rfl
theorem zD (n:Nat) (o:Bool):List.replicate n [T.sl o []]=(List.replicate n []).map (rL o rI):=R9 (rL o rI) n [] _ rfl
theorem A6V (a b c d:ByteArray) (i:Int):getI ([[.v (.string a)],[.v (.string b)],[.v (.string c)],[.v (.string d)]]:List (List T)) i=(getI [a,b,c,d] i).map rS:=cy rS [a,b,c,d] i
theorem A5M (a b c d:ByteArray) (k:Nat):([[.v (.string a)],[.v (.string b)],[.v (.string c)],[.v (.string d)]]:List (List T))[k]? =([a,b,c,d][k]?).map rS:=List.getElem?_map (f:=rS) (l:=[a,b,c,d]) (i:=k)
theorem A6W (a b c d:Int) (i:Int):getI ([[.v (.int .i64 a)],[.v (.int .i64 b)],[.v (.int .i64 c)],[.v (.int .i64 d)]]:List (List T)) i=(getI [a,b,c,d] i).map rI:=cy rI [a,b,c,d] i
theorem A5N (a b c d:Int) (k:Nat):([[.v (.int .i64 a)],[.v (.int .i64 b)],[.v (.int .i64 c)],[.v (.int .i64 d)]]:List (List T))[k]? =([a,b,c,d][k]?).map rI:=List.getElem?_map (f:=rI) (l:=[a,b,c,d]) (i:=k)
def S3 := And.intro @A6V<|And.intro @A5M<|And.intro @A6W<|And.intro @A5N<|And.intro A2b<|And.intro A2c<|And.intro A2d<|And.intro zD<|And.intro A2R<|And.intro A2S<|And.intro A2T<|And.intro A2U<|And.intro (@A2V)<|And.intro (@zA)<|And.intro A2W<|And.intro A2X<|And.intro A2Y<|And.intro A2Z<|And.intro (@A2a)<|And.intro (@zB)<|And.intro (@zC)<|And.intro (@gE)<|And.intro A2P<|And.intro A2Q<|And.intro o9<|And.intro yw<|And.intro rM<|And.intro uO<|And.intro yy<|And.intro rN<|And.intro uP<|And.intro A5J<|And.intro A5K<|And.intro (@A5L)<|And.intro (@A6)<|And.intro A6P<|And.intro A6Q<|And.intro A6R<|And.intro A6S<|And.intro (@A6T)<|And.intro yv<|And.intro (@List.set_set.{0})<|And.intro yt<|And.intro uM<|And.intro yu<|And.intro uN<|And.intro (@List.getElem?_map.{0,0})<|And.intro (@List.getElem?_set.{0})<|(@List.length_set.{0})
end TT
