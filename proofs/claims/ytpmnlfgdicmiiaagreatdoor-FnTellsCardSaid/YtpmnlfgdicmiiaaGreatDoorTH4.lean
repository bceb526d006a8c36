import Derived.Test.YtpmnlfgdicmiiaaGreatDoorTH3
set_option maxRecDepth 10000
set_option linter.unusedVariables false
set_option linter.defProp false
namespace TT
open Go
def S0 (FT:Env):=ai (@A6V FT)<|ai (@ABc FT)<|ai (@A9j FT)<|ai (@A9k FT)<|ai (@A9l FT)<|ai (@ACU FT)<|ai (@A6W FT)<|ai (@A6X FT)<|ai (@A3A FT)<|ai (@A9m FT)<|ai (@A6Y FT)<|ai (@A6Z FT)<|ai (@A8x FT)<|ai (@ABd FT)<|ai (@A6a FT)<|ai (@ABe FT)<|ai (@ABf FT)<|ai (@ABg FT)<|ai (@ABh FT)<|ai (@A9c FT)<|ai (@ABR FT)<|ai (@ABS FT)<|ai (@ABZ FT)<|ai (@ABT FT)<|ai (@ABU FT)<|ai (@ABV FT)<|ai (@A9d FT)<|ai (@ABW FT)<|ai (@ABX FT)<|ai (@ABY FT)<|ai (@A9e FT)<|ai (@A9f FT)<|ai (@A6O FT)<|ai (@A2w FT)<|ai (@A0e FT)<|ai (@A9h FT)<|ai (@A32 FT)<|ai (@A33 FT)<|ai (@ABb FT)<|ai (@A6R FT)<|ai (@qL FT)<|ai (@A35 FT)<|ai (@A36 FT)<|ai (@A6U FT)<|ai (@A6T FT)<|ai (@A9i FT)<|ai (@A37 FT)<|ai (@A3p FT)<|ai (@qM FT)<|ai (@A39 FT)<|ai (@A0f FT)<|ai (@A6Q FT)<|ai (@qJ FT)<|ai (@qK FT)<|ai (@ABv FT)<|(@ABw FT)
def S1 := ai (@AA3)<|ai (@A3z)<|ai (@A40)<|ai (@ACX)<|ai (@ABz)<|ai (@AC0)<|ai (@AC1)<|ai (@yK)<|ai (@yL)<|ai (@A7i)<|ai (@A41)<|ai (@A42)<|ai (@A43)<|ai (@A44)<|ai (@frz.eq_4)<|ai (@frz.eq_5)<|ai (@A7T)<|ai (@A3i)<|ai (@A3j)<|ai (@vG)<|ai (@A7W)<|ai (@A7V)<|ai (@A3m)<|ai (@A3o)<|ai (@A7Y)<|ai (@AAa)<|ai (@A7a)<|ai (@AAc)<|ai (@A3q)<|ai (@A3C)<|ai (@A6q)<|ai (@A6r)<|ai (@A0g)<|ai (@A6s)<|ai (@A0h)<|ai (@A6w)<|ai (@A3E)<|ai (@A6x)<|ai (@A3F)<|ai (@AA4)<|ai (@AA5)<|ai (@ABo)<|ai (@A7P)<|ai (@A3b)<|ai (@A3a)<|ai (@A3c)<|ai (@A0l)<|ai (@A71)<|ai (@A3H)<|ai (@A3G)<|ai (@A70)<|ai (@A6y)<|ai (@A3I)<|ai (@AA8)<|ai (@A72)<|ai (@A3J)<|ai (@A73)<|ai (@AAB)<|ai (@AAC)<|ai (@A74)<|ai (@A3K)<|ai (@AAD)<|ai (@AAE)<|ai (@A76)<|ai (@A77)<|ai (@A78)<|ai (@A79)<|ai (@A3L)<|ai (@AAF)<|ai (@AAG)<|ai (@A7A)<|ai (@A7B)<|ai (@A3M)<|ai (@A3N)<|ai (@yA)<|ai (@yB)<|ai (@A7D)<|ai (@A3O)<|ai (@A7E)<|ai (@AAI)<|ai (@A7F)<|ai (@A7G)<|ai (@AAK)<|ai (@A7H)<|ai (@AAL)<|ai (@AAM)<|ai (@A3P)<|ai (@A7I)<|ai (@ABr)<|ai (@AAN)<|ai (@A3Q)<|ai (@A7J)<|ai (@A3R)<|ai (@A3S)<|ai (@AAO)<|ai (@AAP)<|ai (@A7L)<|ai (@A3V)<|ai (@A0i)<|ai (@A3W)<|ai (@A3X)<|ai (@A3Y)<|ai (@A3Z)<|ai (@A7M)<|ai (@A7N)<|ai (@AAS)<|ai (@AAT)<|ai (@A3d)<|ai (@A3e)<|ai (@A3f)<|ai (@A7Q)<|ai (@ABt)<|ai (@ABu)<|ai (@AAU)<|ai (@A3g)<|ai (@A7R)<|ai (@A7S)<|ai (@A6g)<|ai (@A9q)<|ai (@A6h)<|ai (@xy)<|ai (@A6i)<|ai (@A6j)<|ai (@xz)<|ai (@y8)<|ai (@y9)<|ai (@ut)<|ai (@uv)<|ai (@uw)<|ai (@uy)<|ai (@uz)<|ai (@v8)<|ai (@vA)<|ai (@vB)<|ai (@vC)<|ai (@A6k)<|ai (@A6l)<|ai (@A6m)<|ai (@A6n)<|ai (@vD)<|ai (@A6o)<|ai (@A9r)<|ai (@A9s)<|ai (@A9t)<|ai (@A9u)<|ai (@A9v)<|ai (@A9w)<|ai (@A6p)<|ai (@A9x)<|ai (@A9y)<|ai (@A9z)<|ai (@AA0)<|ai (@AA1)<|ai (@AA2)<|ai (@A3r)<|ai (@A7b)<|ai (@A3s)<|ai (@A7c)<|ai (@ZT)<|ai (@A0n)<|ai (@A3t)<|ai (@ABx)<|ai (@ABy)<|ai (@yD)<|ai (@A0o)<|ai (@A0p)<|ai (@A3u)<|ai (@A0q)<|ai (@A0r)<|ai (@A3v)<|ai (@A3w)<|ai (@A3x)<|ai (@A7d)<|ai (@A7e)<|ai (@A7f)<|ai (@A7g)<|ai (@yE)<|ai (@vH)<|ai (@yF)<|ai (@yG)<|ai (@vI)<|ai (@yH)<|ai (@A7h)<|ai (@A0s)<|ai (@A3y)<|ai (@yI)<|ai (@yJ)<|ai (@vJ)<|ai (@vK)<|ai (@A0t)<|ai (@vL)<|ai (@vM)<|ai (@vN)<|ai (@AAd)<|ai (@take_nil)<|ai (@A45)<|ai (@A0u)<|ai (@A47)<|ai (@yM)<|ai (@A0v)<|ai (@yN)<|ai (@re)<|ai (@nv)<|ai (@A48)<|ai (@yO)<|ai (@yP)<|ai (@A0w)<|ai (@yQ)<|ai (@yR)<|ai (@A4A)<|ai (@A4B)<|ai (@yS)<|ai (@yT)<|ai (@yU)<|ai (@yV)<|ai (@AAe)<|ai (@rg)<|ai (@nw)<|ai (@rh)<|ai (@ri)<|ai (@rj)<|ai (@nx)<|ai (@rl)<|ai (@rn)<|ai (@ro)<|ai (@A0x)<|ai (@ny)<|ai (@A0y)<|ai (@rp)<|ai (@yW)<|ai (@A4E)<|ai (@yX)<|ai (@A7j)<|ai (@A7k)<|ai (@A0z)<|ai (@yY)<|ai (@rq)<|ai (@yZ)<|ai (@ya)<|ai (@vO)<|ai (@A10)<|ai (@vP)<|ai (@vQ)<|ai (@vR)<|ai (@rr)<|ai (@o6)<|ai (@A4F)<|ai (@yb)<|ai (@yc)<|ai (@yd)<|ai (@vS)<|ai (@rt)<|ai (@vT)<|ai (@ru)<|ai (@A4G)<|ai (@A4H)<|ai (@rz)<|ai (@A4I)<|ai (@s0)<|ai (@ur)<|ai (@A2x)<|ai (@A2y)<|ai (@A30)<|ai (@A31)<|ai (@A9g)<|ai (@A7l)<|ai (@AAf)<|ai (@A7m)<|ai (@AAg)<|ai (@A3D)<|ai (@A4J)<|ai (@A6v)<|ai (@A4K)<|ai (@A7n)<|ai (@A4L)<|ai (@AC2)<|ai (@A7o)<|ai (@A7p)<|ai (@A7q)<|ai (@AAh)<|ai (@A7r)<|ai (@A7s)<|ai (@ye)<|ai (@yf)<|ai (@A4M)<|ai (@A11)<|ai (@A12)<|ai (@A4N)<|ai (@A4O)<|ai (@A4P)<|ai (@AAi)<|ai (@A7t)<|ai (@AAj)<|ai (@A7u)<|ai (@AAk)<|ai (@A13)<|ai (@A4Q)<|ai (@A4R)<|ai (@A4S)<|ai (@A14)<|ai (@A15)<|ai (@A16)<|ai (@A17)<|ai (@AAm)<|ai (@AAn)<|ai (@AAo)<|ai (@AAp)<|ai (@A4T)<|ai (@A18)<|ai (@A7v)<|ai (@A19)<|ai (@A1A)<|ai (@yg)<|ai (@vU)<|ai (@A4U)<|ai (@Mn)<|ai (@Nl)<|ai (@Nm)<|ai (@Nn)<|ai (@K1)<|ai (@Mo)<|ai (@No)<|ai (@Np)<|ai (@Nq)<|ai (@K3)<|ai (@AAq)<|ai (@AC3)<|ai (@A7w)<|ai (@A4V)<|ai (@AAw)<|ai (@AAx)<|ai (@A4W)<|ai (@A4X)<|ai (@AAy)<|ai (@A4Y)<|ai (@AAr)<|ai (@AAs)<|ai (@AAt)<|ai (@AAu)<|(@AAv)
def S2 := ai (@uq.eq_1)<|ai (@uq.eq_2)<|ai (@clS.eq_1)<|ai (@clS.eq_2)<|ai (@clR.eq_1)<|ai (@clR.eq_2)<|ai (@Pc.eq_1)<|ai (@Ti.eq_1)<|ai (@V.mentions.eq_1)<|ai (@V.mentions.eq_2)<|ai (@V.mentions.eq_3)<|ai (@V.mentions.eq_4)<|ai (@V.mentions.eq_5)<|ai (@V.mentions.eq_6)<|ai (@V.mentions.eq_7)<|ai (@V.mentions.eq_8)<|ai (@V.mentions.eq_9)<|ai (@NI.eq_1)<|ai (@NI.eq_2)<|ai (@V.isDead.eq_1)<|ai (@AAz)<|ai (@A4Z)<|ai (@A4a)<|ai (@A4b)<|ai (@A4c)<|ai (@A4d)<|ai (@A7x)<|ai (@A7y)<|ai (@FA.calm.eq_1)<|ai (@FA.calm.eq_2)<|ai (@Ac.eq_1)<|ai (@C3.eq_1)<|ai (@M.run.eq_1)<|ai (@M.run.eq_2)<|ai (@M.run.eq_3)<|ai (@M.run.eq_4)<|ai (@M.run.eq_5)<|ai (@M.run.eq_6)<|ai (@M.runA.eq_1)<|ai (@M.runA.eq_2)<|ai (@M.runA.eq_3)<|ai (@M.runA.eq_4)<|ai (@M.runA.eq_5)<|ai (@M.runA.eq_6)<|ai (@bld.eq_1)<|ai (@bld.eq_2)<|ai (@A0F.eq_1)<|ai (@A0F.eq_2)<|ai (@zV.eq_1)<|ai (@zV.eq_2)<|ai (@ABn.eq_1)<|ai (@A8y.eq_1)<|ai (@A0k.eq_1)<|ai (@Rj.eq_1)<|ai (@Rj.eq_2)<|ai (@inV.eq_1)<|ai (@inV.eq_2)<|ai (@inV.eq_3)<|ai (@inV.eq_4)<|ai (@inV.eq_5)<|ai (@inV.eq_6)<|ai (@jq.eq_1)<|ai (@jq.eq_2)<|ai (@fin.eq_1)<|ai (@ni.eq_1)<|ai (@ni.eq_2)<|ai (@jr.eq_1)<|ai (@jr.eq_2)<|ai (@jr.eq_3)<|ai (@pd.eq_1)<|ai (@pd.eq_2)<|ai (@tw.eq_1)<|ai (@tw.eq_2)<|ai (@A0G.eq_1)<|ai (@A0G.eq_2)<|ai (@Xs.eq_1)<|ai (@jt.eq_1)<|ai (@js.eq_1)<|ai (@js.eq_2)<|ai (@Az.eq_1)<|ai (@Az.eq_2)<|ai (@HF.eq_1)<|ai (@HF.eq_2)<|ai (@frz.eq_1)<|ai (@frz.eq_2)<|ai (@frz.eq_3)<|ai (@allOwn.eq_1)<|ai (@allOwn.eq_2)<|ai (@allOwn.eq_3)<|ai (@De.eq_1)<|ai (@De.eq_2)<|ai (@Bc.eq_1)<|ai (@Bc.eq_2)<|ai (@RV.allOwn.eq_1)<|ai (@RV.allOwn.eq_2)<|ai (@RV.allOwn.eq_3)<|ai (@Bf.eq_1)<|ai (@Bf.eq_2)<|ai (@Bf.eq_3)<|ai (@Bf.eq_4)<|ai (@Da.eq_1)<|ai (@Da.eq_2)<|ai (@PA.reads.eq_1)<|ai (@PA.reads.eq_2)<|ai (@PA.reads.eq_3)<|ai (@V.isOwned.eq_1)<|ai (@V.isOwned.eq_2)<|ai (@V.isOwned.eq_3)<|ai (@PA.arg.eq_1)<|ai (@PA.arg.eq_2)<|ai (@eZ.eq_1)<|ai (@eZ.eq_2)<|ai (@A7z)<|ai (@A80)<|ai (@A4e)<|ai (@DR.eq_1)<|ai (@yh)<|ai (@Option.bind_some.{0,0})<|ai (@Option.bind_none.{0,0})<|ai (@Option.map_some.{0,0})<|ai (@Option.map_none.{0,0})<|ai (@Option.getD_some.{0})<|ai (@Option.getD_none.{0})<|ai (@Option.bind_assoc.{0,0,0})<|ai (@List.map_cons.{0,0})<|ai (@List.map_nil.{0,0})<|ai (@List.cons_append.{0})<|ai (@List.nil_append.{0})<|ai (@List.append_nil.{0})<|ai (@List.length_cons.{0})<|ai (@List.length_nil.{0})<|ai (@List.length_map.{0,0})<|ai (@List.length_append.{0})<|ai (@List.length_replicate.{0})<|ai (@List.take_succ_cons.{0})<|ai (@List.take_zero.{0})<|ai (@List.take_nil.{0})<|ai (@List.drop_succ_cons.{0})<|ai (@List.drop_zero.{0})<|ai (@List.drop_nil.{0})<|ai (@List.replicate_succ.{0})<|ai (@List.replicate_zero.{0})<|ai (@List.all_cons.{0})<|ai (@List.all_nil.{0})<|ai (@List.any_cons.{0})<|ai (@List.any_nil.{0})<|ai (@List.isEmpty_nil.{0})<|ai (@List.isEmpty_cons.{0})<|ai (@List.flatMap_cons.{0,0})<|ai (@List.flatMap_nil.{0,0})<|ai (@List.contains_cons.{0})<|ai (@List.contains_nil.{0})<|ai (@List.all_append.{0})<|ai (@Bool.true_and)<|ai (@Bool.and_true)<|ai (@Bool.false_and)<|ai (@Bool.and_false)<|ai (@Bool.or_false)<|ai (@Bool.false_or)<|ai (@Bool.or_true)<|ai (@Bool.true_or)<|ai (@Bool.not_true)<|ai (@Bool.not_false)<|ai (@Bool.false_eq_true)<|ai (@decide_true)<|ai (@decide_false)<|ai (@eq_self.{0})<|ai (@true_and)<|ai (@and_true)<|ai (@false_and)<|ai (@and_false)<|ai (@Nat.zero_add)<|ai (@Nat.add_zero)<|ai (@beq_self_eq_true.{0})<|ai (@Bool.and_self)<|ai (@not_true_eq_false)<|(@not_false_eq_true)
def SS (FT:Env):=ai (S0 FT) (ai S1 S2)
end TT
namespace TT
open Go
def BO : List V→List (Nat×V)→List V
 |s,[]=>s
 |s,q::l=>BO (s.set q.1 q.2) l
def BP : R→List (Nat×List FA)→R
 |s,[]=>s
 |s,q::l=>BP (s.set q.1 q.2) l
theorem zx {ρ:Type} {x:Option ρ} {e:ρ→BD} {y y':Option BD} (h:Ok x e y') (he:y=y'):Ok x e y:=fun r hr=>he.trans (h r hr)
theorem Cu {β ρ:Type} {g:Option β} {f:β→Option ρ} {e:ρ→BD} {e':β→BD} {Y Y':Option BD} {k:BD→Option BD} (hg:Ok g e' Y) (hy:Y'=Y) (h:∀v,Ok (f v) e (k (e' v))):Ok (g>>=f) e (Y'.bind k):=by
 subst hy;exact D6 hg h
theorem AB0 {α ρ:Type} {l:List α} {i:Int} {f:α→Option ρ} {e:ρ→BD} {y:Option BD} (h:∀a,0≤i∧getI l i=some a∧l[i.toNat]? =some a∧i.toNat<l.length→Ok (f a) e y):Ok (getI l i>>=f) e y:=FF fun a ha=>by
 have h0:0≤i:=by
  unfold getI at ha
  by_cases hi:0≤i
  ·exact hi
  ·rw[if_neg hi]at ha;cases ha
 have h1:l[i.toNat]? =some a:=by rw[←Y4 h0];exact ha
 exact h a ⟨h0,ha,h1,(List.getElem?_eq_some_iff.1 h1).1⟩
theorem A4f (s:List V):BO s []=s:=rfl
theorem A1B (s:List V) (i:Nat) (v:V) (l:List (Nat×V)):BO s ((i,v)::l)=BO (s.set i v) l:=rfl
theorem A4g (s:R):BP s []=s:=rfl
theorem A1C (s:R) (i:Nat) (v:List FA) (l:List (Nat×List FA)):BP s ((i,v)::l)=BP (s.set i v) l:=rfl
theorem A4h (rows:Rows) (i c:Nat) (t:T):ID rows i c t=match rows[i]? with|some row=>rows.set i (row.set c t)|none=>rows:=rfl
theorem A3 {α β:Type} (a:α) (f:α→Option β):(some a>>=f)=f a:=rfl
theorem AC4 (x:Int):rI x=[.v (.int .i64 x)]:=rfl
theorem AC5 (k:IntKind) (x:Int):rK k x=[.v (.int k x)]:=rfl
theorem AC6 (x:ByteArray):rS x=[.v (.string x)]:=rfl
theorem AC7 (x:Bool):rB x=[.v (.bool x)]:=rfl
theorem AC8 {α:Type} (o:Bool) (f:α→List T) (l:List α):rL o f l=[.sl o (l.map f)]:=rfl
def cz {α β:Type} (l:List α) (l':List β):Option Unit:=if l.length=l'.length then some ()else none
theorem IG {α:Type} (f:α→List T) (n:Nat) (h:∀x,(f x).length=n) (l l':List α):((l.map f).map (·.length)=(l'.map f).map (·.length))=((if l.length=l'.length then some ()else none)=some ()):=by
 have e:∀l:List α,(l.map f).map (·.length)=List.replicate l.length n:=by
  intro l
  induction l with
  |nil=>rfl
  |cons x l ih=>simp only[List.map_cons,ih,h,List.length_cons,List.replicate_succ]
 rw[e,e]
 apply propext
 constructor
 ·intro hh
  have:=congrArg List.length hh
  simp only[List.length_replicate]at this
  rw[if_pos this]
 ·intro hh
  split at hh
  ·rename_i h1;rw[h1]
  ·cases hh
theorem AB1 (l l':List Int):((l.map rI).map (·.length)=(l'.map rI).map (·.length))=((if l.length=l'.length then some ()else none)=some ()):=IG rI 1 (fun _=>rfl) l l'
theorem AB2 (l l':List ByteArray):((l.map rS).map (·.length)=(l'.map rS).map (·.length))=((if l.length=l'.length then some ()else none)=some ()):=IG rS 1 (fun _=>rfl) l l'
theorem AB3 {α:Type} (o:Bool) (f:α→List T) (l l':List (List α)):((l.map (rL o f)).map (·.length)=(l'.map (rL o f)).map (·.length))=((if l.length=l'.length then some ()else none)=some ()):=IG (rL o f) 1 (fun _=>rfl) l l'
theorem A81 {α β ρ:Type} {l:List α} {l':List β} {f:Unit→Option ρ} {e:ρ→BD} {y:Option BD} (h:l.length=l'.length→Ok (f ()) e y):Ok (cz l l'>>=f) e y:=FF fun a ha=>by
 unfold cz at ha
 split at ha
 ·rename_i h1;cases ha;exact h h1
 ·cases ha
theorem vV (rows:Rows) (stt:Nat) (q:Nat×Nat) (p:Path) (i n st:Nat):Dw rows stt (q::p) i n st=if st=stt then(D5 rows (q::p)).bind (·[i]?)else none:=rfl
theorem A4i (rows:Rows):D5 rows []=some rows:=rfl
def A4j (p:Path):Option T→Option Rows
 |some (.sl true rows)=>D5 rows p
 |_=>none
theorem yi (p:Path) (rows:Rows):A4j p (some (.sl true rows))=D5 rows p:=rfl
theorem A1D (rows:Rows) (i c:Nat) (p:Path):D5 rows ((i,c)::p)=A4j p (rows[i]?.bind (·[c]?)):=by
 simp only[D5,A4j];cases rows[i]?.bind (·[c]?)with
 |none=>rfl
 |some t=>cases t<;>try rfl
theorem A4k (rows:Rows) (p:Path) (i c:Nat):CR rows p i c=(D5 rows p).bind fun rs=>rs[i]?.bind (·[c]?):=rfl
def A4l (rows:Rows) (i0 c0:Nat) (p:Path) (i c:Nat) (t:T):Option T→Rows
 |some (.sl true rows')=>ID rows i0 c0 (.sl true (Bn rows' p i c t))
 |_=>rows
theorem yj (rows:Rows) (i0 c0:Nat) (p:Path) (i c:Nat) (t:T) (rows':Rows):A4l rows i0 c0 p i c t (some (.sl true rows'))=ID rows i0 c0 (.sl true (Bn rows' p i c t)):=rfl
theorem A1E (rows:Rows) (i0 c0:Nat) (p:Path) (i c:Nat) (t:T):Bn rows ((i0,c0)::p) i c t=A4l rows i0 c0 p i c t (rows[i0]?.bind (·[c0]?)):=by
 simp only[Bn,A4l];cases rows[i0]?.bind (·[c0]?)with
 |none=>rfl
 |some t=>cases t<;>try rfl
theorem o7 {α:Type} (l:List α) (i:Int) (x:α):getI (l.set i.toNat x) i=if 0≤i then(if i.toNat<l.length then some x else none)else none:=by
 unfold getI
 split
 ·simp[List.getElem?_set]
 ·rfl
def AC9 (sz:Nat) (id:Id) (p:Path) (n:Int) (m st:Nat):T→M V
 | .sl true rs=>iaS sz id p n m st rs
 |_=> .fail
theorem A82 (sz:Nat) (id:Id) (p:Path) (n:Int) (m st:Nat) (rs:Rows):AC9 sz id p n m st (.sl true rs)=iaS sz id p n m st rs:=rfl
theorem A83 (sz:Nat) (id:Id) (p:Path) (j c:Nat) (n:Int) (m st:Nat) (rows:Rows) (stt:Nat) (fx:Bool):iaC sz id p j c n m st (.mem rows stt fx)=if st=stt then CT (CR rows p j c) (AC9 sz id (p++[(j,c)]) n m st)else .fail:=by
 simp only[iaC];split
 ·cases CR rows p j c with
  |none=>rfl
  |some t=>cases t<;>try rfl
 ·rfl
theorem Sw {α:Type} (f:α→List T) (l:List α) (i:Nat) (x:α) (r:List T) (h:f x=r):(l.map f).set i r=(l.set i x).map f:=by rw[←h,List.map_set]
theorem Sx {α:Type} (f:α→List T) (l:List α) (x:α) (r:List T) (rs:Rows) (h:f x=r):l.map f++(r::rs)=(l++[x]).map f++rs:=by rw[←h];simp
theorem A84 (l:List Int) (i:Nat) (x:Int):(l.map rI).set i [.v (.int .i64 x)]=(l.set i x).map rI:=Sw rI l i x _ rfl
theorem A85 (k:IntKind) (l:List Int) (i:Nat) (x:Int):(l.map (rK k)).set i [.v (.int k x)]=(l.set i x).map (rK k):=Sw (rK k) l i x _ rfl
theorem A86 (l:List ByteArray) (i:Nat) (x:ByteArray):(l.map rS).set i [.v (.string x)]=(l.set i x).map rS:=Sw rS l i x _ rfl
theorem A87 (l:List Bool) (i:Nat) (x:Bool):(l.map rB).set i [.v (.bool x)]=(l.set i x).map rB:=Sw rB l i x _ rfl
theorem A88 {α:Type} (o:Bool) (f:α→List T) (l:List (List α)) (i:Nat) (x:List α):(l.map (rL o f)).set i [.sl o (x.map f)]=(l.set i x).map (rL o f):=Sw (rL o f) l i x _ rfl
theorem A4m {α:Type} (o:Bool) (f:α→List T) (l:List (List α)) (i:Nat):(l.map (rL o f)).set i [.sl o []]=(l.set i []).map (rL o f):=Sw (rL o f) l i [] _ rfl
theorem A89 (l:List Int) (x:Int) (rs:Rows):l.map rI++([.v (.int .i64 x)]::rs)=(l++[x]).map rI++rs:=Sx rI l x _ rs rfl
theorem A8A (k:IntKind) (l:List Int) (x:Int) (rs:Rows):l.map (rK k)++([.v (.int k x)]::rs)=(l++[x]).map (rK k)++rs:=Sx (rK k) l x _ rs rfl
theorem A8B (l:List ByteArray) (x:ByteArray) (rs:Rows):l.map rS++([.v (.string x)]::rs)=(l++[x]).map rS++rs:=Sx rS l x _ rs rfl
theorem A8C (l:List Bool) (x:Bool) (rs:Rows):l.map rB++([.v (.bool x)]::rs)=(l++[x]).map rB++rs:=Sx rB l x _ rs rfl
theorem A8D {α:Type} (o:Bool) (f:α→List T) (l:List (List α)) (x:List α) (rs:Rows):l.map (rL o f)++([.sl o (x.map f)]::rs)=(l++[x]).map (rL o f)++rs:=Sx (rL o f) l x _ rs rfl
theorem A4n {α:Type} (o:Bool) (f:α→List T) (l:List (List α)) (rs:Rows):l.map (rL o f)++([.sl o []]::rs)=(l++[[]]).map (rL o f)++rs:=Sx (rL o f) l [] _ rs rfl
theorem A4o {α:Type} (f:α→List T) (l l':List α):l.map f++l'.map f=(l++l').map f:=by simp
theorem UW {α:Type} (f:α→List T) (n:Nat) (x:α) (r:List T) (h:f x=r):List.replicate n r=(List.replicate n x).map f:=by rw[←h,List.map_replicate]
theorem A8E (n:Nat) (x:Int):List.replicate n [T.v (.int .i64 x)]=(List.replicate n x).map rI:=UW rI n x _ rfl
theorem A8F (n:Nat) (x:ByteArray):List.replicate n [T.v (.string x)]=(List.replicate n x).map rS:=UW rS n x _ rfl
theorem A8G (n:Nat) (x:Bool):List.replicate n [T.v (.bool x)]=(List.replicate n x).map rB:=UW rB n x _ rfl
theorem A4p (n:Nat) (o:Bool):List.replicate n [T.sl o []]=(List.replicate n []).map (rL o rI):=UW (rL o rI) n [] _ rfl
def S3 := ai A8E<|ai A8F<|ai A8G<|ai A4p<|ai A84<|ai A85<|ai A86<|ai A87<|ai (@A88)<|ai (@A4m)<|ai A89<|ai A8A<|ai A8B<|ai A8C<|ai (@A8D)<|ai (@A4n)<|ai (@A4o)<|ai (@o7)<|ai A82<|ai A83<|ai vV<|ai A4i<|ai yi<|ai A1D<|ai A4k<|ai yj<|ai A1E<|ai AB1<|ai AB2<|ai (@AB3)<|ai (@A3)<|ai AC4<|ai AC5<|ai AC6<|ai AC7<|ai (@AC8)<|ai A4h<|ai (@List.set_set.{0})<|ai A4f<|ai A1B<|ai A4g<|ai A1C<|ai (@List.getElem?_map.{0,0})<|ai (@List.getElem?_set.{0})<|(@List.length_set.{0})
end TT
