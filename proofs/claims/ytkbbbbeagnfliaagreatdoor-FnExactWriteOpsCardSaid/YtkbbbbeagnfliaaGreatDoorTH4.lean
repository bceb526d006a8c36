import Derived.Test.YtkbbbbeagnfliaaGreatDoorTH3
set_option maxRecDepth 10000
set_option linter.unusedVariables false
set_option linter.defProp false
namespace TT
open Go
def S0 (FT:Env):=ai (@A7D FT)<|ai (@ACX FT)<|ai (@AAY FT)<|ai (@AAZ FT)<|ai (@AAa FT)<|ai (@ADK FT)<|ai (@A7E FT)<|ai (@A7F FT)<|ai (@A3n FT)<|ai (@AAb FT)<|ai (@A7G FT)<|ai (@A7H FT)<|ai (@A9m FT)<|ai (@ACY FT)<|ai (@A7I FT)<|ai (@ACZ FT)<|ai (@ACa FT)<|ai (@ACb FT)<|ai (@ACc FT)<|ai (@AAR FT)<|ai (@ACM FT)<|ai (@ACN FT)<|ai (@ACU FT)<|ai (@ACO FT)<|ai (@ACP FT)<|ai (@ACQ FT)<|ai (@AAS FT)<|ai (@ACR FT)<|ai (@ACS FT)<|ai (@ACT FT)<|ai (@AAT FT)<|ai (@AAU FT)<|ai (@A76 FT)<|ai (@A3Z FT)<|ai (@A1Q FT)<|ai (@AAW FT)<|ai (@A3f FT)<|ai (@A3g FT)<|ai (@ACW FT)<|ai (@A79 FT)<|ai (@rY FT)<|ai (@A3i FT)<|ai (@A3j FT)<|ai (@A7C FT)<|ai (@A7B FT)<|ai (@AAX FT)<|ai (@A3k FT)<|ai (@A4S FT)<|ai (@rZ FT)<|ai (@A3m FT)<|ai (@A1R FT)<|ai (@A78 FT)<|ai (@rW FT)<|ai (@rX FT)<|ai (@ACr FT)<|(@ACs FT)
def S1 := ai (@AAs)<|ai (@A4b)<|ai (@A4c)<|ai (@ADN)<|ai (@ACv)<|ai (@ACw)<|ai (@ACx)<|ai (@yz)<|ai (@zA)<|ai (@A8P)<|ai (@A4d)<|ai (@A4e)<|ai (@A4f)<|ai (@A4g)<|ai (@frz.eq_4)<|ai (@frz.eq_5)<|ai (@A8A)<|ai (@A4L)<|ai (@A4M)<|ai (@wU)<|ai (@A8D)<|ai (@A8C)<|ai (@A4P)<|ai (@A4R)<|ai (@A8F)<|ai (@ABP)<|ai (@A8H)<|ai (@ABR)<|ai (@A4T)<|ai (@A3p)<|ai (@A7X)<|ai (@A7Y)<|ai (@A1V)<|ai (@A7Z)<|ai (@A1W)<|ai (@A7d)<|ai (@A3r)<|ai (@A7e)<|ai (@A3s)<|ai (@AAt)<|ai (@AAu)<|ai (@ACk)<|ai (@A86)<|ai (@A4E)<|ai (@A4D)<|ai (@A4F)<|ai (@A1a)<|ai (@A7i)<|ai (@A3u)<|ai (@A3t)<|ai (@A7h)<|ai (@A7f)<|ai (@A3v)<|ai (@AAx)<|ai (@A7j)<|ai (@A3w)<|ai (@A7k)<|ai (@AB0)<|ai (@AB1)<|ai (@A7l)<|ai (@A3x)<|ai (@AB2)<|ai (@AB3)<|ai (@A7n)<|ai (@A7o)<|ai (@A7p)<|ai (@A7q)<|ai (@A3y)<|ai (@AB4)<|ai (@AB5)<|ai (@A7r)<|ai (@A7s)<|ai (@A3z)<|ai (@A40)<|ai (@ym)<|ai (@yp)<|ai (@A7u)<|ai (@A41)<|ai (@A7v)<|ai (@AB7)<|ai (@A7w)<|ai (@A7x)<|ai (@AB9)<|ai (@A7y)<|ai (@ABA)<|ai (@ABB)<|ai (@A42)<|ai (@A7z)<|ai (@ACn)<|ai (@ABC)<|ai (@A43)<|ai (@A80)<|ai (@A44)<|ai (@A45)<|ai (@ABD)<|ai (@ABE)<|ai (@A82)<|ai (@A48)<|ai (@A1X)<|ai (@A49)<|ai (@A4A)<|ai (@A4B)<|ai (@A4C)<|ai (@A83)<|ai (@A84)<|ai (@ABH)<|ai (@ABI)<|ai (@A4G)<|ai (@A4H)<|ai (@A4I)<|ai (@A87)<|ai (@ACp)<|ai (@ACq)<|ai (@ABJ)<|ai (@A4J)<|ai (@A88)<|ai (@A89)<|ai (@A7N)<|ai (@AAf)<|ai (@A7O)<|ai (@yh)<|ai (@A7P)<|ai (@A7Q)<|ai (@yi)<|ai (@yj)<|ai (@yl)<|ai (@wI)<|ai (@wJ)<|ai (@wK)<|ai (@wL)<|ai (@wM)<|ai (@wN)<|ai (@wO)<|ai (@wP)<|ai (@wQ)<|ai (@A7R)<|ai (@A7S)<|ai (@A7T)<|ai (@A7U)<|ai (@wR)<|ai (@A7V)<|ai (@AAg)<|ai (@AAh)<|ai (@AAi)<|ai (@AAj)<|ai (@AAk)<|ai (@AAl)<|ai (@A7W)<|ai (@AAm)<|ai (@AAn)<|ai (@AAo)<|ai (@AAp)<|ai (@AAq)<|ai (@AAr)<|ai (@A4U)<|ai (@A8I)<|ai (@lW)<|ai (@A8J)<|ai (@fV)<|ai (@A1c)<|ai (@A4V)<|ai (@ACt)<|ai (@ACu)<|ai (@yr)<|ai (@A1d)<|ai (@A1e)<|ai (@A4W)<|ai (@A1f)<|ai (@A1g)<|ai (@A4X)<|ai (@A4Y)<|ai (@A4Z)<|ai (@A8K)<|ai (@A8L)<|ai (@A8M)<|ai (@A8N)<|ai (@yt)<|ai (@wV)<|ai (@yu)<|ai (@yv)<|ai (@wW)<|ai (@yw)<|ai (@A8O)<|ai (@A1h)<|ai (@A4a)<|ai (@yx)<|ai (@yy)<|ai (@wX)<|ai (@wY)<|ai (@A1i)<|ai (@wZ)<|ai (@wa)<|ai (@wb)<|ai (@ABS)<|ai (@take_nil)<|ai (@A4h)<|ai (@A1j)<|ai (@A4j)<|ai (@zB)<|ai (@A1k)<|ai (@zC)<|ai (@t8)<|ai (@pC)<|ai (@A4k)<|ai (@zD)<|ai (@zE)<|ai (@A1l)<|ai (@zF)<|ai (@zG)<|ai (@A4m)<|ai (@A4n)<|ai (@zH)<|ai (@zI)<|ai (@zJ)<|ai (@zK)<|ai (@ABT)<|ai (@tB)<|ai (@pD)<|ai (@tC)<|ai (@tD)<|ai (@tE)<|ai (@pE)<|ai (@tF)<|ai (@tG)<|ai (@tH)<|ai (@A1m)<|ai (@pF)<|ai (@A1n)<|ai (@tI)<|ai (@zL)<|ai (@A4q)<|ai (@zM)<|ai (@A8Q)<|ai (@A8R)<|ai (@A1o)<|ai (@zN)<|ai (@tJ)<|ai (@zO)<|ai (@zP)<|ai (@wc)<|ai (@A1p)<|ai (@we)<|ai (@wg)<|ai (@wh)<|ai (@tK)<|ai (@pG)<|ai (@A4r)<|ai (@zQ)<|ai (@zR)<|ai (@zS)<|ai (@wi)<|ai (@tL)<|ai (@wj)<|ai (@tM)<|ai (@A4s)<|ai (@A4t)<|ai (@tN)<|ai (@A4u)<|ai (@tO)<|ai (@wH)<|ai (@A3a)<|ai (@A3b)<|ai (@A3d)<|ai (@A3e)<|ai (@AAV)<|ai (@A8S)<|ai (@ABU)<|ai (@A8T)<|ai (@ABV)<|ai (@A3q)<|ai (@A4v)<|ai (@A7c)<|ai (@A4w)<|ai (@A8U)<|ai (@A4x)<|ai (@ACy)<|ai (@A8V)<|ai (@A8W)<|ai (@A8X)<|ai (@ABW)<|ai (@A8Y)<|ai (@A8Z)<|ai (@zT)<|ai (@zU)<|ai (@A4y)<|ai (@A1q)<|ai (@A1r)<|ai (@A4z)<|ai (@A50)<|ai (@A51)<|ai (@ABX)<|ai (@A8a)<|ai (@ABY)<|ai (@A8b)<|ai (@ABZ)<|ai (@A1s)<|ai (@A52)<|ai (@A53)<|ai (@A54)<|ai (@A1t)<|ai (@A1u)<|ai (@A1v)<|ai (@A1w)<|ai (@ABb)<|ai (@ABc)<|ai (@ABd)<|ai (@ABe)<|ai (@A55)<|ai (@A1x)<|ai (@A8c)<|ai (@A1y)<|ai (@A1z)<|ai (@zW)<|ai (@wk)<|ai (@A56)<|ai (@Ug)<|ai (@WA)<|ai (@WB)<|ai (@WC)<|ai (@SR)<|ai (@Uh)<|ai (@WD)<|ai (@WE)<|ai (@WF)<|ai (@ST)<|ai (@ABf)<|ai (@ACz)<|ai (@A8d)<|ai (@A57)<|ai (@ABl)<|ai (@ABm)<|ai (@A58)<|ai (@A59)<|ai (@ABn)<|ai (@A5A)<|ai (@ABg)<|ai (@ABh)<|ai (@ABi)<|ai (@ABj)<|(@ABk)
def S2 := ai (@wG.eq_1)<|ai (@wG.eq_2)<|ai (@clS.eq_1)<|ai (@clS.eq_2)<|ai (@clR.eq_1)<|ai (@clR.eq_2)<|ai (@PK.eq_1)<|ai (@TO.eq_1)<|ai (@V.mentions.eq_1)<|ai (@V.mentions.eq_2)<|ai (@V.mentions.eq_3)<|ai (@V.mentions.eq_4)<|ai (@V.mentions.eq_5)<|ai (@V.mentions.eq_6)<|ai (@V.mentions.eq_7)<|ai (@V.mentions.eq_8)<|ai (@V.mentions.eq_9)<|ai (@M5.eq_1)<|ai (@M5.eq_2)<|ai (@V.isDead.eq_1)<|ai (@ABo)<|ai (@A5B)<|ai (@A5C)<|ai (@A5D)<|ai (@A5E)<|ai (@A5F)<|ai (@A8e)<|ai (@A8f)<|ai (@EQ.calm.eq_1)<|ai (@EQ.calm.eq_2)<|ai (@Aa.eq_1)<|ai (@Bf.eq_1)<|ai (@M.run.eq_1)<|ai (@M.run.eq_2)<|ai (@M.run.eq_3)<|ai (@M.run.eq_4)<|ai (@M.run.eq_5)<|ai (@M.run.eq_6)<|ai (@M.runA.eq_1)<|ai (@M.runA.eq_2)<|ai (@M.runA.eq_3)<|ai (@M.runA.eq_4)<|ai (@M.runA.eq_5)<|ai (@M.runA.eq_6)<|ai (@bld.eq_1)<|ai (@bld.eq_2)<|ai (@A11.eq_1)<|ai (@A11.eq_2)<|ai (@zV.eq_1)<|ai (@zV.eq_2)<|ai (@ACj.eq_1)<|ai (@A9n.eq_1)<|ai (@A1Z.eq_1)<|ai (@RT.eq_1)<|ai (@RT.eq_2)<|ai (@inV.eq_1)<|ai (@inV.eq_2)<|ai (@inV.eq_3)<|ai (@inV.eq_4)<|ai (@inV.eq_5)<|ai (@inV.eq_6)<|ai (@kg.eq_1)<|ai (@kg.eq_2)<|ai (@fin.eq_1)<|ai (@ol.eq_1)<|ai (@ol.eq_2)<|ai (@kh.eq_1)<|ai (@kh.eq_2)<|ai (@kh.eq_3)<|ai (@qj.eq_1)<|ai (@qj.eq_2)<|ai (@vI.eq_1)<|ai (@vI.eq_2)<|ai (@A12.eq_1)<|ai (@A12.eq_2)<|ai (@XX.eq_1)<|ai (@kj.eq_1)<|ai (@ki.eq_1)<|ai (@ki.eq_2)<|ai (@Aw.eq_1)<|ai (@Aw.eq_2)<|ai (@Ho.eq_1)<|ai (@Ho.eq_2)<|ai (@frz.eq_1)<|ai (@frz.eq_2)<|ai (@frz.eq_3)<|ai (@allOwn.eq_1)<|ai (@allOwn.eq_2)<|ai (@allOwn.eq_3)<|ai (@EU.eq_1)<|ai (@EU.eq_2)<|ai (@Bm.eq_1)<|ai (@Bm.eq_2)<|ai (@RV.allOwn.eq_1)<|ai (@RV.allOwn.eq_2)<|ai (@RV.allOwn.eq_3)<|ai (@BN.eq_1)<|ai (@BN.eq_2)<|ai (@BN.eq_3)<|ai (@BN.eq_4)<|ai (@D5.eq_1)<|ai (@D5.eq_2)<|ai (@PA.reads.eq_1)<|ai (@PA.reads.eq_2)<|ai (@PA.reads.eq_3)<|ai (@V.isOwned.eq_1)<|ai (@V.isOwned.eq_2)<|ai (@V.isOwned.eq_3)<|ai (@PA.arg.eq_1)<|ai (@PA.arg.eq_2)<|ai (@fJ.eq_1)<|ai (@fJ.eq_2)<|ai (@A8g)<|ai (@A8h)<|ai (@A5G)<|ai (@Cp.eq_1)<|ai (@zX)<|ai (@Option.bind_some.{0,0})<|ai (@Option.bind_none.{0,0})<|ai (@Option.map_some.{0,0})<|ai (@Option.map_none.{0,0})<|ai (@Option.getD_some.{0})<|ai (@Option.getD_none.{0})<|ai (@Option.bind_assoc.{0,0,0})<|ai (@List.map_cons.{0,0})<|ai (@List.map_nil.{0,0})<|ai (@List.cons_append.{0})<|ai (@List.nil_append.{0})<|ai (@List.append_nil.{0})<|ai (@List.length_cons.{0})<|ai (@List.length_nil.{0})<|ai (@List.length_map.{0,0})<|ai (@List.length_append.{0})<|ai (@List.length_replicate.{0})<|ai (@List.take_succ_cons.{0})<|ai (@List.take_zero.{0})<|ai (@List.take_nil.{0})<|ai (@List.drop_succ_cons.{0})<|ai (@List.drop_zero.{0})<|ai (@List.drop_nil.{0})<|ai (@List.replicate_succ.{0})<|ai (@List.replicate_zero.{0})<|ai (@List.all_cons.{0})<|ai (@List.all_nil.{0})<|ai (@List.any_cons.{0})<|ai (@List.any_nil.{0})<|ai (@List.isEmpty_nil.{0})<|ai (@List.isEmpty_cons.{0})<|ai (@List.flatMap_cons.{0,0})<|ai (@List.flatMap_nil.{0,0})<|ai (@List.contains_cons.{0})<|ai (@List.contains_nil.{0})<|ai (@List.all_append.{0})<|ai (@Bool.true_and)<|ai (@Bool.and_true)<|ai (@Bool.false_and)<|ai (@Bool.and_false)<|ai (@Bool.or_false)<|ai (@Bool.false_or)<|ai (@Bool.or_true)<|ai (@Bool.true_or)<|ai (@Bool.not_true)<|ai (@Bool.not_false)<|ai (@Bool.false_eq_true)<|ai (@decide_true)<|ai (@decide_false)<|ai (@eq_self.{0})<|ai (@true_and)<|ai (@and_true)<|ai (@false_and)<|ai (@and_false)<|ai (@Nat.zero_add)<|ai (@Nat.add_zero)<|ai (@beq_self_eq_true.{0})<|ai (@Bool.and_self)<|ai (@not_true_eq_false)<|(@not_false_eq_true)
def SS (FT:Env):=ai (S0 FT) (ai S1 S2)
end TT
namespace TT
open Go
def B8 : List V→List (Nat×V)→List V
 |s,[]=>s
 |s,q::l=>B8 (s.set q.1 q.2) l
def B9 : R→List (Nat×List EQ)→R
 |s,[]=>s
 |s,q::l=>B9 (s.set q.1 q.2) l
theorem A0i {ρ:Type} {x:Option ρ} {e:ρ→Ay} {y y':Option Ay} (h:Ok x e y') (he:y=y'):Ok x e y:=fun r hr=>he.trans (h r hr)
theorem D6 {β ρ:Type} {g:Option β} {f:β→Option ρ} {e:ρ→Ay} {e':β→Ay} {Y Y':Option Ay} {k:Ay→Option Ay} (hg:Ok g e' Y) (hy:Y'=Y) (h:∀v,Ok (f v) e (k (e' v))):Ok (g>>=f) e (Y'.bind k):=by
 subst hy;exact D8 hg h
theorem ABp {α ρ:Type} {l:List α} {i:Int} {f:α→Option ρ} {e:ρ→Ay} {y:Option Ay} (h:∀a,0≤i∧AZ l i=some a∧l[i.toNat]? =some a∧i.toNat<l.length→Ok (f a) e y):Ok (AZ l i>>=f) e y:=Ep fun a ha=>by
 have h0:0≤i:=by
  unfold AZ at ha
  by_cases hi:0≤i
  ·exact hi
  ·rw[if_neg hi]at ha;cases ha
 have h1:l[i.toNat]? =some a:=by rw[←Xj h0];exact ha
 exact h a ⟨h0,ha,h1,(List.getElem?_eq_some_iff.1 h1).1⟩
theorem A5H (s:List V):B8 s []=s:=rfl
theorem A20 (s:List V) (i:Nat) (v:V) (l:List (Nat×V)):B8 s ((i,v)::l)=B8 (s.set i v) l:=rfl
theorem A5I (s:R):B9 s []=s:=rfl
theorem A21 (s:R) (i:Nat) (v:List EQ) (l:List (Nat×List EQ)):B9 s ((i,v)::l)=B9 (s.set i v) l:=rfl
theorem A5J (rows:Rows) (i c:Nat) (t:T):HC rows i c t=match rows[i]? with|some row=>rows.set i (row.set c t)|none=>rows:=rfl
theorem A1 {α β:Type} (a:α) (f:α→Option β):(some a>>=f)=f a:=rfl
theorem AD0 (x:Int):rI x=[.v (.int .i64 x)]:=rfl
theorem AD1 (k:IntKind) (x:Int):rK k x=[.v (.int k x)]:=rfl
theorem AD2 (x:ByteArray):rS x=[.v (.string x)]:=rfl
theorem AD3 (x:Bool):rB x=[.v (.bool x)]:=rfl
theorem AD4 {α:Type} (o:Bool) (f:α→List T) (l:List α):rL o f l=[.sl o (l.map f)]:=rfl
def rb {α β:Type} (l:List α) (l':List β):Option Unit:=if l.length=l'.length then some ()else none
theorem Mt {α:Type} (f:α→List T) (n:Nat) (h:∀x,(f x).length=n) (l l':List α):((l.map f).map (·.length)=(l'.map f).map (·.length))=((if l.length=l'.length then some ()else none)=some ()):=by
 have e:∀l:List α,(l.map f).map (·.length)=List.replicate l.length n:=by
  intro l
  induction l with
  |nil=>rfl
  |cons x l ih=>simp only[List.map_cons,ih,h,List.length_cons,List.replicate_succ]
 rw[e,e]
 apply propext
 constructor
 ·intro hh
  have:=congrArg List.length hh
  simp only[List.length_replicate]at this
  rw[if_pos this]
 ·intro hh
  split at hh
  ·rename_i h1;rw[h1]
  ·cases hh
theorem ABq (l l':List Int):((l.map rI).map (·.length)=(l'.map rI).map (·.length))=((if l.length=l'.length then some ()else none)=some ()):=Mt rI 1 (fun _=>rfl) l l'
theorem ABr (l l':List ByteArray):((l.map rS).map (·.length)=(l'.map rS).map (·.length))=((if l.length=l'.length then some ()else none)=some ()):=Mt rS 1 (fun _=>rfl) l l'
theorem ABs {α:Type} (o:Bool) (f:α→List T) (l l':List (List α)):((l.map (rL o f)).map (·.length)=(l'.map (rL o f)).map (·.length))=((if l.length=l'.length then some ()else none)=some ()):=Mt (rL o f) 1 (fun _=>rfl) l l'
theorem A8i {α β ρ:Type} {l:List α} {l':List β} {f:Unit→Option ρ} {e:ρ→Ay} {y:Option Ay} (h:l.length=l'.length→Ok (f ()) e y):Ok (rb l l'>>=f) e y:=Ep fun a ha=>by
 unfold rb at ha
 split at ha
 ·rename_i h1;cases ha;exact h h1
 ·cases ha
theorem wl (rows:Rows) (stt:Nat) (q:Nat×Nat) (p:B5) (i n st:Nat):DN rows stt (q::p) i n st=if st=stt then(Cb rows (q::p)).bind (·[i]?)else none:=rfl
theorem A5K (rows:Rows):Cb rows []=some rows:=rfl
def A5L (p:B5):Option T→Option Rows
 |some (.sl true rows)=>Cb rows p
 |_=>none
theorem zY (p:B5) (rows:Rows):A5L p (some (.sl true rows))=Cb rows p:=rfl
theorem A22 (rows:Rows) (i c:Nat) (p:B5):Cb rows ((i,c)::p)=A5L p (rows[i]?.bind (·[c]?)):=by
 simp only[Cb,A5L];cases rows[i]?.bind (·[c]?)with
 |none=>rfl
 |some t=>cases t<;>try rfl
theorem A5M (rows:Rows) (p:B5) (i c:Nat):C6 rows p i c=(Cb rows p).bind fun rs=>rs[i]?.bind (·[c]?):=rfl
def A5N (rows:Rows) (i0 c0:Nat) (p:B5) (i c:Nat) (t:T):Option T→Rows
 |some (.sl true rows')=>HC rows i0 c0 (.sl true (BR rows' p i c t))
 |_=>rows
theorem zZ (rows:Rows) (i0 c0:Nat) (p:B5) (i c:Nat) (t:T) (rows':Rows):A5N rows i0 c0 p i c t (some (.sl true rows'))=HC rows i0 c0 (.sl true (BR rows' p i c t)):=rfl
theorem A23 (rows:Rows) (i0 c0:Nat) (p:B5) (i c:Nat) (t:T):BR rows ((i0,c0)::p) i c t=A5N rows i0 c0 p i c t (rows[i0]?.bind (·[c0]?)):=by
 simp only[BR,A5N];cases rows[i0]?.bind (·[c0]?)with
 |none=>rfl
 |some t=>cases t<;>try rfl
theorem pH {α:Type} (l:List α) (i:Int) (x:α):AZ (l.set i.toNat x) i=if 0≤i then(if i.toNat<l.length then some x else none)else none:=by
 unfold AZ
 split
 ·simp[List.getElem?_set]
 ·rfl
def AD5 (sz:Nat) (id:Id) (p:B5) (n:Int) (m st:Nat):T→M V
 | .sl true rs=>iaS sz id p n m st rs
 |_=> .fail
theorem A8j (sz:Nat) (id:Id) (p:B5) (n:Int) (m st:Nat) (rs:Rows):AD5 sz id p n m st (.sl true rs)=iaS sz id p n m st rs:=rfl
theorem A8k (sz:Nat) (id:Id) (p:B5) (j c:Nat) (n:Int) (m st:Nat) (rows:Rows) (stt:Nat) (fx:Bool):iaC sz id p j c n m st (.mem rows stt fx)=if st=stt then C8 (C6 rows p j c) (AD5 sz id (p++[(j,c)]) n m st)else .fail:=by
 simp only[iaC];split
 ·cases C6 rows p j c with
  |none=>rfl
  |some t=>cases t<;>try rfl
 ·rfl
theorem Mu {α:Type} (f:α→List T) (l:List α) (i:Nat) (x:α) (r:List T) (h:f x=r):(l.map f).set i r=(l.set i x).map f:=by rw[←h,List.map_set]
theorem Mv {α:Type} (f:α→List T) (l:List α) (x:α) (r:List T) (rs:Rows) (h:f x=r):l.map f++(r::rs)=(l++[x]).map f++rs:=by rw[←h];simp
theorem A8l (l:List Int) (i:Nat) (x:Int):(l.map rI).set i [.v (.int .i64 x)]=(l.set i x).map rI:=Mu rI l i x _ rfl
theorem A8m (k:IntKind) (l:List Int) (i:Nat) (x:Int):(l.map (rK k)).set i [.v (.int k x)]=(l.set i x).map (rK k):=Mu (rK k) l i x _ rfl
theorem A8n (l:List ByteArray) (i:Nat) (x:ByteArray):(l.map rS).set i [.v (.string x)]=(l.set i x).map rS:=Mu rS l i x _ rfl
theorem A8o (l:List Bool) (i:Nat) (x:Bool):(l.map rB).set i [.v (.bool x)]=(l.set i x).map rB:=Mu rB l i x _ rfl
theorem A8p {α:Type} (o:Bool) (f:α→List T) (l:List (List α)) (i:Nat) (x:List α):(l.map (rL o f)).set i [.sl o (x.map f)]=(l.set i x).map (rL o f):=Mu (rL o f) l i x _ rfl
theorem A5O {α:Type} (o:Bool) (f:α→List T) (l:List (List α)) (i:Nat):(l.map (rL o f)).set i [.sl o []]=(l.set i []).map (rL o f):=Mu (rL o f) l i [] _ rfl
theorem A8q (l:List Int) (x:Int) (rs:Rows):l.map rI++([.v (.int .i64 x)]::rs)=(l++[x]).map rI++rs:=Mv rI l x _ rs rfl
theorem A8r (k:IntKind) (l:List Int) (x:Int) (rs:Rows):l.map (rK k)++([.v (.int k x)]::rs)=(l++[x]).map (rK k)++rs:=Mv (rK k) l x _ rs rfl
theorem A8s (l:List ByteArray) (x:ByteArray) (rs:Rows):l.map rS++([.v (.string x)]::rs)=(l++[x]).map rS++rs:=Mv rS l x _ rs rfl
theorem A8t (l:List Bool) (x:Bool) (rs:Rows):l.map rB++([.v (.bool x)]::rs)=(l++[x]).map rB++rs:=Mv rB l x _ rs rfl
theorem A8u {α:Type} (o:Bool) (f:α→List T) (l:List (List α)) (x:List α) (rs:Rows):l.map (rL o f)++([.sl o (x.map f)]::rs)=(l++[x]).map (rL o f)++rs:=Mv (rL o f) l x _ rs rfl
theorem A5P {α:Type} (o:Bool) (f:α→List T) (l:List (List α)) (rs:Rows):l.map (rL o f)++([.sl o []]::rs)=(l++[[]]).map (rL o f)++rs:=Mv (rL o f) l [] _ rs rfl
theorem A5Q {α:Type} (f:α→List T) (l l':List α):l.map f++l'.map f=(l++l').map f:=by simp
theorem PQ {α:Type} (f:α→List T) (n:Nat) (x:α) (r:List T) (h:f x=r):List.replicate n r=(List.replicate n x).map f:=by rw[←h,List.map_replicate]
theorem A8v (n:Nat) (x:Int):List.replicate n [T.v (.int .i64 x)]=(List.replicate n x).map rI:=PQ rI n x _ rfl
theorem A8w (n:Nat) (x:ByteArray):List.replicate n [T.v (.string x)]=(List.replicate n x).map rS:=PQ rS n x _ rfl
theorem A8x (n:Nat) (x:Bool):List.replicate n [T.v (.bool x)]=(List.replicate n x).map rB:=PQ rB n x _ rfl
theorem A5R (n:Nat) (o:Bool):List.replicate n [T.sl o []]=(List.replicate n []).map (rL o rI):=PQ (rL o rI) n [] _ rfl
theorem AD6 (a b c d:ByteArray) (i:Int):AZ ([[.v (.string a)],[.v (.string b)],[.v (.string c)],[.v (.string d)]]:List (List T)) i=(AZ [a,b,c,d] i).map rS:=lW rS [a,b,c,d] i
theorem ABt (a b c d:ByteArray) (k:Nat):([[.v (.string a)],[.v (.string b)],[.v (.string c)],[.v (.string d)]]:List (List T))[k]? =([a,b,c,d][k]?).map rS:=List.getElem?_map (f:=rS) (l:=[a,b,c,d]) (i:=k)
theorem AD7 (a b c d i:Int):AZ ([[.v (.int .i64 a)],[.v (.int .i64 b)],[.v (.int .i64 c)],[.v (.int .i64 d)]]:List (List T)) i=(AZ [a,b,c,d] i).map rI:=lW rI [a,b,c,d] i
theorem ABu (a b c d:Int) (k:Nat):([[.v (.int .i64 a)],[.v (.int .i64 b)],[.v (.int .i64 c)],[.v (.int .i64 d)]]:List (List T))[k]? =([a,b,c,d][k]?).map rI:=List.getElem?_map (f:=rI) (l:=[a,b,c,d]) (i:=k)
def S3 := ai @AD6<|ai @ABt<|ai @AD7<|ai @ABu<|ai A8v<|ai A8w<|ai A8x<|ai A5R<|ai A8l<|ai A8m<|ai A8n<|ai A8o<|ai (@A8p)<|ai (@A5O)<|ai A8q<|ai A8r<|ai A8s<|ai A8t<|ai (@A8u)<|ai (@A5P)<|ai (@A5Q)<|ai (@pH)<|ai A8j<|ai A8k<|ai wl<|ai A5K<|ai zY<|ai A22<|ai A5M<|ai zZ<|ai A23<|ai ABq<|ai ABr<|ai (@ABs)<|ai (@A1)<|ai AD0<|ai AD1<|ai AD2<|ai AD3<|ai (@AD4)<|ai A5J<|ai (@List.set_set.{0})<|ai A5H<|ai A20<|ai A5I<|ai A21<|ai (@List.getElem?_map.{0,0})<|ai (@List.getElem?_set.{0})<|(@List.length_set.{0})
end TT
