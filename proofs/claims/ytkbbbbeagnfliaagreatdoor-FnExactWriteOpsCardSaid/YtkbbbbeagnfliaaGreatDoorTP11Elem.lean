import Derived.Test.YtkbbbbeagnfliaaGreatDoorTP7Sort
import Derived.Test.YtkbbbbeagnfliaaGreatDoorTP3Copy
import Derived.Test.YtkbbbbeagnfliaaGreatDoorTP6EscB
set_option linter.unusedVariables false
set_option linter.unusedSimpArgs false
namespace TT
open Go
abbrev xm : ByteArray:=⟨#[112,111,115]⟩
abbrev SB : ByteArray:=⟨#[115,101,108]⟩
abbrev A0K : ByteArray:=⟨#[116,121,112,101]⟩
abbrev wWs : ByteArray:=⟨#[119,115]⟩
abbrev DB : ByteArray:=⟨#[]⟩
def HD (n v:ByteArray):GAttr:=GAttr.mk DB n DB v
theorem A0L (a b v w:ByteArray):Gf (HD a v) (HD b w)=some (ltS a b):=by
 rw[Gf]
 have e1:ltS DB DB=false:=by rw[ltS,Lib.toList_data];rfl
 have e2:Bq DB DB=true:=T9.2 rfl
 show(if ltS DB DB then _ else if Bq DB DB then _ else _)=_
 rw[e1,e2];rfl
theorem A6X (a:GAttr):Eb [a]=some [a]:=by
 rw[Eb,FR (by simp) (by decide) (by decide),CI];rfl
theorem fA (a b v w:ByteArray):Eb [HD a v,HD b w]=some (if ltS b a then[HD b w,HD a v]else[HD a v,HD b w]):=by
 have e2:∀x y:GAttr,CI [x,y] 2=some [x,y]:=fun x y=>by rw[CI];rfl
 rw[Eb,FR (by simp) (by decide) (by decide)]
 show CI [HD a v,HD b w] 1=_
 rw[CI]
 show DW [HD a v,HD b w] 1 1=_
 rw[DW]
 show(Gf (HD b w) (HD a v)>>=fun r3=>if r3 then DW [HD b w,HD a v] 1 0 else CI [HD a v,HD b w] 2)=_
 rw[A0L,A1]
 cases ltS b a with
 |true=>
  simp only[if_true]
  rw[DW]
  show CI [HD b w,HD a v] 2=_
  rw[e2]
 |false=>
  simp only[bf,if_false]
  rw[e2]
theorem lt1 : ltS xm SB=true:=by rw[ltS,Lib.toList_data,Lib.toList_data];rfl
theorem lt2 : ltS A0K SB=false:=by rw[ltS,Lib.toList_data,Lib.toList_data];rfl
theorem lt3 : ltS wWs SB=false:=by rw[ltS,Lib.toList_data,Lib.toList_data];rfl
def xn (n v:ByteArray) (x:GNode):GNode:=if IN v DB then GNode.mk x.Kind x.Pre x.Local x.Uri x.Decls (x.Attrs++[HD n v]) x.Kids x.Text else x
theorem ADF (n v:ByteArray) (x:GNode) (h:x.Attrs.length≤100):EM n v x=some (xn n v x):=by
 rw[EM,xn,FR (by omega) (by decide) (by decide)]
 cases IN v DB<;>rfl
theorem A9a (n v:ByteArray) (x:GNode) (h:x.Attrs.length≤100):Ax n v x=some (xn n v x):=by
 rw[Ax,xn,FR (by omega) (by decide) (by decide)]
 cases IN v DB<;>rfl
theorem ACB : IN DB DB=false:=by rw[show IN DB DB= !Bq DB DB from rfl,T9.2 rfl];rfl
theorem A9b {v:ByteArray} (h:v.size≠0):IN v DB=true:=by
 rw[show IN v DB= !Bq v DB from rfl,nU h];rfl
theorem A6Y (n:ByteArray) (x:GNode):xn n DB x=x:=by rw[xn,ACB];rfl
theorem kb (n:ByteArray) {v:ByteArray} (x:GNode) (h:v.size≠0):xn n v x=GNode.mk x.Kind x.Pre x.Local x.Uri x.Decls (x.Attrs++[HD n v]) x.Kids x.Text:=by rw[xn,A9b h];rfl
theorem A6Z (l:List GNode) (hl:l.length≤4000000) (hs:∀k∈l,k.sz≤1200000):J7 l=some l:=by
 have h:=ZX (fun out i=>H9 l out i) l J8 144 (fun out i=>by rw[H9]) (by omega) (by omega) (by omega) (fun x hx=>A2R x (hs x hx))
 rw[J7];exact h
theorem A6a (l:List GNode) (hl:l.length≤4000000) (hs:∀k∈l,k.sz≤1200000):FD l=some l:=by
 have h:=ZX (fun out i=>DQ out l i) l En 144 (fun out i=>by rw[DQ]) (by omega) (by omega) (by omega) (fun x hx=>A2S x (hs x hx))
 rw[FD];exact h
theorem A6b {r l:List GDecl} (h:r.Perm l):FG GDecl.sz r=FG GDecl.sz l:=by
 unfold FG
 exact(h.map GDecl.sz).sum_nat
theorem gL {p l r:ByteArray} (h:Az p l=some r):r.size≤p.size+l.size+1:=by
 have j4:∀s:ByteArray,s.size≤p.size+l.size+1→Bb p l s=some r→r.size≤p.size+l.size+1:=by
  intro s hs h
  rw[Bb]at h
  cases hq:Bx s with
  |none=>rw[hq]at h;cases h
  |some q=>
   rw[hq,A1]at h
   split at h
   ·split at h
    ·cases h;exact Nat.zero_le _
    ·split at h
     ·cases h;exact Nat.zero_le _
     ·cases h;exact hs
   ·cases h;exact Nat.zero_le _
 rw[Az]at h
 split at h
 ·cases h1:Af p ⟨#[58]⟩with
  |none=>rw[h1]at h;cases h
  |some x=>
   rw[h1,A1]at h
   cases h2:Af x l with
   |none=>rw[h2]at h;cases h
   |some y=>
    rw[h2,A1]at h
    have e1:=er h1
    have e2:=er h2
    have e3:(⟨#[58]⟩:ByteArray).size=1:=rfl
    exact j4 y (by omega) h
 ·exact j4 l (by omega) h
section
variable (o:GOp) (K:ByteArray) (sp:ByteArray×Bool) (D:List GDecl) (ks:List GNode)
theorem A6c (fs:List GAttr) (h6:AX o.Typ 6=false) (h7:AX o.Typ 7=false):Cs o K sp D fs ks=Eb fs>>=fun r7=>some (GNode.mk 1 DB K sp.1 D r7 ks DB):=by
 rw[Cs,h6,h7];rfl
theorem A0y (fs:List GAttr) (h:o.Ws=0):EK o K sp D fs ks=Cs o K sp D fs ks:=by
 rw[EK,h];rfl
end
theorem A2n (o:GOp) (hs:o.sz≤1048576) (hok:o.ok) (ho:MV o=some true) (st:ByteArray) (hst:I4 o.Sel=some st) (hne:Bq st DB=false):
  ∃n,Of o=some n∧JH o=some n∧n.sz≤o.sz+400:=by
 have hz:=GOp.sz_eq o
 obtain⟨hsh,h8,ht,hu⟩:=A9Z o hs ho
 obtain⟨D,d1,d2,d3⟩:=ADE o.Decls (by omega)
 obtain⟨st',s1,s2,s3⟩:=eu o.Sel (((GOp.ok_iff o).1 hok).2.1) (by omega)
 rw[hst]at s2
 cases s2
 have hst0:st.size≠0:=fun e=>by
  have:st=DB:=by
   have h1:st.data= #[]:=Array.eq_empty_of_size_eq_zero e
   cases st;congr
  rw[T9.2 this]at hne;cases hne
 have hdis:=A6V o.Decls [] ht
 have hsp:=A0J D o.Decls d3.2 hdis.1 DB
 have hsu:=A6W o.Decls hu DB
 have hk1:=A6Z o.Kids (by omega) (fun k hk=>by have:=BA GNode.sz hk;omega)
 have hk2:=A6a o.Kids (by omega) (fun k hk=>by have:=BA GNode.sz hk;omega)
 have hcl:DA o.Decls=some o.Decls:=by rw[DA,FR (by omega) (by omega) (by omega)];rfl
 have hS1:FP D DB=some (BE (prs o.Decls) DB):=by rw[cy D DB (by have:=d3.1;omega),hsp]
 have hS2:Jl o.Decls DB=some (BE (prs o.Decls) DB):=by rw[Jl,if_pos (by omega)];rfl
 obtain⟨K,hK,hK7⟩:∃K:ByteArray,AZ [⟨#[]⟩,⟨#[97,100,100]⟩,⟨#[114,101,112,108,97,99,101]⟩,⟨#[114,101,109,111,118,101]⟩] o.Kind=some K∧K.size≤7:=by
  have:o.Kind=1∨o.Kind=2∨o.Kind=3:=by rcases hsh with h|h|h|h<;>omega
  rcases this with h|h|h<;>rw[h]
  ·exact⟨_,rfl,by decide⟩
  ·exact⟨_,rfl,by decide⟩
  ·exact⟨_,rfl,by decide⟩
 have hj:=bp o.Pre o.Local (by omega) (by omega)
 have nsz:∀(fs:List GAttr) (m:Nat),fs.length+FG GAttr.sz fs≤m→(GNode.mk 1 DB K (BE (prs o.Decls) DB).1 D fs o.Kids DB).sz≤o.Decls.length+FG GDecl.sz o.Decls+(o.Kids.length+FG GNode.sz o.Kids)+m+47:=fun fs m h=>by
  rw[GNode.sz_eq]
  show 0+(K.size+((BE (prs o.Decls) DB).1.size+((D.length+FG GDecl.sz D)+((fs.length+FG GAttr.sz fs)+((o.Kids.length+FG GNode.sz o.Kids)+0)))))≤_
  rw[A6b d3.2,d3.1]
  omega
 have asz:∀n v:ByteArray,(HD n v).sz=n.size+v.size:=fun n v=>by rw[GAttr.sz_eq];show 0+(n.size+(0+v.size))=_;omega
 have base:∀(f:List GAttr) (hf:f.length≤90),Ax SB st (GNode.mk 1 DB K (BE (prs o.Decls) DB).1 D f o.Kids DB)=some (GNode.mk 1 DB K (BE (prs o.Decls) DB).1 D (f++[HD SB st]) o.Kids DB):=fun f hf=>by
  rw[A9a _ _ _ (by show f.length≤100;omega),kb _ _ hst0]
 have hS1n:FP D ⟨#[]⟩=some (BE (prs o.Decls) DB):=hS1
 have hS2n:Jl o.Decls ⟨#[]⟩=some (BE (prs o.Decls) DB):=hS2
 rw[Of,JH,T6,R0,Jm]
 simp only[A1,hK,hcl,hk1,hk2,d1,d2,hS1n,hS2n,s1,hst]
 rw[FR (show 1≤4000000 by omega) (by decide) (by decide),A1]
 have pw0:AZ ([⟨#[]⟩,⟨#[112,114,101,112,101,110,100]⟩,⟨#[98,101,102,111,114,101]⟩,⟨#[97,102,116,101,114]⟩]:List ByteArray) 0=some DB:=rfl
 have ww0:AZ ([⟨#[]⟩,⟨#[98,101,102,111,114,101]⟩,⟨#[97,102,116,101,114]⟩,⟨#[98,111,116,104]⟩]:List ByteArray) 0=some DB:=rfl
 have two:∀a b:GAttr,FG GAttr.sz [a,b]=a.sz+b.sz:=fun a b=>by rw[DI,DI];rfl
 have sel1:FG GAttr.sz [HD SB st]=3+st.size:=by rw[DI,asz];rfl
 have N0:=base []
 have t6:∀{x:Int},o.Typ=x→x≠6→AX o.Typ 6=false:=fun h h2=>by rw[h];exact C4 h2
 have t7:∀{x:Int},o.Typ=x→x≠7→AX o.Typ 7=false:=fun h h2=>by rw[h];exact C4 h2
 have fin:∀(fs:List GAttr) (m:Nat),fs.length+FG GAttr.sz fs≤m→m≤300+o.Pre.size+o.Local.size→(GNode.mk 1 DB K (BE (prs o.Decls) DB).1 D fs o.Kids DB).sz≤o.sz+400:=fun fs m h1 h2=>by
  have:=nsz fs m h1
  omega
 have wsn:∀fs:List GAttr,fs.length≤90→Ax (⟨#[119,115]⟩) DB (GNode.mk 1 DB K (BE (prs o.Decls) DB).1 D fs o.Kids DB)=some (GNode.mk 1 DB K (BE (prs o.Decls) DB).1 D fs o.Kids DB):=fun fs h=>by
  rw[A9a _ _ _ (by show fs.length≤100;omega),A6Y]
 have posn:EM (⟨#[112,111,115]⟩) DB (GNode.mk 1 DB K (BE (prs o.Decls) DB).1 D [] o.Kids DB)=some (GNode.mk 1 DB K (BE (prs o.Decls) DB).1 D [] o.Kids DB):=by
  rw[ADF _ _ _ (by show 0≤100;omega),A6Y]
 have base0:=base [] (by simp)
 rw[List.nil_append]at base0
 have base0':Ax (⟨#[115,101,108]⟩) st (GNode.mk 1 DB K (BE (prs o.Decls) DB).1 D [] o.Kids DB)=some (GNode.mk 1 DB K (BE (prs o.Decls) DB).1 D [HD SB st] o.Kids DB):=base0
 have nil1:([]++[GAttr.mk (⟨#[]⟩) (⟨#[115,101,108]⟩) (⟨#[]⟩) st]:List GAttr)=[HD SB st]:=rfl
 by_cases hbare:o.Pos=0∧o.Ws=0∧o.Typ=0
 ·obtain⟨hp,hw,ht⟩:=hbare
  refine⟨GNode.mk 1 DB K (BE (prs o.Decls) DB).1 D [HD SB st] o.Kids DB, ?_, ?_,fin _ (204) (by rw[sel1];simp;omega) (by omega)⟩
  ·rw[hp,ZA (by omega),if_neg Bool.false_ne_true,nil1,A0y o K _ D o.Kids _ hw,A6c o K _ D o.Kids _ (t6 ht (by omega)) (t7 ht (by omega)),A6X];rfl
  ·rw[hp,pw0,t6 ht (by omega),t7 ht (by omega),hw,ww0]
   simp only[A1,posn,base0',bf,if_false,wsn [HD SB st] (by simp)]
 ·rcases hsh with ⟨hk,hw,p0,p3,ht⟩|⟨hk,hw,hp,ht⟩|⟨hk,hw,hp,ht⟩|⟨hk,w0,w3,hp,ht⟩
  ·-- a place is told
   have hp0:o.Pos≠0:=fun e=>hbare ⟨e,hw,ht⟩
   obtain⟨w,hw1,hw2,hw3⟩:∃w:ByteArray,AZ ([⟨#[]⟩,⟨#[112,114,101,112,101,110,100]⟩,⟨#[98,101,102,111,114,101]⟩,⟨#[97,102,116,101,114]⟩]:List ByteArray) o.Pos=some w∧w.size≠0∧w.size≤7:=by
    have:o.Pos=1∨o.Pos=2∨o.Pos=3:=by omega
    rcases this with h|h|h<;>rw[h]
    ·exact⟨_,rfl,by decide,by decide⟩
    ·exact⟨_,rfl,by decide,by decide⟩
    ·exact⟨_,rfl,by decide,by decide⟩
   have hput:EM (⟨#[112,111,115]⟩) w (GNode.mk 1 DB K (BE (prs o.Decls) DB).1 D [] o.Kids DB)=some (GNode.mk 1 DB K (BE (prs o.Decls) DB).1 D [HD xm w] o.Kids DB):=by
    rw[ADF _ _ _ (by show 0≤100;omega),kb _ _ hw2];rfl
   have hb:=base [HD xm w] (by simp)
   have hb':Ax (⟨#[115,101,108]⟩) st (GNode.mk 1 DB K (BE (prs o.Decls) DB).1 D [HD xm w] o.Kids DB)=some (GNode.mk 1 DB K (BE (prs o.Decls) DB).1 D [HD xm w,HD SB st] o.Kids DB):=hb
   refine⟨GNode.mk 1 DB K (BE (prs o.Decls) DB).1 D [HD xm w,HD SB st] o.Kids DB, ?_, ?_,fin _ 220 (by rw[two,asz,asz];show 2+(3+w.size+(3+st.size))≤_;omega) (by omega)⟩
   ·rw[RL (by omega),if_pos rfl,hw1,A1,FR (by simp) (by decide) (by decide),A1,A0y o K _ D o.Kids _ hw,A6c o K _ D o.Kids _ (t6 ht (by omega)) (t7 ht (by omega))]
    rw[show([]++[GAttr.mk (⟨#[]⟩) (⟨#[115,101,108]⟩) (⟨#[]⟩) st]++[GAttr.mk (⟨#[]⟩) (⟨#[112,111,115]⟩) (⟨#[]⟩) w]:List GAttr)=[HD SB st,HD xm w]from rfl,fA,lt1]
    rfl
   ·rw[hw1,t6 ht (by omega),t7 ht (by omega),hw,ww0]
    simp only[A1,hput,hb',bf,if_false,wsn [HD xm w,HD SB st] (by simp)]
  ·-- a type is told
   have typed:∀v:ByteArray,v.size≠0→Ax (⟨#[116,121,112,101]⟩) v (GNode.mk 1 DB K (BE (prs o.Decls) DB).1 D [HD SB st] o.Kids DB)=some (GNode.mk 1 DB K (BE (prs o.Decls) DB).1 D [HD SB st,HD A0K v] o.Kids DB):=fun v hv=>by
    rw[A9a _ _ _ (by show 1≤100;omega),kb _ _ hv];rfl
   have lst:∀v:ByteArray,([]++[GAttr.mk (⟨#[]⟩) (⟨#[115,101,108]⟩) (⟨#[]⟩) st]++[GAttr.mk (⟨#[]⟩) (⟨#[116,121,112,101]⟩) (⟨#[]⟩) v]:List GAttr)=[HD SB st,HD A0K v]:=fun v=>rfl
   rcases ht with ht|ht
   ·obtain⟨j,j1,_⟩:=eq o.Pre o.Local (by omega) (by omega)
    have js:=gL j1
    have j2:BX o.Pre o.Local=some j:=by rw[hj,j1]
    have c1:=Ae (show(⟨#[64]⟩:ByteArray).size+j.size≤1000000000 by have:(⟨#[64]⟩:ByteArray).size=1:=rfl;omega)
    have cs:((⟨#[64]⟩:ByteArray)++j).size=1+j.size:=by rw[AD];rfl
    refine⟨GNode.mk 1 DB K (BE (prs o.Decls) DB).1 D [HD SB st,HD A0K (⟨#[64]⟩++j)] o.Kids DB, ?_, ?_,fin _ (220+o.Pre.size+o.Local.size) (by rw[two,asz,asz,cs];show 2+(3+st.size+(4+(1+j.size)))≤_;omega) (by omega)⟩
    ·rw[hp,ZA (by omega),if_neg Bool.false_ne_true,A0y o K _ D o.Kids _ hw,Cs,ht,show AX 6 6=true from rfl,if_pos rfl,j1,A1,c1,A1,FR (by simp) (by decide) (by decide),A1,lst,fA,lt2]
     rfl
    ·rw[hp,pw0,ht,hw,ww0]
     simp only[A1,posn,base0',show AX 6 6=true from rfl,if_true,j2,c1,typed _ (by rw[cs];omega),wsn [HD SB st,HD A0K (⟨#[64]⟩++j)] (by simp)]
   ·have hn:(⟨#[110,97,109,101,115,112,97,99,101,58,58]⟩:ByteArray).size=11:=rfl
    have c1:=Ae (show(⟨#[110,97,109,101,115,112,97,99,101,58,58]⟩:ByteArray).size+o.Local.size≤1000000000 by omega)
    have cs:((⟨#[110,97,109,101,115,112,97,99,101,58,58]⟩:ByteArray)++o.Local).size=11+o.Local.size:=by rw[AD];rfl
    refine⟨GNode.mk 1 DB K (BE (prs o.Decls) DB).1 D [HD SB st,HD A0K (⟨#[110,97,109,101,115,112,97,99,101,58,58]⟩++o.Local)] o.Kids DB, ?_, ?_,fin _ (230+o.Pre.size+o.Local.size) (by rw[two,asz,asz,cs];show 2+(3+st.size+(4+(11+o.Local.size)))≤_;omega) (by omega)⟩
    ·rw[hp,ZA (by omega),if_neg Bool.false_ne_true,A0y o K _ D o.Kids _ hw,Cs,ht,show AX 7 6=false from rfl,if_neg Bool.false_ne_true,show AX 7 7=true from rfl,if_pos rfl,c1,A1,FR (by simp) (by decide) (by decide),A1,lst,fA,lt2]
     rfl
    ·rw[hp,pw0,ht,hw,ww0]
     simp only[A1,posn,base0',show AX 7 6=false from rfl,show AX 7 7=true from rfl,bf,if_false,if_true,c1,typed _ (by rw[cs];omega),wsn [HD SB st,HD A0K (⟨#[110,97,109,101,115,112,97,99,101,58,58]⟩++o.Local)] (by simp)]
  ·exact absurd ⟨hp,hw,ht⟩ hbare
  ·-- what is left of blanks is told
   have hw0:o.Ws≠0:=fun e=>hbare ⟨hp,e,ht⟩
   obtain⟨w,hw1,hw2,hw3⟩:∃w:ByteArray,AZ ([⟨#[]⟩,⟨#[98,101,102,111,114,101]⟩,⟨#[97,102,116,101,114]⟩,⟨#[98,111,116,104]⟩]:List ByteArray) o.Ws=some w∧w.size≠0∧w.size≤7:=by
    have:o.Ws=1∨o.Ws=2∨o.Ws=3:=by omega
    rcases this with h|h|h<;>rw[h]
    ·exact⟨_,rfl,by decide,by decide⟩
    ·exact⟨_,rfl,by decide,by decide⟩
    ·exact⟨_,rfl,by decide,by decide⟩
   have hput:Ax (⟨#[119,115]⟩) w (GNode.mk 1 DB K (BE (prs o.Decls) DB).1 D [HD SB st] o.Kids DB)=some (GNode.mk 1 DB K (BE (prs o.Decls) DB).1 D [HD SB st,HD wWs w] o.Kids DB):=by
    rw[A9a _ _ _ (by show 1≤100;omega),kb _ _ hw2];rfl
   refine⟨GNode.mk 1 DB K (BE (prs o.Decls) DB).1 D [HD SB st,HD wWs w] o.Kids DB, ?_, ?_,fin _ 220 (by rw[two,asz,asz];show 2+(3+st.size+(2+w.size))≤_;omega) (by omega)⟩
   ·rw[hp,ZA (by omega),if_neg Bool.false_ne_true,EK,RL (by omega),if_pos rfl,hw1,A1,FR (by simp) (by decide) (by decide),A1,A6c o K _ D o.Kids _ (t6 ht (by omega)) (t7 ht (by omega))]
    rw[show([]++[GAttr.mk (⟨#[]⟩) (⟨#[115,101,108]⟩) (⟨#[]⟩) st]++[GAttr.mk (⟨#[]⟩) (⟨#[119,115]⟩) (⟨#[]⟩) w]:List GAttr)=[HD SB st,HD wWs w]from rfl,fA,lt3]
    rfl
   ·rw[hp,pw0,t6 ht (by omega),t7 ht (by omega),hw1]
    simp only[A1,posn,base0',bf,if_false,hput]
end TT
namespace TT
open Go
theorem UJ (a:UInt8):(⟨#[a]⟩:ByteArray).size=1:=rfl
theorem UK (a b:UInt8):(⟨#[a,b]⟩:ByteArray).size=2:=rfl
theorem lz3 (a b c:UInt8):(⟨#[a,b,c]⟩:ByteArray).size=3:=rfl
theorem lz4 (a b c d:UInt8):(⟨#[a,b,c,d]⟩:ByteArray).size=4:=rfl
theorem lz5 (a b c d e:UInt8):(⟨#[a,b,c,d,e]⟩:ByteArray).size=5:=rfl
theorem lz6 (a b c d e f:UInt8):(⟨#[a,b,c,d,e,f]⟩:ByteArray).size=6:=rfl
theorem A2o (p:ByteArray):(⟨#[120,109,108,110,115]⟩:ByteArray)++((⟨#[58]⟩:ByteArray)++p)=(⟨#[120,109,108,110,115,58]⟩:ByteArray)++p:=by
 rw[←TL]
 have:(⟨#[120,109,108,110,115]⟩:ByteArray)++(⟨#[58]⟩:ByteArray)=(⟨#[120,109,108,110,115,58]⟩:ByteArray):=P9 (by rw[ByteArray.data_append];rfl)
 rw[this]
def txD (x:ByteArray) (d:GDecl):ByteArray:=(⟨#[32]⟩:ByteArray)++x++(⟨#[61,34]⟩:ByteArray)++esc true d.Uri++(⟨#[34]⟩:ByteArray)
theorem xp (x:ByteArray) (d:GDecl):(txD x d).size≤4+x.size+6*d.Uri.size:=by
 have:=ZG true d.Uri
 simp only[txD,AD,UJ,UK]
 omega
theorem A0z (d:GDecl) (x t K r:ByteArray) (i:Int) (n:GNode) (hx:x.size≤2000000) (hu:d.Uri.size≤1200000) (ht:t.size≤400000000):Cu K r t i x n d=DX K r (t++txD x d) (Ac i 1) n:=by
 have he:=ZG true d.Uri
 rw[Cu,Ae (by simp only[AD,UJ,UK];omega)]
 simp only[A1]
 rw[Ae (by simp only[AD,UJ,UK];omega)]
 simp only[A1]
 rw[Ae (by simp only[AD,UJ,UK];omega),f9 d.Uri hu]
 simp only[A1]
 rw[Ae (by simp only[AD,UJ,UK];omega)]
 simp only[A1]
 rw[Ae (by simp only[AD,UJ,UK];omega)]
 simp only[A1]
 simp only[txD,TL]
theorem A2p (d:GDecl) (hs:d.sz≤1200000):∃D:ByteArray,D.size≤40*(1+d.sz)∧IK d=some D∧∀(K r t:ByteArray) (i:Int) (n:GNode),t.size≤400000000→
  (if IN d.Pre (⟨#[]⟩)then Af (⟨#[120,109,108,110,115,58]⟩) d.Pre>>=fun x=>Cu K r t i x n d else Cu K r t i (⟨#[120,109,108,110,115]⟩) n d)=DX K r (t++D) (Ac i 1) n:=by
 have hz:=GDecl.sz_eq d
 have he:=ZG true d.Uri
 cases hp:IN d.Pre (⟨#[]⟩)with
 |true=>
  refine⟨txD ((⟨#[120,109,108,110,115,58]⟩:ByteArray)++d.Pre) d, ?_, ?_,fun K r t i n ht=> ?_⟩
  ·have:=xp ((⟨#[120,109,108,110,115,58]⟩:ByteArray)++d.Pre) d
   simp only[AD,lz6]at this
   omega
  ·rw[IK,hp,if_pos rfl,Ae (by simp only[AD,UJ,UK,lz5];omega)]
   simp only[A1]
   rw[Ae (by simp only[AD,UJ,UK,lz5];omega)]
   simp only[A1]
   rw[Ae (by simp only[AD,UJ,UK,lz5];omega)]
   simp only[A1]
   rw[Ae (by simp only[AD,UJ,UK,lz5];omega),Wc d.Uri (by omega)]
   simp only[A1]
   rw[Ae (by simp only[AD,UJ,UK,lz5];omega)]
   simp only[A1]
   rw[Ae (by simp only[AD,UJ,UK,lz5];omega)]
   simp only[A1,txD,A2o]
  ·rw[if_pos rfl,Ae (by simp only[AD,lz6];omega)]
   simp only[A1]
   exact A0z d _ t K r i n (by simp only[AD,lz6];omega) (by omega) ht
 |false=>
  refine⟨txD (⟨#[120,109,108,110,115]⟩:ByteArray) d, ?_, ?_,fun K r t i n ht=> ?_⟩
  ·have:=xp (⟨#[120,109,108,110,115]⟩:ByteArray) d
   simp only[lz5]at this
   omega
  ·rw[IK,hp,if_neg Bool.false_ne_true,Ae (by simp only[AD,UJ,UK,lz5];omega)]
   simp only[A1]
   rw[Ae (by simp only[AD,UJ,UK,lz5];omega),Wc d.Uri (by omega)]
   simp only[A1]
   rw[Ae (by simp only[AD,UJ,UK,lz5];omega)]
   simp only[A1]
   rw[Ae (by simp only[AD,UJ,UK,lz5];omega)]
   simp only[A1,txD]
  ·rw[if_neg Bool.false_ne_true]
   exact A0z d _ t K r i n (by simp only[lz5];omega) (by omega) ht
theorem iT (n:GNode) (K r:ByteArray) (hl:n.Decls.length≤4000000):∀(rest pre:List GDecl) (t:ByteArray),pre++rest=n.Decls→(∀d∈rest,d.sz≤1200000)→t.size+40*(rest.length+FG GDecl.sz rest)≤300000000→
  ∃T:ByteArray,T.size≤t.size+40*(rest.length+FG GDecl.sz rest)∧DX K r t pre.length n=Ct K r T 0 n∧EN K r t n pre.length=CR K r T n 0
 | [],pre,t,h,hs,hb=>by
  refine⟨t,by omega, ?_, ?_⟩
  ·rw[DX,CZ h,if_neg Bool.false_ne_true]
  ·rw[EN,CZ h,if_neg Bool.false_ne_true]
 |d::rest,pre,t,h,hs,hb=>by
  rw[DI,List.length_cons]at hb
  obtain⟨D,d1,d2,d3⟩:=A2p d (hs d (List.mem_cons_self ..))
  obtain⟨T,t1,t2,t3⟩:=iT n K r hl rest (pre++[d]) (t++D) (CC h) (fun x hx=>hs x (List.mem_cons_of_mem _ hx)) (by rw[AD];omega)
  have hn:=C2 h (by rw[BB];omega)
  refine⟨T,by rw[DI,List.length_cons];rw[AD]at t1;omega, ?_, ?_⟩
  ·rw[DX,BZ h,if_pos rfl,BI h]
   simp only[A1]
   rw[d3 K r t _ n (by omega),hn,t2]
  ·rw[EN,BZ h,if_pos rfl,BI h]
   simp only[A1]
   rw[d2]
   simp only[A1]
   rw[Ae (by omega)]
   simp only[A1]
   rw[hn,t3]
theorem iU (n:GNode) (K r:ByteArray) (hK:K.size+r.size≤300000000) (hl:n.Attrs.length≤4000000):∀(rest pre:List GAttr) (t:ByteArray),pre++rest=n.Attrs→(∀a∈rest,a.sz≤1200000)→t.size+40*(rest.length+FG GAttr.sz rest)≤300000000→
  ∃R:ByteArray,R.size≤t.size+40*(rest.length+FG GAttr.sz rest)+K.size+r.size+10∧Ct K r t pre.length n=some R∧CR K r t n pre.length=some R
 | [],pre,t,h,hs,hb=>by
  have e:Ct K r t pre.length n=CR K r t n pre.length:=by
   rw[Ct,CZ h,if_neg Bool.false_ne_true,CR,CZ h,if_neg Bool.false_ne_true]
  rw[e,CR,CZ h,if_neg Bool.false_ne_true]
  cases hk:AX (AF n.Kids) 0 with
  |true=>
   rw[if_pos rfl,Ae (by simp only[UK];omega)]
   exact⟨_,by simp only[AD,UK];omega,rfl,rfl⟩
  |false=>
   rw[if_neg Bool.false_ne_true,Ae (by simp only[AD,UJ,UK];omega)]
   simp only[A1]
   rw[Ae (by simp only[AD,UJ,UK];omega)]
   simp only[A1]
   rw[Ae (by simp only[AD,UJ,UK];omega)]
   simp only[A1]
   rw[Ae (by simp only[AD,UJ,UK];omega)]
   simp only[A1]
   rw[Ae (by simp only[AD,UJ,UK];omega)]
   exact⟨_,by simp only[AD,UJ,UK];omega,rfl,rfl⟩
 |a::rest,pre,t,h,hs,hb=>by
  rw[DI,List.length_cons]at hb
  have ha:=hs a (List.mem_cons_self ..)
  have hz:=GAttr.sz_eq a
  obtain⟨j,j1,j2,_⟩:=ZZ a.Pre a.Local (by omega) (by omega)
  have j3:=gL j1
  have he:=ZG true a.Val
  obtain⟨R,r1,r2,r3⟩:=iU n K r hK hl rest (pre++[a]) (t++((⟨#[32]⟩:ByteArray)++j++(⟨#[61,34]⟩:ByteArray)++esc true a.Val++(⟨#[34]⟩:ByteArray))) (CC h) (fun x hx=>hs x (List.mem_cons_of_mem _ hx)) (by simp only[AD,UJ,UK];omega)
  have hn:=C2 h (by rw[BB];omega)
  refine⟨R,by rw[DI,List.length_cons];simp only[AD,UJ,UK]at r1;omega, ?_, ?_⟩
  ·rw[Ct,BZ h,if_pos rfl,BI h]
   simp only[A1]
   rw[Ae (by simp only[AD,UJ,UK];omega)]
   simp only[A1]
   rw[j1]
   simp only[A1]
   rw[Ae (by simp only[AD,UJ,UK];omega)]
   simp only[A1]
   rw[Ae (by simp only[AD,UJ,UK];omega)]
   simp only[A1]
   rw[f9 a.Val (by omega)]
   simp only[A1]
   rw[Ae (by simp only[AD,UJ,UK];omega)]
   simp only[A1]
   rw[Ae (by simp only[AD,UJ,UK];omega)]
   simp only[A1]
   rw[hn,←r2]
   simp only[TL]
  ·rw[CR,BZ h,if_pos rfl,BI h]
   simp only[A1]
   rw[j2]
   simp only[A1]
   rw[Ae (by simp only[AD,UJ,UK];omega)]
   simp only[A1]
   rw[Ae (by simp only[AD,UJ,UK];omega)]
   simp only[A1]
   rw[Wc a.Val (by omega)]
   simp only[A1]
   rw[Ae (by simp only[AD,UJ,UK];omega)]
   simp only[A1]
   rw[Ae (by simp only[AD,UJ,UK];omega)]
   simp only[A1]
   rw[Ae (by simp only[AD,UJ,UK];omega)]
   simp only[A1]
   rw[hn,←r3]
theorem nf (n:GNode) (hl:n.Kids.length≤4000000) (hk:∀k∈n.Kids,∃R:ByteArray,R.size≤40*(1+k.sz)∧Dq k=some R∧Ed k=some R):∀(rest pre:List GNode) (t:ByteArray),pre++rest=n.Kids→t.size+40*(rest.length+FG GNode.sz rest)≤300000000→
  ∃K:ByteArray,K.size≤t.size+40*(rest.length+FG GNode.sz rest)∧CP t pre.length n=CP K n.Kids.length n∧E6 t n pre.length=E6 K n n.Kids.length
 | [],pre,t,h,hb=>by
  have:pre=n.Kids:=by simpa using h
  rw[this]
  exact⟨t,by omega,rfl,rfl⟩
 |k::rest,pre,t,h,hb=>by
  rw[DI,List.length_cons]at hb
  obtain⟨R,r1,r2,r3⟩:=hk k (by rw[←h];simp)
  obtain⟨K,k1,k2,k3⟩:=nf n hl hk rest (pre++[k]) (t++R) (CC h) (by rw[AD];omega)
  have hn:=C2 h (by rw[BB];omega)
  refine⟨K,by rw[DI,List.length_cons];rw[AD]at k1;omega, ?_, ?_⟩
  ·rw[←k2,CP,BZ h,if_pos rfl,BI h]
   simp only[A1]
   rw[r2]
   simp only[A1]
   rw[Ae (by omega)]
   simp only[A1]
   rw[hn]
  ·rw[←k3,E6,BZ h,if_pos rfl,BI h]
   simp only[A1]
   rw[r3]
   simp only[A1]
   rw[Ae (by omega)]
   simp only[A1]
   rw[hn]
theorem A2q : ∀ n:GNode,n.sz≤1200000→∃R:ByteArray,R.size≤40*(1+n.sz)∧Dq n=some R∧Ed n=some R:=
 GNode.ind' fun n ih hs=>by
  have hz:=GNode.sz_eq n
  have hl:n.Kids.length≤4000000:=by omega
  obtain⟨K,k1,k2,k3⟩:=nf n hl (fun k hk=>ih k hk (by have:=BA GNode.sz hk;omega)) n.Kids [] DB rfl (by show 0+_≤_;omega)
  have k1:K.size≤40*(n.Kids.length+FG GNode.sz n.Kids):=by
   have e:DB.size=0:=rfl
   omega
  have hend:BV ((n.Kids.length:Nat):Int) (AF n.Kids)=false:=GB (by simp only[AF];omega)
  have hi:Ed n=E6 K n n.Kids.length:=by rw[Ed];exact k3
  have hsp:CP DB 0 n=CP K n.Kids.length n:=k2
  have het:=ZG false n.Text
  rw[hi,Dq,E6,hend,if_neg Bool.false_ne_true]
  by_cases c2:AX n.Kind 2=true
  ·have e:=KB c2
   rw[c2,if_pos rfl,e,if_pos rfl,show AX (2:Int) 0=false from rfl,if_neg Bool.false_ne_true,vA n.Text (by omega),ew n.Text (by omega)]
   exact⟨_,by omega,rfl,rfl⟩
  by_cases c3:AX n.Kind 3=true
  ·have e:=KB c3
   rw[e,show AX (3:Int) 0=false from rfl,show AX (3:Int) 2=false from rfl,show AX (3:Int) 3=true from rfl]
   simp only[bf,if_false,if_true]
   rw[Ae (by simp only[AD,lz4,lz3];omega)]
   simp only[A1]
   rw[Ae (by simp only[AD,lz4,lz3];omega)]
   exact⟨_,by simp only[AD,lz4,lz3];omega,rfl,rfl⟩
  by_cases c4:AX n.Kind 4=true
  ·have e:=KB c4
   rw[e,show AX (4:Int) 0=false from rfl,show AX (4:Int) 2=false from rfl,show AX (4:Int) 3=false from rfl,show AX (4:Int) 4=true from rfl]
   simp only[bf,if_false,if_true]
   cases ht:Bq n.Text (⟨#[]⟩)with
   |true=>
    rw[if_pos rfl,Ae (by simp only[AD,UJ,UK];omega)]
    simp only[A1]
    rw[Ae (by simp only[AD,UJ,UK];omega)]
    exact⟨_,by simp only[AD,UJ,UK];omega,rfl,rfl⟩
   |false=>
    rw[if_neg Bool.false_ne_true,Ae (by simp only[AD,UJ,UK];omega)]
    simp only[A1]
    rw[Ae (by simp only[AD,UJ,UK];omega)]
    simp only[A1]
    rw[Ae (by simp only[AD,UJ,UK];omega)]
    simp only[A1]
    rw[Ae (by simp only[AD,UJ,UK];omega)]
    exact⟨_,by simp only[AD,UJ,UK];omega,rfl,rfl⟩
  rw[if_neg c2,if_neg c3,if_neg c4,if_neg c2,if_neg c3,if_neg c4]
  show∃R:ByteArray,_∧CP DB 0 n=some R∧_
  rw[hsp,CP,hend,if_neg Bool.false_ne_true]
  by_cases c0:AX n.Kind 0=true
  ·rw[c0,if_pos rfl,if_pos rfl]
   exact⟨K,by omega,rfl,rfl⟩
  rw[if_neg c0,if_neg c0]
  obtain⟨j,j1,j2,_⟩:=ZZ n.Pre n.Local (by omega) (by omega)
  have j3:=gL j1
  rw[j1,j2]
  simp only[A1]
  rw[Ae (by simp only[AD,UJ,UK];omega)]
  simp only[A1]
  obtain⟨T,t1,t2,t3⟩:=iT n K j (by omega) n.Decls [] ((⟨#[60]⟩:ByteArray)++j) rfl (fun d hd=>by have:=BA GDecl.sz hd;omega) (by simp only[AD,UJ];omega)
  simp only[AD,UJ]at t1
  obtain⟨R,r1,r2,r3⟩:=iU n K j (by omega) (by omega) n.Attrs [] T rfl (fun d hd=>by have:=BA GAttr.sz hd;omega) (by omega)
  exact⟨R,by omega,t2.trans r2,t3.trans r3⟩
theorem A10 {α:Type} (sz:α→Nat) (a b:List α):FG sz (a++b)=FG sz a+FG sz b:=by
 unfold FG
 rw[List.map_append,List.sum_append]
def fB (ks:List GNode):GNode:=GNode.mk 0 DB DB DB [] [] [GNode.mk 1 DB (⟨#[100,105,102,102]⟩) DB [] [] ks DB] DB
theorem A6d (ks:List GNode):(fB ks).sz=ks.length+FG GNode.sz ks+5:=by
 rw[GNode.sz_eq]
 show 0+(0+(0+((0+0)+((0+0)+((1+FG GNode.sz [GNode.mk 1 DB (⟨#[100,105,102,102]⟩) DB [] [] ks DB])+0)))))=_
 rw[DI,GNode.sz_eq]
 show 0+(0+(0+((0+0)+((0+0)+((1+((0+(4+(0+((0+0)+((0+0)+((ks.length+FG GNode.sz ks)+0))))))+0))+0)))))=_
 omega
theorem sO (l:List GOp) (hl:l.length≤40) (hs:l.length+FG GOp.sz l≤1048576) (hok:∀o∈l,o.ok):∀(rest pre:List GOp) (ks:List GNode),pre++rest=l→ks.length=pre.length→FG GNode.sz ks≤FG GOp.sz pre+400*pre.length→
  ∃r,Dr l pre.length ks=some r∧Ds l pre.length ks=some r
 | [],pre,ks,h,hk,hz=>by
  have hp:pre=l:=by simpa using h
  subst hp
  have hsz:=A6d ks
  obtain⟨t1,t2⟩:=AC7 (fB ks) (by omega)
  obtain⟨R,r1,r2,r3⟩:=A2q (fB ks) (by omega)
  rw[Dr,Ds,CZ h,if_neg Bool.false_ne_true,if_neg Bool.false_ne_true]
  show∃r,(MQ (fB ks)>>=fun r9=>if r9 then Dq (fB ks)>>=fun r10=>if IR (AL r10) 1500 then some DB else Dq (fB ks)>>=fun r11=>some r11 else some DB)=some r∧
   (MW (fB ks)>>=fun r8=>if r8 then Ed (fB ks)>>=fun r9=>if IR (AL r9) 1500 then some DB else some r9 else some DB)=some r
  rw[t1,t2,r2,r3]
  simp only[A1]
  cases xe (fB ks)with
  |false=>exact⟨DB,rfl,rfl⟩
  |true=>
   simp only[if_true]
   cases IR (AL R) 1500 with
   |true=>exact⟨DB,rfl,rfl⟩
   |false=>exact⟨R,rfl,rfl⟩
 |o::rest,pre,ks,h,hk,hz=>by
  have hmem:o∈l:=by rw[←h];simp
  have hlen:pre.length+(rest.length+1)=l.length:=by rw[←h];simp
  have hso:o.sz≤1048576:=by have:=BA GOp.sz hmem;omega
  have ho:=hok o hmem
  have hzo:=GOp.sz_eq o
  obtain⟨b,b1,b2⟩:=A2g o (by omega)
  rw[Dr,Ds,BZ h,if_pos rfl,if_pos rfl,BI h]
  simp only[A1]
  rw[b1,b2]
  simp only[A1]
  cases b with
  |false=>exact⟨DB,rfl,rfl⟩
  |true=>
   simp only[if_true]
   cases hd:IR (AF o.Decls) 4 with
   |true=>exact⟨DB,rfl,rfl⟩
   |false=>
    simp only[bf,if_false]
    obtain⟨st,s1,s2,s3⟩:=eu o.Sel (((GOp.ok_iff o).1 ho).2.1) (by omega)
    rw[s1,s2]
    simp only[A1]
    cases he:Bq st (⟨#[]⟩)with
    |true=>exact⟨DB,rfl,rfl⟩
    |false=>
     simp only[bf,if_false]
     obtain⟨n,n1,n2,n3⟩:=A2n o hso ho b2 st s2 he
     rw[n1,n2]
     simp only[A1]
     have hroom:room (ks.length+1) 144=some ():=FR (n:=ks.length+1) (byt:=144) (by omega) (by omega) (by omega)
     rw[hroom]
     simp only[A1]
     rw[C2 h (by rw[BB];omega)]
     exact sO l hl hs hok rest (pre++[o]) (ks++[n]) (CC h) (by simp[hk]) (by
      rw[A10,A10,DI,DI,List.length_append]
      show _+(_+0)≤_+(_+0)+400*(_+1)
      omega)
theorem qN (l:List GOp) (hs:l.length+FG GOp.sz l≤1048576) (hok:∀o∈l,o.ok):∃r,KJ l=some r∧KN l=some r:=by
 rw[KJ,KN]
 cases h:IR (AF l) 40 with
 |true=>exact⟨DB,rfl,rfl⟩
 |false=>
  have hl:l.length≤40:=by
   have:¬(40:Int)<(l.length:Int):=fun h'=>by rw[show IR (AF l) 40=true from RL h']at h;cases h
   omega
  simp only[bf,if_false]
  exact sO l hl hs hok l [] [] rfl rfl (by show 0≤_;omega)
end TT
