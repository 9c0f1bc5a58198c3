/- What the functions of the seat compute, part 6: the texts of the claim, one behind the other. Conditions: bounds, as each theorem names them. -/
import Derived.Test.YtihmmkncokjbaaaGreatDoorTe
import Derived.Lib.SmallJoins
set_option linter.defProp false
set_option linter.unusedSimpArgs false
set_option linter.unusedVariables false
namespace Go.Proofs.YtihmmkncokjbaaaGreatDoor
open Go Go.Av Go.Av.Ap
set_option maxRecDepth 100000
def Hg{t e:Nat}{ti ei:TI}(ht:T t=some ti)(hk:ti.kind= .slice e)(he:T e=some ei){l off len sz:Nat}{ag:Bool}{n:Int}(h0:0<=n)(h1:n<len):ak T t (.hs l off len sz ag) (.int .i64 n)=some (.hp l (off+n.toNat*ei.size)):=by
 simp[ak,ht,hk,he,h0,h1]
def xc{p:List Mod}{nm:SNm}{tag:Nat->Nat}{dv cv sv:AV}{m:Ms}{h:Hp}(R:RepT (rowP p nm.told) nm tag dv cv sv m h)(d:Deed)(hb:m.deeds.length<=2000000):
  ∃dv' h1 h2,appH T 159 false dv (.sl [d.av]) h= .ok dv' h1/\cZ T 159 (.hp 0 9) dv' h1= .ok (.tup []) h2/\dZ p nm { m with deeds:=m.deeds++[d] } h2:=by
 obtain⟨h1,dv',tag',e1,K,H,hc⟩:=sD (T:=T) (t:=159) rfl rfl rfl rfl (by decide) rfl (by decide) (x:=d.av) R.ds (fun h0=>by
  have:m.deeds=[]:=Im h0;rw[this];rfl) (fun cs h=>by rw[h];exact pY _) (li d) (show (m.deeds.length+1)*24<=140737488355328 by omega)
 have h0:=(K 0 _ R.r0 (by rw[R.t0];decide)).1;refine⟨dv',h1,_,e1,fK rfl h0 (fX hc).1 (show 9+1<=12 by decide) (by decide),?_⟩;have hac:aa dv'=[dv']:=(fX hc).2.1
 have:=R.pushDeed (m':={ m with deeds:=m.deeds++[d] }) K H rfl rfl rfl id
 refine⟨tag',dv',cv,sv,?_⟩;rw[hac];exact this
theorem qU{p:List Mod}{nm:SNm}{m:Ms}{h:Hp}(R:dZ p nm m h)(hb:m.deeds.length<=2000000)(e:Exp)(v:Val)(n:Int)(x1 x2 x3 x4:AV):
  fB p nm Val.av (X.ok (jR n) { m with deeds:=m.deeds++[⟨e.n,v.n,n⟩] }) (K175_0 (ai pg) aj [.hp 0 0,.ip (aa e.av),.ip (aa v.av),.int .i64 n,x1,x2,x3,x4] h):=by
 obtain⟨tag,dv,cv,sv,R0⟩:=R;obtain⟨dv',h1,h2,e1,e2,R2⟩:=xc R0 ⟨e.n,v.n,n⟩ hb;have hB:cj T false 242 [(0,.int .i64 e.n),(1,.int .i64 v.n),(2,.int .i64 n)]=some (Deed.av ⟨e.n,v.n,n⟩):=rfl;have hBS:aL T 159 1 [(0,Deed.av ⟨e.n,v.n,n⟩)]=some (.sl [Deed.av ⟨e.n,v.n,n⟩]):=rfl;have ld:∀g:AV->M AV,ae (bO T 159 (.hp 0 9)) g h=g dv h:=fun g=>bZ (cw rfl rfl R0.r0 rfl);generalize hcode:K175_0 (ai pg) aj [.hp 0 0,.ip (aa e.av),.ip (aa v.av),.int .i64 n,x1,x2,x3,x4] h=code;simp -implicitDefEqProofs only[K175_0,aJ,aX,dJ,ao,FH164_4,FH162_2,II,Nat.reduceAdd,ld,bI,FA66_1,IX,IV,LD3,di,FA45_1,hB,hBS]at hcode;rw[bZ e1]at hcode;rw[bZ e2]at hcode;simp -implicitDefEqProofs only[t168,aC]at hcode;rw[ly]at hcode;rw[<- hcode];exact cN R2
def xl{p:List Mod}{nm:SNm}{m:Ms}{h:Hp}(R:dZ p nm m h)(w:List Int)(hw0:m.world=[]->w=[]):∃h1,(m.world≠[]->dZ p nm { m with world:=w } h1)/\(∀f:AV->M AV,ae (bO T 158 (.hp 0 1)) f h=f (xu nm.told m.world) h)/\
  (m.world≠[]->∀f:AV->M AV,ae (cZ T 158 (.hp 0 1) (ints w)) f h=f (.tup []) h1):=by
 obtain⟨tag,dv,cv,sv,R⟩:=R;refine⟨h.set 0 (setCells (rowP p nm.told m dv cv sv) 1 (aa (ints w))),fun hne=>⟨tag,dv,cv,sv,?_⟩,fun f=>bZ (cw rfl rfl R.r0 rfl),fun _ f=>bZ (fK rfl R.r0 rfl (show 1+1<=12 by decide) (by decide))⟩;have ht:nm.told=false:=by
  cases ht:nm.told with
  |false=>rfl
  |true=>exact absurd (R.wok ht) hne
 have e:setCells (rowP p nm.told m dv cv sv) 1 (aa (ints w))=rowP p nm.told { m with world:=w } dv cv sv:=by
  simp only[ht];rfl
 rw[e];exact R.set0 rfl rfl rfl hw0
theorem t175{p:List Mod}{nm:SNm}{n:Nat}(LB:LimB p)(IH:me p nm n):uF p nm n:=by
 intro own ns vs e m h hop hcn R G hmu hn hs he;obtain⟨l1,l2⟩:=gY he;have hscl:ah T 168 (.ip [.int .i64 own,strs ns,vals vs])=some (bc own ns vs):=rfl;have hown:ah T 3 (.ip [.int .i64 own,strs ns,vals vs])=some (.int .i64 own):=rfl;generalize hcode:ai pg 175 [.hp 0 0,bc own ns vs,e.av] h=code;rw[C175]at hcode;obtain⟨op,en,es,em,en2,ea⟩:=e;simp only[iM]at hop;unfold lz at hcn;simp only[iM,eT]at hcn;have hlen:op=16\/op=18->∃a,ea=[a]:=by
  intro h;apply DU;rcases h with rfl|rfl
  ·simp[bh]at hcn;omega
  ·simp[bh]at hcn;omega
 by_cases h16:op=16
 ·obtain⟨a,rfl⟩:=hlen (.inl h16);subst h16;have ha:aT a:=aY he (by simp);simp -implicitDefEqProofs only[S175,dh,bI,iM,oC,ul,wR,dI,eT,FA66_0,FA66_1,FA66_5,IX,IV,LD3,LD24,ao,eU,Js,aA,Iu,hscl,FH]at hcode;have hex:ah T 66 (.ip [.int .i64 a.op,.int .i64 a.n,.str a.s,.str a.m,strs a.names,bQ a.args])=some a.av:=by
   have:ah T 66 (.ip (aa a.av))=some a.av:=by simp
   rwa [bI]at this
  simp -implicitDefEqProofs only[hex,ao]at hcode;rw[<- hcode];simp only[om,iM,Iu,ta];have e0:([a]:List Exp)[0]! = a:=rfl;simp only[eT,e0];refine bE (IH own ns vs a _ _ R G hn hs ha) fun v s1 h2 hv R2=>?_;obtain⟨G2,rv,f2⟩:=G.eval hs.right hv;generalize hcode2:ae (be 4 v.av) _ h2=code2;simp -implicitDefEqProofs only[bn (dy v),aC,cO,di,FA45_0,IV,LD3,ao,eU,aQ,dP,aJ,nO]at hcode2;by_cases hk:v.kind=0
  ·have hk':(v.kind== 0)=true:=by simp[hk]
   simp only[hk',bS,Iu]at hcode2;simp only[Ic hk];by_cases hn4':(Exp.mk 16 en es em en2 [a]).n=1\/(Exp.mk 16 en es em en2 [a]).n=2\/(Exp.mk 16 en es em en2 [a]).n=4\/(Exp.mk 16 en es em en2 [a]).n=8
   ·have hn4:en=1\/en=2\/en=4\/en=8:=hn4';have hn':(en== 1||en== 2||en== 4||en== 8)=true:=by
     simp only[Ji,I2];omega
    simp only[hn',Iu]at hcode2;simp only[Ic hn4'];obtain⟨h3,R3,lw,sw⟩:=xl R2 s1.world.tail (fun h=>by rw[h];rfl);have hmu2:=(mB n own ns vs a m v s1 G.fuel hv).1;have hdl:s1.deeds.length<=2000000:=by
     have:=G2.fuel
     simp only[mu]at hmu2 hmu;omega
    show fB p nm Val.av (X.ok (jR (s1.world.headD 0)) { s1 with world:=s1.world.tail,deeds:=s1.deeds++[⟨en,v.n,s1.world.headD 0⟩] }) code2;have lenw:aK T 158 (xu nm.told s1.world)=some (.int .i64 s1.world.length):=by
     unfold xu;split
     ·rename_i ht;obtain⟨_,_,_,_,R2'⟩:=R2;rw[R2'.wok ht];rfl
     ·exact AM _
    simp -implicitDefEqProofs only[jL,dJ,ao,FH164_1,II,lw,lenw,ao,AZ,aA]at hcode2;cases hwd:s1.world with
    | nil=>
     rw[hwd]at hcode2;simp only[Jw,show decide ((0:Int)<((0:Nat):Int))=false by decide,H9,Ir]at hcode2
     have:=qU R2 hdl (.mk 16 en es em en2 [a]) v 0 (.int .i64 0) (.int .i64 0) (.sl []) (.sl [])
     simp only[bI,di,iM,oC,ul,wR,dI,eT]at this;rw[hcode2]at this;have e5:({ s1 with deeds:=s1.deeds++[⟨en,v.n,0⟩] }:Ms)= { s1 with world:=([]:List Int).tail,deeds:=s1.deeds++[⟨en,v.n,([]:List Int).headD 0⟩] }:=by
      cases s1;simp only at hwd;subst hwd;rfl
     rw[e5]at this;exact this
    | cons x wl=>
     have hd:decide ((0:Int)<(((x:: wl).length:Nat):Int))=true:=by simp<;>omega
     have hne:s1.world≠[]:=by rw[hwd];simp
     have sw:=sw hne;have R3:=R3 hne;have hwv:xu nm.told s1.world=ints s1.world:=by
      unfold xu;rw[if_neg];intro ht;obtain⟨_,_,_,_,R2'⟩:=R2;exact hne (R2'.wok ht)
     rw[hwv]at lw;rw[hwd]at hcode2 sw R3 lw;have hix:ak T 158 (ints (x:: wl)) (.int .i64 0)=some (.ip [.int .i64 x]):=by
      have:=EN (l:=x:: wl) (n:=0) (by omega) (by simp<;>omega)
      simpa using this
     have hsl:dM T 158 (ints (x:: wl)) (some (.int .i64 1)) none none=some (ints wl):=by
      have:=xn (T:=T) (t:=158) (e:=3) rfl rfl rfl ((x:: wl).map (AV.int .i64)) (by exact wV _) (n:=1) (by omega) (by simp<;>omega)
      simpa [ints]using this
     simp only[List.tail_cons]at sw R3;simp -implicitDefEqProofs only[hd,Iu,lw,hix,ao,LD3,hsl,sw]at hcode2
     have:=qU R3 hdl (.mk 16 en es em en2 [a]) v x (.int .i64 0) (.int .i64 0) (.sl []) (.sl [])
     simp only[bI,di,iM,oC,ul,wR,dI,eT]at this;rw[hcode2]at this;exact this
   ·have hn4:¬(en=1\/en=2\/en=4\/en=8):=hn4';have hn':(en== 1||en== 2||en== 4||en== 8)=false:=by
     rw[<- KC];simp only[Ji,I2];omega
    simp only[hn',H9,Ir]at hcode2;simp only[if_neg hn4'];rw[<- hcode2];exact dL R2
  ·have hk':(v.kind== 0)=false:=by simpa using hk
   simp only[hk',bS,H9,Ir]at hcode2;simp only[if_neg hk];rw[<- hcode2];exact dL R2
 have h16':((op:Int)== 16)=false:=by simpa using h16
 have h16x:¬((Exp.mk op en es em en2 ea).op=16):=h16;unfold om;simp only[if_neg h16x];unfold uA;simp -implicitDefEqProofs only[S175,dh,bI,iM,oC,ul,wR,dI,eT,FA168_0,FA66_0,FA66_1,FA66_2,FA66_5,IX,IV,LD3,LD24,ao,eU,h16',H9,aA,Ir,hown,hscl,ml,aQ,jL]at hcode;by_cases ho:own<0
 ·have ho':decide (0<=own)=false:=by simp;omega
  simp only[ho',bS,H9,Ir]at hcode;simp only[Ic ho];rw[<- hcode];exact dL R
 have ho':decide (0<=own)=true:=by simp;omega
 simp only[ho',bS,Iu]at hcode;simp only[if_neg ho];have hol:=hs.own;have hlt:own.toNat<p.length:=by omega
 have hix:=AL (l:=p) (n:=own) (by omega) hol;rw[Is p own.toNat hlt]at hix;have e3:p[own.toNat]?.getD default=p[own.toNat]:=by rw[Ih hlt];rfl
 have hvl:=(LB.lim.funcsAt own.toNat).2;rw[e3]at hvl |-;have hff:=G4 p[own.toNat].vars hvl (.mk op en es em en2 ea);simp only[bI,iM,oC,ul,wR,dI,eT]at hff;have Rk:=R;obtain⟨tag,dv,cv,sv,R0⟩:=R;have lm:∀g:AV->M AV,ae (bO T 92 (.hp 0 0)) g h=g (jQ p) h:=fun g=>bZ (cw rfl rfl R0.r0 (by rw[<- mw (t:=nm.told) (fun e=>by subst e;simp at hlt)];rfl));have lsv:∀g:AV->M AV,ae (bO T 89 (.hp 0 11)) g h=g nm.sv h:=fun g=>bZ (cw rfl rfl R0.r0 (by rw[<- R0.sve];rfl));simp -implicitDefEqProofs only[dJ,ao,FH164_0,FH164_4,FH162_4,II,Nat.reduceAdd,lm,hix,fO,FA29_2,IX,IV,LD23,hff,dK,aC,ml,aQ]at hcode;by_cases hi:cY p[own.toNat].vars (Exp.mk op en es em en2 ea).s<0
 ·have hi':decide (0<=cY p[own.toNat].vars es)=false:=by
   have:cY p[own.toNat].vars es<0:=hi;simp;omega
  simp only[hi',bS,H9,Ir]at hcode;simp only[Ic hi];rw[<- hcode];exact dL Rk
 have hi0:0<=cY p[own.toNat].vars es:=by
  have:¬cY p[own.toNat].vars es<0:=hi;omega
 have hi':decide (0<=cY p[own.toNat].vars es)=true:=by simp;omega
 simp only[hi',bS,Iu,lsv]at hcode;simp only[if_neg hi];have hil:cY p[own.toNat].vars es<p[own.toNat].vars.length:=by
  rcases km (fun(x:ca)=>x.1== es) p[own.toNat].vars 0 with k|k
  ·have:cY p[own.toNat].vars es= -1:=k;omega
  ·have:cY p[own.toNat].vars es=br (fun(x:ca)=>x.1== es) p[own.toNat].vars 0:=rfl;omega
 obtain⟨l,hl1,hl2⟩:=G.shape own.toNat _ (Ih hlt);have hne:l≠[]:=fun e=>by rw[e]at hl2;simp at hl2;omega
 have hsl:own.toNat<m.state.length:=(IJ.1 hl1).1;obtain⟨q,r,v1,v2,v3,v4,v5,v6⟩:=R0.var (fun _=>rfl) hl1 hne;have hx1:ak T 89 nm.sv (.int .i64 own)=some (.hp q (own.toNat*2)):=by
  rw[v1]
  have:=Hg (t:=89) rfl rfl rfl (l:=q) (off:=0) (len:=m.state.length) (sz:=2) (ag:=true) (n:=own) (by omega) (by omega)
  rw[this];simp
 have lv:∀g:AV->M AV,ae (bO T 30 (.hp q (own.toNat*2+1))) g h=g (.hs r 0 l.length 4 true) h:=fun g=>bZ (cw rfl rfl v2 v3);simp -implicitDefEqProofs only[hx1,ao,FH94_1,lv]at hcode;generalize hI:cY p[own.toNat].vars es=I at *;have hI2:cY p[own.toNat].vars (Exp.mk op en es em en2 ea).s=I:=hI;rw[hI2];have hx2:ak T 30 (.hs r 0 l.length 4 true) (.int .i64 I)=some (.hp r (I.toNat*4)):=by
  have:=Hg (t:=30) rfl rfl rfl (l:=r) (off:=0) (len:=l.length) (sz:=4) (ag:=true) (n:=I) (by omega) (by omega)
  rw[this];simp
 have hk:I.toNat<l.length:=by omega
 by_cases h18:op=18
 ·have h18x:(Exp.mk op en es em en2 ea).op=18:=h18;simp only[Ic h18x];obtain⟨a,rfl⟩:=hlen (.inr h18);have ha:aT a:=aY he (by simp);have hb18:(op== 18)=true:=by simp[h18]
  have hex:ah T 66 (.ip (aa a.av))=some a.av:=by simp
  have e0:(Exp.mk op en es em en2 [a]).args[0]! = a:=rfl;simp -implicitDefEqProofs only[hb18,Iu,FH,ao,hex]at hcode;rw[<- hcode,e0];refine bE (IH own ns vs a _ _ Rk G hn hs ha) fun v s1 h2 hv R2=>?_;obtain⟨G2,rv,f2⟩:=G.eval hs.right hv;obtain⟨tag2,dv2,cv2,sv2,R20⟩:=R2;obtain⟨l',hl1',hl2'⟩:=G2.shape own.toNat _ (Ih hlt);have hne':l'≠[]:=fun e=>by rw[e]at hl2';simp at hl2';omega
  obtain⟨q',r',w1,w2,w3,w4,w5,w6⟩:=R20.var (fun _=>rfl) hl1' hne';have hll:l'.length=l.length:=by omega
  have hrr:r'=r:=by
   rw[v3]at w3;simp only[H5,AV.hs.injEq]at w3;exact w3.1.symm
  subst hrr;have hst:cZ T 45 (.hp r' (I.toNat*4)) v.av h2= .ok (.tup []) (h2.set r' (bj (l'.set I.toNat v))):=by
   have:=fK (T:=T) (t:=45) rfl w5 (v:=v.av) (k:=I.toNat*4) (dy v) (by rw[ie];show I.toNat*4+4<=_;omega) (by decide)
   rw[this,qM (by omega)]
  have R3:=w6 I.toNat v (by omega);have hset:((s1.state[own.toNat]?.getD []).set I.toNat v)=l'.set I.toNat v:=by rw[hl1'];rfl
  have hld2:bO T 45 (.hp r' (I.toNat*4)) (h2.set r' (bj (l'.set I.toNat v)))= .ok v.av (h2.set r' (bj (l'.set I.toNat v))):=by
   have hlt2:r'<h2.length:=(IJ.1 w5).1
   have:=pe (T:=T) (t:=45) rfl rfl (h:=h2.set r' (bj (l'.set I.toNat v))) (l:=r') (k:=I.toNat*4) (JD hlt2) (by rw[ie,JL];show I.toNat*4+4<=_;omega)
   rw[this];have hg:=kL (l:=l'.set I.toNat v) (k:=I.toNat) (by simp;omega);show Av.R.ok (AV.agg (((bj (l'.set I.toNat v)).drop (I.toNat*4)).take 4)) _=_;rw[hg,List.getElem_set_self];rw[Val.av_eq];rfl
  generalize hcode2:ae (af (ak T 30 (.hs r' 0 l.length 4 true) (.int .i64 I))) _ h2=code2;simp -implicitDefEqProofs only[hx2,ao]at hcode2;rw[bZ hst]at hcode2;simp -implicitDefEqProofs only[K175_1,aJ,aX,hx2,ao]at hcode2;rw[bZ hld2,ly]at hcode2;rw[<- hcode2];exact⟨_,rfl,tag2,dv2,cv2,sv2,R3⟩
 ·have h18x:¬((Exp.mk op en es em en2 ea).op=18):=h18;have hb18:(op== 18)=false:=by simpa using h18
  have hld2:bO T 45 (.hp r (I.toNat*4)) h= .ok (l[I.toNat]).av h:=by
   have:=pe (T:=T) (t:=45) rfl rfl (h:=h) (l:=r) (k:=I.toNat*4) v5 (by rw[ie];show I.toNat*4+4<=_;omega)
   rw[this];have hg:=kL (l:=l) (k:=I.toNat) hk;show Av.R.ok (AV.agg (((bj l).drop (I.toNat*4)).take 4)) _=_;rw[hg,Val.av_eq];rfl
  simp only[if_neg h18x];simp -implicitDefEqProofs only[hb18,H9,Ir,K175_1,aJ,aX,hx2,ao]at hcode;rw[bZ hld2,ly]at hcode;rw[<- hcode];have hgs:nf m.state own.toNat I.toNat=l[I.toNat]:=by
   simp[nf,Iy,hl1,hk]
  show fB p nm Val.av (X.ok (nf m.state own.toNat I.toNat) m) _;rw[hgs];exact cN Rk
theorem Fv{p:List Mod}{nm:SNm}(LB:LimB p):∀n,me p nm n
 |0=>fun own ns vs e m h R G hn hs he=>⟨h,zb R (by omega) _ e,R⟩
 |n+1=>by
  have IH:=Fv (nm:=nm) LB n;exact wA IH (t173 IH) (t174 LB IH) (t175 LB IH)
def vl{m:M AV}{r:AV}{h':Hp}(h1:m []= .ok r h')(h2:∀g,cl g r=r):aH m=M.pure r:=by
 funext h;unfold aH;rw[h1];simp only[M.pure];have:mi 6 h' r=r:=h2 _;rw[this]
def AA(l:List Val):(l.any fun v=>!bp 4 v)= !(l.all (bp 4)):=by
 induction l with
 |nil=>rfl
 |cons v l ih=>simp only[KL,Jd,ih];cases bp 4 v<;>simp
def Ht(v:Val):ah T 45 (.ip (aa v.av))=some v.av:=by simp
def t131(v:Val)(hv:v.sz<=4611686018427387904):ai pg 131 [v.av]=M.pure (.bool !bp 4 v):=by
 rw[C131];simp only[S131,yO,Ht,ao,t49 v hv,aC,kK];exact bU fun g=>rfl
def AR(k:Nat)(hk:∀v:Val,v.sz<=4611686018427387904->ai pg k [v.av]=M.pure (.bool !bp 4 v))(l:List Val)(hl:bu l<=4611686018427387904):ai pg 130 [vals l,.fn (.func k) [] []]=M.pure (.bool !(l.all (bp 4))):=by
 have:=t130 (.fn (.func k) [] []) (fun v=>!bp 4 v) l (Jf (eS l) hl) (fun g=>rfl) (fun v hv=>hk v (Jf (f5 hv) hl))
 rw[this,AA]
def t132(f:AV)(h:Hp):ai pg 132 [f] h=sX 39 .i64 (.agg [.int .i64 0,.int .i64 0,.sl [],.sl []]) (bW (ai pg) f [] h):=by
 have e:ai pg 132 [f]=sW 39 .i64 (.agg [.int .i64 0,.int .i64 0,.sl [],.sl []]) (ai pg) [f]:=ga aE rfl _;rw[e];rfl
def Hj:SNm:=⟨[],.hn,[],true⟩
def zB:LimB []:=⟨⟨by simp,fun m hm=>by cases hm⟩,fun m hm=>by cases hm⟩
def BW:dZ [] Hj (dN [] 100000 []) [[.hn,.hn,.int .i64 100000,.int .i64 0,.int .i64 0,.int .i64 0,.int .i64 0,.hn,.hn,.hn,.hn,.hn]]:=
 ⟨fun _=>0,.hn,.hn,.hn,rfl,rfl,.inl ⟨rfl,rfl⟩,.inl ⟨rfl,rfl⟩,.inl ⟨rfl,rfl⟩,rfl,fun _=>rfl⟩
def zo:GoodM [] (dN [] 100000 []):=⟨⟨fun l hl=>by simp[dN]at hl,fun c hc=>by simp[dN]at hc⟩,by simp[mu,dN],by simp[dN],by simp[dN],fun i x hx=>by simp at hx⟩
def iN:Rs Val->AV
 |.ok v _=>.tup [v.av,.int .i64 0]
 |.er e _=>.tup [Val.av default,.int .i64 e]
def pT(g)(v:Val)(e:Int):cl g (.tup [v.av,.int .i64 e])= .tup [v.av,.int .i64 e]:=by simp[cl,dC]
theorem t85(e:Exp)(ns:List bF)(vs:List Val)(he:aT e)(hn:ns.length<=274877906944)(hv:bu vs<=4611686018427387904):ai pg 85 [e.av,strs ns,vals vs]=M.pure (iN (rC e ns vs)):=by
 have ha:=AR 131 t131 vs hv;have hl1:ah T 22 (.ip (aa (strs ns)))=some (strs ns):=rfl;have hl2:ah T 30 (.ip (aa (vals vs)))=some (vals vs):=rfl;have hB:cj T true 164 [(2,.int .i64 100000)]=some (.agg [.hn,.hn,.int .i64 100000,.int .i64 0,.int .i64 0,.int .i64 0,.int .i64 0,.hn,.hn,.hn,.hn,.hn]):=rfl;have hZ:cj T false 45 []=some (Val.av default):=rfl;have hcl:∀h:AV->M AV,ae (newH [.hn,.hn,.int .i64 100000,.int .i64 0,.int .i64 0,.int .i64 0,.int .i64 0,.hn,.hn,.hn,.hn,.hn]) h []=h (.hp 0 0) [[.hn,.hn,.int .i64 100000,.int .i64 0,.int .i64 0,.int .i64 0,.int .i64 0,.hn,.hn,.hn,.hn,.hn]]:=fun h=>rfl;rw[C85,pW,fE,yL];unfold rC;by_cases hr:ns.length=vs.length/\vs.all (bp 4)=true
 ·rw[Ic hr];have hne:((ns.length:Int) != (vs.length:Int))=false:=by simp[hr.1]
  have hrs:ix ns vs:=⟨hr.1,fun v hv=>(Ip.1 hr.2) v hv⟩;have hev:=Fv (nm:=Hj) zB 100000 (-1) ns vs e _ _ BW zo (by simp[dN]) ⟨by simp,hrs,by simp only[dN];omega⟩ he;have hcell:be 1 (.hp 0 0)=M.pure (.agg [.hp 0 0]):=rfl;have hBS:cj T false 168 [(0,.int .i64 (-1)),(1,strs ns),(2,vals vs)]=some (bc (-1) ns vs):=rfl;have hlp:ah T 157 (.ip [.hp 0 0])=some (.hp 0 0):=rfl;have hex:ah T 66 (.ip (aa e.av))=some e.av:=by simp
  have hcall:∀h,ai pg 133 [.ip [.hp 0 0],.ip (aa (strs ns)),.ip (aa (vals vs)),.ip (aa e.av)] h=ae (ai pg 134 [.hp 0 0,bc (-1) ns vs,e.av]) (fun v=>ae (aD 4 [] v) fun w=>M.pure (AV.agg [nth (aa w) 0,nth (aa w) 1,nth (aa w) 2,nth (aa w) 3])) h:=fun h=>by
   rw[C133];simp -implicitDefEqProofs only[S133,hlp,hl1,hl2,hex,hBS,ao]
  have hS:S85 (ai pg) aj e.av (strs ns) (vals vs) []= .ok (iN (bK [] 100000 (-1) ns vs e (dN [] 100000 []))) []\/∃h',S85 (ai pg) aj e.av (strs ns) (vals vs) []= .ok (iN (bK [] 100000 (-1) ns vs e (dN [] 100000 []))) h':=by
   right;simp -implicitDefEqProofs only[S85,hl1,hl2,ao,pJ,xD,uN,hne,dl,ha,aC,kK,hr.2,I8,aJ,fe,aA,H9,Ir,hB,cO,hcl,hcell];have htry:=t132 (.fn (.func 133) [] [.ip [.hp 0 0],.ip (aa (strs ns)),.ip (aa (vals vs)),.ip (aa e.av)]) [[.hn,.hn,.int .i64 100000,.int .i64 0,.int .i64 0,.int .i64 0,.int .i64 0,.hn,.hn,.hn,.hn,.hn]];have hcv:bW (ai pg) (.fn (.func 133) [] [.ip [.hp 0 0],.ip (aa (strs ns)),.ip (aa (vals vs)),.ip (aa e.av)]) []=ai pg 133 [.ip [.hp 0 0],.ip (aa (strs ns)),.ip (aa (vals vs)),.ip (aa e.av)]:=rfl;rw[hcv,hcall]at htry;have how:=cz hev;generalize bK [] 100000 (-1) ns vs e (dN [] 100000 [])=r at how |-;cases r with
   |ok v s=>
    obtain⟨h',e1,_⟩:=how;refine⟨h',?_⟩;rw[e1]at htry;simp only[sX,dy,H7]at htry;rw[bZ htry];simp[iN,M.pure]
   |er c s=>
    obtain⟨h',e1,_⟩:=how;refine⟨h',?_⟩;rw[e1]at htry;have ht:sX 39 .i64 (.agg [.int .i64 0,.int .i64 0,.sl [],.sl []]) (.pan (ka c) h')= .ok (.tup [Val.av default,.int .i64 c]) h':=rfl;rw[ht]at htry;rw[bZ htry];simp[iN,M.pure]
  rcases hS with h|⟨h',h⟩
  ·exact vl h fun g=>by cases bK [] 100000 (-1) ns vs e (dN [] 100000 [])<;>exact pT g _ _
  ·exact vl h fun g=>by cases bK [] 100000 (-1) ns vs e (dN [] 100000 [])<;>exact pT g _ _
 ·rw [if_neg hr];have hb:((ns.length:Int) != (vs.length:Int)||!(vs.all (bp 4)))=true:=by
   by_cases h1:ns.length=vs.length
   ·have:vs.all (bp 4)=false:=by
     rw[<- KC];exact fun h2=>hr ⟨h1,h2⟩
    simp[this]
   ·have:((ns.length:Int) != (vs.length:Int))=true:=by
     rw[bne_iff_ne];omega
    simp[this]
  have hgu:aw (.bool ((ns.length:Int) != (vs.length:Int))) false 1 (M.pure [.bool !(vs.all (bp 4))])=M.pure [gv ((ns.length:Int) != (vs.length:Int)) false (.bool !(vs.all (bp 4)))]:=dP _ _ _;have hS:S85 (ai pg) aj e.av (strs ns) (vals vs)=M.pure (.tup [Val.av default,.int .i64 1]):=by
   simp -implicitDefEqProofs only[S85,hl1,hl2,ao,pJ,xD,uN,ha,aC,kK,hgu,aJ,nO,hb,aA,Iu,hZ];simp
  rw[hS];exact bU fun g=>pT g _ _
def nv:Option (List Val)->AV
 |some l=>.tup [vals l,.int .i64 0]
 |none=>.tup [.sl [],.int .i64 7]
def cU:Except Int (List Val)->AV
 |.ok l=>.tup [vals l,.int .i64 0]
 |.error c=>.tup [.sl [],.int .i64 c]
def zx(o:Option (List Val)):nv o=cU (jq o):=by cases o<;>rfl
def pU(g)(r:Except Int (List Val)):cl g (cU r)=cU r:=by cases r<;>simp[cU,cl,dC]
theorem t6(a b:Int):am T .lss 3 (.int .i64 a) (.int .i64 b)=some (.bool (decide (a<b))):=rfl
theorem D7(a b:Int):am T .neq 39 (.int .i64 a) (.int .i64 b)=some (.bool (a != b)):=rfl
theorem DI(a b:Int):am T .eql 39 (.int .i64 a) (.int .i64 b)=some (.bool (a== b)):=rfl
def Fc(v:Val):aL T 30 1 [(0,v.av)]=some (vals [v]):=by rw[v.av_eq];simp[vals,dq,v.av_eq];rfl
theorem GL(s:bF):aL T 22 1 [(0,.str s)]=some (strs [s]):=rfl
def DW(f:ca):ah T 37 (.ip (aa (bG f)))=some (bG f):=by simp
theorem Fw(f:ca):ab T 37 (.ip (aa (bG f))) 0=some (.ip ((aa (bG f)).drop 0)):=rfl
theorem Bm(f:ca):ab T 37 (.ip (aa (bG f))) 1=some (.ip ((aa (bG f)).drop 1)):=rfl
def FI(f:ca):ah T 9 (.ip ((aa (bG f)).drop 0))=some (.str f.1):=by simp
def Br(f:ca):ah T 35 (.ip ((aa (bG f)).drop 1))=some f.2.av:=by simp
def Gi(v:Val):ah T 45 (.ip (aa v.av))=some v.av:=by simp
def GT(e:Exp):ah T 66 (.ip (aa e.av))=some e.av:=by simp
def DC(f:ca):be 3 (bG f)=M.pure (bG f):=by simp
theorem iq(b:Bool):gS UnOp.not (.bool b)=some (.bool (!b)):=rfl
def t82(x f:ca):ai pg 82 [bG x,.ip (aa (bG f))]=M.pure (.bool (x.1== f.1)):=by
 rw[C82];simp[S82,cl,dC]
theorem zK(fr to:List ca)(vs:List Val)(hfr:fr.length<=140737488355328)(hfv:fr.length=vs.length)(hto:to.length<=1000000)(ht:∀f∈to,f.2.Lim)(hz:∀v∈vs,v.sz<=1099511627776):
  ∀(B A:List ca)(acc:List Val),A++B=to->acc.length=A.length->aj (L44_0 (ai pg) aj) [bd fr,vals vs,vals acc,bd to,.int .i64 to.length,.int .i64 A.length]=M.pure (nv (cE fr vs B acc))
 |[],A,acc,e,ha=>by
  rw[I7]at e;subst e;have h1:¬((A.length:Int)<(A.length:Int)):=by omega
  rw[FL44_0];simp -implicitDefEqProofs only[L44_0,aJ,aX,t6,ao,aA,Ia,if_neg h1,cE,nv]
 | f:: B,A,acc,e,ha=>by
  have hlen:A.length+(B.length+1)=to.length:=by rw[<- e];simp
  have h1:(A.length:Int)<(to.length:Int):=by omega
  have hix:=iu (l:=to) (n:=(A.length:Int)) (by omega) h1;rw[I0,Is to A.length (by omega),show to[A.length]'(by omega)=f by simp[<- e]]at hix;have hi:=t81 (.fn (.func 82) [] [.ip (aa (bG f))]) (fun x=>x.1== f.1) fr (by omega) (fun g=>by simp[cl,dC]) (fun x _=>t82 x f);have hfa:br (fun x:ca=>x.1== f.1) fr 0=cY fr f.1:=rfl;rw[hfa]at hi;have hw:IntKind.i64.wrap ((A.length:Int)+1)=((A.length+1:Nat):Int):=ej (by omega);rw[FL44_0,cE];rcases kW (fun x:ca=>x.1== f.1) fr 0 with h2|h2
  ·rw[hfa]at h2;have h3:cY fr f.1<0:=by omega
   simp -implicitDefEqProofs only[L44_0,aJ,aX,t6,ao,aA,Ia,Ic h1,hix,DW,DC,aC,hi,JQ h3,wJ,List.replicate,fZ,Iu,Ic (Or.inl h3),nv]
  ·rw[hfa]at h2;have h3:¬cY fr f.1<0:=by omega
   have hlt:(cY fr f.1).toNat<vs.length:=by omega
   have hvx:=jX (l:=vs) (n:=cY fr f.1) (by omega) (by omega);have hmem:vs[(cY fr f.1).toNat]! ∈vs:=by rw[Is vs _ hlt];exact Iq hlt
   have hH:=t20 f.2 vs[(cY fr f.1).toNat]! (ht f (by rw[<- e];simp)) (hz _ hmem);generalize vs[(cY fr f.1).toNat]! = v at hvx hH |-;cases hx:g8 f.2 v with
   |false=>
    rw[hx]at hH;simp -implicitDefEqProofs only[L44_0,aJ,aX,t6,ao,aA,Ia,Ic h1,hix,DW,DC,aC,hi,Kl h3,dl,Bm,Br,hvx,Gi,hH,dK,iq,Ju,fe,Iu,Ic (Or.inr rfl),or_true,nv]
   |true=>
    rw[hx]at hH;have ih:=zK fr to vs hfr hfv hto ht hz B (A++[f]) (acc++[v]) (by rw[<- e];simp) (by simp[ha]);have eA:(A++[f]).length=A.length+1:=by simp
    rw[eA]at ih;have hap:db T 30 (vals acc) (vals [v])=some (vals (acc++[v])):=xy (by simp;omega);have hc:¬(cY fr f.1<0\/true=false):=by simp;omega
    simp -implicitDefEqProofs only[L44_0,aJ,aX,t6,ao,aA,Ia,Ic h1,hix,DW,DC,aC,hi,Kl h3,dl,Bm,Br,hvx,Gi,hH,dK,iq,I8,fe,H9,Ir,Fc,hap,fC,hw,ih,if_neg hc]
def t44(fr to:List ca)(vs:List Val)(hfr:fr.length<=140737488355328)(hfv:fr.length=vs.length)(hto:to.length<=1000000)(ht:∀f∈to,f.2.Lim)(hz:∀v∈vs,v.sz<=1099511627776):ai pg 44 [bd fr,bd to,vals vs]=M.pure (cU (jq (cE fr vs to []))):=by
 have h:=zK fr to vs hfr hfv hto ht hz to [] [] rfl rfl;have h':aj (L44_0 (ai pg) aj) [bd fr,vals vs,.sl [],bd to,.int .i64 to.length,.int .i64 0]=M.pure (cU (jq (cE fr vs to []))):=by rw[<- zx];exact h
 rw[C44,jY,jY,fE];have e:S44 (ai pg) aj (bd fr) (bd to) (vals vs)=M.pure (cU (jq (cE fr vs to []))):=by
  simp -implicitDefEqProofs only[S44,iv,ao,h']
 rw[e];exact bU fun g=>pU g _
def cQ(a b:ca):Bool:=a.1== b.1&&(iR a.2&&iR b.2&&jr a.2 b.2)
def t39(a b:Ty)(ha:a.Lim)(hb:b.Lim):ai pg 39 [a.av,b.av]=M.pure (.bool (iR a&&iR b&&jr a b)):=by
 have h1:=t23 a ha;have h2:=t23 b hb;have h3:=t79 _ a b (Ie _) ha;rw[C39];simp[S39,h1,h2,h3]
def t84(a b:ca)(ha:a.2.Lim)(hb:b.2.Lim):ai pg 84 [bG a,bG b]=M.pure (.bool (cQ a b)):=by
 have h:=t39 a.2 b.2 ha hb;rw[C84];simp[S84,h,cQ]
def t45(old now:Ap.Mod)(ho:old.Lim)(hn:now.Lim):ai pg 45 [old.av,now.av]=M.pure (.bool (gt cQ old now)):=by
 have hq:=t83 (.fn (.func 84) [] []) cQ now.old old.vars (by have:=hn.old;omega) (fun g=>rfl) (fun x hx y hy=>t84 x y (hn.oty x hx) (ho.vty y hy));have hl:(b6 cQ now.old old.vars)=(decide (now.old.length=old.vars.length)&&b6 cQ now.old old.vars):=by
  by_cases h:now.old.length=old.vars.length
  ·simp[h]
  ·rw[e7 _ _ _ h];simp
 rw[hl]at hq;have e1:∀a b:Nat,((a:Int)== (b:Int))=decide (a=b):=fun a b=>by
  rw[Jx];simp
 have hcm:be 3 (AV.agg [bd now.old,bQ now.forward,bQ now.back])=M.pure (AV.agg [bd now.old,bQ now.forward,bQ now.back]):=by
  rw[bn (rfl:bD 3 (AV.agg [bd now.old,bQ now.forward,bQ now.back])=true)];rfl
 rw[C45];unfold gt;simp[S45,hq,hcm];rfl
def wC{e:Exp}{ns:List bF}{vs:List Val}{v:Val}{s:Ms}(h:rC e ns vs= .ok v s):Rv v:=by
 unfold rC at h;split at h
 ·rename_i hc;exact (jU 100000 (-1) ns vs e ⟨hc.1,fun v hv=>Ip.1 hc.2 v hv⟩ (dN [] 100000 []) ⟨fun l hl=>(by cases hl),fun c hc=>(by cases hc)⟩).2.2 v s h
 ·cases h
def rD{e:Exp}{ns:List bF}{vs:List Val}{c:Int}{s:Ms}(h:rC e ns vs= .er c s):c≠0:=by
 unfold rC at h;split at h
 ·exact zd h
 ·cases h;decide
theorem vB(fr to:List ca)(ns:List bF)(vs:List Val)(l:List Exp)(hl:l.length=to.length)(hto:to.length<=1000000)(ht:∀f∈to,f.2.Lim)(hz:bu vs<=4611686018427387904)(hns:ns.length<=1000000)(he:∀e∈l,aT e):
  ∀(B A:List ca)(BE AE:List Exp)(acc:List Val),A++B=to->AE++BE=l->AE.length=A.length->acc.length=A.length->aj (L46_0 (ai pg) aj) [vals vs,bQ l,strs ns,vals acc,bd to,.int .i64 to.length,.int .i64 A.length]=M.pure (cU (dB ns vs B BE acc))
 |[],A,BE,AE,acc,e,e2,hA,ha=>by
  rw[I7]at e;subst e;have h1:¬((A.length:Int)<(A.length:Int)):=by omega
  have hB:BE=[]:=KG.1 (by have:=H8 List.length e2;simp at this;omega);subst hB;rw[FL46_0];simp -implicitDefEqProofs only[L46_0,aJ,aX,t6,ao,aA,Ia,if_neg h1,dB,cU]
 |f:: B,A,[],AE,acc,e,e2,hA,ha=>by
  have:=H8 List.length e2
  have h2:=H8 List.length e;simp at this h2;omega
 | f:: B,A,x:: BE,AE,acc,e,e2,hA,ha=>by
  have hlen:A.length+(B.length+1)=to.length:=by rw[<- e];simp
  have h1:(A.length:Int)<(to.length:Int):=by omega
  have hix:=iu (l:=to) (n:=(A.length:Int)) (by omega) h1;rw[I0,Is to A.length (by omega),show to[A.length]'(by omega)=f by simp[<- e]]at hix;have hex:=qQ (l:=l) (n:=(A.length:Int)) (by omega) (by omega);rw[I0,Is l A.length (by omega),show l[A.length]'(by omega)=x by simp[<- e2,<- hA]]at hex;have hcall:=t85 x ns vs (he x (by rw[<- e2];simp)) (by omega) hz;have hw:IntKind.i64.wrap ((A.length:Int)+1)=((A.length+1:Nat):Int):=ej (by omega);rw[FL46_0,dB];cases hr:rC x ns vs with
  | er c s=>
   rw[hr]at hcall;have hc0:(c != 0)=true:=by
    have:=rD hr
    simpa using this
   simp -implicitDefEqProofs only[L46_0,aJ,aX,t6,ao,aA,Ia,Ic h1,hix,DW,DC,aC,hex,GT,hcall,iN,bB,Ig,Ix,bn (dy default),D7,hc0,Iu,cU]
  | ok v s=>
   rw[hr]at hcall;have hv:=wC hr;have hsz:=nT hv;have hH:=t20 f.2 v (ht f (by rw[<- e];simp)) (by omega);have h00:((0:Int) != 0)=false:=rfl;have hvv:∀v:Val,AV.agg (aa v.av)=v.av:=fun v=>by simp
   cases hx:g8 f.2 v with
   |false=>
    rw[hx]at hH;simp -implicitDefEqProofs only[L46_0,aJ,aX,t6,ao,aA,Ia,Ic h1,hix,DW,DC,aC,hex,GT,hcall,iN,bB,Ig,Ix,bn (dy v),hvv,D7,h00,H9,Ir,Bm,Br,Gi,hH,iq,Ju,Iu,hx,cU]
   |true=>
    rw[hx]at hH;have ih:=vB fr to ns vs l hl hto ht hz hns he B (A++[f]) BE (AE++[x]) (acc++[v]) (by rw[<- e];simp) (by rw[<- e2];simp) (by simp[hA]) (by simp[ha]);have eA:(A++[f]).length=A.length+1:=by simp
    rw[eA]at ih;have hap:db T 30 (vals acc) (vals [v])=some (vals (acc++[v])):=xy (by simp;omega);simp -implicitDefEqProofs only[L46_0,aJ,aX,t6,ao,aA,Ia,Ic h1,hix,DW,DC,aC,hex,GT,hcall,iN,bB,Ig,Ix,bn (dy v),hvv,D7,h00,H9,Ir,Bm,Br,Gi,hH,iq,I8,Fc,hap,fC,hw,ih,Ic hx]
theorem vC(fr to:List ca)(vs:List Val)(l:List Exp)(hl:l.length=to.length)(hto:to.length<=1000000)(hfr:fr.length<=1000000)(ht:∀f∈to,f.2.Lim)(hz:bu vs<=4611686018427387904)(he:∀e∈l,aT e):
  ∀(B A:List ca),A++B=fr->aj (L46_1 (ai pg) aj) [bd to,vals vs,bQ l,strs (A.map (·.1)),bd fr,.int .i64 fr.length,.int .i64 A.length]=M.pure (cU (dB (fr.map (·.1)) vs to l []))
 |[],A,e=>by
  rw[I7]at e;subst e;have h1:¬((A.length:Int)<(A.length:Int)):=by omega
  have h0:=vB A to (A.map (·.1)) vs l hl hto ht hz (by simpa using hfr) he to [] l [] [] rfl rfl rfl rfl;have h0':aj (L46_0 (ai pg) aj) [vals vs,bQ l,strs (A.map (·.1)),.sl [],bd to,.int .i64 to.length,.int .i64 0]=_:=h0;rw[FL46_1];simp -implicitDefEqProofs only[L46_1,aJ,aX,t6,ao,aA,Ia,if_neg h1,iv,h0']
 | f:: B,A,e=>by
  have hlen:A.length+(B.length+1)=fr.length:=by rw[<- e];simp
  have h1:(A.length:Int)<(fr.length:Int):=by omega
  have hix:=iu (l:=fr) (n:=(A.length:Int)) (by omega) h1;rw[I0,Is fr A.length (by omega),show fr[A.length]'(by omega)=f by simp[<- e]]at hix;have hw:IntKind.i64.wrap ((A.length:Int)+1)=((A++[f]).length:Nat):=by rw[ej (by omega)];simp
  have hap:db T 22 (strs (A.map (·.1))) (strs [f.1])=some (strs ((A++[f]).map (·.1))):=by
   rw[C6 (by simp;omega)];simp
  have ih:=vC fr to vs l hl hto hfr ht hz he B (A++[f]) (by rw[<- e];simp);rw[FL46_1];simp -implicitDefEqProofs only[L46_1,aJ,aX,t6,ao,aA,Ia,Ic h1,hix,DW,DC,aC,Fw,FI,GL,hap,fC,hw,ih]
def t46(fr to:List ca)(vs:List Val)(l:List Exp)(hl:l.length=to.length)(hto:to.length<=1000000)(hfr:fr.length<=1000000)(ht:∀f∈to,f.2.Lim)(hz:bu vs<=4611686018427387904)(he:∀e∈l,aT e):ai pg 46 [bd fr,bd to,vals vs,bQ l]=M.pure (cU (dB (fr.map (·.1)) vs to l [])):=by
 have h:=vC fr to vs l hl hto hfr ht hz he fr [] rfl;have h':aj (L46_1 (ai pg) aj) [bd to,vals vs,bQ l,.sl [],bd fr,.int .i64 fr.length,.int .i64 0]=_:=h;rw[C46,jY,jY,fE,Be];have e:S46 (ai pg) aj (bd fr) (bd to) (vals vs) (bQ l)=M.pure (cU (dB (fr.map (·.1)) vs to l [])):=by
  simp -implicitDefEqProofs only[S46,iv,ao,h']
 rw[e];exact bU fun g=>pU g _
end Go.Proofs.YtihmmkncokjbaaaGreatDoor
namespace Go.Proofs.YtihmmkncokjbaaaGreatDoor
open Go Go.Av Go.Av.Ap
set_option maxRecDepth 100000
structure SMod (m:Ap.Mod):Prop where
 lim:m.Lim
 vars:m.vars.length<=1000000
 fw:∀e∈m.forward,aT e
 bk:∀e∈m.back,aT e
def jw(vs:List Val):Prop:=bu vs<=1099511627776
def jw.mem{vs:List Val}(h:jw vs):∀v∈vs,v.sz<=1099511627776:=fun v hv=>Jf (f5 hv) h
section
variable (m:Ap.Mod)
theorem xw:ah T 29 (.ip (aa m.av))=some m.av:=rfl
theorem fm2:ab T 29 (.ip (aa m.av)) 2=some (.ip ((aa m.av).drop 2)):=rfl
theorem fm5:ab T 29 (.ip (aa m.av)) 5=some (.ip ((aa m.av).drop 5)):=rfl
theorem fm6:ab T 29 (.ip (aa m.av)) 6=some (.ip ((aa m.av).drop 6)):=rfl
theorem vw:ah T 23 (.ip ((aa m.av).drop 2))=some (bd m.vars):=rfl
theorem Ey:ah T 4 (.ip ((aa m.av).drop 5))=some (.bool m.moves):=rfl
theorem fg1:ab T 27 (.ip ((aa m.av).drop 6)) 1=some (.ip ((aa m.av).drop 7)):=rfl
theorem fg2:ab T 27 (.ip ((aa m.av).drop 6)) 2=some (.ip ((aa m.av).drop 8)):=rfl
theorem Hh:ah T 24 (.ip ((aa m.av).drop 7))=some (bQ m.forward):=rfl
theorem Hi:ah T 24 (.ip ((aa m.av).drop 8))=some (bQ m.back):=rfl
end
def qA(r:Except Int (List Val)):∃a b,cU r= .tup [a,b]:=by cases r<;>exact⟨_,_,rfl⟩
def t12(old now:Ap.Mod)(vs:List Val)(ho:SMod old)(hn:SMod now)(hv:jw vs):ai pg 12 [old.av,now.av,vals vs]=M.pure (cU (cK cQ old now vs)):=by
 have hm:=t43 old.vars vs ho.lim.vars ho.lim.vty hv.mem;have hz:bu vs<=4611686018427387904:=Jf hv (by decide);rw[C12,gn,gn,fE];have e:S12 (ai pg) aj old.av now.av (vals vs)=M.pure (cU (cK cQ old now vs)):=by
  unfold cK;cases hmm:cb old.vars vs with
  |false=>
   rw[hmm]at hm;simp -implicitDefEqProofs only[S12,fm2,vw,ao,hm,aC,iq,Ju,aA,Iu,cU]
  | true=>
   rw[hmm]at hm;have hlen:old.vars.length=vs.length:=by simp only[cb,H6,Ia]at hmm;exact hmm.1
   rw[if_neg (by simp)];cases hmo:now.moves with
   |false=>
    have hk:=t44 old.vars now.vars vs ho.lim.vars hlen hn.vars hn.lim.vty hv.mem;rw[Ic rfl];obtain⟨a,b,hab⟩:=qA (jq (cE old.vars vs now.vars []));rw[hab]at hk |-;simp -implicitDefEqProofs only[S12,fm2,vw,ao,hm,aC,iq,I8,Ju,aA,H9,Ir,Iu,fm5,Ey,hmo,hk,bB,Ig,Ix]
   | true=>
    have hl:=t45 old now ho.lim hn.lim;rw[if_neg (by simp)];cases hll:gt cQ old now with
    |false=>
     rw[hll]at hl;rw[Ic rfl];simp -implicitDefEqProofs only[S12,fm2,vw,ao,hm,aC,iq,I8,Ju,aA,H9,Ir,Iu,fm5,Ey,hmo,xw,hl,cU]
    |true=>
     rw[hll]at hl;rw[if_neg (by simp)];have hf:now.forward.length=now.vars.length:=by simp only[gt,H6,Ia]at hll;exact hll.1.1
     have hk:=t46 old.vars now.vars vs now.forward hf hn.vars ho.vars hn.lim.vty hz hn.fw;obtain⟨a,b,hab⟩:=qA (dB (old.vars.map (·.1)) vs now.vars now.forward []);rw[hab]at hk |-;simp -implicitDefEqProofs only[S12,fm2,vw,ao,hm,aC,iq,I8,aA,H9,Ir,fm5,Ey,hmo,xw,hl,fm6,fg1,Hh,hk,bB,Ig,Ix]
 rw[e];exact bU fun g=>pU g _
def t13(old now:Ap.Mod)(vs:List Val)(ho:SMod old)(hn:SMod now)(hv:jw vs):ai pg 13 [old.av,now.av,vals vs]=M.pure (cU (fP cQ old now vs)):=by
 have hm:=t43 now.vars vs hn.lim.vars hn.lim.vty hv.mem;have hz:bu vs<=4611686018427387904:=Jf hv (by decide);rw[C13,gn,gn,fE];have e:S13 (ai pg) aj old.av now.av (vals vs)=M.pure (cU (fP cQ old now vs)):=by
  unfold fP;cases hmm:cb now.vars vs with
  |false=>
   rw[hmm]at hm;simp -implicitDefEqProofs only[S13,fm2,vw,ao,hm,aC,iq,Ju,aA,Iu,cU]
  | true=>
   rw[hmm]at hm;have hlen:now.vars.length=vs.length:=by simp only[cb,H6,Ia]at hmm;exact hmm.1
   rw[if_neg (by simp)];cases hmo:now.moves with
   |false=>
    have hk:=t44 now.vars old.vars vs hn.lim.vars hlen ho.vars ho.lim.vty hv.mem;rw[Ic rfl];obtain⟨a,b,hab⟩:=qA (jq (cE now.vars vs old.vars []));rw[hab]at hk |-;simp -implicitDefEqProofs only[S13,fm2,vw,ao,hm,aC,iq,I8,Ju,aA,H9,Ir,Iu,fm5,Ey,hmo,hk,bB,Ig,Ix]
   | true=>
    have hl:=t45 old now ho.lim hn.lim;rw[if_neg (by simp)];cases hll:gt cQ old now with
    |false=>
     rw[hll]at hl;rw[Ic rfl];simp -implicitDefEqProofs only[S13,fm2,vw,ao,hm,aC,iq,I8,Ju,aA,H9,Ir,Iu,fm5,Ey,hmo,xw,hl,cU]
    |true=>
     rw[hll]at hl;rw[if_neg (by simp)];have hf:now.back.length=old.vars.length:=by simp only[gt,H6,Ia]at hll;exact hll.1.2
     have hk:=t46 now.vars old.vars vs now.back hf ho.vars hn.vars ho.lim.vty hz hn.bk;obtain⟨a,b,hab⟩:=qA (dB (now.vars.map (·.1)) vs old.vars now.back []);rw[hab]at hk |-;simp -implicitDefEqProofs only[S13,fm2,vw,ao,hm,aC,iq,I8,aA,H9,Ir,fm5,Ey,hmo,xw,hl,fm6,fg2,Hi,hk,bB,Ig,Ix]
 rw[e];exact bU fun g=>pU g _
def eC(a b:Val):Bool:=bp 4 a&&bp 4 b&&gR a b
mutual
theorem sO:(a b:Val)->gR a b=true->a=b
 |.mk k n ns vs,.mk k' n' ns' vs',h=>by
  simp only[gR,H6,I2]at h;obtain⟨⟨⟨rfl,rfl⟩,rfl⟩,h⟩:=h;rw[py vs vs' h]
theorem py:(a b:List Val)->gx a b=true->a=b
 |[],[],_=>rfl
 |[],_:: _,h=>by simp[gx]at h
 |_:: _,[],h=>by simp[gx]at h
 |v:: a,w:: b,h=>by
  simp only[gx,H6]at h;rw[sO v w h.1,py a b h.2]
end
mutual
theorem nY:(a:Val)->gR a a=true
 |.mk k n ns vs=>by simp[gR,l6 vs]
theorem l6:(a:List Val)->gx a a=true
 |[]=>rfl
 |v:: a=>by simp[gx,nY v,l6 a]
end
def xk(a b:Val)(h:eC a b=true):a=b:=by
 simp only[eC,H6]at h;exact sO a b h.2
def zp{t:Ty}{v:Val}(h:g8 t v=true):bp 4 v=true:=by
 simp only[g8,H6]at h;exact h.2.1
theorem jO:∀ {l:List ca} {vs:List Val},b6 (fun f v=>g8 f.2 v) l vs=true->∀v∈vs,bp 4 v=true
 |[],[],_,v,hv=>by cases hv
 |f:: l,w:: vs,h,v,hv=>by
  simp only[b6,H6]at h;rcases IF.1 hv with rfl|hv
  ·exact zp h.1
  ·exact jO h.2 v hv
 |[],_:: _,h,_,_=>by simp[b6]at h
 |_:: _,[],h,_,_=>by simp[b6]at h
theorem nU:∀(l:List Val),(∀v∈l,bp 4 v=true)->bu l<=l.length*200000
 |[],_=>by simp[bu]
 |v:: l,h=>by
  have h1:=nT (h v Jt);have h2:=nU l fun w hw=>h w (Jo _ hw);simp only[bu,Je];omega
def jP{l:List ca}{vs:List Val}(h:cb l vs=true)(hl:l.length<=1000000):jw vs:=by
 simp only[cb,H6,Ia]at h
 have:=nU vs (jO h.2)
 unfold jw;omega
def t27(a b:Val)(ha:a.sz<=1099511627776)(hb:b.sz<=1099511627776):ai pg 27 [a.av,b.av]=M.pure (.bool (eC a b)):=by
 have h:=t62 a b (by omega) (by omega);rw[C27];simp[S27,h,eC]
theorem nH{ns:List bF}{vs:List Val}:∀ {B:List ca} {es:List Exp} {acc:List Val} {c:Int},dB ns vs B es acc= .error c->c≠0
 | f:: B,e:: es,acc,c,h=>by
  rw[dB]at h;split at h
  ·rename_i hr;cases h;exact rD hr
  ·split at h
   ·exact nH h
   ·cases h;decide
 |[],es,acc,c,h=>by simp[dB]at h
 |_:: _,[],acc,c,h=>by simp[dB]at h
def rU{old now:Ap.Mod}{vs:List Val}{c:Int}(h:cK cQ old now vs= .error c):c≠0:=by
 unfold cK at h;split at h
 ·cases h;decide
 ·split at h
  ·cases hk:cE old.vars vs now.vars []with
   |none=>rw[hk]at h;cases h;decide
   |some l=>rw[hk]at h;cases h
  ·split at h
   ·cases h;decide
   ·exact nH h
def yC{old now:Ap.Mod}{vs:List Val}{c:Int}(h:fP cQ old now vs= .error c):c≠0:=by
 unfold fP at h;split at h
 ·cases h;decide
 ·split at h
  ·cases hk:cE now.vars vs old.vars []with
   |none=>rw[hk]at h;cases h;decide
   |some l=>rw[hk]at h;cases h
  ·split at h
   ·cases h;decide
   ·exact nH h
theorem t15(old now:Ap.Mod)(vs:List Val)(ho:SMod old)(hn:SMod now)(hv:jw vs):ai pg 15 [old.av,now.av,vals vs]=M.pure (.bool (iF cQ eC old now vs)):=by
 have hF:=t12 old now vs ho hn hv;rw[C15,gn,gn,fE];have e:S15 (ai pg) aj old.av now.av (vals vs)=M.pure (.bool (iF cQ eC old now vs)):=by
  unfold iF;cases hf:cK cQ old now vs with
  | error c=>
   rw[hf]at hF;have hc:(c != 0)=true:=by
    have hc0:c≠0:=rU hf;simpa using hc0
   simp -implicitDefEqProofs only[S15,xw,ao,hF,aC,cU,bB,Ig,Ix,D7,hc,aA,Iu]
  | ok l=>
   rw[hf]at hF;have hl:=jP (iE hf).2 hn.vars;have hB:=t13 old now l ho hn hl;have h00:((0:Int) != 0)=false:=rfl;have h01:((0:Int)== 0)=true:=rfl;show _=M.pure (AV.bool (match fP cQ old now l with|.error _=>false|.ok m=>decide (m.length=vs.length)&&b6 eC m vs));cases hb:fP cQ old now l with
   | error c=>
    rw[hb]at hB;show _=M.pure (AV.bool false);have hc:(c== 0)=false:=by
     have hc0:c≠0:=yC hb;simpa using hc0
    simp -implicitDefEqProofs only[S15,xw,ao,hF,aC,cU,bB,Ig,Ix,D7,h00,aA,H9,Ir,hB,DI,hc,o5,List.replicate,aJ,fe]
   | ok m=>
    rw[hb]at hB;have hm:=jP (yD hb).2 ho.vars;have hq:=t47 (.fn (.func 27) [] []) eC m vs (by have:=eS m;unfold jw at hm;omega) (fun g=>rfl) (fun x hx y hy=>t27 x y (hm.mem x hx) (hv.mem y hy));have hd:(decide (m.length=vs.length)&&b6 eC m vs)=b6 eC m vs:=by
     by_cases h:m.length=vs.length
     ·simp[h]
     ·rw[e7 _ _ _ h];simp
    show _=M.pure (AV.bool (decide (m.length=vs.length)&&b6 eC m vs));rw[hd];simp -implicitDefEqProofs only[S15,xw,ao,hF,aC,cU,bB,Ig,Ix,D7,h00,aA,H9,Ir,hB,DI,h01,dl,hq,aJ,fZ]
 rw[e];exact jb _
end Go.Proofs.YtihmmkncokjbaaaGreatDoor
namespace Go.Proofs.YtihmmkncokjbaaaGreatDoor
open Go Go.Av Go.Av.Ap
set_option maxRecDepth 100000
def xA(Q:Prop)(most:Int)(m:M AV):Prop:=∃n,m=M.pure (.int .i64 n)/\1<=n/\n<=most+1/\(n<=most->Q)
def BB(P:Prop)(m:M AV):Prop:=∃b,m=M.pure (.bool b)/\(b=true->P)
def BB.no{P:Prop}:BB P (M.pure (.bool false)):=⟨false,rfl,fun h=>by cases h⟩
def BB.imp{P Q:Prop}{m:M AV}(h:BB P m)(f:P->Q):BB Q m:=by
 obtain⟨b,h1,h2⟩:=h;exact⟨b,h1,fun e=>f (h2 e)⟩
def Az{e x:Val}(h:x∈e.values):SizeOf.sizeOf x<SizeOf.sizeOf e:=by
 cases e with
 |mk k n ns vs=>
  have:=Kf h
  simp only[Val.mk.sizeOf_spec];simp only[Val.values]at this;omega
def Dk{e x:Exp}(h:x∈e.args):SizeOf.sizeOf x<SizeOf.sizeOf e:=DN h
theorem mW:(l:List Exp)->(∀x∈l,aT x)->ke l
 |[],_=>trivial
 |x:: l,h=>⟨h x Jt,mW l fun y hy=>h y (Jo _ hy)⟩
def wB{e:Exp}(h1:e.names.length<=8796093022208)(h2:e.args.length<=274877906944)(h3:∀x∈e.args,aT x):aT e:=by
 obtain⟨o,n,s,m,ns,es⟩:=e;exact⟨h1,h2,mW es h3⟩
def uD(e:Exp):Prop:=∀most depth:Int,0<=most->most<=1099511627->depth<=1099511627776->xA (aT e) most (ai pg 80 [e.av,.int .i64 most,.int .i64 depth])
def D4(e:Exp)(hL:e.Lim)(ih:∀x∈e.args,uD x)(most depth:Int)(h0:0<=most)(h1:most<=1099511627)(h2:depth<=1099511627776)(h3:1<=depth):
  ∀(r:Nat)(n i:Int),e.args.length-i.toNat=r->0<=i->i<=e.args.length->1<=n->n<=most+1->i+1<=n->xA (e.args.length<=most/\∀x∈e.args.drop i.toNat,aT x) most (aj (L80_0 (ai pg) aj) [.int .i64 most,.int .i64 depth,.ip (aa e.av),.int .i64 n,.int .i64 i]):=by
 intro r
 induction r with
 |zero=>
  intro n i hr hi hb hn hm hin;rw[FL80_0];simp only[L80_0];have h1:¬(i<(e.args.length:Int)):=by omega
  simp[h1];exact⟨n,rfl,hn,hm,fun h=>⟨by omega,fun x hx=>by rw[Iv (by omega)]at hx;cases hx⟩⟩
 | succ r IH=>
  intro n i hr hi hb hn hm hin;have hlen:=hL.len;have h5:i<(e.args.length:Int):=by omega
  have hlt:i.toNat<e.args.length:=by omega
  rw[FL80_0];simp only[L80_0];by_cases hs:n<=most
  ·obtain⟨k,hk,hk1,hk2,hk3⟩:=ih e.args[i.toNat] (Iq hlt) (most-n) (depth-1) (by omega) (by omega) (by omega);obtain⟨n',q1,q2,q3,q4⟩:=IH (n+k) (i+1) (by omega) (by omega) (by omega) (by omega) (by omega) (by omega);have h4:xA (e.args.length<=most/\∀x∈e.args.drop i.toNat,aT x) most (aj (L80_0 (ai pg) aj) [.int .i64 most,.int .i64 depth,.ip (aa e.av),.int .i64 (n+k),.int .i64 (i+1)]):=by
    by_cases hk4:k<=most-n
    ·refine⟨n',q1,q2,q3,fun h=>⟨(q4 h).1,fun x hx=>?_⟩⟩;rw[ID hlt]at hx;rcases IF.1 hx with rfl|hx
     ·exact hk3 hk4
     ·exact (q4 h).2 x (by rw[show (i+1).toNat=i.toNat+1 by omega];exact hx)
    ·have hstop:aj (L80_0 (ai pg) aj) [.int .i64 most,.int .i64 depth,.ip (aa e.av),.int .i64 (n+k),.int .i64 (i+1)]=M.pure (.int .i64 (n+k)):=by
      rw[FL80_0];simp only[L80_0];have h6:¬(n+k<=most):=by omega
      simp[h6]
     exact⟨n+k,hstop,by omega,by omega,fun h=>by omega⟩
   simp (disch:=omega) [h5,hs,qQ,Is e.args i.toNat hlt,aZ,hk];simpa using h4
  ·simp[h5,hs];exact⟨n,rfl,hn,hm,fun h=>absurd h hs⟩
def t80:∀(N:Nat)(e:Exp),SizeOf.sizeOf e<=N->e.Lim->uD e:=by
 intro N
 induction N with
 |zero=>intro e he;cases e;simp at he
 | succ N ih=>
  intro e he hL most depth h0 h1 h2;rw[C80];have h4:1<=depth->_:=fun h3=>D4 e hL (fun x hx=>ih x (by have:=Dk hx;omega) (hL.kid hx)) most depth h0 h1 h2 h3 e.args.length 1 0 rfl (by omega) (by omega) (by omega) (by omega) (by omega);simp[S80];split
  ·rw[aZ (by omega) (by omega),gG];exact⟨_,rfl,by omega,by omega,fun h=>by omega⟩
  ·rename_i hq;obtain⟨n,hn,b1,b2,b3⟩:=h4 (by omega);simp at hn;rw[hn,gG];refine⟨n,rfl,b1,b2,fun h=>wB hL.names ?_ fun x hx=>(b3 h).2 x (by simpa using hx)⟩
   have:=(b3 h).1
   omega
def DZ(l:List Exp)(hl:l.length<=140737488355328)(hL:∀e∈l,e.Lim):∀(r:Nat)(i:Int),l.length-i.toNat=r->0<=i->i<=l.length->BB (l.length<=8/\∀e∈l.drop i.toNat,aT e) (aj (L40_0 (ai pg) aj) [bQ l,.int .i64 i]):=by
 intro r
 induction r with
 |zero=>
  intro i hr hi hb;rw[FL40_0];simp only[L40_0];have h1:¬(i<(l.length:Int)):=by omega
  simp[h1];exact⟨_,rfl,fun h=>by simp at h;exact⟨by omega,fun x hx=>by rw[Iv (by omega)]at hx;cases hx⟩⟩
 | succ r IH=>
  intro i hr hi hb;have h5:i<(l.length:Int):=by omega
  have hlt:i.toNat<l.length:=by omega
  rw[FL40_0];simp only[L40_0];by_cases hs:i<9
  ·obtain⟨k,hk,_,_,hq⟩:=t80 _ l[i.toNat] (Ie _) (hL _ (Iq hlt)) 50 16 (by omega) (by omega) (by omega);have h4:=IH (i+1) (by omega) (by omega) (by omega);simp (disch:=omega) [h5,hs,qQ,Is l i.toNat hlt,aZ,hk];by_cases hk5:50<k
   ·simp[hk5];exact .no
   ·simp[hk5];refine h4.imp fun h=>⟨h.1,fun x hx=>?_⟩;rw[ID hlt]at hx;rcases IF.1 hx with rfl|hx
    ·exact hq (by omega)
    ·exact h.2 x (by rw[show (i+1).toNat=i.toNat+1 by omega];exact hx)
  ·simp[h5,hs];refine⟨_,rfl,fun h=>?_⟩;simp at h;omega
def t40(l:List Exp)(hl:l.length<=140737488355328)(hL:∀e∈l,e.Lim):BB (l.length<=8/\∀e∈l,aT e) (ai pg 40 [bQ l]):=by
 rw[C40];obtain⟨b,hb,h2⟩:=DZ l hl hL l.length 0 rfl (by omega) (by omega);refine⟨b,?_,fun h=>by simpa using h2 h⟩;simp[S40,hb]
def uC(e:Ty):Prop:=∀most depth:Int,0<=most->most<=1099511627776->depth<=1099511627776->xA True most (ai pg 48 [e.av,.int .i64 most,.int .i64 depth])
def D3(e:Ty)(hL:e.Lim)(ih:∀x∈e.fields,uC x.2)(most depth:Int)(h0:0<=most)(h1:most<=1099511627776)(h2:depth<=1099511627776)(h3:1<=depth):
  ∀(r:Nat)(n i:Int),e.fields.length-i.toNat=r->0<=i->i<=e.fields.length->1<=n->n<=most+1->xA True most (aj (L48_0 (ai pg) aj) [.int .i64 most,.int .i64 depth,.ip (aa e.av),.int .i64 n,.int .i64 i]):=by
 intro r
 induction r with
 |zero=>
  intro n i hr hi hb hn hm;rw[FL48_0];simp only[L48_0];have h1:¬(i<(e.fields.length:Int)):=by omega
  simp[h1];exact⟨n,rfl,hn,hm,fun _=>trivial⟩
 | succ r IH=>
  intro n i hr hi hb hn hm;have hlen:=hL.len;have h5:i<(e.fields.length:Int):=by omega
  have hlt:i.toNat<e.fields.length:=by omega
  rw[FL48_0];simp only[L48_0];by_cases hs:n<=most
  ·by_cases h60:(60:Int)<(e.fields[i.toNat].1.length:Int)
   ·simp (disch:=omega) [h5,hs,iu,Is e.fields i.toNat hlt,aZ,h60];exact⟨_,rfl,by omega,by omega,fun _=>trivial⟩
   ·obtain⟨k,hk,hk1,hk2,_⟩:=ih e.fields[i.toNat] (Iq hlt) (most-n) (depth-1) (by omega) (by omega) (by omega);have h4:=IH (n+k) (i+1) (by omega) (by omega) (by omega) (by omega) (by omega);simp (disch:=omega) [h5,hs,iu,Is e.fields i.toNat hlt,aZ,hk,h60];simpa using h4
  ·simp[h5,hs];exact⟨n,rfl,hn,hm,fun _=>trivial⟩
def t48:∀(N:Nat)(e:Ty),SizeOf.sizeOf e<=N->e.Lim->uC e:=by
 intro N
 induction N with
 |zero=>intro e he;cases e;simp at he
 | succ N ih=>
  intro e he hL most depth h0 h1 h2;rw[C48];have h4:1<=depth->_:=fun h3=>D3 e hL (fun x hx=>ih x.2 (by have:=C2 hx;omega) (hL.kid hx)) most depth h0 h1 h2 h3 e.fields.length 1 0 rfl (by omega) (by omega) (by omega) (by omega);simp[S48];split
  ·rw[aZ (by omega) (by omega),gG];exact⟨_,rfl,by omega,by omega,fun _=>trivial⟩
  ·obtain⟨n,hn,b⟩:=h4 (by omega);simp at hn;rw[hn,gG];exact⟨n,rfl,b⟩
def DY(l:List Ty)(hl:l.length<=140737488355328)(hL:∀e∈l,e.Lim):∀(r:Nat)(i:Int),l.length-i.toNat=r->0<=i->i<=l.length->BB True (aj (L16_0 (ai pg) aj) [xx l,.int .i64 i]):=by
 intro r
 induction r with
 |zero=>
  intro i hr hi hb;rw[FL16_0];simp only[L16_0];have h1:¬(i<(l.length:Int)):=by omega
  simp[h1];exact⟨_,rfl,fun _=>trivial⟩
 |succ r IH=>
  intro i hr hi hb;have h5:i<(l.length:Int):=by omega
  have hlt:i.toNat<l.length:=by omega
  rw[FL16_0];simp only[L16_0];obtain⟨k,hk,_⟩:=t48 _ l[i.toNat] (Ie _) (hL _ (Iq hlt)) 40 6 (by omega) (by omega) (by omega);have h4:=IH (i+1) (by omega) (by omega) (by omega);simp (disch:=omega) [h5,Gp,Is l i.toNat hlt,aZ,hk];by_cases hk5:40<k
  ·simp[hk5];exact .no
  ·simp[hk5];exact h4
def t16(l:List Ty)(hl:l.length<=140737488355328)(hL:∀e∈l,e.Lim):BB True (ai pg 16 [xx l]):=by
 rw[C16];obtain⟨b,hb,h2⟩:=DY l hl hL l.length 0 rfl (by omega) (by omega);refine⟨b,?_,h2⟩;simp[S16,hb]
def Fb(t:Ty):aL T 47 1 [(0,t.av)]=some (xx [t]):=by cases t;rfl
def GK(e:Exp):aL T 24 1 [(0,e.av)]=some (bQ [e]):=by cases e;rfl
def D1(l:List ca)(hl:l.length<=140737488355328)(hL:∀e∈l,e.2.Lim):∀(r:Nat)(i:Int),l.length-i.toNat=r->0<=i->i<=l.length->BB (l.length<=8) (aj (L41_0 (ai pg) aj) [bd l,.int .i64 i]):=by
 intro r
 induction r with
 |zero=>
  intro i hr hi hb;rw[FL41_0];simp only[L41_0];have h1:¬(i<(l.length:Int)):=by omega
  simp[h1];exact⟨_,rfl,fun h=>by simp at h;omega⟩
 | succ r IH=>
  intro i hr hi hb;have h5:i<(l.length:Int):=by omega
  have hlt:i.toNat<l.length:=by omega
  rw[FL41_0];simp only[L41_0];by_cases hs:i<9
  ·obtain⟨k,hk,_⟩:=t16 [l[i.toNat].2] (by simp) (fun e he=>by rw[I5.1 he];exact hL _ (Iq hlt));have h4:=IH (i+1) (by omega) (by omega) (by omega);by_cases h60:(60:Int)<(l[i.toNat].1.length:Int)
   ·simp (disch:=omega) [h5,hs,iu,Is l i.toNat hlt,aZ,h60];exact .no
   ·simp (disch:=omega) [h5,hs,iu,Is l i.toNat hlt,aZ,h60,Fb,hk];cases k with
    |false=>exact .no
    |true=>
     simp;exact h4
  ·simp[h5,hs];refine⟨_,rfl,fun h=>?_⟩;simp at h;omega
def t41(l:List ca)(hl:l.length<=140737488355328)(hL:∀e∈l,e.2.Lim):BB (l.length<=8) (ai pg 41 [bd l]):=by
 rw[C41];obtain⟨b,hb,h2⟩:=D1 l hl hL l.length 0 rfl (by omega) (by omega);refine⟨b,?_,h2⟩;simp[S41,hb]
def qS(Q:Int->Prop)(most:Int)(m:M AV):Prop:=∃n,m=M.pure (.int .i64 n)/\1<=n/\n<=most+1/\(n<=most->Q n)
def uE(v:Val):Prop:=∀most depth:Int,0<=most->most<=1099511627776->depth<=1099511627776->qS (fun n=>(v.sz:Int)<=13*n) most (ai pg 42 [v.av,.int .i64 most,.int .i64 depth])
def ma(l:List Val)(i:Nat)(h:i<l.length):bu (l.drop i)=l[i].sz+bu (l.drop (i+1)):=by
 rw[ID h];rfl
def BD(e:Val)(hL:e.Lim)(ih:∀x∈e.values,uE x)(most depth:Int)(h0:0<=most)(h1:most<=1099511627776)(h2:depth<=1099511627776)(h3:1<=depth):
  ∀(r:Nat)(n i:Int),e.values.length-i.toNat=r->0<=i->i<=e.values.length->1<=n->n<=most+1->qS (fun k=>(bu (e.values.drop i.toNat):Int)<=13*(k-n)) most (aj (L42_0 (ai pg) aj) [.int .i64 most,.int .i64 depth,.ip (aa e.av),.int .i64 n,.int .i64 i]):=by
 intro r
 induction r with
 |zero=>
  intro n i hr hi hb hn hm;rw[FL42_0];simp only[L42_0];have h1:¬(i<(e.values.length:Int)):=by omega
  simp[h1];exact⟨n,rfl,hn,hm,fun h=>by rw[Iv (by omega)];simp[bu]⟩
 | succ r IH=>
  intro n i hr hi hb hn hm;have hlen:=hL.len;have h5:i<(e.values.length:Int):=by omega
  have hlt:i.toNat<e.values.length:=by omega
  rw[FL42_0];simp only[L42_0];by_cases hs:n<=most
  ·obtain⟨k,hk,hk1,hk2,hk3⟩:=ih e.values[i.toNat] (Iq hlt) (most-n) (depth-1) (by omega) (by omega) (by omega);obtain⟨n',q1,q2,q3,q4⟩:=IH (n+k) (i+1) (by omega) (by omega) (by omega) (by omega) (by omega);rw[show (i+1).toNat=i.toNat+1 by omega]at q4;have hd:=ma e.values i.toNat hlt;have h4:qS (fun k=>(bu (e.values.drop i.toNat):Int)<=13*(k-n)) most (aj (L42_0 (ai pg) aj) [.int .i64 most,.int .i64 depth,.ip (aa e.av),.int .i64 (n+k),.int .i64 (i+1)]):=by
    by_cases hk4:k<=most-n
    ·refine⟨n',q1,q2,q3,fun h=>?_⟩
     have:=q4 h
     have:=hk3 hk4
     show (bu (e.values.drop i.toNat):Int)<=13*(n'-n);omega
    ·have hstop:aj (L42_0 (ai pg) aj) [.int .i64 most,.int .i64 depth,.ip (aa e.av),.int .i64 (n+k),.int .i64 (i+1)]=M.pure (.int .i64 (n+k)):=by
      rw[FL42_0];simp only[L42_0];have h6:¬(n+k<=most):=by omega
      simp[h6]
     exact⟨n+k,hstop,by omega,by omega,fun h=>by omega⟩
   simp (disch:=omega) [h5,hs,jX,Is e.values i.toNat hlt,aZ,hk];simpa using h4
  ·simp[h5,hs];exact⟨n,rfl,hn,hm,fun h=>absurd h hs⟩
def BF(e:Val)(hL:e.Lim)(h12:e.names.length<=12)(most depth:Int)(h0:0<=most)(h1:most<=1099511627776)(Q:Int->Prop)(h:qS Q most (aj (L42_0 (ai pg) aj) [.int .i64 most,.int .i64 depth,.ip (aa e.av),.int .i64 1,.int .i64 0])):
  ∀(r:Nat)(i:Int),e.names.length-i.toNat=r->0<=i->i<=e.names.length->qS Q most (aj (L42_1 (ai pg) aj) [.int .i64 most,.int .i64 depth,.ip (aa e.av),.int .i64 1,.int .i64 i]):=by
 intro r
 induction r with
 |zero=>
  intro i hr hi hb;rw[FL42_1];simp only[L42_1];have h1:¬(i<(e.names.length:Int)):=by omega
  simp[h1];simpa using h
 | succ r IH=>
  intro i hr hi hb;have h5:i<(e.names.length:Int):=by omega
  have hlt:i.toNat<e.names.length:=by omega
  have h4:=IH (i+1) (by omega) (by omega) (by omega);rw[FL42_1];simp only[L42_1];by_cases h60:(60:Int)<(e.names[i.toNat].length:Int)
  ·simp (disch:=omega) [h5,s8,Is e.names i.toNat hlt,aZ,h60];exact⟨_,rfl,by omega,by omega,fun h=>by omega⟩
  ·simp (disch:=omega) [h5,s8,Is e.names i.toNat hlt,aZ,h60];simpa using h4
def t42:∀(N:Nat)(e:Val),SizeOf.sizeOf e<=N->e.Lim->uE e:=by
 intro N
 induction N with
 |zero=>intro e he;cases e;simp at he
 | succ N ih=>
  intro e he hL most depth h0 h1 h2;rw[C42];by_cases hq:depth<1\/12<e.names.length
  ·simp[S42];rw[Ic (by omega),aZ (by omega) (by omega),gG];exact⟨_,rfl,by omega,by omega,fun h=>by omega⟩
  ·have h4:=BD e hL (fun x hx=>ih x (by have:=Az hx;omega) (hL.kid hx)) most depth h0 h1 h2 (by omega) e.values.length 1 0 rfl (by omega) (by omega) (by omega) (by omega);obtain⟨n,hn,b1,b2,b3⟩:=BF e hL (by omega) most depth h0 h1 _ h4 e.names.length 0 rfl (by omega) (by omega);simp[S42];rw[if_neg (by omega)];simp at hn;rw[hn,gG];refine⟨n,rfl,b1,b2,fun h=>?_⟩
   have:=b3 h
   simp at this;have hs:e.sz=1+e.names.length+bu e.values:=by cases e;rfl
   omega
def DX(l:List Val)(hl:l.length<=140737488355328)(hL:∀e∈l,e.Lim):∀(r:Nat)(i:Int),l.length-i.toNat=r->0<=i->i<=l.length->BB (l.length<=8/\bu (l.drop i.toNat)<=520*(l.length-i.toNat)) (aj (L10_0 (ai pg) aj) [vals l,.int .i64 i]):=by
 intro r
 induction r with
 |zero=>
  intro i hr hi hb;rw[FL10_0];simp only[L10_0];have h1:¬(i<(l.length:Int)):=by omega
  simp[h1];exact⟨_,rfl,fun h=>by simp at h;exact⟨by omega,by rw[Iv (by omega)];simp[bu]⟩⟩
 | succ r IH=>
  intro i hr hi hb;have h5:i<(l.length:Int):=by omega
  have hlt:i.toNat<l.length:=by omega
  rw[FL10_0];simp only[L10_0];by_cases hs:i<9
  ·obtain⟨k,hk,_,_,hq⟩:=t42 _ l[i.toNat] (Ie _) (hL _ (Iq hlt)) 40 6 (by omega) (by omega) (by omega);have h4:=IH (i+1) (by omega) (by omega) (by omega);simp (disch:=omega) [h5,hs,jX,Is l i.toNat hlt,aZ,hk];by_cases hk5:40<k
   ·simp[hk5];exact .no
   ·simp[hk5];refine h4.imp fun h=>⟨h.1,?_⟩;have h6:=h.2;rw[show (i+1).toNat=i.toNat+1 by omega]at h6;rw[ma l i.toNat hlt];have h7:(l[i.toNat].sz:Int)<=13*k:=hq (by omega);omega
  ·simp[h5,hs];refine⟨_,rfl,fun h=>?_⟩;simp at h;omega
def t10(l:List Val)(hl:l.length<=140737488355328)(hL:∀e∈l,e.Lim):BB (l.length<=8/\jw l) (ai pg 10 [vals l]):=by
 rw[C10];obtain⟨b,hb,h2⟩:=DX l hl hL l.length 0 rfl (by omega) (by omega);refine⟨b,?_,fun h=>?_⟩
 ·simp[S10,hb]
 ·have:=h2 h
  simp at this;refine⟨this.1,?_⟩;have h3:=this.2;unfold jw;omega
def gz(b c:Bool)(k:AV->M AV):ae (aw (.bool b) true 1 (M.pure [.bool c])) (fun v=>ae (af (aF (.bool b) (nth v 0) (.bool false))) k)=k (.bool (b&&c)):=by
 cases b<;>rfl
def mr(b c:Bool)(k:AV->M AV):ae (aw (.bool b) false 1 (M.pure [.bool c])) (fun v=>ae (af (aF (.bool b) (.bool true) (nth v 0))) k)=k (.bool (b||c)):=by
 cases b<;>rfl
section
variable (m:Ap.Mod) (f:Ap.Fun)
theorem HD:ab T 29 (.ip (aa m.av)) 0=some (.ip ((aa m.av).drop 0)):=rfl
theorem HE:ab T 29 (.ip (aa m.av)) 1=some (.ip ((aa m.av).drop 1)):=rfl
theorem HF:ab T 29 (.ip (aa m.av)) 3=some (.ip ((aa m.av).drop 3)):=rfl
theorem Hn:ab T 29 (.ip (aa m.av)) 4=some (.ip ((aa m.av).drop 4)):=rfl
theorem Hz:ah T 9 (.ip ((aa m.av).drop 0))=some (.str m.name):=rfl
theorem HA:ah T 22 (.ip ((aa m.av).drop 1))=some (strs m.uses):=rfl
theorem HB:ah T 24 (.ip ((aa m.av).drop 3))=some (bQ m.init):=rfl
theorem Hm:ah T 25 (.ip ((aa m.av).drop 4))=some (gE m.funcs):=rfl
theorem Hy:ab T 27 (.ip ((aa m.av).drop 6)) 0=some (.ip ((aa m.av).drop 6)):=rfl
theorem Ha:ah T 23 (.ip ((aa m.av).drop 6))=some (bd m.old):=rfl
theorem Hv:ab T 68 (.ip (aa f.av)) 2=some (.ip ((aa f.av).drop 2)):=by cases f;rfl
theorem Hw:ab T 68 (.ip (aa f.av)) 3=some (.ip ((aa f.av).drop 3)):=by cases f;rfl
theorem Hx:ab T 68 (.ip (aa f.av)) 5=some (.ip ((aa f.av).drop 6)):=by cases f;rfl
theorem HC:ah T 68 (.ip (aa f.av))=some f.av:=by obtain⟨n,p,ps,⟨k,fs⟩,ef,⟨o,nn,s,m,ns,es⟩⟩:=f;rfl
theorem G7:ah T 23 (.ip ((aa f.av).drop 2))=some (bd f.params):=by cases f;rfl
theorem G8:ah T 35 (.ip ((aa f.av).drop 3))=some f.result.av:=by obtain⟨n,p,ps,⟨k,fs⟩,ef,⟨o,nn,s,m,ns,es⟩⟩:=f;rfl
theorem G9:ah T 66 (.ip ((aa f.av).drop 6))=some f.body.av:=by obtain⟨n,p,ps,⟨k,fs⟩,ef,⟨o,nn,s,m,ns,es⟩⟩:=f;rfl
end
theorem GV(s:bF):aK T 9 (.str s)=some (.int .i64 s.length):=rfl
theorem leI(a b:Int):am T BinOp.leq 3 (.int .i64 a) (.int .i64 b)=some (.bool (decide (a<=b))):=rfl
theorem FK(a b:Int):am T BinOp.lss 3 (.int .i64 a) (.int .i64 b)=some (.bool (decide (a<b))):=rfl
def rG(m:Ap.Mod)(hL:m.Lim)(i:Int)(hi:¬(i<(m.funcs.length:Int)/\i<5)):BB (SMod m) (aj (L9_0 (ai pg) aj) [.ip (aa m.av),.int .i64 i]):=by
 obtain⟨b1,e1,q1⟩:=t41 m.vars hL.vars hL.vty;obtain⟨b2,e2,q2⟩:=t40 m.init hL.init hL.ies;obtain⟨b3,e3,q3⟩:=t41 m.old hL.old hL.oty;obtain⟨b4,e4,q4⟩:=t40 m.forward hL.forward hL.fes;obtain⟨b5,e5,q5⟩:=t40 m.back hL.back hL.bes;have hg:(decide (i<(m.funcs.length:Int))&&decide (i<5))=false:=by
  cases h1:decide (i<(m.funcs.length:Int))
  ·rfl
  ·cases h2:decide (i<5)
   ·rfl
   ·exact absurd ⟨Jy h1,Jy h2⟩ hi
 rw[FL9_0];simp -implicitDefEqProofs only[L9_0,aJ,aX,HD,HE,fm2,HF,Hn,fm6,Hz,HA,vw,HB,Hm,Hy,fg1,fg2,Ha,Hh,Hi,ao,aC,xC,pJ,GV,FK,leI,gz,hg,aA,H9,Ir,e1,e2,e3,e4,e5];refine⟨_,rfl,fun h=>?_⟩;simp only[H6]at h;exact⟨hL,by have:=q1 h.1.1.1.1.2;omega,(q4 h.1.2).2,(q5 h.2).2⟩
def FJ(m:Ap.Mod)(hL:m.Lim):∀(r:Nat)(i:Int),m.funcs.length-i.toNat=r->0<=i->i<=m.funcs.length->BB (SMod m) (aj (L9_0 (ai pg) aj) [.ip (aa m.av),.int .i64 i]):=by
 intro r
 induction r with
 |zero=>intro i hr hi hb;exact rG m hL i (by omega)
 | succ r IH=>
  intro i hr hi hb;by_cases hs:i<(m.funcs.length:Int)/\i<5
  ·have hlt:i.toNat<m.funcs.length:=by omega
   have hbig:=hL.funcs;have hf:=hL.fns _ (Iq hlt);have hix:=Da (l:=m.funcs) (n:=i) hi hs.1;rw[Is m.funcs i.toNat hlt]at hix;generalize m.funcs[i.toNat]=f at hf hix;have h4:=IH (i+1) (by omega) (by omega) (by omega);obtain⟨b1,e1,-⟩:=t40 [f.body] (by simp) (fun e he=>by rw[I5.1 he];exact hf.body);obtain⟨b2,e2,-⟩:=t41 f.params hf.params hf.pty;obtain⟨b3,e3,-⟩:=t16 [f.result] (by simp) (fun e he=>by rw[I5.1 he];exact hf.result);have hg:(decide (i<(m.funcs.length:Int))&&decide (i<5))=true:=by simp[hs.1,hs.2]
   have hadd:am T BinOp.add 3 (.int .i64 i) (.int .i64 1)=some (.int .i64 (i+1)):=by simp (disch:=omega) [aZ]
   rw[FL9_0];simp -implicitDefEqProofs only[L9_0,aJ,aX,Hn,Hm,ao,aC,xC,FK,gz,mr,hg,aA,Iu,hix,HC,bn (gO f),cO,Hv,Hw,Hx,G7,G8,G9,GK,Fb,e1,e2,e3,iq,hadd];split
   ·exact .no
   ·exact h4
  ·exact rG m hL i hs
def t9(m:Ap.Mod)(hL:m.Lim):BB (SMod m) (ai pg 9 [m.av]):=by
 obtain⟨b,hb,h2⟩:=FJ m hL m.funcs.length 0 (by omega) (by omega) (by omega);refine⟨b,?_,h2⟩;rw[C9,gn];rw[show S9 (ai pg) aj m.av=aj (L9_0 (ai pg) aj) [.ip (aa m.av),.int .i64 0]from rfl,hb];exact jb _
end Go.Proofs.YtihmmkncokjbaaaGreatDoor
namespace Go.Proofs.YtihmmkncokjbaaaGreatDoor
open Go Go.Av
set_option maxRecDepth 1000000
def un:cD pg 80 8 [] []= .ok (.bool true) []:=by kernel_rfl
def pB:ai pg 8 []=M.pure (.bool true):=by
 funext h;have h1:=yK aE un (by simp);have e:∀h,ai pg 8 [] h=aH (cp (pg.cx (ai pg) Tryz.f8.ntmps Dj) aj Tryz.f8 (pg.own 8) (dC au [])) h:=fun h=>congrFun (ax aE rfl rfl rfl []) h;rw[e]at h1 |-;unfold aH at h1 |-;generalize cp (pg.cx (ai pg) Tryz.f8.ntmps Dj) aj Tryz.f8 (pg.own 8) (dC au []) []=r at h1 |-;cases r with
 |ok v h'=>
  simp only[R.ok.injEq]at h1;show R.ok (mi 6 h' v) h=_;rw[h1.1];rfl
 |pan v h'=>cases h1
 |fail=>cases h1
end Go.Proofs.YtihmmkncokjbaaaGreatDoor
namespace Go.Proofs.YtihmmkncokjbaaaGreatDoor
open Go Go.Av Go.Av.Ap
set_option maxRecDepth 100000
theorem zG(l:List ca)(vs:List Val)(hl:l.length<=140737488355328)(hlen:l.length=vs.length)(ht:∀f∈l,f.2.Lim)(hz:∀v∈vs,v.sz<=1099511627776):∀n k:Nat,l.length-k=n->k<=l.length->aj (L11_0 (ai pg) aj) [bd l,vals vs,.int .i64 k]=M.pure (.bool (b6 (fun f v=>g8 f.2 v) (l.drop k) (vs.drop k)))
 |0,k,hn,hk=>by
  have h1:¬((k:Int)<(l.length:Int)):=by omega
  have h2:l.drop k=[]:=Iv (by omega);have h3:vs.drop k=[]:=Iv (by omega);rw[FL11_0];simp[L11_0,h1,h2,h3,b6]
 | n+1,k,hn,hk=>by
  have h1:(k:Int)<(l.length:Int):=by omega
  have hkl:k<l.length:=by omega
  have hkv:k<vs.length:=by omega
  have hix:=iu (l:=l) (n:=(k:Int)) (by omega) h1;have hiv:=jX (l:=vs) (n:=(k:Int)) (by omega) (by omega);rw[I0,Is l k hkl]at hix;rw[I0,Is vs k hkv]at hiv;have hh:=t20 l[k].2 vs[k] (ht _ (Iq hkl)) (hz _ (Iq hkv));have hw:IntKind.i64.wrap ((k:Int)+1)=((k+1:Nat):Int):=by rw[aZ (by omega) (by omega)];omega
  have ih:=zG l vs hl hlen ht hz n (k+1) (by omega) (by omega);rw[iX _ l vs k hkl hkv];generalize l[k]=f at hix hh;generalize vs[k]=v at hiv hh;rw[FL11_0];cases hx:g8 f.2 v with
  |false=>
   rw[hx]at hh;simp[L11_0,h1,hix,hiv,hh,hkl]
  |true=>
   rw[hx]at hh;simp[L11_0,h1,hix,hiv,hh,hkl,hw];simpa using ih
def t11(l:List ca)(vs:List Val)(hl:l.length<=140737488355328)(ht:∀f∈l,f.2.Lim)(hz:∀v∈vs,v.sz<=1099511627776):ai pg 11 [bd l,vals vs]=M.pure (.bool (cb l vs)):=by
 rw[C11];by_cases h:l.length=vs.length
 ·have:=zG l vs hl h ht hz l.length 0 rfl (Jk _)
  simp only[IV,Kb]at this;have h3:((l.length:Int) != (vs.length:Int))=false:=by simp[h]
  have h4:(l.length != vs.length)=false:=by simp[h]
  unfold cb;simp[S11,h3,h4,h,this]
 ·have h3:((l.length:Int) != (vs.length:Int))=true:=by simp;omega
  have h4:(l.length != vs.length)=true:=by simp[h]
  unfold cb;simp[S11,h3,h4,h]
theorem zH(l:List Val)(hl:l.length<=140737488355328)(h:∀v∈l,ai pg 21 [v.av,v.av]=M.pure (.bool true)):∀n k:Nat,l.length-k=n->k<=l.length->aj (L14_0 (ai pg) aj) [vals l,vals l,.int .i64 k]=M.pure (.bool true)
 |0,k,hn,hk=>by
  have h1:¬((k:Int)<(l.length:Int)):=by omega
  rw[FL14_0];simp[L14_0,h1]
 |n+1,k,hn,hk=>by
  have h1:(k:Int)<(l.length:Int):=by omega
  have hkl:k<l.length:=by omega
  have hiv:=jX (l:=l) (n:=(k:Int)) (by omega) (by omega);rw[I0,Is l k hkl]at hiv;have hh:=h _ (Iq hkl);have hw:IntKind.i64.wrap ((k:Int)+1)=((k+1:Nat):Int):=by rw[aZ (by omega) (by omega)];omega
  have ih:=zH l hl h n (k+1) (by omega) (by omega);generalize l[k]=v at hiv hh;rw[FL14_0];simp[L14_0,h1,hiv,hh,hkl,hw];simpa using ih
def xH(l:List Val)(hl:l.length<=140737488355328)(h:∀v∈l,ai pg 21 [v.av,v.av]=M.pure (.bool true)):ai pg 14 [vals l,vals l]=M.pure (.bool true):=by
 have:=zH l hl h l.length 0 rfl (Jk _)
 rw[C14];simp at this;simp[S14,this]
theorem zI(v:Val)(hn:v.names.length<=140737488355328)(h:ai pg 14 [vals v.values,vals v.values]=M.pure (.bool true)):∀n k:Nat,v.names.length-k=n->k<=v.names.length->aj (L21_0 (ai pg) aj) [.ip (aa v.av),.ip (aa v.av),.int .i64 k]=M.pure (.bool true)
 |0,k,hr,hk=>by
  have h1:¬((k:Int)<(v.names.length:Int)):=by omega
  have h2:¬(k<v.names.length):=by omega
  rw[FL21_0];simp[L21_0,h1,h2,h]
 |n+1,k,hr,hk=>by
  have h1:(k:Int)<(v.names.length:Int):=by omega
  have hkl:k<v.names.length:=by omega
  have hiv:=s8 (l:=v.names) (n:=(k:Int)) (by omega) (by omega);have hw:IntKind.i64.wrap ((k:Int)+1)=((k+1:Nat):Int):=by rw[aZ (by omega) (by omega)];omega
  have ih:=zI v hn h n (k+1) (by omega) (by omega);rw[FL21_0];simp[L21_0,h1,hiv,hkl,hw];simpa using ih
def t21:∀(N:Nat)(v:Val),SizeOf.sizeOf v<=N->v.sz<=1099511627776->ai pg 21 [v.av,v.av]=M.pure (.bool true):=by
 intro N
 induction N with
 |zero=>intro v h;cases v;simp at h
 |succ N ih=>
  intro v hv hz;have hs:v.sz=1+v.names.length+bu v.values:=by cases v;rfl
  have hlen:=eS v.values;have h1:=xH v.values (by omega) fun x hx=>ih x (by have:=Az hx;omega) (by have:=HH hx;omega);have h2:=zI v (by omega) h1 v.names.length 0 rfl (Jk _);rw[C21];simp at h2;simp[S21,h2]
def t14(l:List Val)(h:jw l):ai pg 14 [vals l,vals l]=M.pure (.bool true):=
 xH l (by have:=eS l;unfold jw at h;omega) fun v hv=>t21 _ v (Ie _) (h.mem v hv)
def sA(b:Bool)(k:AV->M AV):ae (aw (.bool b) false 1 (M.pure [.bool false])) (fun v=>ae (af (aF (.bool b) (.bool true) (nth v 0))) k)=k (.bool b):=by
 cases b<;>rfl
def lu(m:Ap.Mod):Ap.Mod:=⟨m.name,m.uses,m.vars,m.init,m.funcs,false,m.old,m.forward,m.back⟩
def lx{m:Ap.Mod}(h:SMod m):SMod (lu m):=
 ⟨⟨h.lim.uses,h.lim.vars,h.lim.vty,h.lim.init,h.lim.ies,h.lim.funcs,h.lim.fns,h.lim.old,h.lim.oty,h.lim.forward,h.lim.fes,h.lim.back,h.lim.bes⟩,h.vars,h.fw,h.bk⟩
theorem B6(m:Ap.Mod):AV.agg [.str m.name,strs m.uses,bd m.vars,bQ m.init,gE m.funcs,.bool false,bd m.old,bQ m.forward,bQ m.back]=(lu m).av:=rfl
theorem Hs(a b:bF):am T .neq 9 (.str a) (.str b)=some (.bool (a != b)):=rfl
theorem zw(old now:Ap.Mod)(vars:List Val)(ho:SMod old)(hn:SMod now)(hv:jw vars):K3_0 (ai pg) aj [vals vars,.ip (aa old.av),.ip (aa now.av),.bool true]=M.pure (.bool true):=by
 have hK:=t15 old now vars ho hn hv;cases hk:iF cQ eC old now vars with
 |false=>
  rw[hk]at hK;simp -implicitDefEqProofs only[K3_0,aJ,aX,xw,ao,hK,aC,iq,Ju,aA,Iu]
 |true=>
  rw[hk]at hK;obtain⟨l,hf,hb,m1,m2⟩:=tV xk hk;have hl:=jP m2 hn.vars;have hF:=t12 old now vars ho hn hv;have hB:=t13 old now l ho hn hl;rw[hf]at hF;rw[hb]at hB;have hA:=t14 vars hv;have g1:=t11 old.vars vars ho.lim.vars ho.lim.vty hv.mem;have g2:=t11 now.vars l hn.lim.vars hn.lim.vty hl.mem;rw[m1]at g1;rw[m2]at g2;have h01:((0:Int)== 0)=true:=rfl;simp -implicitDefEqProofs only[K3_0,aJ,aX,xw,ao,hK,aC,iq,I8,aA,H9,Ir,hF,cU,bB,Ig,Ix,hB,DI,h01,gz,JV,hA,fm2,vw,g1,g2]
theorem Aq(old now:Ap.Mod)(vars:List Val)(ho:SMod old)(hn:SMod now)(hv:jw vars)(u:Bool)(hu:u=true->(old.vars.map (·.1)).Nodup):aj (L3_1 (ai pg) aj) [vals vars,.ip (aa old.av),.ip (aa now.av),.bool true,.bool u,.int .i64 old.vars.length,.str old.name,strs old.uses,bd old.vars,bQ old.init,gE old.funcs,.bool false,bd old.old,bQ old.forward,bQ old.back]=M.pure (.bool true):=by
 have g1:=t11 old.vars vars ho.lim.vars ho.lim.vty hv.mem;have hkr:=zw old now vars ho hn hv;have h1:¬((old.vars.length:Int)<(old.vars.length:Int)):=by omega
 rw[FL3_1];cases hc:u&&cb old.vars vars with
 |false=>
  simp -implicitDefEqProofs only[L3_1,aJ,aX,fm2,vw,ao,iv,t6,aA,Ia,if_neg h1,jL,g1,aC,gz,hc,H9,Ir,hkr]
 | true=>
  simp only[H6]at hc;obtain⟨hu1,hm⟩:=hc;have hcc:(u&&cb old.vars vars)=true:=by rw[hu1,hm];rfl
  obtain⟨f1,b1,k1⟩:=ux (F:=cQ) (E:=eC) (old:=old) (twin:=lu old) rfl rfl (hu hu1) hm (fun a ha=>by
   have:=jO (by simp only[cb,H6,Ia]at hm;exact hm.2) a ha
   simp[eC,this,nY])
  have hF:=t12 old (lu old) vars ho (lx ho) hv;have hB:=t13 old (lu old) vars ho (lx ho) hv;have hK:=t15 old (lu old) vars ho (lx ho) hv;rw[f1]at hF;rw[b1]at hB;rw[k1]at hK;have hA:=t14 vars hv;have h00:((0:Int) != 0)=false:=rfl;simp -implicitDefEqProofs only[L3_1,aJ,aX,fm2,vw,ao,iv,t6,aA,Ia,if_neg h1,jL,g1,aC,gz,hcc,Iu,xw,B6,hF,hB,hK,cU,bB,Ig,Ix,D7,h00,mr,hA,iq,I8,Bool.or_false,H9,Ir,hkr]
def wL(old:Ap.Mod)(A O N H c0 c1 c2 c3 c4 c5 c6 c7 c8:AV)(hO:O= .ip (aa old.av))(hl:old.vars.length<=1000000)(v16:List AV->M AV)(i:Nat)(hi:i<old.vars.length):∀(r k:Nat)(u:Bool),i-k=r->k<=i->(u=true->∀j,j<k->old.vars[j]!.1≠old.vars[i]!.1)->
  ∃u':Bool,(u'=true->u=true/\∀j,j<i->old.vars[j]!.1≠old.vars[i]!.1)/\aj (L3_0 (ai pg) aj v16) [A,O,N,H,.bool u,.int .i64 i,.int .i64 k,c0,c1,c2,c3,c4,c5,c6,c7,c8]=v16 [A,O,N,H,.bool u',.int .i64 (i+1:Nat),c0,c1,c2,c3,c4,c5,c6,c7,c8]:=by
 subst hO;intro r
 induction r with
 | zero=>
  intro k u hr hk hu;have hki:k=i:=by omega
  subst hki;have h1:¬((k:Int)<(k:Int)):=by omega
  have hadd:am T BinOp.add 3 (.int .i64 (k:Int)) (.int .i64 1)=some (.int .i64 (k+1:Nat)):=by
   have:IntKind.i64.wrap ((k:Int)+1)=((k+1:Nat):Int):=by rw[aZ (by omega) (by omega)];omega
   simp[this]
  refine⟨u,fun h=>⟨h,hu h⟩,?_⟩;rw[FL3_0];simp -implicitDefEqProofs only[L3_0,aJ,aX,t6,ao,aA,Ia,if_neg h1,hadd]
 | succ r IH=>
  intro k u hr hk hu;have h1:(k:Int)<(i:Int):=by omega
  have hadd:am T BinOp.add 3 (.int .i64 (k:Int)) (.int .i64 1)=some (.int .i64 (k+1:Nat)):=by
   have:IntKind.i64.wrap ((k:Int)+1)=((k+1:Nat):Int):=by rw[aZ (by omega) (by omega)];omega
   simp[this]
  have hx:=iu (l:=old.vars) (n:=(k:Int)) (by omega) (by omega);have hy:=iu (l:=old.vars) (n:=(i:Int)) (by omega) (by omega);rw[I0]at hx hy;obtain⟨u',h2,h3⟩:=IH (k+1) (u&&(old.vars[k]!.1 != old.vars[i]!.1)) (by omega) (by omega) (fun h j hj=>by
   simp only[H6,bne_iff_ne]at h;by_cases hjk:j=k
   ·rw[hjk];exact h.2
   ·exact hu h.1 j (by omega))
  refine⟨u',fun h=>⟨by have:=(h2 h).1;simp only[H6]at this;exact this.1,(h2 h).2⟩,?_⟩;rw[FL3_0];simp -implicitDefEqProofs only[L3_0,aJ,aX,t6,ao,aA,Ia,Ic h1,fm2,vw,hx,hy,Fw,FI,Hs,aC,gz,hadd,h3]
def wY(old now:Ap.Mod)(vars:List Val)(ho:SMod old)(hn:SMod now)(hv:jw vars):∀(r i:Nat)(u:Bool),old.vars.length-i=r->i<=old.vars.length->(u=true->((old.vars.take i).map (·.1)).Nodup)->
  aj (L3_1 (ai pg) aj) [vals vars,.ip (aa old.av),.ip (aa now.av),.bool true,.bool u,.int .i64 i,.str old.name,strs old.uses,bd old.vars,bQ old.init,gE old.funcs,.bool false,bd old.old,bQ old.forward,bQ old.back]=M.pure (.bool true):=by
 intro r
 induction r with
 |zero=>
  intro i u hr hi hu;have he:i=old.vars.length:=by omega
  subst he;exact Aq old now vars ho hn hv u fun h=>by have:=hu h;rwa [J9]at this
 | succ r IH=>
  intro i u hr hi hu;have h1:(i:Int)<(old.vars.length:Int):=by omega
  have hlt:i<old.vars.length:=by omega
  rw[FL3_1];obtain⟨u',h2,h3⟩:=wL old (vals vars) _ (.ip (aa now.av)) (.bool true) (.str old.name) (strs old.uses) (bd old.vars) (bQ old.init) (gE old.funcs) (.bool false) (bd old.old) (bQ old.forward) (bQ old.back) rfl ho.vars (aj (L3_1 (ai pg) aj)) i hlt i 0 u rfl (Jk _) (fun _ j hj=>by omega);have h4:=IH (i+1) u' (by omega) (by omega) (fun h=>by
   obtain⟨g1,g2⟩:=h2 h;rw[J8 hlt,KH,List.nodup_append];refine⟨hu g1,by simp,?_⟩;intro a ha b hb;obtain⟨f,hf,rfl⟩:=JP.1 ha;obtain⟨j,hj,rfl⟩:=List.mem_iff_getElem.1 hf;rw[Jr]at hj
   have:=g2 j (by omega)
   rw[Is old.vars j (by omega),Is old.vars i hlt]at this;simp at hb;rw[hb];simpa using this)
  simp only[Kb]at h3;simp -implicitDefEqProofs only[L3_1,aJ,aX,fm2,vw,ao,iv,t6,aA,Ia,Ic h1,h3,h4]
theorem t3(old now:Ap.Mod)(vars:List Val)(ho:old.Lim)(hn:now.Lim)(hl:vars.length<=140737488355328)(hv:∀v∈vars,v.Lim):ai pg 3 [old.av,now.av,vals vars]=M.pure (.bool true):=by
 obtain⟨b1,e1,q1⟩:=t9 old ho;obtain⟨b2,e2,q2⟩:=t9 now hn;obtain⟨b3,e3,q3⟩:=t10 vars hl hv;have hcn:aD 9 [] old.av=M.pure old.av:=by simp
 have hc1:gm (.bool false)=M.pure (.bool false):=rfl;rw[C3,gn,gn,fE];have e:S3 (ai pg) aj old.av now.av (vals vars)=M.pure (.bool true):=by
  cases hb:(b1&&b2&&b3)with
  |false=>
   have hb':(!b1||!b2||!b3)=true:=by cases b1<;>cases b2<;>cases b3<;>simp_all
   simp -implicitDefEqProofs only[S3,pB,aC,xw,ao,e1,e2,e3,iq,mr,hb',aA,Iu]
  |true=>
   simp only[H6]at hb;have hb':(!b1||!b2||!b3)=false:=by rw[hb.1.1,hb.1.2,hb.2];rfl
   have h:=wY old now vars (q1 hb.1.1) (q2 hb.1.2) (q3 hb.2).2 old.vars.length 0 true rfl (Jk _) (fun _=>by simp);simp only[Kb]at h;have a0:nth (aa old.av) 0= .str old.name:=rfl;have a1:nth (aa old.av) 1=strs old.uses:=rfl;have a2:nth (aa old.av) 2=bd old.vars:=rfl;have a3:nth (aa old.av) 3=bQ old.init:=rfl;have a4:nth (aa old.av) 4=gE old.funcs:=rfl;have a6:nth (aa old.av) 6=bd old.old:=rfl;have a7:nth (aa old.av) 7=bQ old.forward:=rfl;have a8:nth (aa old.av) 8=bQ old.back:=rfl;rw[<- h];simp -implicitDefEqProofs only[S3,pB,aC,xw,ao,e1,e2,e3,iq,mr,hb',aA,H9,Ir,hcn,hc1,a0,a1,a2,a3,a4,a6,a7,a8]
 rw[e];exact jb _
end Go.Proofs.YtihmmkncokjbaaaGreatDoor
namespace Go.Proofs.YtihmmkncokjbaaaGreatDoor.stateStays
open Go Go.Av Go.Av.Ap Go.ChangeShapes Go.WideShapes Go.ChangeAt Go.RowKit Go.Joins Go.Deep
set_option maxRecDepth 1000000
def kids:Kids Tryz.prog (· < Tryz.prog.types.size):=kids_rows (by kernel_rfl) (by kernel_rfl)
def sQ:∀t e,t<Tryz.prog.types.size->Tryz.prog.underlying t=some (.slice e)->0<Tryz.prog.cellsOf e:=slices_full_of Tryz.prog (by kernel_rfl)
def yQ(H:Type)(enc:TypeId×Value->H)(W:World)(base:Nat)(args:Array Value)(ds gs:List (DataW H))(before:List MemPlace)(hval:∀(j:Nat) t v,Tryz.f3.params[j]? = some t->args[j]? = some v->Value.okWide Tryz.prog W .any base t v)(hW:DataW.Whole enc Tryz.prog Tryz.f3.params.toList Rows.stateStaysSpec.vars false W args.toList ds gs before)(hz:(DataW.weightsEach Tryz.prog (Tryz.f3.params.toList++Rows.stateStaysSpec.plain.varTypes Tryz.prog) (ds++gs)).all (· <=reachBytes)=true)(hL:laidMetH Tryz.prog Rows.stateStaysRow.laid W)(hS:W.ShapedOpen Tryz.prog):
  Calls Tryz.prog 3 args W fun e W'=>∃v,e= .returned v/\Rows.stateStaysSpec.post enc Tryz.prog Tryz.f3 false true false false W args v W':=by
 have hW':=hW;obtain⟨p,q,hA0,hV,rfl,hfz,hnd⟩:=hW;have hA:DataW.TrodAll enc Tryz.prog W 0 (fun _=>true) true Tryz.f3.params.toList args.toList ds p:=hA0;have hA1:=hA;rw[Tryz.params3]at hA hval hz;obtain⟨v0,vs0,d0,ds0,p0,q0,ha0,rfl,rfl,h0,r0⟩:=trodAll_cons hA;obtain⟨v1,vs1,d1,ds1,p1,q1,ha1,rfl,rfl,h1,r1⟩:=trodAll_cons r0;obtain⟨v2,vs2,d2,ds2,p2,q2,ha2,rfl,rfl,h2,r2⟩:=trodAll_cons r1;obtain⟨hnil,rfl,rfl⟩:=trodAll_nil r2;subst hnil;subst ha2;subst ha1;obtain rfl:args= #[v0,v1,v2]:=by cases args;simp_all
 obtain⟨rfl,rfl⟩:=trodVars_none hV;obtain⟨x0,k0,o0⟩:=mM (fun N=>(zX N).le (J6 N)) (fun a=>rfl) Tryz.underlying29 (hval 0 29 v0 rfl rfl) h0 (jI hz (j:=0) rfl rfl);obtain⟨x1,k1,o1⟩:=mM (fun N=>(zX N).le (J6 N)) (fun a=>rfl) Tryz.underlying29 (hval 1 29 v1 rfl rfl) h1 (jI hz (j:=1) rfl rfl);obtain⟨x2,k2,o2⟩:=wb (fun N=>BV N) Tryz.underlying30 (hval 2 30 v2 rfl rfl) h2 (jI hz (j:=2) rfl rfl);clear hA0;simp only[I7]at hW' hA1;have hlt:=hW'.lt;have hv:aW (jh W) [] [x0.av,x1.av,vals x2] [v0,v1,v2]:=by
  simp only[aW];exact⟨_,_,rfl,k0,_,_,rfl,k1,_,_,rfl,k2,rfl⟩
 refine (wN GQ aE (DO hL hS) hv (by rw[t3 x0 x1 x2 o0 o1 o2.1 o2.2];rfl)).mono fun e W' ⟨he,hb⟩=>?_;subst he;exact⟨_,rfl,oE (pv:=[]) hW' (fun _ _ _=>trodAll_cons_mk (shut_bool Tryz.underlying4 _) trodAll_mk0) (fun sp hsp=>
   tf kids sQ (by rw[Tryz.params3];decide +kernel) hA1 hlt hb sp hsp) (fun _ _=>rfl) (by simp)
  hb (ok_one (by kernel_rfl) rfl (okWide_bool_mk Tryz.underlying4 _))⟩
def reads(os:Os){H:Type}(enc:TypeId×Value->H):∃ds places,DataW.whole enc Tryz.prog ((kY os).forCall (fun _ _=>0) ⟨#[],#[.agg #[.string ⟨#[]⟩,.slice none 0 0,.slice none 0 0,.slice none 0 0,.slice none 0 0,.bool false,.slice none 0 0,.slice none 0 0,.slice none 0 0],.agg #[.string ⟨#[]⟩,.slice none 0 0,.slice none 0 0,.slice none 0 0,.slice none 0 0,.bool false,.slice none 0 0,.slice none 0 0,.slice none 0 0],.slice none 0 0],[]⟩).memory Tryz.f3.params.toList Rows.stateStaysSpec.vars false #[.agg #[.string ⟨#[]⟩,.slice none 0 0,.slice none 0 0,.slice none 0 0,.slice none 0 0,.bool false,.slice none 0 0,.slice none 0 0,.slice none 0 0],.agg #[.string ⟨#[]⟩,.slice none 0 0,.slice none 0 0,.slice none 0 0,.slice none 0 0,.bool false,.slice none 0 0,.slice none 0 0,.slice none 0 0],.slice none 0 0].toList 8=some (ds,[],places):=
 ⟨[.agg [.lit (.string []),.nil,.nil,.nil,.nil,.lit (.bool false),.agg [.nil,.nil,.nil]],.agg [.lit (.string []),.nil,.nil,.nil,.nil,.lit (.bool false),.agg [.nil,.nil,.nil]],.nil],[],by kernel_rfl⟩
def lifted(os:Os)(started:os.Started)(H:Type)(enc:TypeId×Value->H)(F:Stop.Interp):
  ReturnsInHanded {} Tryz.checked os 3 .any ((OpenSpec.ofChange Rows.stateStaysSpec).preRow enc Tryz.prog Tryz.f3 Rows.stateStaysRow.domain false Rows.stateStaysRow.laid) (((OpenSpec.ofChange Rows.stateStaysSpec).at F).post enc Tryz.prog Tryz.f3 false true false false):=by
 obtain⟨ds,places,hx⟩:=reads os enc;refine returnsInHanded_of_row (C:=Tryz.checked) (s:=OpenSpec.ofChange Rows.stateStaysSpec) GY started (by kernel_rfl) Tryz.func3
  (witness_row_atRef (enc:=enc) (C:=Tryz.checked) false (kY os) #[.agg #[.string ⟨#[]⟩,.slice none 0 0,.slice none 0 0,.slice none 0 0,.slice none 0 0,.bool false,.slice none 0 0,.slice none 0 0,.slice none 0 0],.agg #[.string ⟨#[]⟩,.slice none 0 0,.slice none 0 0,.slice none 0 0,.slice none 0 0,.bool false,.slice none 0 0,.slice none 0 0,.slice none 0 0],.slice none 0 0] rfl (by kernel_rfl) (by kernel_rfl) (by kernel_rfl)
   (OpenSpec.preRow_of_cond 8 hx (by kernel_rfl) (fun k hk=>by cases hk) (by kernel_rfl) (zy os _))) ?_
 intro W base args ds gs before hval hW _ _ hz hL hS _;exact yQ H enc W base args ds gs before hval hW hz hL hS
end Go.Proofs.YtihmmkncokjbaaaGreatDoor.stateStays
