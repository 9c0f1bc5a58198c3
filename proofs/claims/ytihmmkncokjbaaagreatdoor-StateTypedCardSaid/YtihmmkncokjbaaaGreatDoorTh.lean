/- What the functions of the seat compute, part 8: the texts of the claim, one behind the other. Conditions: bounds, as each theorem names them. -/
import Derived.Test.YtihmmkncokjbaaaGreatDoorTg
set_option linter.defProp false
set_option linter.unusedSimpArgs false
set_option linter.unusedVariables false
namespace Go.Proofs.YtihmmkncokjbaaaGreatDoor
open Go Go.Av Go.Av.Ap
set_option maxRecDepth 100000
def Oj{t e:Nat}{ti ei:TI}(ht:T t=some ti)(hk:ti.kind= .slice e)(he:T e=some ei){l off len sz:Nat}{ag:Bool}{n:Int}(h0:0<=n)(h1:n<len):ak T t (.hs l off len sz ag) (.int .i64 n)=some (.hp l (off+n.toNat*ei.size)):=by
 simp[ak,ht,hk,he,h0,h1]
def CM{p:List Mod}{nm:SNm}{tag:Nat->Nat}{dv cv sv:AV}{m:Ms}{h:Hp}(R:RepT (rowP p nm.told) nm tag dv cv sv m h)(d:Deed)(hb:m.deeds.length<=2000000):
  ∃dv' h1 h2,appH T 159 false dv (.sl [d.av]) h= .ok dv' h1/\bP T 159 (.hp 0 9) dv' h1= .ok (.tup []) h2/\fu p nm { m with deeds:=m.deeds++[d] } h2:=by
 obtain⟨h1,dv',tag',e1,K,H,hc⟩:=xI (T:=T) (t:=159) rfl rfl rfl rfl (by decide) rfl (by decide) (x:=d.av) R.ds (fun h0=>by
  have:m.deeds=[]:=PL h0;rw[this];rfl) (fun cs h=>by rw[h];exact um _) (oD d) (show (m.deeds.length+1)*24<=140737488355328 by omega)
 have h0:=(K 0 _ R.r0 (by rw[R.t0];decide)).1;refine⟨dv',h1,_,e1,iI rfl h0 (i6 hc).1 (show 9+1<=12 by decide) (by decide),?_⟩;have hac:ab dv'=[dv']:=(i6 hc).2.1
 have:=R.pushDeed (m':={ m with deeds:=m.deeds++[d] }) K H rfl rfl rfl id
 refine⟨tag',dv',cv,sv,?_⟩;rw[hac];exact this
theorem vK{p:List Mod}{nm:SNm}{m:Ms}{h:Hp}(R:fu p nm m h)(hb:m.deeds.length<=2000000)(e:Exp)(v:Val)(n:Int)(x1 x2 x3 x4:AV):
  iw p nm Val.av (X.ok (lu n) { m with deeds:=m.deeds++[⟨e.n,v.n,n⟩] }) (K175_0 (ai pg) aj [.hp 0 0,.ip (ab e.av),.ip (ab v.av),.int .i64 n,x1,x2,x3,x4] h):=by
 obtain⟨tag,dv,cv,sv,R0⟩:=R;obtain⟨dv',h1,h2,e1,e2,R2⟩:=CM R0 ⟨e.n,v.n,n⟩ hb;have hB:aU T false 242 [(0,.int .i64 e.n),(1,.int .i64 v.n),(2,.int .i64 n)]=some (Deed.av ⟨e.n,v.n,n⟩):=rfl;have hBS:aJ T 159 1 [(0,Deed.av ⟨e.n,v.n,n⟩)]=some (.sl [Deed.av ⟨e.n,v.n,n⟩]):=rfl;have ld:∀g:AV->M AV,ae (aW T 159 (.hp 0 9)) g h=g dv h:=fun g=>cI (dq rfl rfl R0.r0 rfl);generalize hcode:K175_0 (ai pg) aj [.hp 0 0,.ip (ab e.av),.ip (ab v.av),.int .i64 n,x1,x2,x3,x4] h=code;simp -implicitDefEqProofs only[K175_0,aH,aM,eQ,ao,FH164_4,FH162_2,PX,Nat.reduceAdd,ld,a6,FA66_1,P6,PT,LD3,eq,FA45_1,hB,hBS]at hcode;rw[cI e1]at hcode;rw[cI e2]at hcode;simp -implicitDefEqProofs only[t168,aB]at hcode;rw[oQ]at hcode;rw[<- hcode];exact dN R2
def CW{p:List Mod}{nm:SNm}{m:Ms}{h:Hp}(R:fu p nm m h)(w:List Int)(hw0:m.world=[]->w=[]):∃h1,(m.world≠[]->fu p nm { m with world:=w } h1)/\(∀f:AV->M AV,ae (aW T 158 (.hp 0 1)) f h=f (C5 nm.told m.world) h)/\
  (m.world≠[]->∀f:AV->M AV,ae (bP T 158 (.hp 0 1) (ints w)) f h=f (.tup []) h1):=by
 obtain⟨tag,dv,cv,sv,R⟩:=R;refine⟨h.set 0 (setCells (rowP p nm.told m dv cv sv) 1 (ab (ints w))),fun hne=>⟨tag,dv,cv,sv,?_⟩,fun f=>cI (dq rfl rfl R.r0 rfl),fun _ f=>cI (iI rfl R.r0 rfl (show 1+1<=12 by decide) (by decide))⟩;have ht:nm.told=false:=by
  cases ht:nm.told with
  |false=>rfl
  |true=>exact absurd (R.wok ht) hne
 have e:setCells (rowP p nm.told m dv cv sv) 1 (ab (ints w))=rowP p nm.told { m with world:=w } dv cv sv:=by
  simp only[ht];rfl
 rw[e];exact R.set0 rfl rfl rfl hw0
theorem t175{p:List Mod}{nm:SNm}{n:Nat}(LB:LimB p)(IH:pE p nm n):Al p nm n:=by
 intro own ns vs e m h hop hcn R G hmu hn hs he;obtain⟨l1,l2⟩:=ka he;have hscl:ah T 168 (.ip [.int .i64 own,strs ns,vals vs])=some (bD own ns vs):=rfl;have hown:ah T 3 (.ip [.int .i64 own,strs ns,vals vs])=some (.int .i64 own):=rfl;generalize hcode:ai pg 175 [.hp 0 0,bD own ns vs,e.av] h=code;rw[C175]at hcode;obtain⟨op,en,es,em,en2,ea⟩:=e;simp only[lA]at hop;unfold oR at hcn;simp only[lA,gP]at hcn;have hlen:op=16\/op=18->∃a,ea=[a]:=by
  intro h;apply Kq;rcases h with rfl|rfl
  ·simp[aQ]at hcn;omega
  ·simp[aQ]at hcn;omega
 by_cases h16:op=16
 ·obtain⟨a,rfl⟩:=hlen (.inl h16);subst h16;have ha:a8 a:=br he (by simp);simp -implicitDefEqProofs only[S175,ek,a6,lA,sn,zO,CB,eP,gP,FA66_0,FA66_1,FA66_5,P6,PT,LD3,LD24,ao,gQ,QG,au,PF,hscl,My]at hcode;have hex:ah T 66 (.ip [.int .i64 a.op,.int .i64 a.n,.str a.s,.str a.m,strs a.names,bX a.args])=some a.av:=by
   have:ah T 66 (.ip (ab a.av))=some a.av:=by simp
   rwa [a6]at this
  simp -implicitDefEqProofs only[hex,ao]at hcode;rw[<- hcode];simp only[rW,lA,PF,r6];have e0:([a]:List Exp)[0]! = a:=rfl;simp only[gP,e0];refine ci (IH own ns vs a _ _ R G hn hs ha) fun v s1 h2 hv R2=>?_;obtain⟨G2,rv,f2⟩:=G.eval hs.right hv;generalize hcode2:ae (aN 4 v.av) _ h2=code2;simp -implicitDefEqProofs only[aY (dL v),aB,cD,eq,FA45_0,PT,LD3,ao,gQ,be,eW,aH,rr]at hcode2;by_cases hk:v.kind=0
  ·have hk':(v.kind== 0)=true:=by simp[hk]
   simp only[hk',cy,PF]at hcode2;simp only[Ps hk];by_cases hn4':(Exp.mk 16 en es em en2 [a]).n=1\/(Exp.mk 16 en es em en2 [a]).n=2\/(Exp.mk 16 en es em en2 [a]).n=4\/(Exp.mk 16 en es em en2 [a]).n=8
   ·have hn4:en=1\/en=2\/en=4\/en=8:=hn4';have hn':(en== 1||en== 2||en== 4||en== 8)=true:=by
     simp only[Qn,PR];omega
    simp only[hn',PF]at hcode2;simp only[Ps hn4'];obtain⟨h3,R3,lw,sw⟩:=CW R2 s1.world.tail (fun h=>by rw[h];rfl);have hmu2:=(pY n own ns vs a m v s1 G.fuel hv).1;have hdl:s1.deeds.length<=2000000:=by
     have:=G2.fuel
     simp only[mu]at hmu2 hmu;omega
    show iw p nm Val.av (X.ok (lu (s1.world.headD 0)) { s1 with world:=s1.world.tail,deeds:=s1.deeds++[⟨en,v.n,s1.world.headD 0⟩] }) code2;have lenw:aO T 158 (C5 nm.told s1.world)=some (.int .i64 s1.world.length):=by
     unfold C5;split
     ·rename_i ht;obtain⟨_,_,_,_,R2'⟩:=R2;rw[R2'.wok ht];rfl
     ·exact GP _
    simp -implicitDefEqProofs only[qS,eQ,ao,FH164_1,PX,lw,lenw,ao,ud,au]at hcode2;cases hwd:s1.world with
    | nil=>
     rw[hwd]at hcode2;simp only[Qa,show decide ((0:Int)<((0:Nat):Int))=false by decide,Pr,PE]at hcode2
     have:=vK R2 hdl (.mk 16 en es em en2 [a]) v 0 (.int .i64 0) (.int .i64 0) (.sl []) (.sl [])
     simp only[a6,eq,lA,sn,zO,CB,eP,gP]at this;rw[hcode2]at this;have e5:({ s1 with deeds:=s1.deeds++[⟨en,v.n,0⟩] }:Ms)= { s1 with world:=([]:List Int).tail,deeds:=s1.deeds++[⟨en,v.n,([]:List Int).headD 0⟩] }:=by
      cases s1;simp only at hwd;subst hwd;rfl
     rw[e5]at this;exact this
    | cons x wl=>
     have hd:decide ((0:Int)<(((x:: wl).length:Nat):Int))=true:=by simp<;>omega
     have hne:s1.world≠[]:=by rw[hwd];simp
     have sw:=sw hne;have R3:=R3 hne;have hwv:C5 nm.told s1.world=ints s1.world:=by
      unfold C5;rw[if_neg];intro ht;obtain⟨_,_,_,_,R2'⟩:=R2;exact hne (R2'.wok ht)
     rw[hwv]at lw;rw[hwd]at hcode2 sw R3 lw;have hix:ak T 158 (ints (x:: wl)) (.int .i64 0)=some (.ip [.int .i64 x]):=by
      have:=Lp (l:=x:: wl) (n:=0) (by omega) (by simp<;>omega)
      simpa using this
     have hsl:dT T 158 (ints (x:: wl)) (some (.int .i64 1)) none none=some (ints wl):=by
      have:=CZ (T:=T) (t:=158) (e:=3) rfl rfl rfl ((x:: wl).map (AV.int .i64)) (by exact CG _) (n:=1) (by omega) (by simp<;>omega)
      simpa [ints]using this
     simp only[List.tail_cons]at sw R3;simp -implicitDefEqProofs only[hd,PF,lw,hix,ao,LD3,hsl,sw]at hcode2
     have:=vK R3 hdl (.mk 16 en es em en2 [a]) v x (.int .i64 0) (.int .i64 0) (.sl []) (.sl [])
     simp only[a6,eq,lA,sn,zO,CB,eP,gP]at this;rw[hcode2]at this;exact this
   ·have hn4:¬(en=1\/en=2\/en=4\/en=8):=hn4';have hn':(en== 1||en== 2||en== 4||en== 8)=false:=by
     rw[<- Rx];simp only[Qn,PR];omega
    simp only[hn',Pr,PE]at hcode2;simp only[if_neg hn4'];rw[<- hcode2];exact eR R2
  ·have hk':(v.kind== 0)=false:=by simpa using hk
   simp only[hk',cy,Pr,PE]at hcode2;simp only[if_neg hk];rw[<- hcode2];exact eR R2
 have h16':((op:Int)== 16)=false:=by simpa using h16
 have h16x:¬((Exp.mk op en es em en2 ea).op=16):=h16;unfold rW;simp only[if_neg h16x];unfold rV;simp -implicitDefEqProofs only[S175,ek,a6,lA,sn,zO,CB,eP,gP,FA168_0,FA66_0,FA66_1,FA66_2,FA66_5,P6,PT,LD3,LD24,ao,gQ,h16',Pr,au,PE,hown,hscl,jZ,be,qS]at hcode;by_cases ho:own<0
 ·have ho':decide (0<=own)=false:=by simp;omega
  simp only[ho',cy,Pr,PE]at hcode;simp only[Ps ho];rw[<- hcode];exact eR R
 have ho':decide (0<=own)=true:=by simp;omega
 simp only[ho',cy,PF]at hcode;simp only[if_neg ho];have hol:=hs.own;have hlt:own.toNat<p.length:=by omega
 have hix:=BD (l:=p) (n:=own) (by omega) hol;rw[Pz p own.toNat hlt]at hix;have e3:p[own.toNat]?.getD default=p[own.toNat]:=by rw[Pv hlt];rfl
 have hvl:=(LB.lim.funcsAt own.toNat).2;rw[e3]at hvl |-;have hff:=N6 p[own.toNat].vars hvl (.mk op en es em en2 ea);simp only[a6,lA,sn,zO,CB,eP,gP]at hff;have Rk:=R;obtain⟨tag,dv,cv,sv,R0⟩:=R;have lm:∀g:AV->M AV,ae (aW T 92 (.hp 0 0)) g h=g (fZ p) h:=fun g=>cI (dq rfl rfl R0.r0 (by rw[<- pR (t:=nm.told) (fun e=>by subst e;simp at hlt)];rfl));have lsv:∀g:AV->M AV,ae (aW T 89 (.hp 0 11)) g h=g nm.sv h:=fun g=>cI (dq rfl rfl R0.r0 (by rw[<- R0.sve];rfl));simp -implicitDefEqProofs only[eQ,ao,FH164_0,FH164_4,FH162_4,PX,Nat.reduceAdd,lm,hix,bE,FA29_2,P6,PT,LD23,hff,dc,aB,jZ,be]at hcode;by_cases hi:eh p[own.toNat].vars (Exp.mk op en es em en2 ea).s<0
 ·have hi':decide (0<=eh p[own.toNat].vars es)=false:=by
   have:eh p[own.toNat].vars es<0:=hi;simp;omega
  simp only[hi',cy,Pr,PE]at hcode;simp only[Ps hi];rw[<- hcode];exact eR Rk
 have hi0:0<=eh p[own.toNat].vars es:=by
  have:¬eh p[own.toNat].vars es<0:=hi;omega
 have hi':decide (0<=eh p[own.toNat].vars es)=true:=by simp;omega
 simp only[hi',cy,PF,lsv]at hcode;simp only[if_neg hi];have hil:eh p[own.toNat].vars es<p[own.toNat].vars.length:=by
  rcases nk (fun(x:bd)=>x.1== es) p[own.toNat].vars 0 with k|k
  ·have:eh p[own.toNat].vars es= -1:=k;omega
  ·have:eh p[own.toNat].vars es=aV (fun(x:bd)=>x.1== es) p[own.toNat].vars 0:=rfl;omega
 obtain⟨l,hl1,hl2⟩:=G.shape own.toNat _ (Pv hlt);have hne:l≠[]:=fun e=>by rw[e]at hl2;simp at hl2;omega
 have hsl:own.toNat<m.state.length:=(PK.1 hl1).1;obtain⟨q,r,v1,v2,v3,v4,v5,v6⟩:=R0.var (fun _=>rfl) hl1 hne;have hx1:ak T 89 nm.sv (.int .i64 own)=some (.hp q (own.toNat*2)):=by
  rw[v1]
  have:=Oj (t:=89) rfl rfl rfl (l:=q) (off:=0) (len:=m.state.length) (sz:=2) (ag:=true) (n:=own) (by omega) (by omega)
  rw[this];simp
 have lv:∀g:AV->M AV,ae (aW T 30 (.hp q (own.toNat*2+1))) g h=g (.hs r 0 l.length 4 true) h:=fun g=>cI (dq rfl rfl v2 v3);simp -implicitDefEqProofs only[hx1,ao,FH94_1,lv]at hcode;generalize hI:eh p[own.toNat].vars es=I at *;have hI2:eh p[own.toNat].vars (Exp.mk op en es em en2 ea).s=I:=hI;rw[hI2];have hx2:ak T 30 (.hs r 0 l.length 4 true) (.int .i64 I)=some (.hp r (I.toNat*4)):=by
  have:=Oj (t:=30) rfl rfl rfl (l:=r) (off:=0) (len:=l.length) (sz:=4) (ag:=true) (n:=I) (by omega) (by omega)
  rw[this];simp
 have hk:I.toNat<l.length:=by omega
 by_cases h18:op=18
 ·have h18x:(Exp.mk op en es em en2 ea).op=18:=h18;simp only[Ps h18x];obtain⟨a,rfl⟩:=hlen (.inr h18);have ha:a8 a:=br he (by simp);have hb18:(op== 18)=true:=by simp[h18]
  have hex:ah T 66 (.ip (ab a.av))=some a.av:=by simp
  have e0:(Exp.mk op en es em en2 [a]).args[0]! = a:=rfl;simp -implicitDefEqProofs only[hb18,PF,My,ao,hex]at hcode;rw[<- hcode,e0];refine ci (IH own ns vs a _ _ Rk G hn hs ha) fun v s1 h2 hv R2=>?_;obtain⟨G2,rv,f2⟩:=G.eval hs.right hv;obtain⟨tag2,dv2,cv2,sv2,R20⟩:=R2;obtain⟨l',hl1',hl2'⟩:=G2.shape own.toNat _ (Pv hlt);have hne':l'≠[]:=fun e=>by rw[e]at hl2';simp at hl2';omega
  obtain⟨q',r',w1,w2,w3,w4,w5,w6⟩:=R20.var (fun _=>rfl) hl1' hne';have hll:l'.length=l.length:=by omega
  have hrr:r'=r:=by
   rw[v3]at w3;simp only[Pn,AV.hs.injEq]at w3;exact w3.1.symm
  subst hrr;have hst:bP T 45 (.hp r' (I.toNat*4)) v.av h2= .ok (.tup []) (h2.set r' (bK (l'.set I.toNat v))):=by
   have:=iI (T:=T) (t:=45) rfl w5 (v:=v.av) (k:=I.toNat*4) (dL v) (by rw[kz];show I.toNat*4+4<=_;omega) (by decide)
   rw[this,vD (by omega)]
  have R3:=w6 I.toNat v (by omega);have hset:((s1.state[own.toNat]?.getD []).set I.toNat v)=l'.set I.toNat v:=by rw[hl1'];rfl
  have hld2:aW T 45 (.hp r' (I.toNat*4)) (h2.set r' (bK (l'.set I.toNat v)))= .ok v.av (h2.set r' (bK (l'.set I.toNat v))):=by
   have hlt2:r'<h2.length:=(PK.1 w5).1
   have:=tf (T:=T) (t:=45) rfl rfl (h:=h2.set r' (bK (l'.set I.toNat v))) (l:=r') (k:=I.toNat*4) (Qo hlt2) (by rw[kz,Q0];show I.toNat*4+4<=_;omega)
   rw[this];have hg:=nR (l:=l'.set I.toNat v) (k:=I.toNat) (by simp;omega);show Av.R.ok (AV.agg (((bK (l'.set I.toNat v)).drop (I.toNat*4)).take 4)) _=_;rw[hg,List.getElem_set_self];rw[Val.av_eq];rfl
  generalize hcode2:ae (af (ak T 30 (.hs r' 0 l.length 4 true) (.int .i64 I))) _ h2=code2;simp -implicitDefEqProofs only[hx2,ao]at hcode2;rw[cI hst]at hcode2;simp -implicitDefEqProofs only[K175_1,aH,aM,hx2,ao]at hcode2;rw[cI hld2,oQ]at hcode2;rw[<- hcode2];exact⟨_,rfl,tag2,dv2,cv2,sv2,R3⟩
 ·have h18x:¬((Exp.mk op en es em en2 ea).op=18):=h18;have hb18:(op== 18)=false:=by simpa using h18
  have hld2:aW T 45 (.hp r (I.toNat*4)) h= .ok (l[I.toNat]).av h:=by
   have:=tf (T:=T) (t:=45) rfl rfl (h:=h) (l:=r) (k:=I.toNat*4) v5 (by rw[kz];show I.toNat*4+4<=_;omega)
   rw[this];have hg:=nR (l:=l) (k:=I.toNat) hk;show Av.R.ok (AV.agg (((bK l).drop (I.toNat*4)).take 4)) _=_;rw[hg,Val.av_eq];rfl
  simp only[if_neg h18x];simp -implicitDefEqProofs only[hb18,Pr,PE,K175_1,aH,aM,hx2,ao]at hcode;rw[cI hld2,oQ]at hcode;rw[<- hcode];have hgs:mj m.state own.toNat I.toNat=l[I.toNat]:=by
   simp[mj,P4,hl1,hk]
  show iw p nm Val.av (X.ok (mj m.state own.toNat I.toNat) m) _;rw[hgs];exact dN Rk
theorem Ml{p:List Mod}{nm:SNm}(LB:LimB p):∀n,pE p nm n
 |0=>fun own ns vs e m h R G hn hs he=>⟨h,E1 R (by omega) _ e,R⟩
 |n+1=>by
  have IH:=Ml (nm:=nm) LB n;exact B9 IH (t173 IH) (t174 LB IH) (t175 LB IH)
def AW{m:M AV}{r:AV}{h':Hp}(h1:m []= .ok r h')(h2:∀g,cl g r=r):aI m=M.pure r:=by
 funext h;unfold aI;rw[h1];simp only[M.pure];have:kC 6 h' r=r:=h2 _;rw[this]
def GD(l:List Val):(l.any fun v=>!bF 4 v)= !(l.all (bF 4)):=by
 induction l with
 |nil=>rfl
 |cons v l ih=>simp only[Si,P5,ih];cases bF 4 v<;>simp
def OI(v:Val):ah T 45 (.ip (ab v.av))=some v.av:=by simp
def t131(v:Val)(hv:v.sz<=4611686018427387904):ai pg 131 [v.av]=M.pure (.bool !bF 4 v):=by
 rw[C131];simp only[S131,EQ,OI,ao,t49 v hv,aB,gn];exact bI fun g=>rfl
def GT(k:Nat)(hk:∀v:Val,v.sz<=4611686018427387904->ai pg k [v.av]=M.pure (.bool !bF 4 v))(l:List Val)(hl:bY l<=4611686018427387904):ai pg 130 [vals l,.fn (.func k) [] []]=M.pure (.bool !(l.all (bF 4))):=by
 have:=t130 (.fn (.func k) [] []) (fun v=>!bF 4 v) l (QC (mR l) hl) (fun g=>rfl) (fun v hv=>hk v (QC (je hv) hl))
 rw[this,GD]
def t132(f:AV)(h:Hp):ai pg 132 [f] h=ym 39 .i64 (.agg [.int .i64 0,.int .i64 0,.sl [],.sl []]) (bu (ai pg) f [] h):=by
 have e:ai pg 132 [f]=yk 39 .i64 (.agg [.int .i64 0,.int .i64 0,.sl [],.sl []]) (ai pg) [f]:=fN aF rfl _;rw[e];rfl
def Oo:SNm:=⟨[],.hn,[],true⟩
def Fz:LimB []:=⟨⟨by simp,fun m hm=>by cases hm⟩,fun m hm=>by cases hm⟩
def H9:fu [] Oo (de [] 100000 []) [[.hn,.hn,.int .i64 100000,.int .i64 0,.int .i64 0,.int .i64 0,.int .i64 0,.hn,.hn,.hn,.hn,.hn]]:=
 ⟨fun _=>0,.hn,.hn,.hn,rfl,rfl,.inl ⟨rfl,rfl⟩,.inl ⟨rfl,rfl⟩,.inl ⟨rfl,rfl⟩,rfl,fun _=>rfl⟩
def Fi:GoodM [] (de [] 100000 []):=⟨⟨fun l hl=>by simp[de]at hl,fun c hc=>by simp[de]at hc⟩,by simp[mu,de],by simp[de],by simp[de],fun i x hx=>by simp at hx⟩
def jc:Rs Val->AV
 |.ok v _=>.tup [v.av,.int .i64 0]
 |.er e _=>.tup [Val.av default,.int .i64 e]
def uh(g)(v:Val)(e:Int):cl g (.tup [v.av,.int .i64 e])= .tup [v.av,.int .i64 e]:=by simp[cl,dp]
theorem t85(e:Exp)(ns:List a7)(vs:List Val)(he:a8 e)(hn:ns.length<=274877906944)(hv:bY vs<=4611686018427387904):ai pg 85 [e.av,strs ns,vals vs]=M.pure (jc (fW e ns vs)):=by
 have ha:=GT 131 t131 vs hv;have hl1:ah T 22 (.ip (ab (strs ns)))=some (strs ns):=rfl;have hl2:ah T 30 (.ip (ab (vals vs)))=some (vals vs):=rfl;have hB:aU T true 164 [(2,.int .i64 100000)]=some (.agg [.hn,.hn,.int .i64 100000,.int .i64 0,.int .i64 0,.int .i64 0,.int .i64 0,.hn,.hn,.hn,.hn,.hn]):=rfl;have hZ:aU T false 45 []=some (Val.av default):=rfl;have hcl:∀h:AV->M AV,ae (newH [.hn,.hn,.int .i64 100000,.int .i64 0,.int .i64 0,.int .i64 0,.int .i64 0,.hn,.hn,.hn,.hn,.hn]) h []=h (.hp 0 0) [[.hn,.hn,.int .i64 100000,.int .i64 0,.int .i64 0,.int .i64 0,.int .i64 0,.hn,.hn,.hn,.hn,.hn]]:=fun h=>rfl;rw[C85,mW,jk,yS];unfold fW;by_cases hr:ns.length=vs.length/\vs.all (bF 4)=true
 ·rw[Ps hr];have hne:((ns.length:Int) != (vs.length:Int))=false:=by simp[hr.1]
  have hrs:kP ns vs:=⟨hr.1,fun v hv=>(PG.1 hr.2) v hv⟩;have hev:=Ml (nm:=Oo) Fz 100000 (-1) ns vs e _ _ H9 Fi (by simp[de]) ⟨by simp,hrs,by simp only[de];omega⟩ he;have hcell:aN 1 (.hp 0 0)=M.pure (.agg [.hp 0 0]):=rfl;have hBS:aU T false 168 [(0,.int .i64 (-1)),(1,strs ns),(2,vals vs)]=some (bD (-1) ns vs):=rfl;have hlp:ah T 157 (.ip [.hp 0 0])=some (.hp 0 0):=rfl;have hex:ah T 66 (.ip (ab e.av))=some e.av:=by simp
  have hcall:∀h,ai pg 133 [.ip [.hp 0 0],.ip (ab (strs ns)),.ip (ab (vals vs)),.ip (ab e.av)] h=ae (ai pg 134 [.hp 0 0,bD (-1) ns vs,e.av]) (fun v=>ae (ay 4 [] v) fun w=>M.pure (AV.agg [nth (ab w) 0,nth (ab w) 1,nth (ab w) 2,nth (ab w) 3])) h:=fun h=>by
   rw[C133];simp -implicitDefEqProofs only[S133,hlp,hl1,hl2,hex,hBS,ao]
  have hS:S85 (ai pg) aj e.av (strs ns) (vals vs) []= .ok (jc (bR [] 100000 (-1) ns vs e (de [] 100000 []))) []\/∃h',S85 (ai pg) aj e.av (strs ns) (vals vs) []= .ok (jc (bR [] 100000 (-1) ns vs e (de [] 100000 []))) h':=by
   right;simp -implicitDefEqProofs only[S85,hl1,hl2,ao,nU,Dd,lN,hne,bp,ha,aB,gn,hr.2,P3,aH,bS,au,Pr,PE,hB,cD,hcl,hcell];have htry:=t132 (.fn (.func 133) [] [.ip [.hp 0 0],.ip (ab (strs ns)),.ip (ab (vals vs)),.ip (ab e.av)]) [[.hn,.hn,.int .i64 100000,.int .i64 0,.int .i64 0,.int .i64 0,.int .i64 0,.hn,.hn,.hn,.hn,.hn]];have hcv:bu (ai pg) (.fn (.func 133) [] [.ip [.hp 0 0],.ip (ab (strs ns)),.ip (ab (vals vs)),.ip (ab e.av)]) []=ai pg 133 [.ip [.hp 0 0],.ip (ab (strs ns)),.ip (ab (vals vs)),.ip (ab e.av)]:=rfl;rw[hcv,hcall]at htry;have how:=dw hev;generalize bR [] 100000 (-1) ns vs e (de [] 100000 [])=r at how |-;cases r with
   |ok v s=>
    obtain⟨h',e1,_⟩:=how;refine⟨h',?_⟩;rw[e1]at htry;simp only[ym,dL,Pq]at htry;rw[cI htry];simp[jc,M.pure]
   |er c s=>
    obtain⟨h',e1,_⟩:=how;refine⟨h',?_⟩;rw[e1]at htry;have ht:ym 39 .i64 (.agg [.int .i64 0,.int .i64 0,.sl [],.sl []]) (.pan (m0 c) h')= .ok (.tup [Val.av default,.int .i64 c]) h':=rfl;rw[ht]at htry;rw[cI htry];simp[jc,M.pure]
  rcases hS with h|⟨h',h⟩
  ·exact AW h fun g=>by cases bR [] 100000 (-1) ns vs e (de [] 100000 [])<;>exact uh g _ _
  ·exact AW h fun g=>by cases bR [] 100000 (-1) ns vs e (de [] 100000 [])<;>exact uh g _ _
 ·rw [if_neg hr];have hb:((ns.length:Int) != (vs.length:Int)||!(vs.all (bF 4)))=true:=by
   by_cases h1:ns.length=vs.length
   ·have:vs.all (bF 4)=false:=by
     rw[<- Rx];exact fun h2=>hr ⟨h1,h2⟩
    simp[this]
   ·have:((ns.length:Int) != (vs.length:Int))=true:=by
     rw[QL];omega
    simp[this]
  have hgu:ax (.bool ((ns.length:Int) != (vs.length:Int))) false 1 (M.pure [.bool !(vs.all (bF 4))])=M.pure [gv ((ns.length:Int) != (vs.length:Int)) false (.bool !(vs.all (bF 4)))]:=eW _ _ _;have hS:S85 (ai pg) aj e.av (strs ns) (vals vs)=M.pure (.tup [Val.av default,.int .i64 1]):=by
   simp -implicitDefEqProofs only[S85,hl1,hl2,ao,nU,Dd,lN,ha,aB,gn,hgu,aH,rr,hb,au,PF,hZ];simp
  rw[hS];exact bI fun g=>uh g _ _
def qW:Option (List Val)->AV
 |some l=>.tup [vals l,.int .i64 0]
 |none=>.tup [.sl [],.int .i64 7]
def dn:Except Int (List Val)->AV
 |.ok l=>.tup [vals l,.int .i64 0]
 |.error c=>.tup [.sl [],.int .i64 c]
def Fw(o:Option (List Val)):qW o=dn (ml o):=by cases o<;>rfl
def ui(g)(r:Except Int (List Val)):cl g (dn r)=dn r:=by cases r<;>simp[dn,cl,dp]
theorem rZ(a b:Int):am T .lss 3 (.int .i64 a) (.int .i64 b)=some (.bool (decide (a<b))):=rfl
theorem xy(a b:Int):am T .neq 39 (.int .i64 a) (.int .i64 b)=some (.bool (a != b)):=rfl
theorem qw(a b:Int):am T .eql 39 (.int .i64 a) (.int .i64 b)=some (.bool (a== b)):=rfl
def LZ(v:Val):aJ T 30 1 [(0,v.av)]=some (vals [v]):=by rw[v.av_eq];simp[vals,eb,v.av_eq];rfl
theorem NG(s:a7):aJ T 22 1 [(0,.str s)]=some (strs [s]):=rfl
def Ks(f:bd):ah T 37 (.ip (ab (bw f)))=some (bw f):=by simp
theorem Hq(f:bd):aa T 37 (.ip (ab (bw f))) 0=some (.ip ((ab (bw f)).drop 0)):=rfl
theorem Cg(f:bd):aa T 37 (.ip (ab (bw f))) 1=some (.ip ((ab (bw f)).drop 1)):=rfl
def Hx(f:bd):ah T 9 (.ip ((ab (bw f)).drop 0))=some (.str f.1):=by simp
def Cv(f:bd):ah T 35 (.ip ((ab (bw f)).drop 1))=some f.2.av:=by simp
def Na(v:Val):ah T 45 (.ip (ab v.av))=some v.av:=by simp
def NM(e:Exp):ah T 66 (.ip (ab e.av))=some e.av:=by simp
def J7(f:bd):aN 3 (bw f)=M.pure (bw f):=by simp
theorem gp(b:Bool):eG UnOp.not (.bool b)=some (.bool (!b)):=rfl
def t82(x f:bd):ai pg 82 [bw x,.ip (ab (bw f))]=M.pure (.bool (x.1== f.1)):=by
 rw[C82];simp[S82,cl,dp]
theorem FI(fr to:List bd)(vs:List Val)(hfr:fr.length<=140737488355328)(hfv:fr.length=vs.length)(hto:to.length<=1000000)(ht:∀f∈to,f.2.Lim)(hz:∀v∈vs,v.sz<=1099511627776):
  ∀(B A:List bd)(acc:List Val),A++B=to->acc.length=A.length->aj (L44_0 (ai pg) aj) [aK fr,vals vs,vals acc,aK to,.int .i64 to.length,.int .i64 A.length]=M.pure (qW (fg fr vs B acc))
 |[],A,acc,e,ha=>by
  rw[Qm]at e;subst e;have h1:¬((A.length:Int)<(A.length:Int)):=by omega
  rw[FL44_0];simp -implicitDefEqProofs only[L44_0,aH,aM,rZ,ao,au,Pt,if_neg h1,fg,qW]
 | f:: B,A,acc,e,ha=>by
  have hlen:A.length+(B.length+1)=to.length:=by rw[<- e];simp
  have h1:(A.length:Int)<(to.length:Int):=by omega
  have hix:=iK (l:=to) (n:=(A.length:Int)) (by omega) h1;rw[PH,Pz to A.length (by omega),show to[A.length]'(by omega)=f by simp[<- e]]at hix;have hi:=t81 (.fn (.func 82) [] [.ip (ab (bw f))]) (fun x=>x.1== f.1) fr (by omega) (fun g=>by simp[cl,dp]) (fun x _=>t82 x f);have hfa:aV (fun x:bd=>x.1== f.1) fr 0=eh fr f.1:=rfl;rw[hfa]at hi;have hw:IntKind.i64.wrap ((A.length:Int)+1)=((A.length+1:Nat):Int):=bz (by omega);rw[FL44_0,fg];rcases oo (fun x:bd=>x.1== f.1) fr 0 with h2|h2
  ·rw[hfa]at h2;have h3:eh fr f.1<0:=by omega
   simp -implicitDefEqProofs only[L44_0,aH,aM,rZ,ao,au,Pt,Ps h1,hix,Ks,J7,aB,hi,Q9 h3,dZ,List.replicate,cw,PF,Ps (Or.inl h3),qW]
  ·rw[hfa]at h2;have h3:¬eh fr f.1<0:=by omega
   have hlt:(eh fr f.1).toNat<vs.length:=by omega
   have hvx:=p8 (l:=vs) (n:=eh fr f.1) (by omega) (by omega);have hmem:vs[(eh fr f.1).toNat]! ∈vs:=by rw[Pz vs _ hlt];exact Px hlt
   have hH:=t20 f.2 vs[(eh fr f.1).toNat]! (ht f (by rw[<- e];simp)) (hz _ hmem);generalize vs[(eh fr f.1).toNat]! = v at hvx hH |-;cases hx:fp f.2 v with
   |false=>
    rw[hx]at hH;simp -implicitDefEqProofs only[L44_0,aH,aM,rZ,ao,au,Pt,Ps h1,hix,Ks,J7,aB,hi,RF h3,bp,Cg,Cv,hvx,Na,hH,dc,gp,Qe,bS,PF,Ps (Or.inr rfl),or_true,qW]
   |true=>
    rw[hx]at hH;have ih:=FI fr to vs hfr hfv hto ht hz B (A++[f]) (acc++[v]) (by rw[<- e];simp) (by simp[ha]);have eA:(A++[f]).length=A.length+1:=by simp
    rw[eA]at ih;have hap:cQ T 30 (vals acc) (vals [v])=some (vals (acc++[v])):=BC (by simp;omega);have hc:¬(eh fr f.1<0\/true=false):=by simp;omega
    simp -implicitDefEqProofs only[L44_0,aH,aM,rZ,ao,au,Pt,Ps h1,hix,Ks,J7,aB,hi,RF h3,bp,Cg,Cv,hvx,Na,hH,dc,gp,P3,bS,Pr,PE,LZ,hap,dj,hw,ih,if_neg hc]
def t44(fr to:List bd)(vs:List Val)(hfr:fr.length<=140737488355328)(hfv:fr.length=vs.length)(hto:to.length<=1000000)(ht:∀f∈to,f.2.Lim)(hz:∀v∈vs,v.sz<=1099511627776):ai pg 44 [aK fr,aK to,vals vs]=M.pure (dn (ml (fg fr vs to []))):=by
 have h:=FI fr to vs hfr hfv hto ht hz to [] [] rfl rfl;have h':aj (L44_0 (ai pg) aj) [aK fr,vals vs,.sl [],aK to,.int .i64 to.length,.int .i64 0]=M.pure (dn (ml (fg fr vs to []))):=by rw[<- Fw];exact h
 rw[C44,lP,lP,jk];have e:S44 (ai pg) aj (aK fr) (aK to) (vals vs)=M.pure (dn (ml (fg fr vs to []))):=by
  simp -implicitDefEqProofs only[S44,dO,ao,h']
 rw[e];exact bI fun g=>ui g _
def fj(a b:bd):Bool:=a.1== b.1&&(bg a.2&&bg b.2&&jT a.2 b.2)
def t39(a b:Ty)(ha:a.Lim)(hb:b.Lim):ai pg 39 [a.av,b.av]=M.pure (.bool (bg a&&bg b&&jT a b)):=by
 have h1:=t23 a ha;have h2:=t23 b hb;have h3:=t79 _ a b (Pw _) ha;rw[C39];simp[S39,h1,h2,h3]
def t84(a b:bd)(ha:a.2.Lim)(hb:b.2.Lim):ai pg 84 [bw a,bw b]=M.pure (.bool (fj a b)):=by
 have h:=t39 a.2 b.2 ha hb;rw[C84];simp[S84,h,fj]
def t45(old now:Ap.Mod)(ho:old.Lim)(hn:now.Lim):ai pg 45 [old.av,now.av]=M.pure (.bool (ig fj old now)):=by
 have hq:=t83 (.fn (.func 84) [] []) fj now.old old.vars (by have:=hn.old;omega) (fun g=>rfl) (fun x hx y hy=>t84 x y (hn.oty x hx) (ho.vty y hy));have hl:(cj fj now.old old.vars)=(decide (now.old.length=old.vars.length)&&cj fj now.old old.vars):=by
  by_cases h:now.old.length=old.vars.length
  ·simp[h]
  ·rw[kS _ _ _ h];simp
 rw[hl]at hq;have e1:∀a b:Nat,((a:Int)== (b:Int))=decide (a=b):=fun a b=>by
  rw[QN];simp
 have hcm:aN 3 (AV.agg [aK now.old,bX now.forward,bX now.back])=M.pure (AV.agg [aK now.old,bX now.forward,bX now.back]):=by
  rw[aY (rfl:b9 3 (AV.agg [aK now.old,bX now.forward,bX now.back])=true)];rfl
 rw[C45];unfold ig;simp[S45,hq,hcm];rfl
def Cb{e:Exp}{ns:List a7}{vs:List Val}{v:Val}{s:Ms}(h:fW e ns vs= .ok v s):Rv v:=by
 unfold fW at h;split at h
 ·rename_i hc;exact (kp 100000 (-1) ns vs e ⟨hc.1,fun v hv=>PG.1 hc.2 v hv⟩ (de [] 100000 []) ⟨fun l hl=>(by cases hl),fun c hc=>(by cases hc)⟩).2.2 v s h
 ·cases h
def wB{e:Exp}{ns:List a7}{vs:List Val}{c:Int}{s:Ms}(h:fW e ns vs= .er c s):c≠0:=by
 unfold fW at h;split at h
 ·exact wz h
 ·cases h;decide
theorem A7(fr to:List bd)(ns:List a7)(vs:List Val)(l:List Exp)(hl:l.length=to.length)(hto:to.length<=1000000)(ht:∀f∈to,f.2.Lim)(hz:bY vs<=4611686018427387904)(hns:ns.length<=1000000)(he:∀e∈l,a8 e):
  ∀(B A:List bd)(BE AE:List Exp)(acc:List Val),A++B=to->AE++BE=l->AE.length=A.length->acc.length=A.length->aj (L46_0 (ai pg) aj) [vals vs,bX l,strs ns,vals acc,aK to,.int .i64 to.length,.int .i64 A.length]=M.pure (dn (dR ns vs B BE acc))
 |[],A,BE,AE,acc,e,e2,hA,ha=>by
  rw[Qm]at e;subst e;have h1:¬((A.length:Int)<(A.length:Int)):=by omega
  have hB:BE=[]:=List.length_eq_zero_iff.1 (by have:=Pp List.length e2;simp at this;omega);subst hB;rw[FL46_0];simp -implicitDefEqProofs only[L46_0,aH,aM,rZ,ao,au,Pt,if_neg h1,dR,dn]
 |f:: B,A,[],AE,acc,e,e2,hA,ha=>by
  have:=Pp List.length e2
  have h2:=Pp List.length e;simp at this h2;omega
 | f:: B,A,x:: BE,AE,acc,e,e2,hA,ha=>by
  have hlen:A.length+(B.length+1)=to.length:=by rw[<- e];simp
  have h1:(A.length:Int)<(to.length:Int):=by omega
  have hix:=iK (l:=to) (n:=(A.length:Int)) (by omega) h1;rw[PH,Pz to A.length (by omega),show to[A.length]'(by omega)=f by simp[<- e]]at hix;have hex:=kH (l:=l) (n:=(A.length:Int)) (by omega) (by omega);rw[PH,Pz l A.length (by omega),show l[A.length]'(by omega)=x by simp[<- e2,<- hA]]at hex;have hcall:=t85 x ns vs (he x (by rw[<- e2];simp)) (by omega) hz;have hw:IntKind.i64.wrap ((A.length:Int)+1)=((A.length+1:Nat):Int):=bz (by omega);rw[FL46_0,dR];cases hr:fW x ns vs with
  | er c s=>
   rw[hr]at hcall;have hc0:(c != 0)=true:=by
    have:=wB hr
    simpa using this
   simp -implicitDefEqProofs only[L46_0,aH,aM,rZ,ao,au,Pt,Ps h1,hix,Ks,J7,aB,hex,NM,hcall,jc,aR,Pu,PM,aY (dL default),xy,hc0,PF,dn]
  | ok v s=>
   rw[hr]at hcall;have hv:=Cb hr;have hsz:=rD hv;have hH:=t20 f.2 v (ht f (by rw[<- e];simp)) (by omega);have h00:((0:Int) != 0)=false:=rfl;have hvv:∀v:Val,AV.agg (ab v.av)=v.av:=fun v=>by simp
   cases hx:fp f.2 v with
   |false=>
    rw[hx]at hH;simp -implicitDefEqProofs only[L46_0,aH,aM,rZ,ao,au,Pt,Ps h1,hix,Ks,J7,aB,hex,NM,hcall,jc,aR,Pu,PM,aY (dL v),hvv,xy,h00,Pr,PE,Cg,Cv,Na,hH,gp,Qe,PF,hx,dn]
   |true=>
    rw[hx]at hH;have ih:=A7 fr to ns vs l hl hto ht hz hns he B (A++[f]) BE (AE++[x]) (acc++[v]) (by rw[<- e];simp) (by rw[<- e2];simp) (by simp[hA]) (by simp[ha]);have eA:(A++[f]).length=A.length+1:=by simp
    rw[eA]at ih;have hap:cQ T 30 (vals acc) (vals [v])=some (vals (acc++[v])):=BC (by simp;omega);simp -implicitDefEqProofs only[L46_0,aH,aM,rZ,ao,au,Pt,Ps h1,hix,Ks,J7,aB,hex,NM,hcall,jc,aR,Pu,PM,aY (dL v),hvv,xy,h00,Pr,PE,Cg,Cv,Na,hH,gp,P3,LZ,hap,dj,hw,ih,Ps hx]
theorem A8(fr to:List bd)(vs:List Val)(l:List Exp)(hl:l.length=to.length)(hto:to.length<=1000000)(hfr:fr.length<=1000000)(ht:∀f∈to,f.2.Lim)(hz:bY vs<=4611686018427387904)(he:∀e∈l,a8 e):
  ∀(B A:List bd),A++B=fr->aj (L46_1 (ai pg) aj) [aK to,vals vs,bX l,strs (A.map (·.1)),aK fr,.int .i64 fr.length,.int .i64 A.length]=M.pure (dn (dR (fr.map (·.1)) vs to l []))
 |[],A,e=>by
  rw[Qm]at e;subst e;have h1:¬((A.length:Int)<(A.length:Int)):=by omega
  have h0:=A7 A to (A.map (·.1)) vs l hl hto ht hz (by simpa using hfr) he to [] l [] [] rfl rfl rfl rfl;have h0':aj (L46_0 (ai pg) aj) [vals vs,bX l,strs (A.map (·.1)),.sl [],aK to,.int .i64 to.length,.int .i64 0]=_:=h0;rw[FL46_1];simp -implicitDefEqProofs only[L46_1,aH,aM,rZ,ao,au,Pt,if_neg h1,dO,h0']
 | f:: B,A,e=>by
  have hlen:A.length+(B.length+1)=fr.length:=by rw[<- e];simp
  have h1:(A.length:Int)<(fr.length:Int):=by omega
  have hix:=iK (l:=fr) (n:=(A.length:Int)) (by omega) h1;rw[PH,Pz fr A.length (by omega),show fr[A.length]'(by omega)=f by simp[<- e]]at hix;have hw:IntKind.i64.wrap ((A.length:Int)+1)=((A++[f]).length:Nat):=by rw[bz (by omega)];simp
  have hap:cQ T 22 (strs (A.map (·.1))) (strs [f.1])=some (strs ((A++[f]).map (·.1))):=by
   rw[Jw (by simp;omega)];simp
  have ih:=A8 fr to vs l hl hto hfr ht hz he B (A++[f]) (by rw[<- e];simp);rw[FL46_1];simp -implicitDefEqProofs only[L46_1,aH,aM,rZ,ao,au,Pt,Ps h1,hix,Ks,J7,aB,Hq,Hx,NG,hap,dj,hw,ih]
def t46(fr to:List bd)(vs:List Val)(l:List Exp)(hl:l.length=to.length)(hto:to.length<=1000000)(hfr:fr.length<=1000000)(ht:∀f∈to,f.2.Lim)(hz:bY vs<=4611686018427387904)(he:∀e∈l,a8 e):ai pg 46 [aK fr,aK to,vals vs,bX l]=M.pure (dn (dR (fr.map (·.1)) vs to l [])):=by
 have h:=A8 fr to vs l hl hto hfr ht hz he fr [] rfl;have h':aj (L46_1 (ai pg) aj) [aK to,vals vs,bX l,.sl [],aK fr,.int .i64 fr.length,.int .i64 0]=_:=h;rw[C46,lP,lP,jk,Hf];have e:S46 (ai pg) aj (aK fr) (aK to) (vals vs) (bX l)=M.pure (dn (dR (fr.map (·.1)) vs to l [])):=by
  simp -implicitDefEqProofs only[S46,dO,ao,h']
 rw[e];exact bI fun g=>ui g _
end Go.Proofs.YtihmmkncokjbaaaGreatDoor
namespace Go.Proofs.YtihmmkncokjbaaaGreatDoor
open Go Go.Av Go.Av.Ap
set_option maxRecDepth 100000
structure SMod (m:Ap.Mod):Prop where
 lim:m.Lim
 vars:m.vars.length<=1000000
 fw:∀e∈m.forward,a8 e
 bk:∀e∈m.back,a8 e
def r5(vs:List Val):Prop:=bY vs<=1099511627776
def r5.mem{vs:List Val}(h:r5 vs):∀v∈vs,v.sz<=1099511627776:=fun v hv=>QC (je hv) h
section
variable (m:Ap.Mod)
theorem uH:ah T 29 (.ip (ab m.av))=some m.av:=rfl
theorem fm2:aa T 29 (.ip (ab m.av)) 2=some (.ip ((ab m.av).drop 2)):=rfl
theorem fm5:aa T 29 (.ip (ab m.av)) 5=some (.ip ((ab m.av).drop 5)):=rfl
theorem fm6:aa T 29 (.ip (ab m.av)) 6=some (.ip ((ab m.av).drop 6)):=rfl
theorem qY:ah T 23 (.ip ((ab m.av).drop 2))=some (aK m.vars):=rfl
theorem Jm:ah T 4 (.ip ((ab m.av).drop 5))=some (.bool m.moves):=rfl
theorem fg1:aa T 27 (.ip ((ab m.av).drop 6)) 1=some (.ip ((ab m.av).drop 7)):=rfl
theorem fg2:aa T 27 (.ip ((ab m.av).drop 6)) 2=some (.ip ((ab m.av).drop 8)):=rfl
theorem Ol:ah T 24 (.ip ((ab m.av).drop 7))=some (bX m.forward):=rfl
theorem Om:ah T 24 (.ip ((ab m.av).drop 8))=some (bX m.back):=rfl
end
def uZ(r:Except Int (List Val)):∃a b,dn r= .tup [a,b]:=by cases r<;>exact⟨_,_,rfl⟩
def t12(old now:Ap.Mod)(vs:List Val)(ho:SMod old)(hn:SMod now)(hv:r5 vs):ai pg 12 [old.av,now.av,vals vs]=M.pure (dn (fY fj old now vs)):=by
 have hm:=t43 old.vars vs ho.lim.vars ho.lim.vty hv.mem;have hz:bY vs<=4611686018427387904:=QC hv (by decide);rw[C12,ib,ib,jk];have e:S12 (ai pg) aj old.av now.av (vals vs)=M.pure (dn (fY fj old now vs)):=by
  unfold fY;cases hmm:cL old.vars vs with
  |false=>
   rw[hmm]at hm;simp -implicitDefEqProofs only[S12,fm2,qY,ao,hm,aB,gp,Qe,au,PF,dn]
  | true=>
   rw[hmm]at hm;have hlen:old.vars.length=vs.length:=by simp only[cL,Po,Pt]at hmm;exact hmm.1
   rw[if_neg (by simp)];cases hmo:now.moves with
   |false=>
    have hk:=t44 old.vars now.vars vs ho.lim.vars hlen hn.vars hn.lim.vty hv.mem;rw[Ps rfl];obtain⟨a,b,hab⟩:=uZ (ml (fg old.vars vs now.vars []));rw[hab]at hk |-;simp -implicitDefEqProofs only[S12,fm2,qY,ao,hm,aB,gp,P3,Qe,au,Pr,PE,PF,fm5,Jm,hmo,hk,aR,Pu,PM]
   | true=>
    have hl:=t45 old now ho.lim hn.lim;rw[if_neg (by simp)];cases hll:ig fj old now with
    |false=>
     rw[hll]at hl;rw[Ps rfl];simp -implicitDefEqProofs only[S12,fm2,qY,ao,hm,aB,gp,P3,Qe,au,Pr,PE,PF,fm5,Jm,hmo,uH,hl,dn]
    |true=>
     rw[hll]at hl;rw[if_neg (by simp)];have hf:now.forward.length=now.vars.length:=by simp only[ig,Po,Pt]at hll;exact hll.1.1
     have hk:=t46 old.vars now.vars vs now.forward hf hn.vars ho.vars hn.lim.vty hz hn.fw;obtain⟨a,b,hab⟩:=uZ (dR (old.vars.map (·.1)) vs now.vars now.forward []);rw[hab]at hk |-;simp -implicitDefEqProofs only[S12,fm2,qY,ao,hm,aB,gp,P3,au,Pr,PE,fm5,Jm,hmo,uH,hl,fm6,fg1,Ol,hk,aR,Pu,PM]
 rw[e];exact bI fun g=>ui g _
def t13(old now:Ap.Mod)(vs:List Val)(ho:SMod old)(hn:SMod now)(hv:r5 vs):ai pg 13 [old.av,now.av,vals vs]=M.pure (dn (mU fj old now vs)):=by
 have hm:=t43 now.vars vs hn.lim.vars hn.lim.vty hv.mem;have hz:bY vs<=4611686018427387904:=QC hv (by decide);rw[C13,ib,ib,jk];have e:S13 (ai pg) aj old.av now.av (vals vs)=M.pure (dn (mU fj old now vs)):=by
  unfold mU;cases hmm:cL now.vars vs with
  |false=>
   rw[hmm]at hm;simp -implicitDefEqProofs only[S13,fm2,qY,ao,hm,aB,gp,Qe,au,PF,dn]
  | true=>
   rw[hmm]at hm;have hlen:now.vars.length=vs.length:=by simp only[cL,Po,Pt]at hmm;exact hmm.1
   rw[if_neg (by simp)];cases hmo:now.moves with
   |false=>
    have hk:=t44 now.vars old.vars vs hn.lim.vars hlen ho.vars ho.lim.vty hv.mem;rw[Ps rfl];obtain⟨a,b,hab⟩:=uZ (ml (fg now.vars vs old.vars []));rw[hab]at hk |-;simp -implicitDefEqProofs only[S13,fm2,qY,ao,hm,aB,gp,P3,Qe,au,Pr,PE,PF,fm5,Jm,hmo,hk,aR,Pu,PM]
   | true=>
    have hl:=t45 old now ho.lim hn.lim;rw[if_neg (by simp)];cases hll:ig fj old now with
    |false=>
     rw[hll]at hl;rw[Ps rfl];simp -implicitDefEqProofs only[S13,fm2,qY,ao,hm,aB,gp,P3,Qe,au,Pr,PE,PF,fm5,Jm,hmo,uH,hl,dn]
    |true=>
     rw[hll]at hl;rw[if_neg (by simp)];have hf:now.back.length=old.vars.length:=by simp only[ig,Po,Pt]at hll;exact hll.1.2
     have hk:=t46 now.vars old.vars vs now.back hf ho.vars hn.vars ho.lim.vty hz hn.bk;obtain⟨a,b,hab⟩:=uZ (dR (now.vars.map (·.1)) vs old.vars now.back []);rw[hab]at hk |-;simp -implicitDefEqProofs only[S13,fm2,qY,ao,hm,aB,gp,P3,au,Pr,PE,fm5,Jm,hmo,uH,hl,fm6,fg2,Om,hk,aR,Pu,PM]
 rw[e];exact bI fun g=>ui g _
mutual
theorem Gh:(a b:Val)->xW a b=true->a=b
 |.mk k n ns vs,.mk k' n' ns' vs',h=>by
  simp only[xW,Po,PR]at h;obtain⟨⟨⟨rfl,rfl⟩,rfl⟩,h⟩:=h;rw[tH vs vs' h]
theorem tH:(a b:List Val)->lG a b=true->a=b
 |[],[],_=>rfl
 |[],_:: _,h=>by simp[lG]at h
 |_:: _,[],h=>by simp[lG]at h
 |v:: a,w:: b,h=>by
  simp only[lG,Po]at h;rw[Gh v w h.1,tH a b h.2]
end
mutual
theorem zQ:(a:Val)->xW a a=true
 |.mk k n ns vs=>by simp[xW,pu vs]
theorem pu:(a:List Val)->lG a a=true
 |[]=>rfl
 |v:: a=>by simp[lG,zQ v,pu a]
end
def Fo{t:Ty}{v:Val}(h:fp t v=true):bF 4 v=true:=by
 simp only[fp,Po]at h;exact h.2.1
theorem re:∀ {l:List bd} {vs:List Val},cj (fun f v=>fp f.2 v) l vs=true->∀v∈vs,bF 4 v=true
 |[],[],_,v,hv=>by cases hv
 |f:: l,w:: vs,h,v,hv=>by
  simp only[cj,Po]at h;rcases P0.1 hv with rfl|hv
  ·exact Fo h.1
  ·exact re h.2 v hv
 |[],_:: _,h,_,_=>by simp[cj]at h
 |_:: _,[],h,_,_=>by simp[cj]at h
theorem rE:∀(l:List Val),(∀v∈l,bF 4 v=true)->bY l<=l.length*200000
 |[],_=>by simp[bY]
 |v:: l,h=>by
  have h1:=rD (h v P2);have h2:=rE l fun w hw=>h w (PU _ hw);simp only[bY,PW];omega
def iZ{l:List bd}{vs:List Val}(h:cL l vs=true)(hl:l.length<=1000000):r5 vs:=by
 simp only[cL,Po,Pt]at h
 have:=rE vs (re h.2)
 unfold r5;omega
end Go.Proofs.YtihmmkncokjbaaaGreatDoor
namespace Go.Proofs.YtihmmkncokjbaaaGreatDoor
open Go Go.Av Go.Av.Ap
set_option maxRecDepth 100000
def Lm(Q:Prop)(most:Int)(m:M AV):Prop:=∃n,m=M.pure (.int .i64 n)/\1<=n/\n<=most+1/\(n<=most->Q)
def oT(Q:Int->Prop)(most:Int)(m:M AV):Prop:=∃n,m=M.pure (.int .i64 n)/\1<=n/\n<=most+1/\(n<=most->Q n)
def BB(P:Prop)(m:M AV):Prop:=∃b,m=M.pure (.bool b)/\(b=true->P)
def BB.no{P:Prop}:BB P (M.pure (.bool false)):=⟨false,rfl,fun h=>by cases h⟩
def BB.imp{P Q:Prop}{m:M AV}(h:BB P m)(f:P->Q):BB Q m:=by
 obtain⟨b,h1,h2⟩:=h;exact⟨b,h1,fun e=>f (h2 e)⟩
def KY{e x:Val}(h:x∈e.values):SizeOf.sizeOf x<SizeOf.sizeOf e:=by
 cases e with
 |mk k n ns vs=>
  have:=Q2 h
  simp only[Val.mk.sizeOf_spec];simp only[Val.values]at this;omega
def JU{e x:Exp}(h:x∈e.args):SizeOf.sizeOf x<SizeOf.sizeOf e:=Kf h
theorem qy:(l:List Exp)->(∀x∈l,a8 x)->m7 l
 |[],_=>trivial
 |x:: l,h=>⟨h x P2,qy l fun y hy=>h y (PU _ hy)⟩
def Ca{e:Exp}(h1:e.names.length<=8796093022208)(h2:e.args.length<=274877906944)(h3:∀x∈e.args,a8 x):a8 e:=by
 obtain⟨o,n,s,m,ns,es⟩:=e;exact⟨h1,h2,qy es h3⟩
def Aj(e:Exp):Prop:=∀most depth:Int,0<=most->most<=1099511627->depth<=1099511627776->oT (fun n=>a8 e/\(mn e:Int)<=n) most (ai pg 80 [e.av,.int .i64 most,.int .i64 depth])
def C2(l:List Exp)(i:Nat)(h:i<l.length):jV (l.drop i)=mn l[i]+jV (l.drop (i+1)):=by
 rw[PC h];rfl
def KA(e:Exp)(hL:e.Lim)(ih:∀x∈e.args,Aj x)(most depth:Int)(h0:0<=most)(h1:most<=1099511627)(h2:depth<=1099511627776)(h3:1<=depth):
  ∀(r:Nat)(n i:Int),e.args.length-i.toNat=r->0<=i->i<=e.args.length->1<=n->n<=most+1->i+1<=n->oT (fun k=>e.args.length<=most/\(∀x∈e.args.drop i.toNat,a8 x)/\(jV (e.args.drop i.toNat):Int)<=k-n) most (aj (L80_0 (ai pg) aj) [.int .i64 most,.int .i64 depth,.ip (ab e.av),.int .i64 n,.int .i64 i]):=by
 intro r
 induction r with
 |zero=>
  intro n i hr hi hb hn hm hin;rw[FL80_0];simp only[L80_0];have h1:¬(i<(e.args.length:Int)):=by omega
  simp[h1];exact⟨n,rfl,hn,hm,fun h=>⟨by omega,(fun x hx=>by rw[PD (by omega)]at hx;cases hx),by rw[PD (by omega)];simp[jV]⟩⟩
 | succ r IH=>
  intro n i hr hi hb hn hm hin;have hlen:=hL.len;have h5:i<(e.args.length:Int):=by omega
  have hlt:i.toNat<e.args.length:=by omega
  rw[FL80_0];simp only[L80_0];by_cases hs:n<=most
  ·obtain⟨k,hk,hk1,hk2,hk3⟩:=ih e.args[i.toNat] (Px hlt) (most-n) (depth-1) (by omega) (by omega) (by omega);have hd:=C2 e.args i.toNat hlt;obtain⟨n',q1,q2,q3,q4⟩:=IH (n+k) (i+1) (by omega) (by omega) (by omega) (by omega) (by omega) (by omega);have h4:oT (fun k=>e.args.length<=most/\(∀x∈e.args.drop i.toNat,a8 x)/\(jV (e.args.drop i.toNat):Int)<=k-n) most (aj (L80_0 (ai pg) aj) [.int .i64 most,.int .i64 depth,.ip (ab e.av),.int .i64 (n+k),.int .i64 (i+1)]):=by
    by_cases hk4:k<=most-n
    ·refine⟨n',q1,q2,q3,fun h=>⟨(q4 h).1,fun x hx=>?_,?_⟩⟩
     case refine_2=>
      have z1:=(q4 h).2.2;have z2:=(hk3 hk4).2;rw[show (i+1).toNat=i.toNat+1 by omega]at z1;omega
     rw[PC hlt]at hx;rcases P0.1 hx with rfl|hx
     ·exact (hk3 hk4).1
     ·exact (q4 h).2.1 x (by rw[show (i+1).toNat=i.toNat+1 by omega];exact hx)
    ·have hstop:aj (L80_0 (ai pg) aj) [.int .i64 most,.int .i64 depth,.ip (ab e.av),.int .i64 (n+k),.int .i64 (i+1)]=M.pure (.int .i64 (n+k)):=by
      rw[FL80_0];simp only[L80_0];have h6:¬(n+k<=most):=by omega
      simp[h6]
     exact⟨n+k,hstop,by omega,by omega,fun h=>by omega⟩
   simp (disch:=omega) [h5,hs,kH,Pz e.args i.toNat hlt,bq,hk];simpa using h4
  ·simp[h5,hs];exact⟨n,rfl,hn,hm,fun h=>absurd h hs⟩
def t80:∀(N:Nat)(e:Exp),SizeOf.sizeOf e<=N->e.Lim->Aj e:=by
 intro N
 induction N with
 |zero=>intro e he;cases e;simp at he
 | succ N ih=>
  intro e he hL most depth h0 h1 h2;rw[C80];have h4:1<=depth->_:=fun h3=>KA e hL (fun x hx=>ih x (by have:=JU hx;omega) (hL.kid hx)) most depth h0 h1 h2 h3 e.args.length 1 0 rfl (by omega) (by omega) (by omega) (by omega) (by omega);simp[S80];split
  ·rw[bq (by omega) (by omega),iX];exact⟨_,rfl,by omega,by omega,fun h=>by omega⟩
  ·rename_i hq;obtain⟨n,hn,b1,b2,b3⟩:=h4 (by omega);simp at hn;rw[hn,iX];refine⟨n,rfl,b1,b2,fun h=>⟨Ca hL.names ?_ fun x hx=>(b3 h).2.1 x (by simpa using hx),?_⟩⟩
   ·have:=(b3 h).1
    omega
   ·have h9:=(b3 h).2.2;simp at h9;rw[vr];omega
def Kw(l:List Exp)(hl:l.length<=140737488355328)(hL:∀e∈l,e.Lim):∀(r:Nat)(i:Int),l.length-i.toNat=r->0<=i->i<=l.length->BB (l.length<=8/\∀e∈l.drop i.toNat,a8 e/\mn e<=50) (aj (L40_0 (ai pg) aj) [bX l,.int .i64 i]):=by
 intro r
 induction r with
 |zero=>
  intro i hr hi hb;rw[FL40_0];simp only[L40_0];have h1:¬(i<(l.length:Int)):=by omega
  simp[h1];exact⟨_,rfl,fun h=>by simp at h;exact⟨by omega,fun x hx=>by rw[PD (by omega)]at hx;cases hx⟩⟩
 | succ r IH=>
  intro i hr hi hb;have h5:i<(l.length:Int):=by omega
  have hlt:i.toNat<l.length:=by omega
  rw[FL40_0];simp only[L40_0];by_cases hs:i<9
  ·obtain⟨k,hk,_,_,hq⟩:=t80 _ l[i.toNat] (Pw _) (hL _ (Px hlt)) 50 16 (by omega) (by omega) (by omega);have h4:=IH (i+1) (by omega) (by omega) (by omega);simp (disch:=omega) [h5,hs,kH,Pz l i.toNat hlt,bq,hk];by_cases hk5:50<k
   ·simp[hk5];exact .no
   ·simp[hk5];refine h4.imp fun h=>⟨h.1,fun x hx=>?_⟩;rw[PC hlt]at hx;rcases P0.1 hx with rfl|hx
    ·exact⟨(hq (by omega)).1,by have:=(hq (by omega)).2;omega⟩
    ·exact h.2 x (by rw[show (i+1).toNat=i.toNat+1 by omega];exact hx)
  ·simp[h5,hs];refine⟨_,rfl,fun h=>?_⟩;simp at h;omega
def t40(l:List Exp)(hl:l.length<=140737488355328)(hL:∀e∈l,e.Lim):BB (l.length<=8/\∀e∈l,a8 e/\mn e<=50) (ai pg 40 [bX l]):=by
 rw[C40];obtain⟨b,hb,h2⟩:=Kw l hl hL l.length 0 rfl (by omega) (by omega);refine⟨b,?_,fun h=>by simpa using h2 h⟩;simp[S40,hb]
def Ai(e:Ty):Prop:=∀most depth:Int,0<=most->most<=1099511627776->depth<=1099511627776->Lm True most (ai pg 48 [e.av,.int .i64 most,.int .i64 depth])
def Ky(e:Ty)(hL:e.Lim)(ih:∀x∈e.fields,Ai x.2)(most depth:Int)(h0:0<=most)(h1:most<=1099511627776)(h2:depth<=1099511627776)(h3:1<=depth):
  ∀(r:Nat)(n i:Int),e.fields.length-i.toNat=r->0<=i->i<=e.fields.length->1<=n->n<=most+1->Lm True most (aj (L48_0 (ai pg) aj) [.int .i64 most,.int .i64 depth,.ip (ab e.av),.int .i64 n,.int .i64 i]):=by
 intro r
 induction r with
 |zero=>
  intro n i hr hi hb hn hm;rw[FL48_0];simp only[L48_0];have h1:¬(i<(e.fields.length:Int)):=by omega
  simp[h1];exact⟨n,rfl,hn,hm,fun _=>trivial⟩
 | succ r IH=>
  intro n i hr hi hb hn hm;have hlen:=hL.len;have h5:i<(e.fields.length:Int):=by omega
  have hlt:i.toNat<e.fields.length:=by omega
  rw[FL48_0];simp only[L48_0];by_cases hs:n<=most
  ·by_cases h60:(60:Int)<(e.fields[i.toNat].1.length:Int)
   ·simp (disch:=omega) [h5,hs,iK,Pz e.fields i.toNat hlt,bq,h60];exact⟨_,rfl,by omega,by omega,fun _=>trivial⟩
   ·obtain⟨k,hk,hk1,hk2,_⟩:=ih e.fields[i.toNat] (Px hlt) (most-n) (depth-1) (by omega) (by omega) (by omega);have h4:=IH (n+k) (i+1) (by omega) (by omega) (by omega) (by omega) (by omega);simp (disch:=omega) [h5,hs,iK,Pz e.fields i.toNat hlt,bq,hk,h60];simpa using h4
  ·simp[h5,hs];exact⟨n,rfl,hn,hm,fun _=>trivial⟩
def t48:∀(N:Nat)(e:Ty),SizeOf.sizeOf e<=N->e.Lim->Ai e:=by
 intro N
 induction N with
 |zero=>intro e he;cases e;simp at he
 | succ N ih=>
  intro e he hL most depth h0 h1 h2;rw[C48];have h4:1<=depth->_:=fun h3=>Ky e hL (fun x hx=>ih x.2 (by have:=Js hx;omega) (hL.kid hx)) most depth h0 h1 h2 h3 e.fields.length 1 0 rfl (by omega) (by omega) (by omega) (by omega);simp[S48];split
  ·rw[bq (by omega) (by omega),iX];exact⟨_,rfl,by omega,by omega,fun _=>trivial⟩
  ·obtain⟨n,hn,b⟩:=h4 (by omega);simp at hn;rw[hn,iX];exact⟨n,rfl,b⟩
def Kv(l:List Ty)(hl:l.length<=140737488355328)(hL:∀e∈l,e.Lim):∀(r:Nat)(i:Int),l.length-i.toNat=r->0<=i->i<=l.length->BB True (aj (L16_0 (ai pg) aj) [im l,.int .i64 i]):=by
 intro r
 induction r with
 |zero=>
  intro i hr hi hb;rw[FL16_0];simp only[L16_0];have h1:¬(i<(l.length:Int)):=by omega
  simp[h1];exact⟨_,rfl,fun _=>trivial⟩
 |succ r IH=>
  intro i hr hi hb;have h5:i<(l.length:Int):=by omega
  have hlt:i.toNat<l.length:=by omega
  rw[FL16_0];simp only[L16_0];obtain⟨k,hk,_⟩:=t48 _ l[i.toNat] (Pw _) (hL _ (Px hlt)) 40 6 (by omega) (by omega) (by omega);have h4:=IH (i+1) (by omega) (by omega) (by omega);simp (disch:=omega) [h5,tT,Pz l i.toNat hlt,bq,hk];by_cases hk5:40<k
  ·simp[hk5];exact .no
  ·simp[hk5];exact h4
def t16(l:List Ty)(hl:l.length<=140737488355328)(hL:∀e∈l,e.Lim):BB True (ai pg 16 [im l]):=by
 rw[C16];obtain⟨b,hb,h2⟩:=Kv l hl hL l.length 0 rfl (by omega) (by omega);refine⟨b,?_,h2⟩;simp[S16,hb]
def LY(t:Ty):aJ T 47 1 [(0,t.av)]=some (im [t]):=by cases t;rfl
def NF(e:Exp):aJ T 24 1 [(0,e.av)]=some (bX [e]):=by cases e;rfl
def Kx(l:List bd)(hl:l.length<=140737488355328)(hL:∀e∈l,e.2.Lim):∀(r:Nat)(i:Int),l.length-i.toNat=r->0<=i->i<=l.length->BB (l.length<=8) (aj (L41_0 (ai pg) aj) [aK l,.int .i64 i]):=by
 intro r
 induction r with
 |zero=>
  intro i hr hi hb;rw[FL41_0];simp only[L41_0];have h1:¬(i<(l.length:Int)):=by omega
  simp[h1];exact⟨_,rfl,fun h=>by simp at h;omega⟩
 | succ r IH=>
  intro i hr hi hb;have h5:i<(l.length:Int):=by omega
  have hlt:i.toNat<l.length:=by omega
  rw[FL41_0];simp only[L41_0];by_cases hs:i<9
  ·obtain⟨k,hk,_⟩:=t16 [l[i.toNat].2] (by simp) (fun e he=>by rw[Qd.1 he];exact hL _ (Px hlt));have h4:=IH (i+1) (by omega) (by omega) (by omega);by_cases h60:(60:Int)<(l[i.toNat].1.length:Int)
   ·simp (disch:=omega) [h5,hs,iK,Pz l i.toNat hlt,bq,h60];exact .no
   ·simp (disch:=omega) [h5,hs,iK,Pz l i.toNat hlt,bq,h60,LY,hk];cases k with
    |false=>exact .no
    |true=>
     simp;exact h4
  ·simp[h5,hs];refine⟨_,rfl,fun h=>?_⟩;simp at h;omega
def t41(l:List bd)(hl:l.length<=140737488355328)(hL:∀e∈l,e.2.Lim):BB (l.length<=8) (ai pg 41 [aK l]):=by
 rw[C41];obtain⟨b,hb,h2⟩:=Kx l hl hL l.length 0 rfl (by omega) (by omega);refine⟨b,?_,h2⟩;simp[S41,hb]
def Ak(v:Val):Prop:=∀most depth:Int,0<=most->most<=1099511627776->depth<=1099511627776->oT (fun n=>(v.sz:Int)<=13*n) most (ai pg 42 [v.av,.int .i64 most,.int .i64 depth])
def pB(l:List Val)(i:Nat)(h:i<l.length):bY (l.drop i)=l[i].sz+bY (l.drop (i+1)):=by
 rw[PC h];rfl
def HJ(e:Val)(hL:e.Lim)(ih:∀x∈e.values,Ak x)(most depth:Int)(h0:0<=most)(h1:most<=1099511627776)(h2:depth<=1099511627776)(h3:1<=depth):
  ∀(r:Nat)(n i:Int),e.values.length-i.toNat=r->0<=i->i<=e.values.length->1<=n->n<=most+1->oT (fun k=>(bY (e.values.drop i.toNat):Int)<=13*(k-n)) most (aj (L42_0 (ai pg) aj) [.int .i64 most,.int .i64 depth,.ip (ab e.av),.int .i64 n,.int .i64 i]):=by
 intro r
 induction r with
 |zero=>
  intro n i hr hi hb hn hm;rw[FL42_0];simp only[L42_0];have h1:¬(i<(e.values.length:Int)):=by omega
  simp[h1];exact⟨n,rfl,hn,hm,fun h=>by rw[PD (by omega)];simp[bY]⟩
 | succ r IH=>
  intro n i hr hi hb hn hm;have hlen:=hL.len;have h5:i<(e.values.length:Int):=by omega
  have hlt:i.toNat<e.values.length:=by omega
  rw[FL42_0];simp only[L42_0];by_cases hs:n<=most
  ·obtain⟨k,hk,hk1,hk2,hk3⟩:=ih e.values[i.toNat] (Px hlt) (most-n) (depth-1) (by omega) (by omega) (by omega);obtain⟨n',q1,q2,q3,q4⟩:=IH (n+k) (i+1) (by omega) (by omega) (by omega) (by omega) (by omega);rw[show (i+1).toNat=i.toNat+1 by omega]at q4;have hd:=pB e.values i.toNat hlt;have h4:oT (fun k=>(bY (e.values.drop i.toNat):Int)<=13*(k-n)) most (aj (L42_0 (ai pg) aj) [.int .i64 most,.int .i64 depth,.ip (ab e.av),.int .i64 (n+k),.int .i64 (i+1)]):=by
    by_cases hk4:k<=most-n
    ·refine⟨n',q1,q2,q3,fun h=>?_⟩
     have:=q4 h
     have:=hk3 hk4
     show (bY (e.values.drop i.toNat):Int)<=13*(n'-n);omega
    ·have hstop:aj (L42_0 (ai pg) aj) [.int .i64 most,.int .i64 depth,.ip (ab e.av),.int .i64 (n+k),.int .i64 (i+1)]=M.pure (.int .i64 (n+k)):=by
      rw[FL42_0];simp only[L42_0];have h6:¬(n+k<=most):=by omega
      simp[h6]
     exact⟨n+k,hstop,by omega,by omega,fun h=>by omega⟩
   simp (disch:=omega) [h5,hs,p8,Pz e.values i.toNat hlt,bq,hk];simpa using h4
  ·simp[h5,hs];exact⟨n,rfl,hn,hm,fun h=>absurd h hs⟩
def HK(e:Val)(hL:e.Lim)(h12:e.names.length<=12)(most depth:Int)(h0:0<=most)(h1:most<=1099511627776)(Q:Int->Prop)(h:oT Q most (aj (L42_0 (ai pg) aj) [.int .i64 most,.int .i64 depth,.ip (ab e.av),.int .i64 1,.int .i64 0])):
  ∀(r:Nat)(i:Int),e.names.length-i.toNat=r->0<=i->i<=e.names.length->oT Q most (aj (L42_1 (ai pg) aj) [.int .i64 most,.int .i64 depth,.ip (ab e.av),.int .i64 1,.int .i64 i]):=by
 intro r
 induction r with
 |zero=>
  intro i hr hi hb;rw[FL42_1];simp only[L42_1];have h1:¬(i<(e.names.length:Int)):=by omega
  simp[h1];simpa using h
 | succ r IH=>
  intro i hr hi hb;have h5:i<(e.names.length:Int):=by omega
  have hlt:i.toNat<e.names.length:=by omega
  have h4:=IH (i+1) (by omega) (by omega) (by omega);rw[FL42_1];simp only[L42_1];by_cases h60:(60:Int)<(e.names[i.toNat].length:Int)
  ·simp (disch:=omega) [h5,p7,Pz e.names i.toNat hlt,bq,h60];exact⟨_,rfl,by omega,by omega,fun h=>by omega⟩
  ·simp (disch:=omega) [h5,p7,Pz e.names i.toNat hlt,bq,h60];simpa using h4
def t42:∀(N:Nat)(e:Val),SizeOf.sizeOf e<=N->e.Lim->Ak e:=by
 intro N
 induction N with
 |zero=>intro e he;cases e;simp at he
 | succ N ih=>
  intro e he hL most depth h0 h1 h2;rw[C42];by_cases hq:depth<1\/12<e.names.length
  ·simp[S42];rw[Ps (by omega),bq (by omega) (by omega),iX];exact⟨_,rfl,by omega,by omega,fun h=>by omega⟩
  ·have h4:=HJ e hL (fun x hx=>ih x (by have:=KY hx;omega) (hL.kid hx)) most depth h0 h1 h2 (by omega) e.values.length 1 0 rfl (by omega) (by omega) (by omega) (by omega);obtain⟨n,hn,b1,b2,b3⟩:=HK e hL (by omega) most depth h0 h1 _ h4 e.names.length 0 rfl (by omega) (by omega);simp[S42];rw[if_neg (by omega)];simp at hn;rw[hn,iX];refine⟨n,rfl,b1,b2,fun h=>?_⟩
   have:=b3 h
   simp at this;have hs:e.sz=1+e.names.length+bY e.values:=by cases e;rfl
   omega
def Ku(l:List Val)(hl:l.length<=140737488355328)(hL:∀e∈l,e.Lim):∀(r:Nat)(i:Int),l.length-i.toNat=r->0<=i->i<=l.length->BB (l.length<=8/\bY (l.drop i.toNat)<=520*(l.length-i.toNat)) (aj (L10_0 (ai pg) aj) [vals l,.int .i64 i]):=by
 intro r
 induction r with
 |zero=>
  intro i hr hi hb;rw[FL10_0];simp only[L10_0];have h1:¬(i<(l.length:Int)):=by omega
  simp[h1];exact⟨_,rfl,fun h=>by simp at h;exact⟨by omega,by rw[PD (by omega)];simp[bY]⟩⟩
 | succ r IH=>
  intro i hr hi hb;have h5:i<(l.length:Int):=by omega
  have hlt:i.toNat<l.length:=by omega
  rw[FL10_0];simp only[L10_0];by_cases hs:i<9
  ·obtain⟨k,hk,_,_,hq⟩:=t42 _ l[i.toNat] (Pw _) (hL _ (Px hlt)) 40 6 (by omega) (by omega) (by omega);have h4:=IH (i+1) (by omega) (by omega) (by omega);simp (disch:=omega) [h5,hs,p8,Pz l i.toNat hlt,bq,hk];by_cases hk5:40<k
   ·simp[hk5];exact .no
   ·simp[hk5];refine h4.imp fun h=>⟨h.1,?_⟩;have h6:=h.2;rw[show (i+1).toNat=i.toNat+1 by omega]at h6;rw[pB l i.toNat hlt];have h7:(l[i.toNat].sz:Int)<=13*k:=hq (by omega);omega
  ·simp[h5,hs];refine⟨_,rfl,fun h=>?_⟩;simp at h;omega
def t10(l:List Val)(hl:l.length<=140737488355328)(hL:∀e∈l,e.Lim):BB (l.length<=8/\r5 l) (ai pg 10 [vals l]):=by
 rw[C10];obtain⟨b,hb,h2⟩:=Ku l hl hL l.length 0 rfl (by omega) (by omega);refine⟨b,?_,fun h=>?_⟩
 ·simp[S10,hb]
 ·have:=h2 h
  simp at this;refine⟨this.1,?_⟩;have h3:=this.2;unfold r5;omega
def vR(b c:Bool)(k:AV->M AV):ae (ax (.bool b) true 1 (M.pure [.bool c])) (fun v=>ae (af (aG (.bool b) (nth v 0) (.bool false))) k)=k (.bool (b&&c)):=by
 cases b<;>rfl
def nH(b c:Bool)(k:AV->M AV):ae (ax (.bool b) false 1 (M.pure [.bool c])) (fun v=>ae (af (aG (.bool b) (.bool true) (nth v 0))) k)=k (.bool (b||c)):=by
 cases b<;>rfl
section
variable (m:Ap.Mod) (f:Ap.Fun)
theorem OU:aa T 29 (.ip (ab m.av)) 0=some (.ip ((ab m.av).drop 0)):=rfl
theorem OV:aa T 29 (.ip (ab m.av)) 1=some (.ip ((ab m.av).drop 1)):=rfl
theorem OW:aa T 29 (.ip (ab m.av)) 3=some (.ip ((ab m.av).drop 3)):=rfl
theorem Ox:aa T 29 (.ip (ab m.av)) 4=some (.ip ((ab m.av).drop 4)):=rfl
theorem OQ:ah T 9 (.ip ((ab m.av).drop 0))=some (.str m.name):=rfl
theorem OR:ah T 22 (.ip ((ab m.av).drop 1))=some (strs m.uses):=rfl
theorem OS:ah T 24 (.ip ((ab m.av).drop 3))=some (bX m.init):=rfl
theorem Ow:ah T 25 (.ip ((ab m.av).drop 4))=some (gC m.funcs):=rfl
theorem Jv:aa T 27 (.ip ((ab m.av).drop 6)) 0=some (.ip ((ab m.av).drop 6)):=rfl
theorem C6:ah T 23 (.ip ((ab m.av).drop 6))=some (aK m.old):=rfl
theorem ON:aa T 68 (.ip (ab f.av)) 2=some (.ip ((ab f.av).drop 2)):=by cases f;rfl
theorem OO:aa T 68 (.ip (ab f.av)) 3=some (.ip ((ab f.av).drop 3)):=by cases f;rfl
theorem OP:aa T 68 (.ip (ab f.av)) 5=some (.ip ((ab f.av).drop 6)):=by cases f;rfl
theorem OT:ah T 68 (.ip (ab f.av))=some f.av:=by obtain⟨n,p,ps,⟨k,fs⟩,ef,⟨o,nn,s,m,ns,es⟩⟩:=f;rfl
theorem N8:ah T 23 (.ip ((ab f.av).drop 2))=some (aK f.params):=by cases f;rfl
theorem N9:ah T 35 (.ip ((ab f.av).drop 3))=some f.result.av:=by obtain⟨n,p,ps,⟨k,fs⟩,ef,⟨o,nn,s,m,ns,es⟩⟩:=f;rfl
theorem Oa:ah T 66 (.ip ((ab f.av).drop 6))=some f.body.av:=by obtain⟨n,p,ps,⟨k,fs⟩,ef,⟨o,nn,s,m,ns,es⟩⟩:=f;rfl
end
theorem NO(s:a7):aO T 9 (.str s)=some (.int .i64 s.length):=rfl
theorem leI(a b:Int):am T BinOp.leq 3 (.int .i64 a) (.int .i64 b)=some (.bool (decide (a<=b))):=rfl
theorem MC(a b:Int):am T BinOp.lss 3 (.int .i64 a) (.int .i64 b)=some (.bool (decide (a<b))):=rfl
def vH(m:Ap.Mod):Prop:=(∀e∈m.init,a8 e/\mn e<=50)/\(∀e∈m.forward,mn e<=50)/\∀e∈m.back,mn e<=50
def wF(m:Ap.Mod)(hL:m.Lim)(i:Int)(hi:¬(i<(m.funcs.length:Int)/\i<5)):BB (SMod m/\vH m) (aj (L9_0 (ai pg) aj) [.ip (ab m.av),.int .i64 i]):=by
 obtain⟨b1,e1,q1⟩:=t41 m.vars hL.vars hL.vty;obtain⟨b2,e2,q2⟩:=t40 m.init hL.init hL.ies;obtain⟨b3,e3,q3⟩:=t41 m.old hL.old hL.oty;obtain⟨b4,e4,q4⟩:=t40 m.forward hL.forward hL.fes;obtain⟨b5,e5,q5⟩:=t40 m.back hL.back hL.bes;have hg:(decide (i<(m.funcs.length:Int))&&decide (i<5))=false:=by
  cases h1:decide (i<(m.funcs.length:Int))
  ·rfl
  ·cases h2:decide (i<5)
   ·rfl
   ·exact absurd ⟨QQ h1,QQ h2⟩ hi
 rw[FL9_0];simp -implicitDefEqProofs only[L9_0,aH,aM,OU,OV,fm2,OW,Ox,fm6,OQ,OR,qY,OS,Ow,Jv,fg1,fg2,C6,Ol,Om,ao,aB,yB,nU,NO,MC,leI,vR,hg,au,Pr,PE,e1,e2,e3,e4,e5];refine⟨_,rfl,fun h=>?_⟩;simp only[Po]at h;exact⟨⟨hL,by have:=q1 h.1.1.1.1.2;omega,fun e he=>((q4 h.1.2).2 e he).1,fun e he=>((q5 h.2).2 e he).1⟩,fun e he=>(q2 h.1.1.1.2).2 e he,fun e he=>((q4 h.1.2).2 e he).2,fun e he=>((q5 h.2).2 e he).2⟩
def MB(m:Ap.Mod)(hL:m.Lim):∀(r:Nat)(i:Int),m.funcs.length-i.toNat=r->0<=i->i<=m.funcs.length->BB (SMod m/\vH m) (aj (L9_0 (ai pg) aj) [.ip (ab m.av),.int .i64 i]):=by
 intro r
 induction r with
 |zero=>intro i hr hi hb;exact wF m hL i (by omega)
 | succ r IH=>
  intro i hr hi hb;by_cases hs:i<(m.funcs.length:Int)/\i<5
  ·have hlt:i.toNat<m.funcs.length:=by omega
   have hbig:=hL.funcs;have hf:=hL.fns _ (Px hlt);have hix:=yA (l:=m.funcs) (n:=i) hi hs.1;rw[Pz m.funcs i.toNat hlt]at hix;generalize m.funcs[i.toNat]=f at hf hix;have h4:=IH (i+1) (by omega) (by omega) (by omega);obtain⟨b1,e1,-⟩:=t40 [f.body] (by simp) (fun e he=>by rw[Qd.1 he];exact hf.body);obtain⟨b2,e2,-⟩:=t41 f.params hf.params hf.pty;obtain⟨b3,e3,-⟩:=t16 [f.result] (by simp) (fun e he=>by rw[Qd.1 he];exact hf.result);have hg:(decide (i<(m.funcs.length:Int))&&decide (i<5))=true:=by simp[hs.1,hs.2]
   have hadd:am T BinOp.add 3 (.int .i64 i) (.int .i64 1)=some (.int .i64 (i+1)):=by simp (disch:=omega) [bq]
   rw[FL9_0];simp -implicitDefEqProofs only[L9_0,aH,aM,Ox,Ow,ao,aB,yB,MC,vR,nH,hg,au,PF,hix,OT,aY (i8 f),cD,ON,OO,OP,N8,N9,Oa,NF,LY,e1,e2,e3,gp,hadd];split
   ·exact .no
   ·exact h4
  ·exact wF m hL i hs
def Ou(m:Ap.Mod)(hL:m.Lim):BB (SMod m/\vH m) (ai pg 9 [m.av]):=by
 obtain⟨b,hb,h2⟩:=MB m hL m.funcs.length 0 (by omega) (by omega) (by omega);refine⟨b,?_,h2⟩;rw[C9,ib];rw[show S9 (ai pg) aj m.av=aj (L9_0 (ai pg) aj) [.ip (ab m.av),.int .i64 0]from rfl,hb];exact lV _
def t9(m:Ap.Mod)(hL:m.Lim):BB (SMod m) (ai pg 9 [m.av]):=(Ou m hL).imp And.left
end Go.Proofs.YtihmmkncokjbaaaGreatDoor
namespace Go.Proofs.YtihmmkncokjbaaaGreatDoor
open Go Go.Av
set_option maxRecDepth 1000000
def zT:dA pg 80 8 [] []= .ok (.bool true) []:=by kernel_rfl
def l7:ai pg 8 []=M.pure (.bool true):=by
 funext h;have h1:=EL aF zT (by simp);have e:∀h,ai pg 8 [] h=aI (cN (pg.cx (ai pg) Tryz.f8.ntmps JS) aj Tryz.f8 (pg.own 8) (dp az [])) h:=fun h=>congrFun (aA aF rfl rfl rfl []) h;rw[e]at h1 |-;unfold aI at h1 |-;generalize cN (pg.cx (ai pg) Tryz.f8.ntmps JS) aj Tryz.f8 (pg.own 8) (dp az []) []=r at h1 |-;cases r with
 |ok v h'=>
  simp only[R.ok.injEq]at h1;show R.ok (kC 6 h' v) h=_;rw[h1.1];rfl
 |pan v h'=>cases h1
 |fail=>cases h1
end Go.Proofs.YtihmmkncokjbaaaGreatDoor
namespace Go.Proofs.YtihmmkncokjbaaaGreatDoor
open Go Go.Av Go.Av.Ap
set_option maxRecDepth 100000
theorem FG(l:List bd)(vs:List Val)(hl:l.length<=140737488355328)(hlen:l.length=vs.length)(ht:∀f∈l,f.2.Lim)(hz:∀v∈vs,v.sz<=1099511627776):∀n k:Nat,l.length-k=n->k<=l.length->aj (L11_0 (ai pg) aj) [aK l,vals vs,.int .i64 k]=M.pure (.bool (cj (fun f v=>fp f.2 v) (l.drop k) (vs.drop k)))
 |0,k,hn,hk=>by
  have h1:¬((k:Int)<(l.length:Int)):=by omega
  have h2:l.drop k=[]:=PD (by omega);have h3:vs.drop k=[]:=PD (by omega);rw[FL11_0];simp[L11_0,h1,h2,h3,cj]
 | n+1,k,hn,hk=>by
  have h1:(k:Int)<(l.length:Int):=by omega
  have hkl:k<l.length:=by omega
  have hkv:k<vs.length:=by omega
  have hix:=iK (l:=l) (n:=(k:Int)) (by omega) h1;have hiv:=p8 (l:=vs) (n:=(k:Int)) (by omega) (by omega);rw[PH,Pz l k hkl]at hix;rw[PH,Pz vs k hkv]at hiv;have hh:=t20 l[k].2 vs[k] (ht _ (Px hkl)) (hz _ (Px hkv));have hw:IntKind.i64.wrap ((k:Int)+1)=((k+1:Nat):Int):=by rw[bq (by omega) (by omega)];omega
  have ih:=FG l vs hl hlen ht hz n (k+1) (by omega) (by omega);rw[nW _ l vs k hkl hkv];generalize l[k]=f at hix hh;generalize vs[k]=v at hiv hh;rw[FL11_0];cases hx:fp f.2 v with
  |false=>
   rw[hx]at hh;simp[L11_0,h1,hix,hiv,hh,hkl]
  |true=>
   rw[hx]at hh;simp[L11_0,h1,hix,hiv,hh,hkl,hw];simpa using ih
def t11(l:List bd)(vs:List Val)(hl:l.length<=140737488355328)(ht:∀f∈l,f.2.Lim)(hz:∀v∈vs,v.sz<=1099511627776):ai pg 11 [aK l,vals vs]=M.pure (.bool (cL l vs)):=by
 rw[C11];by_cases h:l.length=vs.length
 ·have:=FG l vs hl h ht hz l.length 0 rfl (P8 _)
  simp only[PT,Sw]at this;have h3:((l.length:Int) != (vs.length:Int))=false:=by simp[h]
  have h4:(l.length != vs.length)=false:=by simp[h]
  unfold cL;simp[S11,h3,h4,h,this]
 ·have h3:((l.length:Int) != (vs.length:Int))=true:=by simp;omega
  have h4:(l.length != vs.length)=true:=by simp[h]
  unfold cL;simp[S11,h3,h4,h]
def FU(b:Bool)(k:AV->M AV):ae (ax (.bool b) false 1 (M.pure [.bool false])) (fun v=>ae (af (aG (.bool b) (.bool true) (nth v 0))) k)=k (.bool b):=by
 cases b<;>rfl
theorem NR(a b:a7):am T .neq 9 (.str a) (.str b)=some (.bool (a != b)):=rfl
def aS{α β:Type}{m:M α}{a:α}{h h':Hp}(e:m h= .ok a h')(f:α->M β):ae m f h=f a h':=by simp only[ae,e]
def Oc(x:bd):(ab (bw x)).length=3:=by simp
def wM(l:List bd):aK l= .sl (l.map bw):=by rw[aK,fF]
theorem mG{α:Type}(F:α->Bool):(l:List α)->(i:Int)->(l.find? F=none/\aV F l i= -1)\/∃(k:Nat)(x:α),l.find? F=some x/\l[k]? = some x/\aV F l i=i+k
 |[],i=>.inl ⟨rfl,rfl⟩
 | x:: l,i=>by
  cases h:F x with
  |true=>exact .inr ⟨0,x,by simp[h],rfl,by simp[aV,h]⟩
  |false=>
   rcases mG F l (i+1)with⟨h1,h2⟩|⟨k,y,h1,h2,h3⟩
   ·exact .inl ⟨by simp[h,h1],by simp[aV,h,h2]⟩
   ·exact .inr ⟨k+1,y,by simp[h,h1],by simpa using h2,by simp[aV,h,h3];omega⟩
def eD(t:Ty):Prop:=∀n,Ty.Short n t
def eD.len{t:Ty}(h:eD t):t.fields.length<=1000000000:=(h 1).1
def eD.kid{t:Ty}(h:eD t){f:bd}(hf:f∈t.fields):eD f.2:=fun n=>(h (n+1)).2 f hf
def fH{d:Nat}{t:Ty}(h:dm d t=true):eD t:=nL d t h
def vl{k:Int}{fs:List bd}(h:fs.length<=1000000000)(hf:∀f∈fs,eD f.2):eD (.mk k fs):=fun n=>by
 cases n with
 |zero=>exact trivial
 |succ n=>exact⟨h,fun f hm=>hf f hm n⟩
def AL{t:Ty}{f:bd}(h:f∈t.fields):SizeOf.sizeOf f.2<SizeOf.sizeOf t:=by
 cases t with
 |mk k fs=>
  have h1:=Q2 (show f∈fs from h);obtain⟨n,t⟩:=f;simp only[Rz,Ty.mk.sizeOf_spec]at h1 |-;have:SizeOf.sizeOf t<SizeOf.sizeOf ((n,t):bd):=by simp only[Rz];omega
  simp only[Rz]at this;omega
def oP(f:bd)(fs l:List bd):kM (f:: fs) l=(match Jt f l with|some x=>[x]|none=>[])++kM fs l:=by
 simp only[kM];rfl
theorem GA(f:bd)(l:List bd):Jt f l=match bW (fun z=>z.1== f.1) l with
  |some z=>(match rU f.2 z.2 with|some u=>some (f.1,u)|none=>none)
  |none=>none:=by
 obtain⟨n,t⟩:=f;simp only[Jt];rfl
theorem yp(l:List bd):(fs:List bd)->(kM fs l).length<=fs.length
 |[]=>by simp[kM]
 |f:: fs=>by
  have:=yp l fs
  rw[oP,P1,PW];cases Jt f l<;>simp<;>omega
def uz(n:a7)(t:Ty):aU T false 37 [(0,.str n),(1,t.av)]=some (bw (n,t)):=by
 cases t;rfl
def Nc(f:bd):aJ T 23 1 [(0,bw f)]=some (aK [f]):=by
 obtain⟨n,t⟩:=f;cases t;rfl
theorem GZ(l:List bd):cU (aK l)=M.pure (aK l):=rfl
def Kz(b:Ty)(hb:eD b)(l:List bd)(hl:l.length<=1000000000)(k:Int)(x4 x5:AV)(hk:∀f∈l,∀t:Ty,eD t->ai pg 74 [f.2.av,t.av]=M.pure (match rU f.2 t with|some u=>.tup [u.av,.bool true]|none=>.tup [ty0.av,.bool false])):∀(n i:Nat)(acc:List bd),l.length-i=n->i<=l.length->acc.length<=i->
  aj (L74_0 (ai pg) aj) [.ip (ab b.av),aK l,.int .i64 l.length,.int .i64 i,x4,x5,.int .i64 k,aK acc]=M.pure (.tup [(Ty.mk k (acc++kM (l.drop i) b.fields)).av,.bool true]):=by
 intro n
 induction n with
 |zero=>
  intro i acc hn hi ha;have h1:¬((i:Int)<(l.length:Int)):=by omega
  have h2:l.drop i=[]:=PD (by omega);have h3:ay 2 [] (.agg [.int .i64 k,aK acc])=M.pure (.agg [.int .i64 k,aK acc]):=bB rfl;rw[FL74_0,h2];simp[L74_0,h1,kM,h3];rfl
 | succ n ih=>
  intro i acc hn hi ha;have hlt:i<l.length:=by omega
  have h1:(i:Int)<(l.length:Int):=by omega
  have h2:l.drop i=l[i]:: l.drop (i+1):=PC hlt;have hw:IntKind.i64.wrap ((i:Int)+1)=(i:Int)+1:=bz (by omega);have hix:=iK (l:=l) (n:=(i:Int)) (by omega) h1;rw[PH,Pz l i hlt]at hix;have hk':=hk l[i] (Px hlt);have hlk:=t112 b.fields hb.len l[i].1;have ih2:∀acc:List bd,acc.length<=i+1->aj (L74_0 (ai pg) aj) [.ip (ab b.av),aK l,.int .i64 l.length,.int .i64 ((i:Int)+1),x4,x5,.int .i64 k,aK acc]=M.pure (.tup [(Ty.mk k (acc++kM (l.drop (i+1)) b.fields)).av,.bool true]):=fun acc ha=>ih (i+1) acc (by omega) (by omega) ha;simp only[fL]at ih2;rw[FL74_0,h2,oP,GA];generalize l[i]=f at hix hk' hlk |-;cases hz:bW (fun z:bd=>z.1== f.1) b.fields with
  |none=>
   rw[hz]at hlk;have ih':=ih2 acc (by omega);simp[L74_0,h1,hix,hlk,hw,ih']
  | some z=>
   rw[hz]at hlk;have hc:=hk' z.2 (hb.kid (iD hz).1);cases hu:rU f.2 z.2 with
   |none=>
    rw[hu]at hc;have ih':=ih2 acc (by omega);simp[L74_0,h1,hix,hlk,hw,hc,hu,ih']
   |some u=>
    rw[hu]at hc;have ih':=ih2 (acc++[(f.1,u)]) (by simp;omega);have hap:=Jy (a:=acc) (b:=[(f.1,u)]) (by simp;omega);simp[L74_0,h1,hix,hlk,hw,hc,hu,uz,Nc,hap,GZ,ih']
theorem t74(a b:Ty)(ha:eD a)(hb:eD b):ai pg 74 [a.av,b.av]=M.pure (match rU a b with|some u=>.tup [u.av,.bool true]|none=>.tup [ty0.av,.bool false]):=by
 have hloop:=Kz b hb a.fields ha.len a.kind (.int .i64 0) (.sl []) (fun f hf t ht=>by
  have:=AL hf
  exact t74 f.2 t (ha.kid hf) ht) a.fields.length 0 [] rfl (P8 _) (P8 _)
 rw[C74];have e1:rU a b=if a.kind=b.kind then some (.mk a.kind (kM a.fields b.fields))else none:=by
  cases a;cases b;simp only[rU,Ty.kind,Ty.fields];rfl
 have b1:aU T false 35 []=some ty0.av:=rfl;have b2:∀k:Int,aU T true 35 [(0,.int .i64 k)]=some (.agg [.int .i64 k,.hn]):=fun k=>rfl;have b3:∀k:Int,ay 2 [1] (.agg [.int .i64 k,.hn])=M.pure (.agg [.int .i64 k,.hn]):=fun k=>rfl;rw[e1];simp only[PT,P7]at hloop;by_cases hk:a.kind=b.kind
 ·have hk':(a.kind != b.kind)=false:=by simp[hk]
  rw[Ps hk];have hloop':aj (L74_0 (ai pg) aj) [.ip (ab b.av),aK a.fields,.int .i64 a.fields.length,.int .i64 0,.int .i64 0,.sl [],.int .i64 a.kind,.sl []]=M.pure (.tup [(Ty.mk a.kind (kM a.fields b.fields)).av,.bool true]):=hloop;simp only[fL]at hloop';simp[S74,hk',b2,b3,hloop'];exact bI fun g=>by simp[cl,dp]
 ·have hk':(a.kind != b.kind)=true:=by simp[hk]
  rw[if_neg hk];simp[S74,hk',b1];exact bI fun g=>by simp[cl,dp]
termination_by SizeOf.sizeOf a
def cp{m:M AV}{v r:AV}{h':Hp}(e:m []= .ok v h')(f:kC 6 h' v=r):aI m=M.pure r:=by
 funext hp;unfold aI;rw[e];show R.ok (kC 6 h' v) hp=R.ok r hp;rw[f]
def t163(t:Ty)(k:Int):ai pg 163 [t.av,.ip [.int .i64 k]]=M.pure (.bool (t.kind != k)):=by
 rw[C163];simp[S163,cl,dp]
def t162(k:Int)(l:List Ty)(hl:l.length<=1000000):ai pg 162 [.int .i64 k,.ip [im l]]=M.pure (.bool (jf k l)):=by
 have h:=t117 (.fn (.func 163) [] [.ip [.int .i64 k]]) (fun t=>t.kind != k) l (by omega) (fun g=>by simp[cl,dp]) (fun t _=>t163 t k);rw[C162];have e:(!l.any fun t=>t.kind != k)=jf k l:=by
  unfold jf;rw[RL];congr 1;funext t;simp[bne]
 simp[S162,cl,dp,h,e]
theorem B1(f:AV->M AV):ae (newH [.int .i64 0,.hn]) f []=f (.hp 0 0) [[.int .i64 0,.hn]]:=rfl
theorem B2(f:AV->M AV)(k:Int)(fs:List AV)(c1 c2:AV):ae (bP T 35 (.hp 0 0) (.agg [.int .i64 k,.sl fs])) f [[c1,c2]]=f (.tup []) [[.int .i64 k,.sl fs]]:=rfl
theorem yu(f:AV->M AV)(k:Int)(c1 c2:AV):ae (bP T 35 (.hp 0 0) (.agg [.int .i64 k,.hn])) f [[c1,c2]]=f (.tup []) [[.int .i64 k,.hn]]:=rfl
theorem B3(f:AV->M AV)(k:Int)(c1 c2:AV):ae (bP T 3 (.hp 0 0) (.int .i64 k)) f [[c1,c2]]=f (.tup []) [[.int .i64 k,c2]]:=rfl
theorem B4(f:AV->M AV)(c1 c2:AV):ae (aW T 35 (.hp 0 0)) f [[c1,c2]]=f (.agg [c1,c2]) [[c1,c2]]:=rfl
theorem fa0:aa T 35 (.hp 0 0) 0=some (.hp 0 0):=rfl
theorem fa1:aa T 35 (.hp 0 0) 1=some (.hp 0 1):=rfl
theorem yw:aU T true 35 []=some (.agg [.int .i64 0,.hn]):=rfl
theorem Ar:aU T false 35 []=some ty0.av:=rfl
def yx(k:Int):ay 2 [] (.agg [.int .i64 k,.hn])=M.pure (.agg [.int .i64 k,.hn]):=bB rfl
def yy(k:Int)(fs:List AV):ay 2 [] (.agg [.int .i64 k,.sl fs])=M.pure (.agg [.int .i64 k,.sl fs]):=bB rfl
def OA(k:Int)(l n:Nat):ay 2 [] (.agg [.int .i64 k,.hs l 0 n 3 true])=M.pure (.agg [.int .i64 k,.hs l 0 n 3 true]):=bB rfl
theorem Je(n:Int):cU (.int .i64 n)=M.pure (.int .i64 n):=rfl
theorem Gz:ty0.av= .agg [.int .i64 0,.sl []]:=rfl
def Ll(f:AV->M AV)(t:Ty)(c1 c2:AV):ae (bP T 35 (.hp 0 0) t.av) f [[c1,c2]]=f (.tup []) [[.int .i64 t.kind,aK t.fields]]:=by
 rw[<- gS];rfl
def cnt(t:Ty):ay 2 [] (.agg [.int .i64 t.kind,aK t.fields])=M.pure (.agg [.int .i64 t.kind,aK t.fields]):=bB rfl
def GO(h:Hp)(acc:List bd):Prop:=(acc=[]/\h[0]? = some [.int .i64 2,.hn])\/(acc≠[]/\∃q,q≠0/\h[0]? = some [.int .i64 2,.hs q 0 acc.length 3 true]/\h[q]? = some (rowOf bw acc))
theorem Jq:(l:List bd)->(rowOf bw l).all ba=true
 |[]=>rfl
 |f:: l=>by
  rw[kq,List.all_append,Jq l,QB,fA];rfl
def Dh{h:Hp}{acc:List bd}(A:GO h acc)(hl:acc.length<=1000000)(f:bd):∃sv rv h1 h2,aW T 23 (.hp 0 1) h= .ok sv h/\appH T 23 false sv (aK [f]) h= .ok rv h1/\bP T 23 (.hp 0 1) rv h1= .ok (.tup []) h2/\GO h2 (acc++[f]):=by
 have hfl:aK [f]= .sl [bw f]:=by rw[wM];rfl
 have h0l:0<h.length:=by
  rcases A with⟨_,h0⟩|⟨_,q,_,h0,_⟩
  ·exact (PK.1 h0).1
  ·exact (PK.1 h0).1
 rcases A with⟨rfl,h0⟩|⟨hne,q,hq0,h0,hq⟩
 ·have e1:aW T 23 (.hp 0 1) h= .ok .hn h:=mI rfl rfl h0 rfl;have e2:=LR (T:=T) (t:=23) (e:=37) rfl rfl rfl (x:=bw f) (i7 f) (by decide) (by decide) (by decide) h;rw[<- hfl]at e2;have h0':(h++[ab (bw f)])[0]? = some [.int .i64 2,.hn]:=by rw[PN h0l];exact h0
  have e3:=vo (T:=T) (t:=23) rfl (k:=1) (v:=.hs h.length 0 1 3 true) h0' rfl (by decide) (by decide);refine⟨_,_,_,_,e1,e2,e3,.inr ⟨by simp,h.length,by omega,?_,?_⟩⟩
  ·rw[Qo (by simp)];rfl
  ·rw[QE (by omega),PY (Pw _),Ra];simp[rowOf]
 ·have e1:aW T 23 (.hp 0 1) h= .ok (.hs q 0 acc.length 3 true) h:=mI rfl rfl h0 rfl;have hln:=oL (f:=bw) Oc acc;have hpos:0<acc.length:=Rf.2 hne;have e2:=LS (T:=T) (t:=23) (e:=37) rfl rfl rfl (x:=bw f) (i7 f) (by decide) (by decide) hq (Jq acc) hln hpos (show (acc.length+1)*48<=_ by omega);rw[<- hfl]at e2;have hql:q<h.length:=(PK.1 hq).1;have h0':((h.set q [])++[rowOf bw acc++ab (bw f)])[0]? = some [.int .i64 2,.hs q 0 acc.length 3 true]:=by
   rw[PN (by simpa using h0l),QE (by omega)];exact h0
  have e3:=vo (T:=T) (t:=23) rfl (k:=1) (v:=.hs h.length 0 (acc.length+1) 3 true) h0' rfl (show 1+1<=2 by omega) (by decide);refine⟨_,_,_,_,e1,e2,e3,.inr ⟨by simp,h.length,by omega,?_,?_⟩⟩
  ·rw[Qo (by simp),P1];rfl
  ·rw[QE (by omega),PY (by simp),Q0,Ra];simp[rowOf]
theorem Dg{h:Hp}{acc:List bd}(A:GO h acc):∃v,aW T 35 (.hp 0 0) h= .ok v h/\ay 2 [] v=M.pure v/\(∃c1 c2,v= .agg [c1,c2])/\kC 6 h (.tup [v,.int .i64 0])= .tup [(Ty.mk 2 acc).av,.int .i64 0]:=by
 have e:(Ty.mk 2 acc).av= .agg [.int .i64 2,aK acc]:=rfl;rcases A with⟨rfl,h0⟩|⟨hne,q,hq0,h0,hq⟩
 ·exact⟨.agg [.int .i64 2,.hn],FD (T:=T) (t:=35) rfl rfl h0 (show 0+2<=2 by omega),yx 2,⟨_,_,rfl⟩,rfl⟩
 ·refine⟨.agg [.int .i64 2,.hs q 0 acc.length 3 true],FD (T:=T) (t:=35) rfl rfl h0 (show 0+2<=2 by omega),OA 2 q acc.length,⟨_,_,rfl⟩,?_⟩;have hfr:=Cm (f:=bw) Oc (fun x=>by rw[fA,ll]) (fun x g=>J2 g x) (by decide) hq 5;rw[e,wM,<- hfr];rfl
def HB(e:Exp)(l:List Ty)(x1 x2:AV)(hlen:l.length<=1000000)(hn:e.names.length=l.length):∀(n i:Nat)(h:Hp),l.length-i=n->i<=l.length->GO h ((e.names.zip l).take i)->
  ∃v h',aj (L128_0 (ai pg) aj (K128_0 (ai pg) aj)) [.ip (ab e.av),.hp 0 0,.bool true,im l,.int .i64 l.length,.int .i64 i,x1,x2] h= .ok v h'/\kC 6 h' v= .tup [(Ty.mk 2 (e.names.zip l)).av,.int .i64 0]:=by
 intro n
 induction n with
 |zero=>
  intro i h hi hle A;have h1:¬((i:Int)<(l.length:Int)):=by omega
  have h2:(e.names.zip l).take i=e.names.zip l:=QS (by rw[Rl];omega);rw[h2]at A;obtain⟨v,e1,e2,⟨c1,c2,rfl⟩,e3⟩:=Dg A;refine⟨_,h,?_,e3⟩;rw[FL128_0];simp only[L128_0,K128_0,aH,aM,bV,ao,h1,QR,au,Pr,PE,gn,P3];rw[aS e1];simp only[e2,aB,cD,aH,aM];rfl
 | succ n ih=>
  intro i h hi hle A;have hlt:i<l.length:=by omega
  have hlt2:i<e.names.length:=by omega
  have h1:(i:Int)<(l.length:Int):=by omega
  have hw:IntKind.i64.wrap ((i:Int)+1)=(i:Int)+1:=bz (by omega);have hix:=tT (l:=l) (n:=(i:Int)) (by omega) h1;rw[PH,Pz l i hlt]at hix;have hix2:=p7 (l:=e.names) (n:=(i:Int)) (by omega) (by omega);rw[PH,Pz e.names i hlt2]at hix2;have ht:(e.names.zip l).take (i+1)=(e.names.zip l).take i++[(e.names[i],l[i])]:=by
   rw[Re (by rw[Rl];omega),List.getElem_zip]
  obtain⟨sv,rv,h2,h3,e1,e2,e3,A3⟩:=Dh A (by rw[QO,Rl];omega) (e.names[i],l[i]);rw[<- ht]at A3;obtain⟨v,h',e4,e5⟩:=ih (i+1) h3 (by omega) (by omega) A3;refine⟨v,h',?_,e5⟩;have e4':aj (L128_0 (ai pg) aj (K128_0 (ai pg) aj)) [.ip (ab e.av),.hp 0 0,.bool true,im l,.int .i64 l.length,.int .i64 ((i:Int)+1),x1,x2] h3= .ok v h':=e4;rw[<- e4'];generalize hcode:aj (L128_0 (ai pg) aj (K128_0 (ai pg) aj)) [.ip (ab e.av),.hp 0 0,.bool true,im l,.int .i64 l.length,.int .i64 i,x1,x2] h=code;rw[FL128_0]at hcode;simp -implicitDefEqProofs only[L128_0,aH,aM,bV,ao,h1,Qi,au,PF,hix,fL,LD35,PW,Qa,PX,Nat.reduceAdd,Pw,Qv,Qx,gS,Av.jE,aB,fa1]at hcode;rw[aS e1]at hcode;simp -implicitDefEqProofs only[a6,FA66_4,ao,P6,PT,LD22,hix2,gw,LD9,LD35,PW,Qa,PX,Nat.reduceAdd,Pw,PF,Qv,Qx,gS,uz,Nc]at hcode;rw[aS e2]at hcode;rw[aS e3]at hcode;simp -implicitDefEqProofs only[dj,ao,hw]at hcode;rw[<- hcode,a6]
theorem fy(l:List Ty):ab (im l)=[im l]:=rfl
def t128(e:Exp)(l:List Ty)(hl:∀t∈l,eD t)(hlen:l.length<=1000000)(h11:e.op=11->l.length=3)(h14:e.op=14->l.length=1)(h13:e.op=13->e.names.length=l.length):ai pg 128 [e.av,im l]=M.pure (match bU e l with|some t=>.tup [t.av,.int .i64 0]|none=>.tup [ty0.av,.int .i64 13]):=by
 have h0:=t162 0 l hlen;have h1:=t162 1 l hlen;rw[C128,yS,EP];have fin:∀k:Int,kC 6 [[.int .i64 k,.hn]] (.tup [.agg [.int .i64 k,.hn],.int .i64 0])= .tup [(Ty.mk k []).av,.int .i64 0]:=fun k=>rfl;have fin0:∀h:Hp,kC 6 h (.tup [ty0.av,.int .i64 13])= .tup [ty0.av,.int .i64 13]:=fun h=>rfl;have fins:∀(h:Hp)(t:Ty),kC 6 h (.tup [.agg [.int .i64 t.kind,aK t.fields],.int .i64 0])= .tup [t.av,.int .i64 0]:=fun h t=>by
  have hc:Ap.Clean (AV.tup [t.av,.int .i64 0]):=fun g=>by simp[cl,dp]
  rw[gS];exact hc.frz 6 h
 by_cases o3:e.op=3\/e.op=4\/e.op=5\/e.op=16
 ·have ep:bU e l=if jf 0 l=true then some (.mk 0 [])else none:=by unfold bU;rw[Ps o3]
  rw[ep];cases hb:jf 0 l with
  |true=>
   rw[hb]at h0;refine cp (v:=.tup [.agg [.int .i64 0,.hn],.int .i64 0]) (h':=[[.int .i64 0,.hn]]) ?_ (fin 0);rcases o3 with hop|hop|hop|hop<;>simp[S128,K128_0,K128_1,K128_2,yw,Ar,B1,B2,yu,B3,B4,fa0,hop,yx,yy,bu,fy,h0,h1]<;>rfl
  |false=>
   rw[hb]at h0;refine cp (v:=.tup [ty0.av,.int .i64 13]) (h':=[[.int .i64 0,.hn]]) ?_ (fin0 _);rcases o3 with hop|hop|hop|hop<;>simp[S128,K128_0,K128_1,K128_2,yw,Ar,B1,B2,yu,B3,B4,fa0,hop,yx,yy,bu,fy,h0,h1]<;>rfl
 ·by_cases hop:e.op=1
  ·have ep:bU e l=some (.mk 1 []):=by unfold bU;rw[if_neg o3,Ps hop]
   rw[ep];refine cp (v:=.tup [.agg [.int .i64 1,.hn],.int .i64 0]) (h':=[[.int .i64 1,.hn]]) ?_ (fin 1);simp[S128,K128_0,K128_1,K128_2,yw,Ar,B1,B2,yu,B3,B4,fa0,hop,yx,yy,bu,fy,h0,h1,Je];rfl
  ·by_cases hop6:e.op=6
   ·have hop:=hop6;have ep:bU e l=if jf 0 l=true then some (.mk 1 [])else none:=by unfold bU;rw[if_neg o3,if_neg (by omega),Ps hop6]
    rw[ep];cases hb:jf 0 l with
    |true=>
     rw[hb]at h0;refine cp (v:=.tup [.agg [.int .i64 1,.hn],.int .i64 0]) (h':=[[.int .i64 1,.hn]]) ?_ (fin 1);simp[S128,K128_0,K128_1,K128_2,yw,Ar,B1,B2,yu,B3,B4,fa0,hop,yx,yy,bu,fy,h0,h1,Je];rfl
    |false=>
     rw[hb]at h0;refine cp (v:=.tup [ty0.av,.int .i64 13]) (h':=[[.int .i64 1,.hn]]) ?_ (fin0 _);simp[S128,K128_0,K128_1,K128_2,yw,Ar,B1,B2,yu,B3,B4,fa0,hop,yx,yy,bu,fy,h0,h1,Je];rfl
   ·by_cases hop7:e.op=7
    ·have hop:=hop7;have ep:bU e l=if(jf 0 l||jf 1 l)=true then some (.mk 1 [])else none:=by unfold bU;rw[if_neg o3,if_neg (by omega),if_neg hop6,Ps hop7]
     rw[ep];cases hb:jf 0 l<;>cases hb1:jf 1 l<;>rw[hb]at h0<;>rw[hb1]at h1
     ·refine cp (v:=.tup [ty0.av,.int .i64 13]) (h':=[[.int .i64 1,.hn]]) ?_ (fin0 _);simp[S128,K128_0,K128_1,K128_2,yw,Ar,B1,B2,yu,B3,B4,fa0,hop,yx,yy,bu,fy,h0,h1,Je];rfl
     all_goals
      refine cp (v:=.tup [.agg [.int .i64 1,.hn],.int .i64 0]) (h':=[[.int .i64 1,.hn]]) ?_ (fin 1);simp[S128,K128_0,K128_1,K128_2,yw,Ar,B1,B2,yu,B3,B4,fa0,hop,yx,yy,bu,fy,h0,h1,Je];rfl
    ·by_cases o8:e.op=8\/e.op=9\/e.op=10
     ·have ep:bU e l=if jf 1 l=true then some (.mk 1 [])else none:=by unfold bU;rw[if_neg o3,if_neg (by omega),if_neg hop6,if_neg hop7,Ps o8]
      rw[ep];cases hb:jf 1 l with
      |true=>
       rw[hb]at h1;refine cp (v:=.tup [.agg [.int .i64 1,.hn],.int .i64 0]) (h':=[[.int .i64 1,.hn]]) ?_ (fin 1);rcases o8 with hop|hop|hop<;>simp[S128,K128_0,K128_1,K128_2,yw,Ar,B1,B2,yu,B3,B4,fa0,hop,yx,yy,bu,fy,h0,h1,Je]<;>rfl
      |false=>
       rw[hb]at h1;refine cp (v:=.tup [ty0.av,.int .i64 13]) (h':=[[.int .i64 1,.hn]]) ?_ (fin0 _);rcases o8 with hop|hop|hop<;>simp[S128,K128_0,K128_1,K128_2,yw,Ar,B1,B2,yu,B3,B4,fa0,hop,yx,yy,bu,fy,h0,h1,Je]<;>rfl
     ·by_cases hop11:e.op=11
      ·have hop:=hop11;have ep:bU e l=(match rU l[1]! l[2]! with|some t=>if l[0]!.kind=1 then some t else none|none=>none):=by unfold bU;rw[if_neg o3,if_neg (by omega),if_neg hop6,if_neg hop7,if_neg o8,Ps hop11];rfl
       rw[ep];obtain⟨a,b,c,rfl⟩:∃a b c,l=[a,b,c]:=by
        have:=h11 hop
        match l,this with
        |[a,b,c],_=>exact⟨a,b,c,rfl⟩
       have i0:ak T 47 (im [a,b,c]) (.int .i64 0)=some (.ip (ab a.av)):=tT (l:=[a,b,c]) (n:=0) (by omega) (by simp);have i1:ak T 47 (im [a,b,c]) (.int .i64 1)=some (.ip (ab b.av)):=tT (l:=[a,b,c]) (n:=1) (by omega) (by simp);have i2:ak T 47 (im [a,b,c]) (.int .i64 2)=some (.ip (ab c.av)):=tT (l:=[a,b,c]) (n:=2) (by omega) (by simp);have hu:=t74 b c (hl b (by simp)) (hl c (by simp));show aI _=M.pure (match (match rU b c with|some t=>if a.kind=1 then some t else none|none=>none)with|some t=>.tup [t.av,.int .i64 0]|none=>.tup [ty0.av,.int .i64 13]);cases hub:rU b c with
       |none=>
        rw[hub]at hu;refine cp (v:=.tup [ty0.av,.int .i64 13]) (h':=[[.int .i64 0,.sl []]]) ?_ (fin0 _);simp[S128,K128_0,K128_1,K128_2,yw,Ar,B1,B2,yu,B3,B4,fa0,hop,yx,yy,bu,fy,h0,h1,i0,i1,i2,hu,hub,Ll,Gz];rfl
       | some u=>
        rw[hub]at hu;by_cases hk:a.kind=1
        ·dsimp only;rw[Ps hk];have hk':(a.kind== 1)=true:=PR.2 hk;refine cp (v:=.tup [.agg [.int .i64 u.kind,aK u.fields],.int .i64 0]) (h':=[[.int .i64 u.kind,aK u.fields]]) ?_ (fins _ u);simp[S128,K128_0,K128_1,K128_2,yw,Ar,B1,B2,yu,B3,B4,fa0,hop,yx,yy,bu,fy,h0,h1,i0,i1,i2,hu,hub,Ll,hk',cnt];rfl
        ·dsimp only;rw[if_neg hk];have hk':(a.kind== 1)=false:=PP.2 hk;refine cp (v:=.tup [ty0.av,.int .i64 13]) (h':=[[.int .i64 u.kind,aK u.fields]]) ?_ (fin0 _);simp[S128,K128_0,K128_1,K128_2,yw,Ar,B1,B2,yu,B3,B4,fa0,hop,yx,yy,bu,fy,h0,h1,i0,i1,i2,hu,hub,Ll,hk'];rfl
      ·by_cases hop13:e.op=13
       ·have hop:=hop13;have ep:bU e l=some (.mk 2 (e.names.zip l)):=by unfold bU;rw[if_neg o3,if_neg (by omega),if_neg hop6,if_neg hop7,if_neg o8,if_neg hop11,Ps hop13]
        rw[ep];obtain⟨v,h',e1,e2⟩:=HB e l (.int .i64 0) (.sl []) hlen (h13 hop) l.length 0 [[.int .i64 2,.hn]] rfl (P8 _) (.inl ⟨rfl,rfl⟩);refine cp (v:=v) (h':=h') ?_ e2;have e1':aj (L128_0 (ai pg) aj (K128_0 (ai pg) aj)) [.ip (ab e.av),.hp 0 0,.bool true,im l,.int .i64 l.length,.int .i64 0,.int .i64 0,.sl []] [[.int .i64 2,.hn]]= .ok v h':=e1;rw[a6,hop]at e1';simp[S128,K128_1,K128_2,yw,B1,yu,B3,fa0,hop,fy,Je];exact e1'
       ·by_cases hop14:e.op=14
        ·have hop:=hop14;have ep:bU e l=(match bW (fun z=>z.1== e.s) l[0]!.fields with|some z=>some z.2|none=>none):=by unfold bU;rw[if_neg o3,if_neg (by omega),if_neg hop6,if_neg hop7,if_neg o8,if_neg hop11,if_neg hop13,Ps hop14];rfl
         rw[ep];obtain⟨a,rfl⟩:∃a,l=[a]:=by
          have:=h14 hop
          match l,this with
          |[a],_=>exact⟨a,rfl⟩
         have i0:ak T 47 (im [a]) (.int .i64 0)=some (.ip (ab a.av)):=tT (l:=[a]) (n:=0) (by omega) (by simp);have hk:=t112 a.fields (hl a (by simp)).len e.s;show aI _=M.pure (match (match bW (fun z=>z.1== e.s) a.fields with|some z=>some z.2|none=>none)with|some t=>.tup [t.av,.int .i64 0]|none=>.tup [ty0.av,.int .i64 13]);cases hz:bW (fun z:bd=>z.1== e.s) a.fields with
         |none=>
          rw[hz]at hk;refine cp (v:=.tup [ty0.av,.int .i64 13]) (h':=[[.int .i64 0,.sl []]]) ?_ (fin0 _);simp[S128,K128_0,K128_1,K128_2,yw,Ar,B1,B2,yu,B3,B4,fa0,hop,yx,yy,bu,fy,h0,h1,i0,hk,Ll,Gz];rfl
         |some z=>
          rw[hz]at hk;refine cp (v:=.tup [.agg [.int .i64 z.2.kind,aK z.2.fields],.int .i64 0]) (h':=[[.int .i64 z.2.kind,aK z.2.fields]]) ?_ (fins _ z.2);simp[S128,K128_0,K128_1,K128_2,yw,Ar,B1,B2,yu,B3,B4,fa0,hop,yx,yy,bu,fy,h0,h1,i0,hk,Ll,cnt];rfl
        ·have ep:bU e l=some (.mk 0 []):=by unfold bU;rw[if_neg o3,if_neg (by omega),if_neg hop6,if_neg hop7,if_neg o8,if_neg hop11,if_neg hop13,if_neg hop14]
         rw[ep];refine cp (v:=.tup [.agg [.int .i64 0,.hn],.int .i64 0]) (h':=[[.int .i64 0,.hn]]) ?_ (fin 0);have n3:(e.op== 3)=false:=PP.2 (by omega);have n4:(e.op== 4)=false:=PP.2 (by omega);have n5:(e.op== 5)=false:=PP.2 (by omega);have n16:(e.op== 16)=false:=PP.2 (by omega);have n1:(e.op== 1)=false:=PP.2 (by omega);have n6:(e.op== 6)=false:=PP.2 (by omega);have n7:(e.op== 7)=false:=PP.2 (by omega);have n8:(e.op== 8)=false:=PP.2 (by omega);have n9:(e.op== 9)=false:=PP.2 (by omega);have n10:(e.op== 10)=false:=PP.2 (by omega);have n11:(e.op== 11)=false:=PP.2 (by omega);have n13:(e.op== 13)=false:=PP.2 (by omega);have n14:(e.op== 14)=false:=PP.2 (by omega);simp[S128,K128_0,K128_1,K128_2,yw,B1,yu,B4,yx,n3,n4,n5,n16,n1,n6,n7,n8,n9,n10,n11,n13,n14];rfl
end Go.Proofs.YtihmmkncokjbaaaGreatDoor
