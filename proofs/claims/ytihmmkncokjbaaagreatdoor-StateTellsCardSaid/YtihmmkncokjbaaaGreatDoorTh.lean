/- What the functions compute, part 8. Conditions: bounds. -/
import Derived.Test.YtihmmkncokjbaaaGreatDoorTg
import Derived.Test.YtihmmkncokjbaaaGreatDoorLd
set_option linter.defProp false
set_option linter.unusedSimpArgs false
set_option linter.unusedVariables false
namespace Go.Proofs.YtihmmkncokjbaaaGreatDoor
open Go Go.Av Go.Av.Ap
set_option maxRecDepth 100000
def H9(f:AV)(F:Mod->Bool)(l:List Mod)(hb:l.length<=4611686018427387904)(hf:∀x∈l,cX (aj pg) f [Mod.av x]=ay (.bool (F x))):∀(n:Nat)(i:Int),l.length-i.toNat=n->0<=i->i<=l.length->
  ao (L193_0 (aj pg) ao) [dI l,f,.int .i64 l.length,.int .i64 i]=ay (.int .i64 (bj F (l.drop i.toNat) i)):=by
 intro n
 induction n with
 |zero=>
  intro i hn hi hl;rw[FL193_0];simp only[L193_0];have h1:¬(i<(l.length:Int)):=by omega
  have h2:l.drop i.toNat=[]:=Qg (by omega);simp[h1,h2,bj]
 |succ n ih=>
  intro i hn hi hl;have h1:i<(l.length:Int):=by omega
  have hlt:i.toNat<l.length:=by omega
  have h2:bj F (l.drop i.toNat) i=if F l[i.toNat]=true then i else bj F (l.drop (i.toNat+1)) (i+1):=by rw[P9 hlt];rfl
  have h3:=hf l[i.toNat] (P2 hlt);have h4:=ih (i+1) (by omega) (by omega) (by omega);rw[show (i+1).toNat=i.toNat+1 by omega]at h4;rw[FL193_0];simp only[L193_0];simp (disch:=omega) [h1,bd,nu,h3,h2];cases F l[i.toNat]
  ·simpa using h4
  ·simp
def t193(f:AV)(F:Mod->Bool)(l:List Mod)(hb:l.length<=4611686018427387904)(hc:∀g,cl g f=f)(hf:∀x∈l,cX (aj pg) f [Mod.av x]=ay (.bool (F x))):aj pg 193 [dI l,f]=ay (.int .i64 (bj F l 0)):=by
 rw[C193];simp[S193,hc,H9 f F l hb hf l.length 0 rfl (by omega) (by omega)]
def t148(f:AV)(F:Mod->Bool)(l:List Mod)(hb:l.length<=4611686018427387904)(hc:∀g,cl g f=f)(hf:∀x∈l,cX (aj pg) f [Mod.av x]=ay (.bool (F x))):aj pg 148 [dI l,f]=ay (.bool (l.any F)):=by
 rw[C148];simp[S148,hc,t193 f F l hb hc hf,mw]
def Ib(f:AV)(F:Fun->Bool)(l:List Fun)(hb:l.length<=4611686018427387904)(hf:∀x∈l,cX (aj pg) f [Fun.av x]=ay (.bool (F x))):∀(n:Nat)(i:Int),l.length-i.toNat=n->0<=i->i<=l.length->
  ao (L212_0 (aj pg) ao) [mI l,f,.int .i64 l.length,.int .i64 i]=ay (.int .i64 (bj F (l.drop i.toNat) i)):=by
 intro n
 induction n with
 |zero=>
  intro i hn hi hl;rw[FL212_0];simp only[L212_0];have h1:¬(i<(l.length:Int)):=by omega
  have h2:l.drop i.toNat=[]:=Qg (by omega);simp[h1,h2,bj]
 |succ n ih=>
  intro i hn hi hl;have h1:i<(l.length:Int):=by omega
  have hlt:i.toNat<l.length:=by omega
  have h2:bj F (l.drop i.toNat) i=if F l[i.toNat]=true then i else bj F (l.drop (i.toNat+1)) (i+1):=by rw[P9 hlt];rfl
  have h3:=hf l[i.toNat] (P2 hlt);have h4:=ih (i+1) (by omega) (by omega) (by omega);rw[show (i+1).toNat=i.toNat+1 by omega]at h4;rw[FL212_0];simp only[L212_0];simp (disch:=omega) [h1,bd,Dl,h3,h2];cases F l[i.toNat]
  ·simpa using h4
  ·simp
def t212(f:AV)(F:Fun->Bool)(l:List Fun)(hb:l.length<=4611686018427387904)(hc:∀g,cl g f=f)(hf:∀x∈l,cX (aj pg) f [Fun.av x]=ay (.bool (F x))):aj pg 212 [mI l,f]=ay (.int .i64 (bj F l 0)):=by
 rw[C212];simp[S212,hc,Ib f F l hb hf l.length 0 rfl (by omega) (by omega)]
def Lk(f:AV)(F:cE->Bool)(l:List cE)(hb:l.length<=4611686018427387904)(hf:∀x∈l,cX (aj pg) f [bZ x]=ay (.bool (F x))):∀(n:Nat)(i:Int),l.length-i.toNat=n->0<=i->i<=l.length->
  ao (L81_0 (aj pg) ao) [bm l,f,.int .i64 l.length,.int .i64 i]=ay (.int .i64 (bj F (l.drop i.toNat) i)):=by
 intro n
 induction n with
 |zero=>
  intro i hn hi hl;rw[FL81_0];simp only[L81_0];have h1:¬(i<(l.length:Int)):=by omega
  have h2:l.drop i.toNat=[]:=Qg (by omega);simp[h1,h2,bj]
 |succ n ih=>
  intro i hn hi hl;have h1:i<(l.length:Int):=by omega
  have hlt:i.toNat<l.length:=by omega
  have h2:bj F (l.drop i.toNat) i=if F l[i.toNat]=true then i else bj F (l.drop (i.toNat+1)) (i+1):=by rw[P9 hlt];rfl
  have h3:=hf l[i.toNat] (P2 hlt);have h4:=ih (i+1) (by omega) (by omega) (by omega);rw[show (i+1).toNat=i.toNat+1 by omega]at h4;rw[FL81_0];simp only[L81_0];simp (disch:=omega) [h1,bd,gp,h3,h2];cases F l[i.toNat]
  ·simpa using h4
  ·simp
def t81(f:AV)(F:cE->Bool)(l:List cE)(hb:l.length<=4611686018427387904)(hc:∀g,cl g f=f)(hf:∀x∈l,cX (aj pg) f [bZ x]=ay (.bool (F x))):aj pg 81 [bm l,f]=ay (.int .i64 (bj F l 0)):=by
 rw[C81];simp[S81,hc,Lk f F l hb hf l.length 0 rfl (by omega) (by omega)]
def t247(m:Mod)(s:aR):aj pg 247 [m.av,.ip [.str s]]=ay (.bool (m.name== s)):=by
 rw[C247];simp[S247,cl,eM]
def t248(f:Fun)(s:aR):aj pg 248 [f.av,.ip [.str s]]=ay (.bool (f.name== s)):=by
 rw[C248];simp[S248,cl,eM]
def t149(m w:Mod):aj pg 149 [m.av,.ip (aa w.av)]=ay (.bool (m.name== w.name)):=by
 rw[C149];simp[S149,cl,eM]
def Nm(p:List Mod)(hp:p.length<=4611686018427387904)(s:aR):aj pg 193 [dI p,.fn (.func 247) [] [.ip [.str s]]]=ay (.int .i64 (jb p s)):=
 t193 _ _ p hp (fun g=>rfl) (fun m _=>t247 m s)
def Nn(p:List Fun)(hp:p.length<=4611686018427387904)(s:aR):aj pg 212 [mI p,.fn (.func 248) [] [.ip [.str s]]]=ay (.int .i64 (ge p s)):=
 t212 _ _ p hp (fun g=>rfl) (fun m _=>t248 m s)
def t168(n:Int):aj pg 168 [.int .i64 n]=ay (Val.mk 0 n [] []).av:=by
 rw[C168];rfl
def t169(b:Bool):aj pg 169 [.bool b]=ay (cZ b).av:=by
 rw[C169];cases b<;>rfl
def t166(b:Bool)(n:Int):aj pg 166 [.bool b,.int .i64 n]=if b=true then ay (.tup [])else eI (.iface 39 (.int .i64 n)):=by
 rw[C166];cases b<;>rfl
def KQ(l:List aR):cV T 22 (strs l) none (some (.int .i64 l.length)) (some (.int .i64 l.length))=some (strs l):=by
 have:=pZ (T:=T) (t:=22) (e:=9) rfl rfl rfl (l.map AV.str)
 simpa [strs]using this
def KP(l:List Val):cV T 30 (vals l) none (some (.int .i64 l.length)) (some (.int .i64 l.length))=some (vals l):=by
 have:=pZ (T:=T) (t:=30) (e:=45) rfl rfl rfl (dP l)
 simpa [vals,fh]using this
def t217(l:List aR):aj pg 217 [strs l]=ay (strs l):=by
 rw[C217];simp[S217,KQ,bw (a:=strs l) fun g=>ny g l]
def t218(l:List Val):aj pg 218 [vals l]=ay (vals l):=by
 rw[C218];simp[S218,KP]
def aM(o:Int)(ns:List aR)(vs:List Val):AV:=.agg [.int .i64 o,strs ns,vals vs]
@[simp] theorem bH(o:Int)(ns:List aR)(vs:List Val):aa (aM o ns vs)=[.int .i64 o,strs ns,vals vs]:=rfl
theorem cd(o:Int)(ns:List aR)(vs:List Val):AV.agg [.int .i64 o,strs ns,vals vs]=aM o ns vs:=rfl
def wB(g)(o:Int)(ns:List aR)(vs:List Val):cl g (aM o ns vs)=aM o ns vs:=by
 simp[aM,cl,eM,ny,eh]
def nk(o:Int)(ns:List aR)(vs:List Val):cz 3 (aM o ns vs)=true:=by simp[cz,bM,strs,vals,aM,dk,aa]
def zC(o:Int)(ns:List aR)(vs:List Val):aJ (ay (aM o ns vs))=ay (aM o ns vs):=bw fun g=>wB g o ns vs
set_option maxHeartbeats 1000000 in
def t167(n:Int):aj pg 167 [.int .i64 n]=ay (.int .i64 (bg n)):=by
 rw[C167];unfold bg;simp only[S167,K167_0,K167_1,K167_2,K167_3,cl,ci,dJ,ak,am,ax,aE,Qk];by_cases h0:n=0
 ·simp[h0]
 by_cases h1:n=1
 ·simp[h1]
 by_cases h2:n=2
 ·simp[h2]
 by_cases h17:n=17
 ·simp[h17]
 by_cases h10:n=10
 ·simp[h10]
 by_cases h14:n=14
 ·simp[h14]
 by_cases h16:n=16
 ·simp[h16]
 by_cases h18:n=18
 ·simp[h18]
 by_cases h3:n=3
 ·simp[h3]
 by_cases h4:n=4
 ·simp[h4]
 by_cases h5:n=5
 ·simp[h5]
 by_cases h6:n=6
 ·simp[h6]
 by_cases h7:n=7
 ·simp[h7]
 by_cases h8:n=8
 ·simp[h8]
 by_cases h9:n=9
 ·simp[h9]
 by_cases h12:n=12
 ·simp[h12]
 by_cases h11:n=11
 ·simp[h11]
 by_cases h13:n=13
 ·simp[h13]
 by_cases h15:n=15
 ·simp[h15]
 simp[h0,h1,h2,h17,h10,h14,h16,h18,h3,h4,h5,h6,h7,h8,h9,h12,h11,h13,h15]
theorem t172(o:Int)(ns:List aR)(vs:List Val)(s:aR)(v:Val)(h1:ns.length<=1099511627776)(h2:vs.length<=1099511627776):
  aj pg 172 [aM o ns vs,.str s,v.av]=ay (aM o (ns++[s]) (vs++[v])):=by
 have hb1:aG T 22 1 [(0,.str s)]=some (strs [s]):=rfl;have hb2:aG T 30 1 [(0,v.av)]=some (vals [v]):=by rw[v.av_eq];simp[vals,dP,v.av_eq];rfl
 have ha1:cf T 22 (strs ns) (strs [s])=some (strs (ns++[s])):=oC (by simp;omega);have ha2:cf T 30 (vals vs) (vals [v])=some (vals (vs++[v])):=kj (by simp;omega);have hb3:aT T false 168 [(0,.int .i64 o),(1,strs (ns++[s])),(2,vals (vs++[v]))]=some (aM o (ns++[s]) (vs++[v])):=rfl;rw[C172,wB];simp[S172,cl,t217,t218,hb1,hb2,ha1,ha2,hb3,cd,nk,zC]
def nF(e:Int):AV:=.iface 39 (.int .i64 e)
def cU(b:Bool)(e:Int)(x:M AV):M AV:=if b=true then x else eI (nF e)
def bJ(b:Bool)(e:Int)(f:AV->M AV):af (aj pg 166 [.bool b,.int .i64 e]) f=cU b e (f (.tup [])):=by
 rw[t166];unfold cU;cases b<;>rfl
def ga:X Val->M AV:=fun x=>match x ⟨0,0,[],[],[],[]⟩with
 |.ok v _=>ay v.av
 |.er e _=>eI (nF e)
def t170(op:Int)(a b:Val)(h:op=3\/op=4\/op=5\/op=6\/op=7):aj pg 170 [.int .i64 op,a.av,b.av]=ga (km op a b):=by
 rw[C170];unfold km;have hn:=t168;have ht:=t169;simp only[S170,dJ,ak,am,cw];by_cases h7:op=7
 ·by_cases hk:a.kind=b.kind
  ·by_cases h2:a.kind=2
   ·have h2':b.kind=2:=by omega
    simp[h7,hk,h2',bJ,cU,ga,X.er]
   ·have h2':¬b.kind=2:=by omega
    simp[h7,hk,h2',bJ,cU,ga,X.ok,ht]
  ·simp[h7,hk,bJ,cU,ga,X.er]
 ·by_cases ha:a.kind=0
  ·by_cases hb:b.kind=0
   ·simp only[h7,ha,hb,QL,Sj,PQ,PP,Qk,FA45_0,FA45_1,Qe,LD3,ak,dJ,bI,ap,ek,ax,bJ,cU,Ry,Qf,am,cy,gL,AH,bC,hn,ht];by_cases h3:op=3
    ·simp[h3,ga,X.ok,kB,wr];rfl
    by_cases h4:op=4
    ·simp[h4,ga,X.ok,kB,wr];rfl
    by_cases h5:op=5
    ·simp[h5,ga,X.ok,kB,wr];rfl
    simp[h3,h4,h5,ga,X.ok]
   ·simp[h7,ha,hb,bJ,cU,ga,X.er]
  ·simp[h7,ha,bJ,cU,ga,X.er]
def t98(l:List aR)(s:aR)(hb:l.length<=1099511627776):aj pg 98 [strs l,.str s]=ay (.int .i64 (bj (fun x=>s== x) l 0)):=by
 have hl:∀(n:Nat)(i:Int),l.length-i.toNat=n->0<=i->i<=l.length->ao (L98_0 (aj pg) ao) [strs l,.str s,.int .i64 l.length,.int .i64 i]=ay (.int .i64 (bj (fun x=>s== x) (l.drop i.toNat) i)):=by
  intro n
  induction n with
  |zero=>
   intro i hn hi hl;rw[FL98_0];simp only[L98_0];have h1:¬(i<(l.length:Int)):=by omega
   have h2:l.drop i.toNat=[]:=Qg (by omega);simp[h1,h2,bj]
  | succ n ih=>
   intro i hn hi hl;have h1:i<(l.length:Int):=by omega
   have hlt:i.toNat<l.length:=by omega
   have h2:bj (fun x=>s== x) (l.drop i.toNat) i=if(s== l[i.toNat])=true then i else bj (fun x=>s== x) (l.drop (i.toNat+1)) (i+1):=by rw[P9 hlt];rfl
   have h4:=ih (i+1) (by omega) (by omega) (by omega);rw[show (i+1).toNat=i.toNat+1 by omega]at h4;rw[FL98_0];simp only[L98_0];simp (disch:=omega) [h1,bd,mG,h2];by_cases h:s=l[i.toNat]
   ·simp[h]
   ·simp[h];simpa using h4
 rw[C98];simp[S98,cl,hl l.length 0 rfl (by omega) (by omega)]
def t220:∀(n:Nat)(v:Val),v.sz<=n->v.sz<=1099511627776->aj pg 220 [v.av]=ay (.int .i64 (dj v:Nat)):=by
 intro n
 induction n with
 |zero=>intro v h;have:=v.sz_pos;omega
 | succ n ih=>
  intro v hn hv;have hlen:=v.sz_len;have hlv:∀(l:List Val),br l<=1099511627776->dw l<=1099511627776:=by
   intro l
   induction l with
   |nil=>intro _;simp[dw]
   | cons x l ih2=>
    intro h;simp only[br]at h
    have:=ih2 (by omega)
    have hx:∀(k:Nat)(y:Val),y.sz<=k->dj y<=y.sz:=by
     intro k
     induction k with
     |zero=>intro y hy;have:=y.sz_pos;omega
     |succ k ihk=>
      intro y hy;rw[gH];have h1:=y.sz_values;have h2:dw y.values<=br y.values:=(jM _ _).2 fun z hz=>QQ (ihk z (by have:=Pn hz;omega)) (eJ hz);omega
    simp only[dw]
    have:=hx _ x (P5 _)
    omega
  have hl:∀(B A:List Val)(c:Nat),A++B=v.values->c<=1099511627776->ao (L220_0 (aj pg) ao) [.int .i64 (c:Nat),vals v.values,.int .i64 v.values.length,.int .i64 A.length]=ay (.int .i64 ((max c (dw B)+1:Nat))):=by
   intro B
   induction B with
   |nil=>
    intro A c e hc;simp only[Qq]at e;subst e;rw[FL220_0];simp (disch:=omega) [L220_0,dw,bd]
   | cons x B ih2=>
    intro A c e hc;have hll:A.length+(B.length+1)=v.values.length:=by rw[<- e];simp
    have h1:(A.length:Int)<(v.values.length:Int):=by omega
    have hx:v.values[A.length]! = x:=by
     rw[<- e,PY _ _ (by simp)];simp
    have hm:x∈v.values:=by rw[<- e];simp
    have hx':v.values[A.length]'(by omega)=x:=by rw[<- hx,PY]
    have h3:=ih x (by have:=Pn hm;omega) (by have:=Pn hm;omega);have hxb:dj x<=1099511627776:=QQ ((jM v.values _).1 (hlv v.values (by have:=v.sz_values;omega)) x hm) (P5 _);have h4:=ih2 (A++[x]) (max c (dj x)) (by rw[<- e];simp) (by omega);rw[FL220_0];have hmx:(max (c:Int) (dj x:Int))=((max c (dj x):Nat):Int):=by omega
    simp (disch:=omega) [L220_0,h1,bd,hM,hx',h3,hmx]at h4 |-;rw[h4];simp only[dw]
  rw[C220]
  have:=hl v.values [] 0 rfl (by omega)
  simp at this;simp[S220,this,gH]
def t224(f:cE)(e:Exp):aj pg 224 [bZ f,.ip (aa e.av)]=ay (.bool (f.1== e.s)):=by
 rw[C224];simp[S224,cl,eM]
def OB(l:List cE)(hl:l.length<=1099511627776)(e:Exp):aj pg 81 [bm l,.fn (.func 224) [] [.ip (aa e.av)]]=ay (.int .i64 (dM l e.s)):=
 t81 _ _ l (by omega) (fun g=>by simp[cl,eM]) (fun f _=>t224 f e)
@[simp] theorem Mo(t:Nat)(a b:Int):aw T .geq t (.int .u8 a) (.int .u8 b)=some (.bool (decide (b<=a))):=rfl
@[simp] theorem Mp(t:Nat)(a b:Int):aw T .leq t (.int .u8 a) (.int .u8 b)=some (.bool (decide (a<=b))):=rfl
@[simp] theorem NH(t:Nat)(a b:aR):aw T .leq t (.str a) (.str b)=some (.bool (bP a b||a== b)):=rfl
def t96(f:AV)(F:cE->Bool)(l:List cE)(hb:l.length<=4611686018427387904)(hc:∀g,cl g f=f)(hf:∀x∈l,cX (aj pg) f [bZ x]=ay (.bool (F x))):aj pg 96 [bm l,f]=ay (.bool (l.any F)):=by
 rw[C96];simp[S96,hc,t81 f F l hb hc hf,mw]
def t205(b:UInt8):aj pg 205 [.int .u8 b.toNat]=ay (.bool (gm b)):=by
 rw[C205];have e:decide ((b.toNat:Int)<=122)=decide (b.toNat<=122):=Ri.2 (by omega);have e2:decide (97<=(b.toNat:Int))=decide (97<=b.toNat):=Ri.2 (by omega);simp[S205,gm,e,e2]
def t208(b:UInt8):aj pg 208 [.int .u8 b.toNat]=ay (.bool (lK b)):=by
 rw[C208];have e:decide ((b.toNat:Int)<=57)=decide (b.toNat<=57):=Ri.2 (by omega);have e2:decide (48<=(b.toNat:Int))=decide (48<=b.toNat):=Ri.2 (by omega);simp[S208,lK,e,e2]
def t207(b:UInt8):aj pg 207 [.int .u8 b.toNat]=ay (.bool (jw b)):=by
 rw[C207];simp[S207,t205,t208,jw]
theorem A5{s:aR}{i:Nat}(h:i<s.length):bV T 9 (.str s) (.int .i64 (i:Int))=some (.int .u8 (s[i].toNat:Int)):=by
 have e1:bV T 9 (.str s) (.int .i64 (i:Int))=(if(i:Int)<0 then none else s[(i:Int).toNat]?.map fun b=>.int .u8 b.toNat):=rfl;rw[e1,if_neg (by omega),P8,P1 h];rfl
def Ia(F:UInt8->Bool)(f:AV)(s:aR)(hb:s.length<=4611686018427387904)(hf:∀b:UInt8,cX (aj pg) f [.int .u8 b.toNat]=ay (.bool (F b))):∀(n i:Nat),s.length-i=n->i<=s.length->
  ao (L206_0 (aj pg) ao) [.str s,f,.int .i64 i]=ay (.int .i64 ((i+((s.drop i).takeWhile F).length:Nat):Int)):=by
 intro n
 induction n with
 |zero=>
  intro i hn hi;rw[FL206_0];simp only[L206_0];have h1:¬((i:Int)<(s.length:Int)):=by omega
  have h2:s.drop i=[]:=Qg (by omega);simp[h1,h2]
 | succ n ih=>
  intro i hn hi;have hlt:i<s.length:=by omega
  have h1:(i:Int)<(s.length:Int):=by omega
  have h2:s.drop i=s[i]:: s.drop (i+1):=P9 hlt;have h4:=ih (i+1) (by omega) (by omega);have hw:IntKind.i64.wrap ((i:Int)+1)=((i+1:Nat):Int):=cr (by omega);rw[FL206_0];simp only[L206_0,ax,aE,NN,ak,bC,h1,QA,aL,A5 hlt,hf,ap,aY,am,cy,hw,h4,h2,RA];cases F s[i]
  ·simp
  ·rw[PS rfl,PS rfl];congr 3;simp;omega
def t158(s:aR):aj pg 158 [.str s]=ay (.bool (jd s)):=by
 rw[C158];by_cases hs:s=[]
 ·subst hs;simp[S158,jd]
 ·have hs':(s== [])=false:=Qj.2 hs;have hpos:0<s.length:=RO.2 hs;have h0:=A5 (s:=s) (i:=0) hpos;have hd:s[0]=s.headD 0:=by cases s with|nil=>exact absurd rfl hs|cons c s=>rfl
  rw[hd]at h0;simp at h0;by_cases hl:s.length<=20
  ·have h1:=Ia jw (.fn (.func 207) [] []) s (by omega) (fun b=>t207 b) s.length 0 (by simp) (by simp);have hsp:aj pg 206 [.str s,.fn (.func 207) [] []]=ay (.int .i64 (((s.takeWhile jw).length:Nat):Int)):=by
    rw[C206];simp only[S206,cl,eM];rw[show (AV.int .i64 0)=AV.int .i64 ((0:Nat):Int)from rfl,h1];simp
   have e1:decide (20<(s.length:Int))=false:=by rw[Rm];omega
   have e3:decide (20<s.length)=false:=by rw[Rm];omega
   have e4:decide (s.length<=20)=true:=by simpa using hl
   simp[S158,hs',h0,t205,hsp,e1,e3,e4,jd]
  ·have e1:decide (20<(s.length:Int))=true:=by rw[PW];omega
   have e3:decide (20<s.length)=true:=by rw[PW];omega
   have e4:decide (s.length<=20)=false:=by simpa using hl
   simp[S158,hs',h0,t205,e1,e3,e4,jd]
def t159(s:aR):aj pg 159 [.str kH,.str s]=ay (.bool (Lib.contains kH s)):=by
 rw[dB aH (E:=kq) rfl];rfl
theorem BC(t:Nat)(a b:aR):aw T .add t (.str a) (.str b)=if a.length+b.length<=4611686018427387904 then some (.str (a++b))else none:=rfl
def t119(s:aR):aj pg 119 [.str s]=ay (.bool (eR s)):=by
 rw[C119];have h1:=t158 s;unfold eR;cases hw:jd s with
 |false=>
  rw[hw]at h1;simp[S119,h1]
 |true=>
  have hl:=Dd hw;rw[hw]at h1;have h2:=t159 ([32]++s++[32]);unfold kH at h2;have e1:aw T .add 9 (.str [32]) (.str s)=some (.str ([32]++s)):=by rw[BC,PS (by simp;omega)]
  have e2:aw T .add 9 (.str ([32]++s)) (.str [32])=some (.str ([32]++s++[32])):=by rw[BC,PS (by simp;omega)]
  simp only[S119,uL,h1,ap,aL,e1,ak,e2,h2,bq,ax,aY,dK,QJ];rfl
def A7{t:Ty}(h:t.Lim)(k:Nat)(hk:k<t.fields.length):(t.fields[k]!).2.Lim:=by
 rw[PY t.fields k hk];exact h.kid (P2 hk)
theorem t99:∀(d:Nat),d<=4->∀(t:Ty),t.Lim->aj pg 99 [t.av,.int .i64 d]=ay (.bool (cj d t))
 |0,_,t,_=>by
  rw[C99];simp[S99,cj]
 | d + 1,hd,t,ht=>by
  have ih:=t99 d (by omega);have hlen:=ht.len;have hd1:IntKind.i64.wrap ((((d+1:Nat)):Int)-1)=(d:Int):=uy (by omega);have hloop:=iy (F:=L99_0 (aj pg) ao) (FL99_0 (aj pg)) (fun k=>[.int .i64 ((d+1:Nat):Int),.ip (aa t.av),bm t.fields,.int .i64 t.fields.length,.int .i64 k]) t.fields.length
   (fun k=>(eR (t.fields[k]!).1&&cj d (t.fields[k]!).2)&&(decide (k=0)||gK (t.fields[k-1]!).1 (t.fields[k]!).1))
   (by simp[L99_0]) (fun k hk=>by
    have h1:(k:Int)<(t.fields.length:Int):=by omega
    have hix:=gp (l:=t.fields) (n:=(k:Int)) (by omega) h1;rw[P8]at hix;have hm:t.fields[k]! ∈t.fields:=by rw[PY t.fields k hk];exact P2 hk
    have h2:=t119 (t.fields[k]!).1;have h3:=ih (t.fields[k]!).2 (A7 ht k hk);have hw:IntKind.i64.wrap ((k:Int)+1)=(k:Int)+1:=by rw[cr (by omega)];simp
    have hd0:IntKind.i64.wrap (d:Int)=(d:Int):=G9 (by omega);generalize t.fields[k]! = f at hix h2 h3 hm |-;rcases QK k with hk0|hk0
    ·subst hk0;have hix0:au T 23 (bm t.fields) (.int .i64 0)=some (.ip (aa (bZ f))):=hix;have hw0:IntKind.i64.wrap 1=1:=rfl;simp[L99_0,hix0,h2,h3,hw0,hd0,hk];cases eR f.1<;>cases cj d f.2<;>simp
    ·have hp:IntKind.i64.wrap ((k:Int)-1)=((k-1:Nat):Int):=by
      rw[bd (by omega) (by omega)];omega
     have h4:((k-1:Nat):Int)<(t.fields.length:Int):=by omega
     have hix2:=gp (l:=t.fields) (n:=((k-1:Nat):Int)) (by omega) h4;rw[P8]at hix2;generalize t.fields[k-1]! = g at hix2 |-;have hk1:¬k=0:=by omega
     simp[L99_0,h1,hix,h2,h3,hw,hd0,hp,hix2,hk0,hk1,hk];cases eR f.1<;>simp;cases h5:bP f.1 g.1<;>cases cj d f.2<;>by_cases h6:f.1=g.1<;>simp[gK,h5,h6]) 0 (Qy _)
  have hall:((List.range' 0 t.fields.length).all fun k=>(eR (t.fields[k]!).1&&cj d (t.fields[k]!).2)&&(decide (k=0)||gK (t.fields[k-1]!).1 (t.fields[k]!).1))=(t.fields.all (fun f=>eR f.1&&cj d f.2)&&kl (fun a b=>gK a.1 b.1) t.fields):=
   AD (fun f:cE=>eR f.1&&cj d f.2) (fun a b=>gK a.1 b.1) t.fields
  rw[Rq,hall]at hloop;rw[C99];have h0:¬((d:Int)+1=0):=by omega
  have hl2:ao (L99_0 (aj pg) ao) [.int .i64 ((d:Int)+1),.ip [.int .i64 t.kind,bm t.fields],bm t.fields,.int .i64 t.fields.length,.int .i64 0]=ay (.bool (t.fields.all (fun f=>eR f.1&&cj d f.2)&&kl (fun a b=>gK a.1 b.1) t.fields)):=by
   simpa using hloop
  have hR:cj (d+1) t=if((t.kind<0\/3<=t.kind)\/8<(t.fields.length:Int))\/¬t.kind=2/\0<t.fields.length then false else(t.fields.all (fun f=>eR f.1&&cj d f.2)&&kl (fun a b=>gK a.1 b.1) t.fields):=by
   rw[dQ];generalize (t.fields.all (fun f=>eR f.1&&cj d f.2)&&kl (fun a b=>gK a.1 b.1) t.fields)=q;generalize t.fields.length=n;generalize t.kind=k;split
   ·rename_i hc;cases q
    ·simp
    ·simp only[Rx,RF,Rm,Rl,Qj];rcases hc with((h|h)|h)|h
     ·exact .inl (.inl (.inl (by omega)))
     ·exact .inl (.inl (.inr (by omega)))
     ·exact .inl (.inr (by omega))
     ·exact .inr ⟨h.1,by omega⟩
   ·rename_i hc;have e1:decide (0<=k)=true:=by rw[PW];omega
    have e2:decide (k<3)=true:=by rw[PW];omega
    have e3:decide (n<=8)=true:=by rw[PW];omega
    have e4:(k== 2||n== 0)=true:=by
     rw[QF,Qk,Qk];omega
    rw[e1,e2,e3,e4];simp
  rw[hR];simp[S99,h0,hl2]
def t56(t:Ty)(ht:t.Lim):aj pg 56 [t.av]=ay (.bool (dx t)):=by
 rw[C56];have:aj pg 99 [t.av,.int .i64 4]=ay (.bool (cj 4 t)):=t99 4 (by omega) t ht;simp[S56,this]
def t23(t:Ty)(ht:t.Lim):aj pg 23 [t.av]=ay (.bool (dx t)):=by
 rw[C23];simp[S23,t56 t ht]
@[simp] theorem KD(t:Nat)(a b:Int):aw T .andNot t (.int .i64 a) (.int .i64 b)=some (.int .i64 (HR a b)):=rfl
def Ll(f:AV)(F:cE->cE->Bool)(a:List cE)(b:List cE)(hb:a.length<=4611686018427387904)(hab:a.length=b.length)(hf:∀x∈a,∀y∈b,cX (aj pg) f [bZ x,bZ y]=ay (.bool (F x y))):∀(n:Nat)(i:Int),a.length-i.toNat=n->0<=i->i<=a.length->
  ao (L83_0 (aj pg) ao) [bm b,f,bm a,.int .i64 a.length,.int .i64 i]=ay (.bool (cS F (a.drop i.toNat) (b.drop i.toNat))):=by
 intro n
 induction n with
 |zero=>
  intro i hn hi hl;rw[FL83_0];simp only[L83_0];have h1:¬(i<(a.length:Int)):=by omega
  have h2:a.drop i.toNat=[]:=Qg (by omega);have h3:b.drop i.toNat=[]:=Qg (by omega);simp[h1,h2,h3,cS]
 |succ n ih=>
  intro i hn hi hl;have h1:i<(a.length:Int):=by omega
  have h1':i<(b.length:Int):=by omega
  have hlt:i.toNat<a.length:=by omega
  have hlt':i.toNat<b.length:=by omega
  have h3:=hf a[i.toNat] (P2 hlt) b[i.toNat] (P2 hlt');have h4:=ih (i+1) (by omega) (by omega) (by omega);rw[show (i+1).toNat=i.toNat+1 by omega]at h4;rw[FL83_0,oF F a b i.toNat hlt hlt'];simp only[L83_0];simp (disch:=omega) [h1,bd,gp,gp,h4];rw[h3];cases F a[i.toNat] b[i.toNat]<;>simp
def t83(f:AV)(F:cE->cE->Bool)(a:List cE)(b:List cE)(hb:a.length<=4611686018427387904)(hc:∀g,cl g f=f)(hf:∀x∈a,∀y∈b,cX (aj pg) f [bZ x,bZ y]=ay (.bool (F x y))):aj pg 83 [bm a,bm b,f]=ay (.bool (cS F a b)):=by
 rw[C83];by_cases h:a.length=b.length
 ·have:=Ll f F a b hb h hf a.length 0 rfl (by omega) (by omega)
  simp[S83,h,hc]at this |-;simp[this]
 ·have h3:(a.length != b.length)=true:=by simp[h]
  simp[S83,h3,eZ F a b h]
def t79:∀(N:Nat)(a b:Ty),SizeOf.sizeOf a<=N->a.Lim->aj pg 79 [a.av,b.av]=ay (.bool (g7 a b)):=by
 intro N
 induction N with
 |zero=>intro a b h;cases a;simp at h
 | succ N ih=>
  intro a b hN hL;have hlen:=hL.len;have h1:=t83 (.fn (.func 129) [] []) (fun x y=>x.1== y.1&&g7 x.2 y.2) a.fields b.fields (by omega) (fun _=>rfl) (fun x hx y _=>by
   have:=ih x.2 y.2 (by have:=BH hx;omega) (hL.kid hx)
   show aj pg 129 [bZ x,bZ y]=_;rw[C129];simp[S129,this])
  rw[C79,yg];simp[S79,h1]
theorem FK:∀ {n:Nat} {v:Val},bc n v=true->v.names.length=v.values.length/\v.names.length<=8/\∀x∈v.values,∃m,bc m x=true
 |0,v,h=>by simp[bc]at h
 | n+1,v,h=>by
  unfold bc at h;split at h
  ·simp only[PO,Qk]at h;have h1:v.values=[]:=RU.1 h.1.2;refine⟨by omega,by omega,fun x hx=>by rw[h1]at hx;cases hx⟩
  ·simp only[PO,Qk,PW,P7]at h;exact⟨h.1.1.1.2,h.1.1.2,fun x hx=>⟨n,h.2 x hx⟩⟩
theorem oQ{α:Type}(F:α->Bool):(l:List α)->(i:Int)->bj F l i= -1\/(i<=bj F l i/\bj F l i<i+l.length)
 |[],i=>.inl rfl
 | x:: l,i=>by
  simp only[bj];split
  ·right;simp;omega
  ·rcases oQ F l (i+1)with h|h
   ·exact .inl h
   ·right;simp only[P4];omega
def E0{α:Type}(F:α->Bool)(l:List α):(l.any fun x=>!F x)= !(l.all F):=by
 induction l with
 |nil=>rfl
 |cons x l ih=>simp only[Sd,QH,ih];cases F x<;>simp
theorem Np:∀(d:Nat)(t:Ty)(n:Nat)(v:Val),cj d t=true->bc n v=true->v.sz<=1099511627776->aj pg 55 [t.av,v.av]=ay (.bool (iI d t v))
 |0,t,n,v,h,_,_=>by simp[cj]at h
 | d+1,t,n,v,h,hv,hz=>by
  have hr:=h;rw[dQ]at hr;simp only[PO,P7,PW]at hr;obtain⟨hl,h8,hk⟩:=FK hv;have hcl:∀g,cl g (.fn (.func 97) [] [.ip (aa v.av)])= .fn (.func 97) [] [.ip (aa v.av)]:=fun g=>by simp[cl,eM]
  have hany:=t96 (.fn (.func 97) [] [.ip (aa v.av)]) (fun f=>!(decide (0<=jJ v.names f.1)&&iI d f.2 v.values[(jJ v.names f.1).toNat]!)) t.fields (by have:=hr.1.1.2;omega) hcl (fun f hf=>by
   show aj pg 97 [bZ f,.ip (aa v.av)]=_;have hi:=t98 v.names f.1 (by omega);have hfr:=(hr.2.1 f hf).2;have hix:bj (fun x=>f.1== x) v.names 0=jJ v.names f.1:=rfl;rw[hix]at hi;rw[C97];rcases oQ (fun x=>f.1== x) v.names 0 with h1|h1
   ·rw[hix]at h1;have h2:jJ v.names f.1<0:=by omega
    have h3:¬(0<=jJ v.names f.1):=by omega
    simp[S97,cl,eM,hi,h2,h3]
   ·rw[hix]at h1;have h2:¬jJ v.names f.1<0:=by omega
    have h3:0<=jJ v.names f.1:=by omega
    have hlt:(jJ v.names f.1).toNat<v.values.length:=by omega
    have hvx:=hM (l:=v.values) (n:=jJ v.names f.1) h3 (by omega);have hmem:v.values[(jJ v.names f.1).toNat]! ∈v.values:=by rw[PY v.values _ hlt];exact P2 hlt
    obtain⟨m,hm⟩:=hk _ hmem;have ih:=Np d f.2 m v.values[(jJ v.names f.1).toNat]! hfr hm (by have:=Pn hmem;omega);generalize v.values[(jJ v.names f.1).toNat]! = x at hvx ih |-;simp[S97,cl,eM,hi,h2,h3,hvx,ih])
  rw[E0]at hany;have ea:aa v.av=[.int .i64 v.kind,.int .i64 v.n,strs v.names,vals v.values]:=by simp
  rw[ea]at hany;rw[C55,show iI (d+1) t v=(t.kind== v.kind&&t.fields.all fun f=>decide (0<=jJ v.names f.1)&&iI d f.2 v.values[(jJ v.names f.1).toNat]!)from rfl];generalize (t.fields.all fun f=>decide (0<=jJ v.names f.1)&&iI d f.2 v.values[(jJ v.names f.1).toNat]!)=b at hany |-;simp[S55,hany]
def t20(t:Ty)(v:Val)(ht:t.Lim)(hz:v.sz<=1099511627776):aj pg 20 [t.av,v.av]=ay (.bool (fc t v)):=by
 have h1:=t23 t ht;have h2:=t49 v (by omega);rw[C20];unfold fc;cases hr:dx t with
 |false=>simp[S20,h1,hr]
 | true=>
  cases hv:bc 4 v with
  |false=>simp[S20,h1,hr,h2,hv]
  |true=>
   have h3:=Np 4 t 4 v hr hv hz;simp[S20,h1,hr,h2,hv,h3]
theorem Gg(l:List cE)(vs:List Val)(hl:l.length<=140737488355328)(hlen:l.length=vs.length)(ht:∀f∈l,f.2.Lim)(hz:∀v∈vs,v.sz<=1099511627776):∀n k:Nat,l.length-k=n->k<=l.length->ao (L43_0 (aj pg) ao) [vals vs,bm l,.int .i64 l.length,.int .i64 (k:Int)]=ay (.bool (cS (fun f v=>fc f.2 v) (l.drop k) (vs.drop k)))
 |0,k,hn,hk=>by
  have h1:¬((k:Int)<(l.length:Int)):=by omega
  have h2:l.drop k=[]:=Qg (by omega);have h3:vs.drop k=[]:=Qg (by omega);rw[FL43_0];simp[L43_0,h1,h2,h3,cS]
 | n+1,k,hn,hk=>by
  have h1:(k:Int)<(l.length:Int):=by omega
  have hkl:k<l.length:=by omega
  have hkv:k<vs.length:=by omega
  have hix:=gp (l:=l) (n:=(k:Int)) (by omega) h1;have hiv:=hM (l:=vs) (n:=(k:Int)) (by omega) (by omega);rw[P8,PY l k hkl]at hix;rw[P8,PY vs k hkv]at hiv;have hh:=t20 l[k].2 vs[k] (ht _ (P2 hkl)) (hz _ (P2 hkv));have hw:IntKind.i64.wrap ((k:Int)+1)=((k+1:Nat):Int):=by rw[bd (by omega) (by omega)];omega
  have ih:=Gg l vs hl hlen ht hz n (k+1) (by omega) (by omega);rw[oF _ l vs k hkl hkv];generalize l[k]=f at hix hh;generalize vs[k]=v at hiv hh;rw[FL43_0];cases hx:fc f.2 v with
  |false=>
   rw[hx]at hh;simp[L43_0,h1,hix,hiv,hh,hkl]
  |true=>
   rw[hx]at hh;simp[L43_0,h1,hix,hiv,hh,hkl,hw];simpa using ih
def t43(l:List cE)(vs:List Val)(hl:l.length<=140737488355328)(ht:∀f∈l,f.2.Lim)(hz:∀v∈vs,v.sz<=1099511627776):aj pg 43 [bm l,vals vs]=ay (.bool (dX l vs)):=by
 rw[C43];by_cases h:l.length=vs.length
 ·have:=Gg l vs hl h ht hz l.length 0 rfl (Qy _)
  simp only[Qe,Int.natCast_zero]at this;have h3:((l.length:Int) != (vs.length:Int))=false:=by simp[h]
  have h4:(l.length != vs.length)=false:=by simp[h]
  unfold dX;rw[h]at this;simp[S43,h3,h4,h,this]
 ·have h3:((l.length:Int) != (vs.length:Int))=true:=by simp;omega
  have h4:(l.length != vs.length)=true:=by simp[h]
  unfold dX;simp[S43,h3,h4,h]
def ee{α β:Type}{m:M α}{a:α}{h h':Hp}(e:m h= .ok a h')(f:α->M β):af m f h=f a h':=by simp only[af,e]
def qT{α β:Type}{m:M α}{a:AV}{h h':Hp}(e:m h= .pan a h')(f:α->M β):af m f h= .pan a h':=by simp only[af,e]
def fT(s:aR):Hp:=[[.str s]]
def Oi{β:Type}(s:aR)(f:AV->M β):af (bi T 9 (.hp 0 0)) f (fT s)=f (.str s) (fT s):=ee (K7 (T:=T) (t:=9) rfl rfl (show (fT s)[0]? = some [.str s]from rfl) rfl) f
def Oy{β:Type}(s r:aR)(f:AV->M β):af (cq T 9 (.hp 0 0) (.str r)) f (fT s)=f (.tup []) (fT r):=
 ee (Iy (T:=T) (t:=9) rfl (v:=.str r) (show (fT s)[0]? = some [.str s]from rfl) rfl (show 0+1<=1 by omega) (by decide)) f
theorem Lm:aV (.hp 0 0)=some (.hp 0 0):=rfl
theorem fR0:ab T 85 (.hp 0 0) 0=some (.hp 0 0):=rfl
theorem dz(s:aR):aN T 9 (.str s)=some (.int .i64 s.length):=rfl
def vK(s:aR){n:Int}(h0:0<=n)(h1:n<=s.length):cV T 9 (.str s) none (some (.int .i64 n)) none=some (.str (s.take n.toNat)):=by
 show (match cg (some (.int .i64 n)) s.length s.length with|none=>none|some h=>match cg none 0 h with|none=>none|some l=>some (AV.str ((s.take h).drop l)))=_;simp[cg,h0,h1]
def qD(s:aR){n:Int}(h0:0<=n)(h1:n<=s.length):cV T 9 (.str s) (some (.int .i64 n)) none none=some (.str (s.drop n.toNat)):=by
 show (match cg none s.length s.length with|none=>none|some h=>match cg (some (.int .i64 n)) 0 h with|none=>none|some l=>some (AV.str ((s.take h).drop l)))=_;have:n<=((s.length:Nat):Int):=h1;simp[cg,h0,this]
def t50(n:Int)(h0:-9223372036854775808<=n)(h1:n<=9223372036854775807):aj pg 50 [.int .i64 n]=ay (.str (cI n)):=by
 rw[dB aH (E:=lq) rfl];simp only[lq,PT h0,PT h1,Ry,PV];rfl
def t141(s:aR)(h:s.length<=281474976710656):aj pg 141 [.str s]=ay (pp 251 s):=by
 rw[dB aH (E:=tj 251) rfl];simp only[tj,PT h,PV];rfl
def t95(s:aR)(h:s.length<4294967281):aj pg 95 [.str s]=ay (.bool (eW s)):=by
 rw[dB aH (E:=oZ) rfl];simp only[oZ,PT h,PV];rfl
def t142(s cs:aR)(h:s.length<4294967281)(hc:cs.length<1000)(ha:qR cs=true):aj pg 142 [.str s,.str cs]=ay (.int .i64 (gl cs s 0)):=by
 rw[dB aH (E:=jo) rfl];simp only[jo,PT h,PT hc,ha,Ry,PV];rfl
def gz(s p:aR):Bool:=decide ((p.length:Int)<=s.length)&&(s.take p.length== p)
def t230(s p:aR):aj pg 230 [.str s,.str p]=ay (.bool (gz s p)):=by
 have es:∀x y:aR,aw T .eql 9 (.str x) (.str y)=some (.bool (x== y)):=fun _ _=>rfl;have eg:∀x y:Int,aw T .geq 3 (.int .i64 x) (.int .i64 y)=some (.bool (decide (y<=x))):=fun _ _=>rfl;rw[C230,show cl aB (.str s)= .str s from rfl,show cl aB (.str p)= .str p from rfl];have e:S230 (aj pg) ao (.str s) (.str p)=ay (.bool (gz s p)):=by
  unfold gz;by_cases h:(p.length:Int)<=s.length
  ·have hs:=vK s (n:=(p.length:Int)) (by omega) h;rw[P8]at hs;simp only[S230,dz,ak,eg,h,QA,aL,hs,es,ap,ax,aY,QJ]
  ·simp only[S230,dz,ak,eg,h,QR,dl,ap,aS,QZ]
 rw[e];exact dK _
def t182(s p:aR):aj pg 182 [.str s,.str p]=ay (.tup [.str (if gz s p=true then s.drop p.length else s),.bool (gz s p)]):=by
 rw[C182,show cl aB (.str s)= .str s from rfl,show cl aB (.str p)= .str p from rfl];have e:S182 (aj pg) ao (.str s) (.str p)=ay (.tup [.str (if gz s p=true then s.drop p.length else s),.bool (gz s p)]):=by
  simp only[S182,t230,ap,bq,ak,am];cases hp:gz s p with
  |false=>simp
  | true=>
   have h1:(p.length:Int)<=s.length:=by
    unfold gz at hp;simp only[PO,PW]at hp;exact hp.1
   have hs:=qD s (n:=(p.length:Int)) (by omega) h1;rw[P8]at hs;simp[dz,hs]
 rw[e];exact bw fun g=>rfl
def t140(s p:aR):aj pg 140 [.str s,.str p]=ay (.tup [.str (if gz s p=true then s.drop p.length else s),.bool (gz s p)]):=by
 rw[C140,show cl aB (.str s)= .str s from rfl,show cl aB (.str p)= .str p from rfl];have e:S140 (aj pg) ao (.str s) (.str p)=ay (.tup [.str (if gz s p=true then s.drop p.length else s),.bool (gz s p)]):=by
  simp only[S140,t182,ap,aO,PU,PZ,ak]
 rw[e];exact bw fun g=>rfl
def zx(s:aR)(c:UInt8):gz s [c]=decide (s.head? = some c):=by
 unfold gz;cases s with
 |nil=>simp
 |cons x s=>
  have h1:((([c]:aR).length:Nat):Int)<=((x:: s).length:Nat):=by simp only[P4,Qr];omega
  rw[PT h1,QJ,QG];simp
def t92(s:aR)(c:UInt8):aj pg 92 [.hp 0 0,.str [c]] (fT s)= .ok (.bool (decide (s.head? = some c))) (fT (if s.head? = some c then s.tail else s)):=by
 have hc:=t140 s [c];rw[zx]at hc;simp only[PW]at hc;have e:(if s.head? = some c then s.drop ([c]:aR).length else s)=if s.head? = some c then s.tail else s:=by simp
 rw[e]at hc;rw[C92];simp only[S92,Lm,ak,fR0,Oi,hc,ap,aO,PU,PZ,Oy];rfl
theorem tE(cs:aR):∀(s:aR)(i:Int),0<=i->(gl cs s i= -1/\s.takeWhile (fun b=>!cs.contains b)=s/\s.dropWhile (fun b=>!cs.contains b)=[])\/(gl cs s i=i+(s.takeWhile (fun b=>!cs.contains b)).length/\(s.takeWhile (fun b=>!cs.contains b)).length<=s.length/\s.take (s.takeWhile (fun b=>!cs.contains b)).length=s.takeWhile (fun b=>!cs.contains b)/\s.drop (s.takeWhile (fun b=>!cs.contains b)).length=s.dropWhile (fun b=>!cs.contains b))
 |[],_,_=>.inl ⟨rfl,rfl,rfl⟩
 | b:: s,i,hi=>by
  cases hb:cs.contains b with
  |true=>
   have hm:=Su.1 hb;exact .inr ⟨by simp[gl,hm],by simp[hm],by simp[hm],by simp[hm]⟩
  | false=>
   have hm:b ∉ cs:=fun h=>by rw[Su.2 h]at hb;cases hb
   rcases tE cs s (i+1) (by omega)with⟨h1,h2,h3⟩|⟨h1,h2,h3,h4⟩
   ·refine .inl ⟨by rw[gl,hb,if_neg (by decide),h1],?_,?_⟩
    ·rw[RA,hb];simpa using h2
    ·rw[Sf,hb];simpa using h3
   ·have et:(b:: s).takeWhile (fun b=>!cs.contains b)=b:: s.takeWhile (fun b=>!cs.contains b):=by rw[RA,hb];rfl
    have ed:(b:: s).dropWhile (fun b=>!cs.contains b)=s.dropWhile (fun b=>!cs.contains b):=by rw[Sf,hb];rfl
    refine .inr ⟨?_,?_,?_,?_⟩
    ·rw[gl,hb,if_neg (by decide),h1,et,P4];omega
    ·rw[et,P4,P4];omega
    ·rw[et,P4,Rz,h3]
    ·rw[et,ed,P4,Qf,h4]
theorem t94(s cs:aR)(h:s.length<4294967281)(hc:cs.length<1000)(ha:qR cs=true):aj pg 94 [.hp 0 0,.str cs] (fT s)= .ok (.str (s.takeWhile (fun b=>!cs.contains b))) (fT (s.dropWhile (fun b=>!cs.contains b))):=by
 have hi:=t142 s cs h hc ha;have lt:∀a b:Int,aw T .lss 3 (.int .i64 a) (.int .i64 b)=some (.bool (decide (a<b))):=fun _ _=>rfl;rw[C94];rcases tE cs s 0 (Re _)with⟨h1,h2,h3⟩|⟨h1,h2,h3,h4⟩
 ·rw[h1]at hi;have g1:=vK s (n:=(s.length:Int)) (by omega) (by omega);have g2:=qD s (n:=(s.length:Int)) (by omega) (by omega);rw[P8,Rt]at g1;rw[P8,RN]at g2;have d:decide ((-1:Int)<0)=true:=rfl;rw[h2,h3];simp only[S94,K94_0,ax,aE,ci,Lm,ak,fR0,Oi,hi,ap,lt,d,am,PQ,dz,g1,g2,Oy];rfl
 ·rw[h1,Int.zero_add]at hi;have g1:=vK s (n:=((s.takeWhile (fun b=>!cs.contains b)).length:Int)) (by omega) (by omega);have g2:=qD s (n:=((s.takeWhile (fun b=>!cs.contains b)).length:Int)) (by omega) (by omega);rw[P8,h3]at g1;rw[P8,h4]at g2;have d:decide (((s.takeWhile (fun b=>!cs.contains b)).length:Int)<0)=false:=PX (by omega);simp only[S94,K94_0,ax,aE,ci,Lm,ak,fR0,Oi,hi,ap,lt,d,am,PM,PP,g1,g2,Oy];rfl
def lO:AV:=.iface 81 (.agg [])
theorem Bq:sZ lO=eI lO:=rfl
theorem HK(k n:Int):az 4 [] (.agg [.int .i64 k,.int .i64 n,.sl [],.sl []])=ay (.agg [.int .i64 k,.int .i64 n,.sl [],.sl []]):=rfl
def A4{m:M AV}{h':Hp}(e:m []= .pan lO h')(h:Hp):∃h2,aJ m h= .pan lO h2:=by
 unfold aJ;rw[e];exact⟨_,rfl⟩
theorem t93(s:aR)(hb:s.length<=281474976710656):match cH s with
  |some v=>aj pg 93 [.str s]=ay v.av
  |none=>∀h,∃h',aj pg 93 [.str s] h= .pan lO h':=by
 have es:∀x y:aR,aw T .eql 9 (.str x) (.str y)=some (.bool (x== y)):=fun _ _=>rfl;have ns:∀x y:aR,aw T .neq 9 (.str x) (.str y)=some (.bool (x != y)):=fun _ _=>rfl;have b1:aT T false 45 [(0,.int .i64 1),(1,.int .i64 1)]=some (.agg [.int .i64 1,.int .i64 1,.sl [],.sl []]):=rfl;have b2:aT T false 45 [(0,.int .i64 1)]=some (.agg [.int .i64 1,.int .i64 0,.sl [],.sl []]):=rfl;have b3:∀n:Int,aT T false 45 [(1,.int .i64 n)]=some (.agg [.int .i64 0,.int .i64 n,.sl [],.sl []]):=fun _=>rfl;have b4:aT T false 81 []=some (.agg []):=rfl;have mi:fl T 81 (.agg [])=some lO:=rfl;have ac:∀l:List AV,aa (.agg l)=l:=fun _=>rfl;have nn:∀x:AV,aw T .neq 124 (.iface 251 x) .nili=some (.bool true):=fun _=>rfl;have nz:aw T .neq 124 .nili .nili=some (.bool false):=rfl;by_cases h1:s=jZ
 ·have hx:cH s=some (.mk 1 1 [] []):=by unfold cH;rw[PS h1]
  rw[hx];have e1:(s== ([116,114,117,101]:aR))=true:=by rw[h1];rfl
  show aj pg 93 [.str s]=ay (Val.mk 1 1 [] []).av;rw[C93,show cl aB (.str s)= .str s from rfl];have e:S93 (aj pg) ao (.str s)=ay (Val.mk 1 1 [] []).av:=by
   simp only[S93,es,e1,ak,am,PQ,b1,HK,ap,ac,ax,aE];rfl
  rw[e];exact iM _
 ·have e1:(s== ([116,114,117,101]:aR))=false:=Qj.2 h1;by_cases h2:s=gQ
  ·have hx:cH s=some (.mk 1 0 [] []):=by unfold cH;rw[if_neg h1,PS h2]
   rw[hx];have e2:(s== ([102,97,108,115,101]:aR))=true:=by rw[h2];rfl
   show aj pg 93 [.str s]=ay (Val.mk 1 0 [] []).av;rw[C93,show cl aB (.str s)= .str s from rfl];have e:S93 (aj pg) ao (.str s)=ay (Val.mk 1 0 [] []).av:=by
    simp only[S93,es,e1,e2,ak,am,PM,PP,PQ,b2,HK,ap,ac,ax,aE];rfl
   rw[e];exact iM _
  ·have e2:(s== ([102,97,108,115,101]:aR))=false:=Qj.2 h2;have hat:=t141 s hb;by_cases hok:∃n,Lib.atoiAll s= .ok n
   ·obtain⟨n,hv⟩:=hok;have hr:=Lib.atoiAll_bounds hv;have hit:=t50 n hr.1 hr.2;rw[pp,hv]at hat;by_cases hq:cI n=s
    ·have hn:(cI n != s)=false:=by simp[hq]
     have hx:cH s=some (.mk 0 n [] []):=by unfold cH;rw[if_neg h1,if_neg h2,hv];exact PS hq
     rw[hx];show aj pg 93 [.str s]=ay (Val.mk 0 n [] []).av;rw[C93,show cl aB (.str s)= .str s from rfl];have e:S93 (aj pg) ao (.str s)=ay (Val.mk 0 n [] []).av:=by
      simp only[S93,K93_0,ci,es,e1,e2,ak,am,PM,PP,hat,ap,aO,PU,PZ,nz,aL,hit,ns,hn,ax,aE,aS,b3,HK,ac];rfl
     rw[e];exact iM _
    ·have hn:(cI n != s)=true:=by simpa using hq
     have hx:cH s=none:=by unfold cH;rw[if_neg h1,if_neg h2,hv];exact if_neg hq
     rw[hx];intro h;rw[C93,show cl aB (.str s)= .str s from rfl];refine A4 (h':=[]) ?_ h;simp only[S93,K93_0,ci,es,e1,e2,ak,am,PM,PP,hat,ap,aO,PU,PZ,nz,aL,hit,ns,hn,ax,aS,PQ,b4,mi,Bq];rfl
   ·have hx:cH s=none:=by
     unfold cH;rw[if_neg h1,if_neg h2];split
     ·rename_i n hv;exact absurd ⟨n,hv⟩ hok
     ·rfl
    have ha:∃a x,pp 251 s= .tup [a,.iface 251 x]:=by
     unfold pp;split
     ·rename_i n hv;exact absurd ⟨n,hv⟩ hok
     ·exact⟨_,_,rfl⟩
     ·exact⟨_,_,rfl⟩
    obtain⟨a,x,ha⟩:=ha;rw[ha]at hat;rw[hx];intro h;rw[C93,show cl aB (.str s)= .str s from rfl];refine A4 (h':=[]) ?_ h;simp only[S93,K93_0,ci,es,e1,e2,ak,am,PM,PP,hat,ap,aO,PU,PZ,nn,dm,List.replicate,aY,PQ,b4,mi,Bq];rfl
def Reads(o:Option (Val×aR))(r:R AV):Prop:=match o with
 |some x=>r= .ok x.1.av (fT x.2)
 |none=>∃h',r= .pan lO h'
theorem qy(f:AV->M AV)(h:Hp):af (sZ lO) f h= .pan lO h:=rfl
theorem Nx:aT T false 81 []=some (.agg []):=rfl
theorem NE:fl T 81 (.agg [])=some lO:=rfl
theorem LM(s:aR):aG T 22 1 [(0,.str s)]=some (strs [s]):=rfl
def LN(v:Val):aG T 30 1 [(0,v.av)]=some (vals [v]):=by cases v;rfl
theorem Hj(l:List AV):aa (.agg l)=l:=rfl
def Dc{d:Nat}{s:aR}{v:Val}{r:aR}(h:ck d s=some (v,r)):r.length<=s.length:=by
 rw[<- (fU d s v r h).1,P0];omega
def xK(k:List AV->M AV)(d:Nat)(hd:d<=4)(G:aR->Val->aR->Option (Val×aR))(IH:∀s:aR,s.length<=4000000->Reads (ck d s) (aj pg 54 [.hp 0 0,.int .i64 d] (fT s)))(a b c e:AV)(s:aR)(hs:s.length<=4000000)(ns:List aR)(vs:List Val)(hn:ns.length<=4000000)(hv:vs.length<=4000000)(hk:∀n v r,r.length<s.length->Reads (G n v r) (k [.hp 0 0,.int .i64 (d+1:Nat),a,b,c,e,.int .i64 2,.int .i64 0,strs (ns++[n]),vals (vs++[v])] (fT r))):
  Reads (match gZ s with|none=>none|some (n,r)=>match ck d r with|none=>none|some (v,r')=>G n v r') (K54_1 (aj pg) ao k [.hp 0 0,.int .i64 (d+1:Nat),a,b,c,e,.int .i64 2,.int .i64 0,strs ns,vals vs] (fT s)):=by
 have hl:=PR List.length (sK eG s);rw[P0]at hl;have hu:aj pg 94 [.hp 0 0,.str [61,123,125,44]] (fT s)= .ok (.str (s.takeWhile eG)) (fT (s.dropWhile eG)):=t94 s [61,123,125,44] (by omega) (by decide) (by decide);have hp:=t95 (s.takeWhile eG) (by omega);have hsk:=t92 (s.dropWhile eG) 61;unfold gZ;cases hpl:eW (s.takeWhile eG)with
 |false=>
  rw[hpl]at hp;rw[if_neg (by simp)];simp only[K54_1,ax,aE,ci,ee hu,hp,ap,bq,ak,Qd,dm,aY,am,PQ,Nx,NE,qy];exact⟨_,rfl⟩
 | true=>
  rw[hpl]at hp;by_cases h61:(s.dropWhile eG).head? = some 61
  ·rw[PS ⟨rfl,h61⟩];have hr:(s.dropWhile eG).tail.length<s.length:=by
    have h3:=PR List.length (fo h61);rw[P4]at h3;omega
   have dc:decide ((s.dropWhile eG).head? = some 61)=true:=PT h61;rw[PS h61,dc]at hsk;have hap:cf T 22 (strs ns) (strs [s.takeWhile eG])=some (strs (ns++[s.takeWhile eG])):=oC (by simp;omega);have hsub:aw T .sub 3 (.int .i64 (d+1:Nat)) (.int .i64 1)=some (.int .i64 d):=by
    simp;exact bd (by omega) (by omega)
   have hI:=IH (s.dropWhile eG).tail (by omega);simp only[K54_1,ax,aE,ci,ee hu,hp,ap,bq,ak,Qa,aL,fu,ee hsk,aS,am,PM,PP,K54_0,LM,hap,hsub];cases hvx:ck d (s.dropWhile eG).tail with
   |none=>
    rw[hvx]at hI;obtain⟨h',e'⟩:=hI;rw[qT e'];exact⟨h',rfl⟩
   |some x=>
    obtain⟨v,r'⟩:=x;rw[hvx]at hI;have e':aj pg 54 [.hp 0 0,.int .i64 d] (fT (s.dropWhile eG).tail)= .ok v.av (fT r'):=hI;have hr':=Dc hvx;have hap2:cf T 30 (vals vs) (vals [v])=some (vals (vs++[v])):=kj (by simp;omega);have c1:∀l:List aR,cp (strs l)=ay (strs l):=fun _=>rfl;have c2:∀l:List Val,cp (vals l)=ay (vals l):=fun _=>rfl;simp only[ee e',LN,ak,hap2,c1,c2,ap];exact hk _ v r' (by omega)
  ·rw[if_neg (fun h=>h61 h.2)];have dc:decide ((s.dropWhile eG).head? = some 61)=false:=PX h61;rw[dc]at hsk;simp only[K54_1,ax,aE,ci,ee hu,hp,ap,bq,ak,Qa,Qd,aL,fu,ee hsk,aS,am,PQ,Nx,NE,qy];exact⟨_,rfl⟩
theorem Lg(d:Nat)(hd:d<=4)(IH:∀s:aR,s.length<=4000000->Reads (ck d s) (aj pg 54 [.hp 0 0,.int .i64 d] (fT s)))(a b c e:AV):∀(f:Nat)(s:aR)(ns:List aR)(vs:List Val),s.length<f->ns.length+s.length<=4000000->vs.length=ns.length->
  Reads (eB (ck d) f ns vs s) (ao (L54_0 (aj pg) ao) [.hp 0 0,.int .i64 (d+1:Nat),a,b,c,e,.int .i64 2,.int .i64 0,strs ns,vals vs] (fT s)):=by
 intro f
 induction f with
 |zero=>intro s ns vs h;omega
 | succ f ih=>
  intro s ns vs hf hb hl;have hs1:=t92 s 125;have gt:∀x y:Int,aw T .gtr 3 (.int .i64 x) (.int .i64 y)=some (.bool (decide (y<x))):=fun _ _=>rfl;rw[eB,FL54_0];by_cases h125:s.head? = some 125
  ·have dc:decide (s.head? = some 125)=true:=PT h125;rw[PS h125,dc]at hs1;have cn:az 4 [] (.agg [.int .i64 2,.int .i64 0,strs ns,vals vs])=ay (.agg [.int .i64 2,.int .i64 0,strs ns,vals vs]):=rfl;rw[PS h125];simp only[L54_0,ax,aE,ee hs1,bq,ak,Qa,am,PM,PP,cn,ap,Hj];rfl
  ·have dc:decide (s.head? = some 125)=false:=PX h125;rw[if_neg h125,dc]at hs1;rw[if_neg h125];have hk:∀s1:aR,s1.length<=s.length->∀n v r,r.length<s1.length->Reads (eB (ck d) f (ns++[n]) (vs++[v]) r) (ao (L54_0 (aj pg) ao) [.hp 0 0,.int .i64 (d+1:Nat),a,b,c,e,.int .i64 2,.int .i64 0,strs (ns++[n]),vals (vs++[v])] (fT r)):=fun s1 h1 n v r hr=>
    ih r (ns++[n]) (vs++[v]) (by omega) (by simp;omega) (by simp[hl])
   cases hne:ns.isEmpty with
   | true=>
    have hz:¬((0:Int)<(ns.length:Int)):=by
     have:=SP.1 hne
     rw[this];simp
    have N:=xK (ao (L54_0 (aj pg) ao)) d hd (fun n v r=>eB (ck d) f (ns++[n]) (vs++[v]) r) IH a b c e s (by omega) ns vs (by omega) (by omega) (hk s (P5 _));have hh:gG true s=gZ s:=rfl;rw[hh];simp only[L54_0,ax,aE,ee hs1,bq,ak,Qd,am,PQ,ci,dA,gt,PX hz,dl,ap,aS,PM,PP];exact N
   | false=>
    have hz:(0:Int)<(ns.length:Int):=by
     cases ns with
     |nil=>cases hne
     |cons x l=>simp only[P4];omega
    have hs2:=t92 s 44;by_cases h44:s.head? = some 44
    ·have dc2:decide (s.head? = some 44)=true:=PT h44;rw[PS h44,dc2]at hs2;have hlt:s.tail.length<s.length:=by
      have h3:=PR List.length (fo h44);rw[P4]at h3;omega
     have N:=xK (ao (L54_0 (aj pg) ao)) d hd (fun n v r=>eB (ck d) f (ns++[n]) (vs++[v]) r) IH a b c e s.tail (by omega) ns vs (by omega) (by omega) (hk s.tail (by omega));have hh:gG false s=gZ s.tail:=by unfold gG;rw[if_neg (by simp),PS h44]
     rw[hh];simp only[L54_0,ax,aE,ee hs1,bq,ak,Qd,Qa,am,PQ,ci,dA,gt,PT hz,aL,fu,ee hs2,ap,aY,PM,PP];exact N
    ·have dc2:decide (s.head? = some 44)=false:=PX h44;rw[if_neg h44,dc2]at hs2;have hh:gG false s=none:=by unfold gG;rw[if_neg (by simp),if_neg h44]
     rw[hh];simp only[L54_0,ax,aE,ee hs1,bq,ak,Qd,am,PQ,ci,dA,gt,PT hz,aL,fu,ee hs2,ap,aY,Nx,NE,qy];exact⟨_,rfl⟩
theorem t54:∀(d:Nat),d<=4->∀s:aR,s.length<=4000000->Reads (ck d s) (aj pg 54 [.hp 0 0,.int .i64 d] (fT s)):=by
 intro d
 induction d with
 |zero=>
  intro _ s hs;have e0:aw T .eql 3 (.int .i64 ((0:Nat):Int)) (.int .i64 0)=some (.bool true):=rfl;rw[C54,ck];simp only[S54,ci,e0,ak,am,PQ,Nx,NE,qy];exact⟨_,rfl⟩
 | succ d ih=>
  intro hd s hs;have e0:aw T .eql 3 (.int .i64 ((d+1:Nat):Int)) (.int .i64 0)=some (.bool false):=by
   show some (AV.bool (decide ((((d+1:Nat):Int))=0)))=_;rw[PX (by omega)]
  have hsk:=t92 s 123;rw[C54,ck];by_cases h123:s.head? = some 123
  ·have dc:decide (s.head? = some 123)=true:=PT h123;rw[PS h123,dc]at hsk;have hlt:s.tail.length<s.length:=by
    have h3:=PR List.length (fo h123);rw[P4]at h3;omega
   have bb:aT T true 45 [(0,.int .i64 2)]=some (.agg [.int .i64 2,.int .i64 0,.hn,.hn]):=rfl;have cn:az 4 [2,3] (.agg [.int .i64 2,.int .i64 0,.hn,.hn])=ay (.agg [.int .i64 2,.int .i64 0,.hn,.hn]):=rfl;have L:=Lg d (by omega) (ih (by omega)) (.int .i64 0) (.int .i64 0) (.sl []) (.sl []) s.length s.tail [] [] hlt (by simp;omega) rfl;rw[PS h123];simp only[S54,ci,e0,ak,am,PM,PP,K54_2,ax,aE,ee hsk,bq,Qa,bb,cn,ap,Hj];exact L
  ·have dc:decide (s.head? = some 123)=false:=PX h123;rw[if_neg h123,dc]at hsk;rw[if_neg h123];have hl:=PR List.length (sK dn s);rw[P0]at hl;have hu:aj pg 94 [.hp 0 0,.str [44,125]] (fT s)= .ok (.str (s.takeWhile dn)) (fT (s.dropWhile dn)):=t94 s [44,125] (by omega) (by decide) (by decide);have hsc:=t93 (s.takeWhile dn) (by omega);simp only[S54,ci,e0,ak,am,PM,PP,K54_2,ax,aE,ee hsk,bq,Qd,PQ,ee hu];cases hx:cH (s.takeWhile dn)with
   |none=>
    rw[hx]at hsc;obtain⟨h',e'⟩:=hsc (fT (s.dropWhile dn));rw[qT e'];exact⟨h',rfl⟩
   |some v=>
    rw[hx]at hsc;have hsc':aj pg 93 [.str (s.takeWhile dn)]=ay v.av:=hsc;have cn:az 4 [] v.av=ay v.av:=by simp
    have va:AV.agg [ae (aa v.av) 0,ae (aa v.av) 1,ae (aa v.av) 2,ae (aa v.av) 3]=v.av:=by cases v;rfl
    simp only[hsc',ap,cn,va];rfl
def Ma(Q:Prop)(most:Int)(m:M AV):Prop:=∃n,m=ay (.int .i64 n)/\1<=n/\n<=most+1/\(n<=most->Q)
def pi(Q:Int->Prop)(most:Int)(m:M AV):Prop:=∃n,m=ay (.int .i64 n)/\1<=n/\n<=most+1/\(n<=most->Q n)
def BB(P:Prop)(m:M AV):Prop:=∃b,m=ay (.bool b)/\(b=true->P)
def BB.no{P:Prop}:BB P (ay (.bool false)):=⟨false,rfl,fun h=>by cases h⟩
def BB.imp{P Q:Prop}{m:M AV}(h:BB P m)(f:P->Q):BB Q m:=by
 obtain⟨b,h1,h2⟩:=h;exact⟨b,h1,fun e=>f (h2 e)⟩
def vU{e x:Val}(h:x∈e.values):SizeOf.sizeOf x<SizeOf.sizeOf e:=by
 cases e with
 |mk k n ns vs=>
  have:=Sv h
  simp only[Val.mk.sizeOf_spec];simp only[Val.values]at this;omega
def qO(b c:Bool)(k:AV->M AV):af (aF (.bool b) true 1 (ay [.bool c])) (fun v=>af (ah (aI (.bool b) (ae v 0) (.bool false))) k)=k (.bool (b&&c)):=by
 cases b<;>rfl
def vv(b c:Bool)(k:AV->M AV):af (aF (.bool b) false 1 (ay [.bool c])) (fun v=>af (ah (aI (.bool b) (.bool true) (ae v 0))) k)=k (.bool (b||c)):=by
 cases b<;>rfl
def Ax(e:Ty):Prop:=∀most depth:Int,0<=most->most<=1099511627776->depth<=1099511627776->Ma True most (aj pg 48 [e.av,.int .i64 most,.int .i64 depth])
def Lf(e:Ty)(hL:e.Lim)(ih:∀x∈e.fields,Ax x.2)(most depth:Int)(h0:0<=most)(h1:most<=1099511627776)(h2:depth<=1099511627776)(h3:1<=depth):
  ∀(r:Nat)(n i:Int),e.fields.length-i.toNat=r->0<=i->i<=e.fields.length->1<=n->n<=most+1->Ma True most (ao (L48_0 (aj pg) ao) [.int .i64 most,.int .i64 depth,.ip (aa e.av),.int .i64 n,.int .i64 i]):=by
 intro r
 induction r with
 |zero=>
  intro n i hr hi hb hn hm;rw[FL48_0];simp only[L48_0];have h1:¬(i<(e.fields.length:Int)):=by omega
  simp[h1];exact⟨n,rfl,hn,hm,fun _=>trivial⟩
 | succ r IH=>
  intro n i hr hi hb hn hm;have hlen:=hL.len;have h5:i<(e.fields.length:Int):=by omega
  have hlt:i.toNat<e.fields.length:=by omega
  rw[FL48_0];simp only[L48_0];by_cases hs:n<=most
  ·by_cases h60:(60:Int)<(e.fields[i.toNat].1.length:Int)
   ·simp (disch:=omega) [h5,hs,gp,PY e.fields i.toNat hlt,bd,h60];exact⟨_,rfl,by omega,by omega,fun _=>trivial⟩
   ·obtain⟨k,hk,hk1,hk2,_⟩:=ih e.fields[i.toNat] (P2 hlt) (most-n) (depth-1) (by omega) (by omega) (by omega);have h4:=IH (n+k) (i+1) (by omega) (by omega) (by omega) (by omega) (by omega);simp (disch:=omega) [h5,hs,gp,PY e.fields i.toNat hlt,bd,hk,h60];simpa using h4
  ·simp[h5,hs];exact⟨n,rfl,hn,hm,fun _=>trivial⟩
def t48:∀(N:Nat)(e:Ty),SizeOf.sizeOf e<=N->e.Lim->Ax e:=by
 intro N
 induction N with
 |zero=>intro e he;cases e;simp at he
 | succ N ih=>
  intro e he hL most depth h0 h1 h2;rw[C48];have h4:1<=depth->_:=fun h3=>Lf e hL (fun x hx=>ih x.2 (by have:=BH hx;omega) (hL.kid hx)) most depth h0 h1 h2 h3 e.fields.length 1 0 rfl (by omega) (by omega) (by omega) (by omega);simp[S48];split
  ·rw[bd (by omega) (by omega),dW];exact⟨_,rfl,by omega,by omega,fun _=>trivial⟩
  ·obtain⟨n,hn,b⟩:=h4 (by omega);simp at hn;rw[hn,dW];exact⟨n,rfl,b⟩
def K9(l:List Ty)(hl:l.length<=140737488355328)(hL:∀e∈l,e.Lim):∀(r:Nat)(i:Int),l.length-i.toNat=r->0<=i->i<=l.length->BB True (ao (L16_0 (aj pg) ao) [Db l,.int .i64 i]):=by
 intro r
 induction r with
 |zero=>
  intro i hr hi hb;rw[FL16_0];simp only[L16_0];have h1:¬(i<(l.length:Int)):=by omega
  simp[h1];exact⟨_,rfl,fun _=>trivial⟩
 |succ r IH=>
  intro i hr hi hb;have h5:i<(l.length:Int):=by omega
  have hlt:i.toNat<l.length:=by omega
  rw[FL16_0];simp only[L16_0];obtain⟨k,hk,_⟩:=t48 _ l[i.toNat] (P5 _) (hL _ (P2 hlt)) 40 6 (by omega) (by omega) (by omega);have h4:=IH (i+1) (by omega) (by omega) (by omega);simp (disch:=omega) [h5,NM,PY l i.toNat hlt,bd,hk];by_cases hk5:40<k
  ·simp[hk5];exact .no
  ·simp[hk5];exact h4
def t16(l:List Ty)(hl:l.length<=140737488355328)(hL:∀e∈l,e.Lim):BB True (aj pg 16 [Db l]):=by
 rw[C16];obtain⟨b,hb,h2⟩:=K9 l hl hL l.length 0 rfl (by omega) (by omega);refine⟨b,?_,h2⟩;simp[S16,hb]
def Mr(t:Ty):aG T 47 1 [(0,t.av)]=some (Db [t]):=by cases t;rfl
def AA(v:Val):Prop:=∀most depth:Int,0<=most->most<=1099511627776->depth<=1099511627776->pi (fun n=>(v.sz:Int)<=13*n/\Dh v) most (aj pg 42 [v.av,.int .i64 most,.int .i64 depth])
def qa(l:List Val)(i:Nat)(h:i<l.length):br (l.drop i)=l[i].sz+br (l.drop (i+1)):=by
 rw[P9 h];rfl
def Ig(e:Val)(hL:e.Lim)(ih:∀x∈e.values,AA x)(most depth:Int)(h0:0<=most)(h1:most<=1099511627776)(h2:depth<=1099511627776)(h3:1<=depth):
  ∀(r:Nat)(n i:Int),e.values.length-i.toNat=r->0<=i->i<=e.values.length->1<=n->n<=most+1->pi (fun k=>(br (e.values.drop i.toNat):Int)<=13*(k-n)/\∀x∈e.values.drop i.toNat,Dh x) most (ao (L42_0 (aj pg) ao) [.int .i64 most,.int .i64 depth,.ip (aa e.av),.int .i64 n,.int .i64 i]):=by
 intro r
 induction r with
 |zero=>
  intro n i hr hi hb hn hm;rw[FL42_0];simp only[L42_0];have h1:¬(i<(e.values.length:Int)):=by omega
  simp[h1];exact⟨n,rfl,hn,hm,fun h=>by rw[Qg (by omega)];simp[br]⟩
 | succ r IH=>
  intro n i hr hi hb hn hm;have hlen:=hL.len;have h5:i<(e.values.length:Int):=by omega
  have hlt:i.toNat<e.values.length:=by omega
  rw[FL42_0];simp only[L42_0];by_cases hs:n<=most
  ·obtain⟨k,hk,hk1,hk2,hk3⟩:=ih e.values[i.toNat] (P2 hlt) (most-n) (depth-1) (by omega) (by omega) (by omega);obtain⟨n',q1,q2,q3,q4⟩:=IH (n+k) (i+1) (by omega) (by omega) (by omega) (by omega) (by omega);rw[show (i+1).toNat=i.toNat+1 by omega]at q4;have hd:=qa e.values i.toNat hlt;have h4:pi (fun k=>(br (e.values.drop i.toNat):Int)<=13*(k-n)/\∀x∈e.values.drop i.toNat,Dh x) most (ao (L42_0 (aj pg) ao) [.int .i64 most,.int .i64 depth,.ip (aa e.av),.int .i64 (n+k),.int .i64 (i+1)]):=by
    by_cases hk4:k<=most-n
    ·refine⟨n',q1,q2,q3,fun h=>?_⟩;have p1:=q4 h;have p2:=hk3 hk4;refine⟨?_,fun x hx=>?_⟩
     ·have:=p1.1
      have:=p2.1
      show (br (e.values.drop i.toNat):Int)<=13*(n'-n);omega
     ·rw[P9 hlt]at hx;rcases Qm.1 hx with rfl|hx
      ·exact p2.2
      ·exact p1.2 x hx
    ·have hstop:ao (L42_0 (aj pg) ao) [.int .i64 most,.int .i64 depth,.ip (aa e.av),.int .i64 (n+k),.int .i64 (i+1)]=ay (.int .i64 (n+k)):=by
      rw[FL42_0];simp only[L42_0];have h6:¬(n+k<=most):=by omega
      simp[h6]
     exact⟨n+k,hstop,by omega,by omega,fun h=>by omega⟩
   simp (disch:=omega) [h5,hs,hM,PY e.values i.toNat hlt,bd,hk];simpa using h4
  ·simp[h5,hs];exact⟨n,rfl,hn,hm,fun h=>absurd h hs⟩
def Ih(e:Val)(hL:e.Lim)(h12:e.names.length<=12)(most depth:Int)(h0:0<=most)(h1:most<=1099511627776)(Q:Int->Prop)(h:pi Q most (ao (L42_0 (aj pg) ao) [.int .i64 most,.int .i64 depth,.ip (aa e.av),.int .i64 1,.int .i64 0])):
  ∀(r:Nat)(i:Int),e.names.length-i.toNat=r->0<=i->i<=e.names.length->pi (fun k=>Q k/\∀s∈e.names.drop i.toNat,s.length<=60) most (ao (L42_1 (aj pg) ao) [.int .i64 most,.int .i64 depth,.ip (aa e.av),.int .i64 1,.int .i64 i]):=by
 intro r
 induction r with
 |zero=>
  intro i hr hi hb;rw[FL42_1];simp only[L42_1];have h1:¬(i<(e.names.length:Int)):=by omega
  obtain⟨n,p1,p2,p3,p4⟩:=h;simp[h1];exact⟨n,by simpa using p1,p2,p3,fun h=>⟨p4 h,fun s hs=>by rw[Qg (by omega)]at hs;cases hs⟩⟩
 | succ r IH=>
  intro i hr hi hb;have h5:i<(e.names.length:Int):=by omega
  have hlt:i.toNat<e.names.length:=by omega
  have h4:=IH (i+1) (by omega) (by omega) (by omega);rw[FL42_1];simp only[L42_1];by_cases h60:(60:Int)<(e.names[i.toNat].length:Int)
  ·simp (disch:=omega) [h5,mG,PY e.names i.toNat hlt,bd,h60];exact⟨_,rfl,by omega,by omega,fun h=>by omega⟩
  ·simp (disch:=omega) [h5,mG,PY e.names i.toNat hlt,bd,h60];obtain⟨n,p1,p2,p3,p4⟩:=h4;refine⟨n,by simpa using p1,p2,p3,fun h=>⟨(p4 h).1,fun s hs=>?_⟩⟩;rw[P9 hlt]at hs;rcases Qm.1 hs with rfl|hs
   ·omega
   ·exact (p4 h).2 s (by rw[show (i+1).toNat=i.toNat+1 by omega];exact hs)
def t42:∀(N:Nat)(e:Val),SizeOf.sizeOf e<=N->e.Lim->AA e:=by
 intro N
 induction N with
 |zero=>intro e he;cases e;simp at he
 | succ N ih=>
  intro e he hL most depth h0 h1 h2;rw[C42];by_cases hq:depth<1\/12<e.names.length
  ·simp[S42];rw[PS (by omega),bd (by omega) (by omega),dW];exact⟨_,rfl,by omega,by omega,fun h=>by omega⟩
  ·have h4:=Ig e hL (fun x hx=>ih x (by have:=vU hx;omega) (hL.kid hx)) most depth h0 h1 h2 (by omega) e.values.length 1 0 rfl (by omega) (by omega) (by omega) (by omega);obtain⟨n,hn,b1,b2,b3⟩:=Ih e hL (by omega) most depth h0 h1 _ h4 e.names.length 0 rfl (by omega) (by omega);simp[S42];rw[if_neg (by omega)];simp at hn;rw[hn,dW];refine⟨n,rfl,b1,b2,fun h=>?_⟩;have p:=b3 h;simp at p;have hs:e.sz=1+e.names.length+br e.values:=by cases e;rfl
   exact⟨by have:=p.1.1;omega,(Bf e).2 ⟨p.2,p.1.2⟩⟩
def K8(l:List Val)(hl:l.length<=140737488355328)(hL:∀e∈l,e.Lim):∀(r:Nat)(i:Int),l.length-i.toNat=r->0<=i->i<=l.length->BB (l.length<=8/\br (l.drop i.toNat)<=520*(l.length-i.toNat)/\∀v∈l.drop i.toNat,Dh v) (ao (L10_0 (aj pg) ao) [vals l,.int .i64 i]):=by
 intro r
 induction r with
 |zero=>
  intro i hr hi hb;rw[FL10_0];simp only[L10_0];have h1:¬(i<(l.length:Int)):=by omega
  simp[h1];exact⟨_,rfl,fun h=>by simp at h;exact⟨by omega,by rw[Qg (by omega)];simp[br]⟩⟩
 | succ r IH=>
  intro i hr hi hb;have h5:i<(l.length:Int):=by omega
  have hlt:i.toNat<l.length:=by omega
  rw[FL10_0];simp only[L10_0];by_cases hs:i<9
  ·obtain⟨k,hk,_,_,hq⟩:=t42 _ l[i.toNat] (P5 _) (hL _ (P2 hlt)) 40 6 (by omega) (by omega) (by omega);have h4:=IH (i+1) (by omega) (by omega) (by omega);simp (disch:=omega) [h5,hs,hM,PY l i.toNat hlt,bd,hk];by_cases hk5:40<k
   ·simp[hk5];exact .no
   ·simp[hk5];refine h4.imp fun h=>⟨h.1,?_,fun v hv=>?_⟩
    ·have h6:=h.2.1;rw[show (i+1).toNat=i.toNat+1 by omega]at h6;rw[qa l i.toNat hlt];have h7:(l[i.toNat].sz:Int)<=13*k:=(hq (by omega)).1;omega
    ·rw[P9 hlt]at hv;rcases Qm.1 hv with rfl|hv
     ·exact (hq (by omega)).2
     ·exact h.2.2 v (by rw[show (i+1).toNat=i.toNat+1 by omega];exact hv)
  ·simp[h5,hs];refine⟨_,rfl,fun h=>?_⟩;simp at h;omega
def Nl(l:List Val)(hl:l.length<=140737488355328)(hL:∀e∈l,e.Lim):BB (l.length<=8/\br l<=4160/\∀v∈l,Dh v) (aj pg 10 [vals l]):=by
 rw[C10];obtain⟨b,hb,h2⟩:=K8 l hl hL l.length 0 rfl (by omega) (by omega);refine⟨b,?_,fun h=>?_⟩
 ·simp[S10,hb]
 ·have:=h2 h
  simp at this;exact⟨this.1,by have:=this.2.1;omega,this.2.2⟩
end Go.Proofs.YtihmmkncokjbaaaGreatDoor
namespace Go.Proofs.YtihmmkncokjbaaaGreatDoor
open Go Go.Av Go.Av.Ap
set_option maxRecDepth 100000
def im(o:Option Val):AV:=match o with
 |some v=>.tup [v.av,.int .i64 0]
 |none=>rf
def qY(o:Option Val):Ap.Clean (im o):=fun g=>by cases o<;>simp[im,rf,cl,eM]
theorem yT(h:Hp):gM 81 (.pan lO h)= .ok rf []:=rfl
def CR(t:Ty)(s:aR)(ht:t.Lim)(hs:s.length<=1000000):∃h',oi 81 54 20 (aj pg) [t.av,.str s] []= .ok (im (lr t s)) h':=by
 have hV0:=t54 4 (P5 _) s (by omega);have hV:Reads (ck 4 s) (aj pg 54 [.hp 0 0,.int .i64 4] (fT s)):=hV0;have e0:oi 81 54 20 (aj pg) [t.av,.str s] []=gM 81 (uj 81 54 20 (aj pg) t.av (fT s)):=by
  show (bif cz 2 t.av then _ else _)=_;rw[Ap.nZ];rfl
 rw[e0];unfold uj lr;cases hv:ck 4 s with
 |none=>
  rw[hv]at hV;obtain⟨h',e'⟩:=hV;rw[qT e',yT];exact⟨[],rfl⟩
 | some x=>
  obtain⟨v,r⟩:=x;rw[hv]at hV;have e':aj pg 54 [.hp 0 0,.int .i64 4] (fT s)= .ok v.av (fT r):=hV;have hsz:=jR 4 s v r hv;have hH:=t20 t v ht (by omega);have c1:∀g:AV->M AV,af (B5 4 v.av) g (fT r)=g v.av (fT r):=fun g=>by unfold af B5;rw[cL];rfl
  have c2:∀g:AV->M AV,af pM g (fT r)=g (.str r) (fT r):=fun g=>rfl;rw[ee e',c1,c2];simp only[zd,ak];cases hr:r.isEmpty with
  |false=>
   have hne:¬r=[]:=fun e=>by rw[e]at hr;cases hr
   rw[if_neg (fun h=>hne h.1)];exact⟨[],rfl⟩
  | true=>
   have he:r=[]:=SP.1 hr;have hx:(if r=[]/\fc t v=true then some v else none)=if fc t v=true then some v else none:=by simp[he]
   simp only[am,PQ,hH,ap,hx];cases hh:fc t v with
   |false=>
    simp only[PM,PP];exact⟨[],rfl⟩
   |true=>
    simp only[PQ];exact⟨fT r,by cases v;rfl⟩
def t19(t:Ty)(s:aR)(ht:t.Lim)(hs:s.length<=1000000):aj pg 19 [t.av,.str s]=ay (im (lr t s)):=by
 funext h;rw[dB aH (E:=sn 81 54 20) rfl];obtain⟨h',e⟩:=CR t s ht hs;have hc:eM aB [t.av,.str s]=[t.av,.str s]:=by simp[eM,cl]
 show iW (oi 81 54 20 (aj pg)) [t.av,.str s] h=_;unfold iW;rw[hc,e];show R.ok (oO 6 h' (im (lr t s))) h=_;rw[(qY _).frz 6 h'];rfl
def t51(b:Bool):aj pg 51 [.bool b]=ay (.str (if b=true then jZ else gQ)):=by
 have h2:aj pg 88 [.bool b]=ay (.str (if b=true then jZ else gQ)):=by
  rw[C88];cases b<;>simp[S88,jZ,gQ]
 rw[C51];simp[S51,h2]
theorem sH:∀l:List aR,strsOf (l.map AV.str)=some l
 |[]=>rfl
 |s:: l=>by rw[QO,strsOf,sH l];rfl
def t52(l:List aR)(h1:l.length<=140737488355328)(h2:(b6 [44] l).length<=140737488355328):aj pg 52 [strs l,.str [44]]=ay (.str (b6 [44] l)):=by
 rw[dB aH (E:=tS) rfl];unfold strs;simp only[tS,sH,PT h1,PT h2,Ry,PV];rfl
section
variable (v:Val)
theorem IK:ab T 45 (.ip (aa v.av)) 0=some (.ip ((aa v.av).drop 0)):=by cases v;rfl
theorem Nt:ab T 45 (.ip (aa v.av)) 1=some (.ip ((aa v.av).drop 1)):=by cases v;rfl
theorem Kk:ab T 45 (.ip (aa v.av)) 2=some (.ip ((aa v.av).drop 2)):=by cases v;rfl
theorem NJ:ab T 45 (.ip (aa v.av)) 3=some (.ip ((aa v.av).drop 3)):=by cases v;rfl
theorem IL:ai T 3 (.ip ((aa v.av).drop 0))=some (.int .i64 v.kind):=by cases v;rfl
theorem Nu:ai T 3 (.ip ((aa v.av).drop 1))=some (.int .i64 v.n):=by cases v;rfl
theorem Kl:ai T 22 (.ip ((aa v.av).drop 2))=some (strs v.names):=by cases v;rfl
theorem NK:ai T 30 (.ip ((aa v.av).drop 3))=some (vals v.values):=by cases v;rfl
theorem qm:ai T 45 (.ip (aa v.av))=some v.av:=by cases v;rfl
end
theorem mH(a b:Int):aw T .eql 3 (.int .i64 a) (.int .i64 b)=some (.bool (decide (a=b))):=rfl
theorem db(a b:Int):aw T .lss 3 (.int .i64 a) (.int .i64 b)=some (.bool (decide (a<b))):=rfl
theorem Di(a b:aR)(h:a.length+b.length<=4611686018427387904):aw T .add 9 (.str a) (.str b)=some (.str (a++b)):=by
 have e:aw T .add 9 (.str a) (.str b)=if a.length+b.length<=4611686018427387904 then some (.str (a++b))else none:=rfl;rw[e,PS h]
theorem F7(s:aR):ai T 9 (.ip (aa (.str s)))=some (.str s):=rfl
def bv(n:aR)(x:Val):aR:=n++61:: cO x
theorem La(v:Val)(B:Nat)(hB:B<=1000000)(hl:v.names.length=v.values.length)(h8:v.names.length<=8)(hj:(b6 [44] (List.zipWith bv v.names v.values)).length<=B)(hx:∀x∈v.values,aj pg 17 [x.av]=ay (.str (cO x))):∀r k:Nat,v.names.length-k=r->k<=v.names.length->
  ao (L17_0 (aj pg) ao) [.ip (aa v.av),strs ((List.zipWith bv v.names v.values).take k),strs v.names,.int .i64 v.names.length,.int .i64 (k:Int)]=ay (.str (123:: (b6 [44] (List.zipWith bv v.names v.values)++[125]))):=by
 intro r
 induction r with
 |zero=>
  intro k hr hk;have hke:k=v.names.length:=by omega
  subst hke;have h1:¬((v.names.length:Int)<(v.names.length:Int)):=by omega
  have hzl:(List.zipWith bv v.names v.values).length=v.names.length:=by simp[hl]
  have htk:(List.zipWith bv v.names v.values).take v.names.length=List.zipWith bv v.names v.values:=Q6 (by omega);have hJ:=t52 (List.zipWith bv v.names v.values) (by omega) (by omega);have c1:=Di [123] (b6 [44] (List.zipWith bv v.names v.values)) (by simp only[P4,Qr];omega);have c2:=Di ([123]++b6 [44] (List.zipWith bv v.names v.values)) [125] (by simp only[P0,P4,Qr];omega);rw[FL17_0,htk];simp only[L17_0,ax,aE,db,ak,am,PX h1,PM,PP,hJ,ap,c1,c2];simp
 | succ r IH=>
  intro k hr hk;have hk1:k<v.names.length:=by omega
  have hk2:k<v.values.length:=by omega
  have h1:(k:Int)<(v.names.length:Int):=by omega
  have hix:=mG (l:=v.names) (n:=(k:Int)) (by omega) h1;have hiv:=hM (l:=v.values) (n:=(k:Int)) (by omega) (by omega);rw[P8,PY v.names k hk1]at hix;rw[P8,PY v.values k hk2]at hiv;have hz:=hx _ (P2 hk2);have hadd:aw T BinOp.add 3 (.int .i64 (k:Int)) (.int .i64 1)=some (.int .i64 (k+1:Nat)):=by
   have:IntKind.i64.wrap ((k:Int)+1)=((k+1:Nat):Int):=by rw[bd (by omega) (by omega)];omega
   simp[this]
  have hzl:k<(List.zipWith bv v.names v.values).length:=by simp;omega
  have htk:(List.zipWith bv v.names v.values).take (k+1)=(List.zipWith bv v.names v.values).take k++[bv v.names[k] v.values[k]]:=by
   rw[Q1 hzl];simp
  have ih:=IH (k+1) (by omega) (by omega);rw[htk]at ih;have hap:cf T 22 (strs ((List.zipWith bv v.names v.values).take k)) (strs [bv v.names[k] v.values[k]])=some (strs ((List.zipWith bv v.names v.values).take k++[bv v.names[k] v.values[k]])):=oC (by simp;omega);have hm:bv v.names[k] v.values[k]∈List.zipWith bv v.names v.values:=RH.2 ⟨k,hzl,by simp⟩;have hpl:=nS hm;rw[FL17_0];generalize v.names[k]=nm at hix hap ih hpl;generalize v.values[k]=x at hiv hz hap ih hpl;have hp2:(bv nm x).length=nm.length+(1+(cO x).length):=by unfold bv;simp only[P0,P4];omega
  have c1:=Di nm [61] (by simp only[P4,Qr];omega);have c2:=Di (nm++[61]) (cO x) (by simp only[P0,P4,Qr];omega);have ep:nm++[61]++cO x=bv nm x:=by simp[bv]
  have hsl:ai T 9 (.ip (aa (.str nm)))=some (.str nm):=rfl;simp only[L17_0,ax,aE,db,ak,am,PT h1,PQ,hix,F7,c1,c2,NJ,NK,hiv,qm,hz,ap,ep,LM,hap,hadd];exact ih
def t17:∀(N:Nat)(v:Val),SizeOf.sizeOf v<=N->v.sz<=1099511627776->qI v->(cO v).length<=1000000->aj pg 17 [v.av]=ay (.str (cO v)):=by
 intro N
 induction N with
 |zero=>intro v h;cases v;simp at h
 | succ N ih=>
  intro v hN hz hi hlen;have hR:=t49 v (by omega);have hib:=(lT v).1 hi;rw[C17,gO];cases hf:bc 4 v with
  | false=>
   rw[hf]at hR;have ht:cO v=[]:=by unfold cO;rw[if_neg (by simp[hf])]
   rw[ht];have e:S17 (aj pg) ao v.av=ay (.str []):=by
    simp only[S17,qm,ak,hR,ap,bq,Qd,am,PQ]
   rw[e];exact iL _
  | true=>
   rw[hf]at hR;by_cases h0:v.kind=0
   ·have ht:cO v=cI v.n:=by unfold cO;rw[PS hf,eL,PS h0]
    have hI:=t50 v.n hib.1.1 hib.1.2;rw[ht];have e:S17 (aj pg) ao v.av=ay (.str (cI v.n)):=by
     simp only[S17,qm,ak,hR,ap,bq,Qa,am,PM,PP,IK,IL,mH,PT h0,PQ,Nt,Nu,hI]
    rw[e];exact iL _
   ·by_cases h1:v.kind=1
    ·have ht:cO v=if v.n=1 then jZ else gQ:=by unfold cO;rw[PS hf,eL,if_neg h0,PS h1]
     have hI:=t51 (decide (v.n=1));simp only[PW]at hI;rw[ht];have e:S17 (aj pg) ao v.av=ay (.str (if v.n=1 then jZ else gQ)):=by
      simp only[S17,qm,ak,hR,ap,bq,Qa,am,PM,PP,IK,IL,mH,PX h0,PT h1,PQ,Nt,Nu,hI]
     rw[e];exact iL _
    ·obtain⟨ht,g1,g2,g3⟩:=yt hf h0 h1;have hj:(b6 [44] (List.zipWith bv v.names v.values)).length<=1000000:=by
      have e:(cO v).length=(b6 [44] (List.zipWith bv v.names v.values)).length+2:=by
       rw[ht];show (123:: (b6 [44] (List.zipWith bv v.names v.values)++[125])).length=_;simp
      omega
     have hx:∀x∈v.values,aj pg 17 [x.av]=ay (.str (cO x)):=fun x hx=>by
      obtain⟨i,hi1,rfl⟩:=RH.1 hx;have hm:bv v.names[i] v.values[i]∈List.zipWith bv v.names v.values:=by
       refine RH.2 ⟨i,by simp;omega,by simp⟩
      have h4:=nS hm;have h5:(cO v.values[i]).length<=(bv v.names[i] v.values[i]).length:=by unfold bv;simp only[P0,P4];omega
      exact ih _ (by have:=vU hx;omega) (by have:=Pn hx;omega) (hib.2 _ hx) (by omega)
     have hL:=La v 1000000 (by omega) g1 g2 hj hx v.names.length 0 rfl (Qy _);have hL':ao (L17_0 (aj pg) ao) [.ip (aa v.av),.sl [],strs v.names,.int .i64 v.names.length,.int .i64 0]=ay (.str (123:: (b6 [44] (List.zipWith bv v.names v.values)++[125]))):=hL;have ht':cO v=123:: (b6 [44] (List.zipWith bv v.names v.values)++[125]):=ht;rw[ht'];have e:S17 (aj pg) ao v.av=ay (.str (123:: (b6 [44] (List.zipWith bv v.names v.values)++[125]))):=by
      simp only[S17,qm,ak,hR,ap,bq,Qa,am,PM,PP,IK,IL,mH,PX h0,PX h1,Kk,Kl,dA,hL']
     rw[e];exact iL _
end Go.Proofs.YtihmmkncokjbaaaGreatDoor
namespace Go.Proofs.YtihmmkncokjbaaaGreatDoor
open Go Go.Av Go.Av.Ap
set_option maxRecDepth 100000
theorem Ge(l:List Val)(hl:l.length<=140737488355328)(h:∀v∈l,aj pg 21 [v.av,v.av]=ay (.bool true)):∀n k:Nat,l.length-k=n->k<=l.length->ao (L14_0 (aj pg) ao) [vals l,vals l,.int .i64 k]=ay (.bool true)
 |0,k,hn,hk=>by
  have h1:¬((k:Int)<(l.length:Int)):=by omega
  rw[FL14_0];simp[L14_0,h1]
 |n+1,k,hn,hk=>by
  have h1:(k:Int)<(l.length:Int):=by omega
  have hkl:k<l.length:=by omega
  have hiv:=hM (l:=l) (n:=(k:Int)) (by omega) (by omega);rw[P8,PY l k hkl]at hiv;have hh:=h _ (P2 hkl);have hw:IntKind.i64.wrap ((k:Int)+1)=((k+1:Nat):Int):=by rw[bd (by omega) (by omega)];omega
  have ih:=Ge l hl h n (k+1) (by omega) (by omega);generalize l[k]=v at hiv hh;rw[FL14_0];simp[L14_0,h1,hiv,hh,hkl,hw];simpa using ih
def Du(l:List Val)(hl:l.length<=140737488355328)(h:∀v∈l,aj pg 21 [v.av,v.av]=ay (.bool true)):aj pg 14 [vals l,vals l]=ay (.bool true):=by
 have:=Ge l hl h l.length 0 rfl (Qy _)
 rw[C14];simp at this;simp[S14,this]
theorem Gf(v:Val)(hn:v.names.length<=140737488355328)(h:aj pg 14 [vals v.values,vals v.values]=ay (.bool true)):∀n k:Nat,v.names.length-k=n->k<=v.names.length->ao (L21_0 (aj pg) ao) [.ip (aa v.av),.ip (aa v.av),.int .i64 k]=ay (.bool true)
 |0,k,hr,hk=>by
  have h1:¬((k:Int)<(v.names.length:Int)):=by omega
  have h2:¬(k<v.names.length):=by omega
  rw[FL21_0];simp[L21_0,h1,h2,h]
 |n+1,k,hr,hk=>by
  have h1:(k:Int)<(v.names.length:Int):=by omega
  have hkl:k<v.names.length:=by omega
  have hiv:=mG (l:=v.names) (n:=(k:Int)) (by omega) (by omega);have hw:IntKind.i64.wrap ((k:Int)+1)=((k+1:Nat):Int):=by rw[bd (by omega) (by omega)];omega
  have ih:=Gf v hn h n (k+1) (by omega) (by omega);rw[FL21_0];simp[L21_0,h1,hiv,hkl,hw];simpa using ih
def t21:∀(N:Nat)(v:Val),SizeOf.sizeOf v<=N->v.sz<=1099511627776->aj pg 21 [v.av,v.av]=ay (.bool true):=by
 intro N
 induction N with
 |zero=>intro v h;cases v;simp at h
 |succ N ih=>
  intro v hv hz;have hs:v.sz=1+v.names.length+br v.values:=by cases v;rfl
  have hlen:=fI v.values;have h1:=Du v.values (by omega) fun x hx=>ih x (by have:=vU hx;omega) (by have:=Pn hx;omega);have h2:=Gf v (by omega) h1 v.names.length 0 rfl (Qy _);rw[C21];simp at h2;simp[S21,h2]
theorem uz:∀(d:Nat)(t:Ty),cj d t=true->fK (d+1) t=fK d t
 |0,t,h=>by cases h
 |d+1,t,h=>by
  rw[dQ]at h;simp only[PO,P7]at h;rw[fK,fK];congr 1;exact RP fun f hf=>uz d f.2 (h.2.1 f hf).2
theorem sx:∀(d:Nat)(t:Ty),cj d t=true->cj (d+1) t=true
 |0,t,h=>by cases h
 |d+1,t,h=>by
  rw[dQ]at h|-;simp only[PO,P7]at h|-;exact⟨h.1,fun f hf=>⟨(h.2.1 f hf).1,sx d f.2 (h.2.1 f hf).2⟩,h.2.2⟩
def Ha{t:Ty}(h:dx t=true){f:cE}(hf:f∈t.fields):fK 3 f.2=fm f.2:=by
 have h2:=h;rw[show dx t=cj 4 t from rfl,dQ]at h2;simp only[PO,P7]at h2;have h3:=(h2.2.1 f hf).2;unfold fm;rw[PS (sx 3 f.2 h3),uz 3 f.2 h3]
def tf0(t:Ty):ab T 35 (.ip (aa t.av)) 0=some (.ip ((aa t.av).drop 0)):=by cases t;rfl
def tf1(t:Ty):ab T 35 (.ip (aa t.av)) 1=some (.ip ((aa t.av).drop 1)):=by cases t;rfl
def tl0(t:Ty):ai T 3 (.ip ((aa t.av).drop 0))=some (.int .i64 t.kind):=by cases t;rfl
def tl1(t:Ty):ai T 23 (.ip ((aa t.av).drop 1))=some (bm t.fields):=by cases t;rfl
def Da(t:Ty):ai T 35 (.ip (aa t.av))=some t.av:=by cases t;rfl
def OM(f:cE):ai T 37 (.ip (aa (bZ f)))=some (bZ f):=by simp
theorem ow(f:cE):ab T 37 (.ip (aa (bZ f))) 0=some (.ip ((aa (bZ f)).drop 0)):=rfl
theorem oz(f:cE):ab T 37 (.ip (aa (bZ f))) 1=some (.ip ((aa (bZ f)).drop 1)):=rfl
def oA(f:cE):ai T 9 (.ip ((aa (bZ f)).drop 0))=some (.str f.1):=by simp
def oB(f:cE):ai T 35 (.ip ((aa (bZ f)).drop 1))=some f.2.av:=by simp
def OL(f:cE):aW 3 (bZ f)=ay (bZ f):=by simp
def Lb(t:Ty)(hk:t.fields.length<=8)(hx:∀f∈t.fields,aj pg 22 [f.2.av]=ay (fm f.2).av)(a b c d:AV):∀r k:Nat,t.fields.length-k=r->k<=t.fields.length->
  ao (L22_0 (aj pg) ao) [bm t.fields,.int .i64 t.fields.length,.int .i64 (k:Int),a,b,c,d,.int .i64 t.kind,.int .i64 0,strs ((t.fields.take k).map (·.1)),vals ((t.fields.take k).map fun f=>fm f.2)]=ay (Val.mk t.kind 0 (t.fields.map (·.1)) (t.fields.map fun f=>fm f.2)).av:=by
 intro r
 induction r with
 |zero=>
  intro k hr hkl;have hke:k=t.fields.length:=by omega
  subst hke;have h1:¬((t.fields.length:Int)<(t.fields.length:Int)):=by omega
  have cn:∀(ns:List aR)(vs:List Val),az 4 [] (.agg [.int .i64 t.kind,.int .i64 0,strs ns,vals vs])=ay (.agg [.int .i64 t.kind,.int .i64 0,strs ns,vals vs]):=fun _ _=>rfl;rw[FL22_0,Rt];simp only[L22_0,ax,aE,db,ak,am,PX h1,PM,PP,cn,ap,Hj];rfl
 | succ r IH=>
  intro k hr hkl;have hk1:k<t.fields.length:=by omega
  have h1:(k:Int)<(t.fields.length:Int):=by omega
  have hix:=gp (l:=t.fields) (n:=(k:Int)) (by omega) h1;rw[P8,PY t.fields k hk1]at hix;have hz:=hx _ (P2 hk1);have hadd:aw T BinOp.add 3 (.int .i64 (k:Int)) (.int .i64 1)=some (.int .i64 (k+1:Nat)):=by
   have:IntKind.i64.wrap ((k:Int)+1)=((k+1:Nat):Int):=by rw[bd (by omega) (by omega)];omega
   simp[this]
  have ih:=IH (k+1) (by omega) (by omega);rw[Q1 hk1,Rw,Rw]at ih;have hap:∀s:aR,cf T 22 (strs ((t.fields.take k).map (·.1))) (strs [s])=some (strs ((t.fields.take k).map (·.1)++[s])):=fun s=>oC (by simp;omega);have hap2:∀v:Val,cf T 30 (vals ((t.fields.take k).map fun f=>fm f.2)) (vals [v])=some (vals ((t.fields.take k).map (fun f=>fm f.2)++[v])):=fun v=>kj (by simp;omega);have c1:∀l:List aR,cp (strs l)=ay (strs l):=fun _=>rfl;have c2:∀l:List Val,cp (vals l)=ay (vals l):=fun _=>rfl;rw[FL22_0];generalize t.fields[k]=f at hix hz ih;simp only[L22_0,ax,aE,db,ak,am,PT h1,PQ,hix,OM,OL,ap,ow,oA,LM,hap,oz,oB,hz,bA,LN,hap2,c1,c2,hadd];exact ih
theorem t22:∀(N:Nat)(t:Ty),SizeOf.sizeOf t<=N->t.Lim->aj pg 22 [t.av]=ay (fm t).av:=by
 intro N
 induction N with
 |zero=>intro t h;cases t;simp at h
 | succ N ih=>
  intro t hN ht;have hR:=t23 t ht;rw[C22,kp];cases hr:dx t with
  | false=>
   rw[hr]at hR;have hz:fm t= .mk 0 0 [] []:=by unfold fm;rw[hr];rfl
   have b0:aT T false 45 []=some (.agg [.int .i64 0,.int .i64 0,.sl [],.sl []]):=rfl;rw[hz];have e:S22 (aj pg) ao t.av=ay (Val.mk 0 0 [] []).av:=by
    simp only[S22,Da,ak,hR,ap,bq,Qd,am,PQ,b0,HK,Hj,ax,aE];rfl
   rw[e];exact iM _
  | true=>
   rw[hr]at hR;have h2:=hr;rw[show dx t=cj 4 t from rfl,dQ]at h2;simp only[PO,PW]at h2;have hk:t.fields.length<=8:=by omega
   have hz:fm t= .mk t.kind 0 (t.fields.map (·.1)) (t.fields.map fun f=>fm f.2):=by
    have e:fm t=fK 4 t:=by unfold fm;rw[PS hr]
    rw[e,fK];congr 1;exact RP fun f hf=>Ha hr hf
   have bb:aT T true 45 [(0,.int .i64 t.kind)]=some (.agg [.int .i64 t.kind,.int .i64 0,.hn,.hn]):=rfl;have cn:az 4 [2,3] (.agg [.int .i64 t.kind,.int .i64 0,.hn,.hn])=ay (.agg [.int .i64 t.kind,.int .i64 0,.hn,.hn]):=rfl;have L:=Lb t hk (fun f hf=>ih f.2 (by have:=BH hf;omega) (ht.kid hf)) (.int .i64 0) (.int .i64 0) (.sl []) (.sl []) t.fields.length 0 rfl (Qy _);have L':ao (L22_0 (aj pg) ao) [bm t.fields,.int .i64 t.fields.length,.int .i64 0,.int .i64 0,.int .i64 0,.sl [],.sl [],.int .i64 t.kind,.int .i64 0,.sl [],.sl []]=ay (Val.mk t.kind 0 (t.fields.map (·.1)) (t.fields.map fun f=>fm f.2)).av:=L;rw[hz];have e:S22 (aj pg) ao t.av=ay (Val.mk t.kind 0 (t.fields.map (·.1)) (t.fields.map fun f=>fm f.2)).av:=by
    simp only[S22,Da,ak,hR,ap,bq,Qa,am,PM,PP,tf0,tl0,bb,cn,tf1,tl1,bU,Hj,ax,aE,L']
   rw[e];exact iM _
theorem OU(a b:Int):aw T .lss 5 (.int .u8 a) (.int .u8 b)=some (.bool (decide (a<b))):=rfl
theorem OP(a b:Int):aw T .gtr 5 (.int .u8 a) (.int .u8 b)=some (.bool (decide (b<a))):=rfl
theorem Dj(a b:Int):aw T .neq 5 (.int .u8 a) (.int .u8 b)=some (.bool (a != b)):=rfl
theorem wM(a b:aR):aw T .eql 9 (.str a) (.str b)=some (.bool (a== b)):=rfl
def t264(b:UInt8):aj pg 264 [.int .u8 b.toNat]=ay (.bool (gm b)):=by
 rw[C264];have e:decide ((b.toNat:Int)<=122)=decide (b.toNat<=122):=Ri.2 (by omega);have e2:decide (97<=(b.toNat:Int))=decide (97<=b.toNat):=Ri.2 (by omega);simp[S264,gm,e,e2]
def t265(b:UInt8):aj pg 265 [.int .u8 b.toNat]=ay (.bool (lK b)):=by
 rw[C265];have e:decide ((b.toNat:Int)<=57)=decide (b.toNat<=57):=Ri.2 (by omega);have e2:decide (48<=(b.toNat:Int))=decide (48<=b.toNat):=Ri.2 (by omega);simp[S265,lK,e,e2]
theorem Ic(s:aR)(hb:s.length<=4611686018427387904):∀(n i:Nat),s.length-i=n->i<=s.length->ao (L256_0 (aj pg) ao) [.str s,.int .i64 i]=ay (.bool ((s.drop i).all jw)):=by
 intro n
 induction n with
 |zero=>
  intro i hn hi;rw[FL256_0];have h1:¬((i:Int)<(s.length:Int)):=by omega
  have h2:s.drop i=[]:=Qg (by omega);simp[L256_0,h1,h2]
 |succ n ih=>
  intro i hn hi;have hlt:i<s.length:=by omega
  have h1:(i:Int)<(s.length:Int):=by omega
  have h2:s.drop i=s[i]:: s.drop (i+1):=P9 hlt;have h4:=ih (i+1) (by omega) (by omega);have hw:IntKind.i64.wrap ((i:Int)+1)=((i+1:Nat):Int):=cr (by omega);have hx:=A5 hlt;rw[h2,FL256_0];generalize s[i]=c at hx;have h5:=t264 c;have h6:=t265 c;have e:jw c=(gm c||lK c):=rfl;rw[QH,e];cases hl:gm c<;>cases hd:lK c<;>rw[hl]at h5<;>rw[hd]at h6<;>simp[L256_0,h1,hlt,hx,h5,h6,hw]
  all_goals simpa using h4
def t256(s:aR):aj pg 256 [.str s]=ay (.bool (jd s)):=by
 rw[C256,G7];by_cases hs:s=[]
 ·subst hs;simp[S256]
 ·have hs':(s== [])=false:=Qj.2 hs;have hpos:0<s.length:=RO.2 hs;have h0:=A5 (s:=s) (i:=0) hpos;have hd:s[0]=s.headD 0:=by cases s with|nil=>exact absurd rfl hs|cons c s=>rfl
  rw[hd]at h0;clear hd;have e0:¬((s.length:Int)<1):=by omega
  have hlet:=t264 (s.headD 0);generalize s.headD 0=c at h0 hlet |-;have h0':bV T 9 (.str s) (.int .i64 0)=some (.int .u8 (c.toNat:Int)):=h0;clear h0;by_cases hl:s.length<=20
  ·have h1:=Ic s (by omega) (s.length-1) 1 rfl (by omega);have h1':ao (L256_0 (aj pg) ao) [.str s,.int .i64 1]=ay (.bool ((s.drop 1).all jw)):=h1;generalize (s.drop 1).all jw=q at h1' |-;have e1:¬(20<(s.length:Int)):=by omega
   rw[hs',PT hl];cases hh:gm c with
   |false=>rw[hh]at hlet;simp[S256,e0,e1,h0',hlet]
   |true=>rw[hh]at hlet;simp[S256,e0,e1,h0',hlet,h1']
  ·have e1:20<(s.length:Int):=by omega
   have e4:decide (s.length<=20)=false:=by simpa using hl
   simp[S256,e0,e1,e4]
def Ie(l:List aR)(s:aR)(hb:l.length<=4611686018427387904):∀(n i:Nat),l.length-i=n->i<=l.length->ao (L257_0 (aj pg) ao) [strs l,.str s,.int .i64 i]=ay (.int .i64 (bj (fun x=>x== s) (l.drop i) i)):=by
 intro n
 induction n with
 |zero=>
  intro i hn hi;rw[FL257_0];have h1:¬((i:Int)<(l.length:Int)):=by omega
  have h2:l.drop i=[]:=Qg (by omega);simp[L257_0,h1,h2,bj]
 | succ n ih=>
  intro i hn hi;have hlt:i<l.length:=by omega
  have h1:(i:Int)<(l.length:Int):=by omega
  have h2:l.drop i=l[i]:: l.drop (i+1):=P9 hlt;have h4:=ih (i+1) (by omega) (by omega);have hw:IntKind.i64.wrap ((i:Int)+1)=((i+1:Nat):Int):=cr (by omega);have hix:=mG (l:=l) (n:=(i:Int)) (by omega) h1;rw[P8,PY l i hlt]at hix;rw[h2,FL257_0];generalize l[i]=c at hix;simp only[bj];by_cases hc:c=s
  ·subst hc;simp[L257_0,h1,hlt,hix]
  ·have hc':(c== s)=false:=Qj.2 hc;simp only[L257_0,ax,aE,dA,ak,bC,h1,QA,am,PQ,hix,mY,LD9,qE,hc',PM,PP,cy,hw,h4];simp
def t257(l:List aR)(s:aR)(hb:l.length<=4611686018427387904):aj pg 257 [strs l,.str s]=ay (.int .i64 (bj (fun x=>x== s) l 0)):=by
 rw[C257];have h:=Ie l s hb l.length 0 rfl (Qy _);rw[Qe]at h;have h':ao (L257_0 (aj pg) ao) [strs l,.str s,.int .i64 0]=ay (.int .i64 (bj (fun x=>x== s) l 0)):=h;simp[S257,h']
def t258:aj pg 258 []=ay (strs jq):=by
 rw[C258];rfl
def HW(l:List aR)(s:aR):decide (bj (fun x=>x== s) l 0<0)= !(l.contains s):=by
 have h:=mw (fun x=>x== s) l;have e:l.contains s=l.any fun x=>x== s:=by
  rw[List.contains_eq_any_beq];congr 1;funext x;rw[QG,Qk,Qk];exact eq_comm
 rw[e,<- h];by_cases hi:bj (fun x=>x== s) l 0<0
 ·have:¬0<=bj (fun x=>x== s) l 0:=by omega
  simp[hi,this]
 ·have:0<=bj (fun x=>x== s) l 0:=by omega
  simp[hi,this]
def t240(s:aR):aj pg 240 [.str s]=ay (.bool (eR s)):=by
 rw[C240,Cw];have h1:=t256 s;have h2:=t257 jq s (by decide);have h3:=HW jq s;generalize bj (fun x=>x== s) jq 0=i at h2 h3;cases hw:jd s with
 |false=>rw[hw]at h1;simp[S240,h1]
 |true=>rw[hw]at h1;simp[S240,h1,t258,h2,h3]
def t190(a b c:Int):aj pg 190 [.int .i64 a,.int .i64 b,.int .i64 c]=ay (.bool (decide (b<=a)&&decide (a<=c))):=by
 rw[C190];by_cases h:b<=a<;>simp[S190,h]
theorem H8(l:List cE)(hb:l.length<=8):∀(n i:Nat),l.length-i=n->i<=l.length->∀o:List aR,o.length=i->ao (L192_0 (aj pg) ao) [bm l,strs o,.int .i64 i]=ay (strs (o++(l.drop i).map (·.1))):=by
 intro n
 induction n with
 |zero=>
  intro i hn hi o ho;rw[FL192_0];have h1:¬((i:Int)<(l.length:Int)):=by omega
  have h2:l.drop i=[]:=Qg (by omega);simp[L192_0,h1,h2]
 |succ n ih=>
  intro i hn hi o ho;have hlt:i<l.length:=by omega
  have h1:(i:Int)<(l.length:Int):=by omega
  have h2:l.drop i=l[i]:: l.drop (i+1):=P9 hlt;have h4:=ih (i+1) (by omega) (by omega) (o++[(l[i]).1]) (by simp[ho]);have hw:IntKind.i64.wrap ((i:Int)+1)=((i+1:Nat):Int):=cr (by omega);have hix:=gp (l:=l) (n:=(i:Int)) (by omega) h1;rw[P8,PY l i hlt]at hix;rw[QP,Rb]at h4;rw[h2,QO,<- h4,FL192_0];generalize l[i]=c at hix;have hbs:aG T 22 1 [(0,.str c.1)]=some (strs [c.1]):=rfl;have hap:=oC (a:=o) (b:=[c.1]) (by simp;omega);simp only[L192_0,ax,aE,bU,ak,bC,h1,QA,am,PQ,hix,jv,FA37_0,Qe,LD9,hbs,hap,cy,hw]
def t192(l:List cE)(hb:l.length<=8):aj pg 192 [bm l]=ay (strs (l.map (·.1))):=by
 rw[C192];have h:=H8 l hb l.length 0 rfl (Qy _) [] rfl;rw[Qe,Qv]at h;have h':ao (L192_0 (aj pg) ao) [bm l,.sl [],.int .i64 0]=ay (strs (l.map (·.1))):=h;simp only[S192,gg,h'];exact bw fun g=>ny _ _
end Go.Proofs.YtihmmkncokjbaaaGreatDoor
