/- What the functions of the seat compute, part 5: the texts of the claim, one behind the other. Conditions: bounds, as each theorem names them. -/
import Derived.Test.YtihmmkncokjbaaaGreatDoorTd
import Derived.Test.YtihmmkncokjbaaaGreatDoorLd
set_option linter.defProp false
set_option linter.unusedSimpArgs false
set_option linter.unusedVariables false
namespace Go.Proofs.YtihmmkncokjbaaaGreatDoor
open Go Go.Av Go.Av.Ap
set_option maxRecDepth 100000
def Bz(f:AV)(F:Mod->Bool)(l:List Mod)(hb:l.length<=4611686018427387904)(hf:∀x∈l,bW (ai pg) f [Mod.av x]=M.pure (.bool (F x))):∀(n:Nat)(i:Int),l.length-i.toNat=n->0<=i->i<=l.length->
  aj (L193_0 (ai pg) aj) [jQ l,f,.int .i64 l.length,.int .i64 i]=M.pure (.int .i64 (br F (l.drop i.toNat) i)):=by
 intro n
 induction n with
 |zero=>
  intro i hn hi hl;rw[FL193_0];simp only[L193_0];have h1:¬(i<(l.length:Int)):=by omega
  have h2:l.drop i.toNat=[]:=Iv (by omega);simp[h1,h2,br]
 |succ n ih=>
  intro i hn hi hl;have h1:i<(l.length:Int):=by omega
  have hlt:i.toNat<l.length:=by omega
  have h2:br F (l.drop i.toNat) i=if F l[i.toNat]=true then i else br F (l.drop (i.toNat+1)) (i+1):=by rw[ID hlt];rfl
  have h3:=hf l[i.toNat] (Iq hlt);have h4:=ih (i+1) (by omega) (by omega) (by omega);rw[show (i+1).toNat=i.toNat+1 by omega]at h4;rw[FL193_0];simp only[L193_0];simp (disch:=omega) [h1,aZ,AL,h3,h2];cases F l[i.toNat]
  ·simpa using h4
  ·simp
def t193(f:AV)(F:Mod->Bool)(l:List Mod)(hb:l.length<=4611686018427387904)(hc:∀g,cl g f=f)(hf:∀x∈l,bW (ai pg) f [Mod.av x]=M.pure (.bool (F x))):ai pg 193 [jQ l,f]=M.pure (.int .i64 (br F l 0)):=by
 rw[C193];simp[S193,hc,Bz f F l hb hf l.length 0 rfl (by omega) (by omega)]
def BC(f:AV)(F:Fun->Bool)(l:List Fun)(hb:l.length<=4611686018427387904)(hf:∀x∈l,bW (ai pg) f [Fun.av x]=M.pure (.bool (F x))):∀(n:Nat)(i:Int),l.length-i.toNat=n->0<=i->i<=l.length->
  aj (L212_0 (ai pg) aj) [gE l,f,.int .i64 l.length,.int .i64 i]=M.pure (.int .i64 (br F (l.drop i.toNat) i)):=by
 intro n
 induction n with
 |zero=>
  intro i hn hi hl;rw[FL212_0];simp only[L212_0];have h1:¬(i<(l.length:Int)):=by omega
  have h2:l.drop i.toNat=[]:=Iv (by omega);simp[h1,h2,br]
 |succ n ih=>
  intro i hn hi hl;have h1:i<(l.length:Int):=by omega
  have hlt:i.toNat<l.length:=by omega
  have h2:br F (l.drop i.toNat) i=if F l[i.toNat]=true then i else br F (l.drop (i.toNat+1)) (i+1):=by rw[ID hlt];rfl
  have h3:=hf l[i.toNat] (Iq hlt);have h4:=ih (i+1) (by omega) (by omega) (by omega);rw[show (i+1).toNat=i.toNat+1 by omega]at h4;rw[FL212_0];simp only[L212_0];simp (disch:=omega) [h1,aZ,Da,h3,h2];cases F l[i.toNat]
  ·simpa using h4
  ·simp
def t212(f:AV)(F:Fun->Bool)(l:List Fun)(hb:l.length<=4611686018427387904)(hc:∀g,cl g f=f)(hf:∀x∈l,bW (ai pg) f [Fun.av x]=M.pure (.bool (F x))):ai pg 212 [gE l,f]=M.pure (.int .i64 (br F l 0)):=by
 rw[C212];simp[S212,hc,BC f F l hb hf l.length 0 rfl (by omega) (by omega)]
def D5(f:AV)(F:ca->Bool)(l:List ca)(hb:l.length<=4611686018427387904)(hf:∀x∈l,bW (ai pg) f [bG x]=M.pure (.bool (F x))):∀(n:Nat)(i:Int),l.length-i.toNat=n->0<=i->i<=l.length->
  aj (L81_0 (ai pg) aj) [bd l,f,.int .i64 l.length,.int .i64 i]=M.pure (.int .i64 (br F (l.drop i.toNat) i)):=by
 intro n
 induction n with
 |zero=>
  intro i hn hi hl;rw[FL81_0];simp only[L81_0];have h1:¬(i<(l.length:Int)):=by omega
  have h2:l.drop i.toNat=[]:=Iv (by omega);simp[h1,h2,br]
 |succ n ih=>
  intro i hn hi hl;have h1:i<(l.length:Int):=by omega
  have hlt:i.toNat<l.length:=by omega
  have h2:br F (l.drop i.toNat) i=if F l[i.toNat]=true then i else br F (l.drop (i.toNat+1)) (i+1):=by rw[ID hlt];rfl
  have h3:=hf l[i.toNat] (Iq hlt);have h4:=ih (i+1) (by omega) (by omega) (by omega);rw[show (i+1).toNat=i.toNat+1 by omega]at h4;rw[FL81_0];simp only[L81_0];simp (disch:=omega) [h1,aZ,iu,h3,h2];cases F l[i.toNat]
  ·simpa using h4
  ·simp
def t81(f:AV)(F:ca->Bool)(l:List ca)(hb:l.length<=4611686018427387904)(hc:∀g,cl g f=f)(hf:∀x∈l,bW (ai pg) f [bG x]=M.pure (.bool (F x))):ai pg 81 [bd l,f]=M.pure (.int .i64 (br F l 0)):=by
 rw[C81];simp[S81,hc,D5 f F l hb hf l.length 0 rfl (by omega) (by omega)]
def t247(m:Mod)(s:bF):ai pg 247 [m.av,.ip [.str s]]=M.pure (.bool (m.name== s)):=by
 rw[C247];simp[S247,cl,dC]
def t248(f:Fun)(s:bF):ai pg 248 [f.av,.ip [.str s]]=M.pure (.bool (f.name== s)):=by
 rw[C248];simp[S248,cl,dC]
def F7(p:List Mod)(hp:p.length<=4611686018427387904)(s:bF):ai pg 193 [jQ p,.fn (.func 247) [] [.ip [.str s]]]=M.pure (.int .i64 (sn p s)):=
 t193 _ _ p hp (fun g=>rfl) (fun m _=>t247 m s)
def F8(p:List Fun)(hp:p.length<=4611686018427387904)(s:bF):ai pg 212 [gE p,.fn (.func 248) [] [.ip [.str s]]]=M.pure (.int .i64 (jp p s)):=
 t212 _ _ p hp (fun g=>rfl) (fun m _=>t248 m s)
def t168(n:Int):ai pg 168 [.int .i64 n]=M.pure (Val.mk 0 n [] []).av:=by
 rw[C168];rfl
def t169(b:Bool):ai pg 169 [.bool b]=M.pure (eQ b).av:=by
 rw[C169];cases b<;>rfl
def t166(b:Bool)(n:Int):ai pg 166 [.bool b,.int .i64 n]=if b=true then M.pure (.tup [])else da (.iface 39 (.int .i64 n)):=by
 rw[C166];cases b<;>rfl
def Dz(l:List bF):dM T 22 (strs l) none (some (.int .i64 l.length)) (some (.int .i64 l.length))=some (strs l):=by
 have:=l8 (T:=T) (t:=22) (e:=9) rfl rfl rfl (l.map AV.str)
 simpa [strs]using this
def Dy(l:List Val):dM T 30 (vals l) none (some (.int .i64 l.length)) (some (.int .i64 l.length))=some (vals l):=by
 have:=l8 (T:=T) (t:=30) (e:=45) rfl rfl rfl (dq l)
 simpa [vals,dt]using this
def t217(l:List bF):ai pg 217 [strs l]=M.pure (strs l):=by
 rw[C217];simp[S217,Dz,bU (a:=strs l) fun g=>pW g l]
def t218(l:List Val):ai pg 218 [vals l]=M.pure (vals l):=by
 rw[C218];simp[S218,Dy]
def bc(o:Int)(ns:List bF)(vs:List Val):AV:=.agg [.int .i64 o,strs ns,vals vs]
@[simp] theorem dh(o:Int)(ns:List bF)(vs:List Val):aa (bc o ns vs)=[.int .i64 o,strs ns,vals vs]:=rfl
theorem bm(o:Int)(ns:List bF)(vs:List Val):AV.agg [.int .i64 o,strs ns,vals vs]=bc o ns vs:=rfl
def rm(g)(o:Int)(ns:List bF)(vs:List Val):cl g (bc o ns vs)=bc o ns vs:=by
 simp[bc,cl,dC,pW,fE]
def jT(o:Int)(ns:List bF)(vs:List Val):bD 3 (bc o ns vs)=true:=by simp[bD,aV,strs,vals,bc,cd,aa]
def tT(o:Int)(ns:List bF)(vs:List Val):aH (M.pure (bc o ns vs))=M.pure (bc o ns vs):=bU fun g=>rm g o ns vs
set_option maxHeartbeats 1000000 in
def t167(n:Int):ai pg 167 [.int .i64 n]=M.pure (.int .i64 (bh n)):=by
 rw[C167];unfold bh;simp only[S167,K167_0,K167_1,K167_2,K167_3,cl,jL,eU,ao,aA,aJ,aX,I2];by_cases h0:n=0
 ·simp[h0]
 by_cases h1:n=1
 ·simp[h1]
 by_cases h2:n=2
 ·simp[h2]
 by_cases h17:n=17
 ·simp[h17]
 by_cases h10:n=10
 ·simp[h10]
 by_cases h14:n=14
 ·simp[h14]
 by_cases h16:n=16
 ·simp[h16]
 by_cases h18:n=18
 ·simp[h18]
 by_cases h3:n=3
 ·simp[h3]
 by_cases h4:n=4
 ·simp[h4]
 by_cases h5:n=5
 ·simp[h5]
 by_cases h6:n=6
 ·simp[h6]
 by_cases h7:n=7
 ·simp[h7]
 by_cases h8:n=8
 ·simp[h8]
 by_cases h9:n=9
 ·simp[h9]
 by_cases h12:n=12
 ·simp[h12]
 by_cases h11:n=11
 ·simp[h11]
 by_cases h13:n=13
 ·simp[h13]
 by_cases h15:n=15
 ·simp[h15]
 simp[h0,h1,h2,h17,h10,h14,h16,h18,h3,h4,h5,h6,h7,h8,h9,h12,h11,h13,h15]
theorem t172(o:Int)(ns:List bF)(vs:List Val)(s:bF)(v:Val)(h1:ns.length<=1099511627776)(h2:vs.length<=1099511627776):
  ai pg 172 [bc o ns vs,.str s,v.av]=M.pure (bc o (ns++[s]) (vs++[v])):=by
 have hb1:aL T 22 1 [(0,.str s)]=some (strs [s]):=rfl;have hb2:aL T 30 1 [(0,v.av)]=some (vals [v]):=by rw[v.av_eq];simp[vals,dq,v.av_eq];rfl
 have ha1:db T 22 (strs ns) (strs [s])=some (strs (ns++[s])):=C6 (by simp;omega);have ha2:db T 30 (vals vs) (vals [v])=some (vals (vs++[v])):=xy (by simp;omega);have hb3:cj T false 168 [(0,.int .i64 o),(1,strs (ns++[s])),(2,vals (vs++[v]))]=some (bc o (ns++[s]) (vs++[v])):=rfl;rw[C172,rm];simp[S172,cl,t217,t218,hb1,hb2,ha1,ha2,hb3,bm,jT,tT]
def ka(e:Int):AV:=.iface 39 (.int .i64 e)
def bS(b:Bool)(e:Int)(x:M AV):M AV:=if b=true then x else da (ka e)
def aQ(b:Bool)(e:Int)(f:AV->M AV):ae (ai pg 166 [.bool b,.int .i64 e]) f=bS b e (f (.tup [])):=by
 rw[t166];unfold bS;cases b<;>rfl
def ff:X Val->M AV:=fun x=>match x ⟨0,0,[],[],[],[]⟩with
 |.ok v _=>M.pure v.av
 |.er e _=>da (ka e)
def t170(op:Int)(a b:Val)(h:op=3\/op=4\/op=5\/op=6\/op=7):ai pg 170 [.int .i64 op,a.av,b.av]=ff (jz op a b):=by
 rw[C170];unfold jz;have hn:=t168;have ht:=t169;simp only[S170,eU,ao,aA,di];by_cases h7:op=7
 ·by_cases hk:a.kind=b.kind
  ·by_cases h2:a.kind=2
   ·have h2':b.kind=2:=by omega
    simp[h7,hk,h2',aQ,bS,ff,X.er]
   ·have h2':¬b.kind=2:=by omega
    simp[h7,hk,h2',aQ,bS,ff,X.ok,ht]
  ·simp[h7,hk,aQ,bS,ff,X.er]
 ·by_cases ha:a.kind=0
  ·by_cases hb:b.kind=0
   ·simp only[h7,ha,hb,Js,J0,Iu,Ir,I2,FA45_0,FA45_1,IV,LD3,ao,eU,dP,aC,lk,aJ,aQ,bS,Ku,IX,aA,fC,uO,A0,ep,hn,ht];by_cases h3:op=3
    ·simp[h3,ff,X.ok,jR,wr];rfl
    by_cases h4:op=4
    ·simp[h4,ff,X.ok,jR,wr];rfl
    by_cases h5:op=5
    ·simp[h5,ff,X.ok,jR,wr];rfl
    simp[h3,h4,h5,ff,X.ok]
   ·simp[h7,ha,hb,aQ,bS,ff,X.er]
  ·simp[h7,ha,aQ,bS,ff,X.er]
def t98(l:List bF)(s:bF)(hb:l.length<=1099511627776):ai pg 98 [strs l,.str s]=M.pure (.int .i64 (br (fun x=>s== x) l 0)):=by
 have hl:∀(n:Nat)(i:Int),l.length-i.toNat=n->0<=i->i<=l.length->aj (L98_0 (ai pg) aj) [strs l,.str s,.int .i64 l.length,.int .i64 i]=M.pure (.int .i64 (br (fun x=>s== x) (l.drop i.toNat) i)):=by
  intro n
  induction n with
  |zero=>
   intro i hn hi hl;rw[FL98_0];simp only[L98_0];have h1:¬(i<(l.length:Int)):=by omega
   have h2:l.drop i.toNat=[]:=Iv (by omega);simp[h1,h2,br]
  | succ n ih=>
   intro i hn hi hl;have h1:i<(l.length:Int):=by omega
   have hlt:i.toNat<l.length:=by omega
   have h2:br (fun x=>s== x) (l.drop i.toNat) i=if(s== l[i.toNat])=true then i else br (fun x=>s== x) (l.drop (i.toNat+1)) (i+1):=by rw[ID hlt];rfl
   have h4:=ih (i+1) (by omega) (by omega) (by omega);rw[show (i+1).toNat=i.toNat+1 by omega]at h4;rw[FL98_0];simp only[L98_0];simp (disch:=omega) [h1,aZ,s8,h2];by_cases h:s=l[i.toNat]
   ·simp[h]
   ·simp[h];simpa using h4
 rw[C98];simp[S98,cl,hl l.length 0 rfl (by omega) (by omega)]
def t220:∀(n:Nat)(v:Val),v.sz<=n->v.sz<=1099511627776->ai pg 220 [v.av]=M.pure (.int .i64 (dU v:Nat)):=by
 intro n
 induction n with
 |zero=>intro v h;have:=v.sz_pos;omega
 | succ n ih=>
  intro v hn hv;have hlen:=v.sz_len;have hlv:∀(l:List Val),bu l<=1099511627776->dE l<=1099511627776:=by
   intro l
   induction l with
   |nil=>intro _;simp[dE]
   | cons x l ih2=>
    intro h;simp only[bu]at h
    have:=ih2 (by omega)
    have hx:∀(k:Nat)(y:Val),y.sz<=k->dU y<=y.sz:=by
     intro k
     induction k with
     |zero=>intro y hy;have:=y.sz_pos;omega
     |succ k ihk=>
      intro y hy;rw[gH];have h1:=y.sz_values;have h2:dE y.values<=bu y.values:=(fW _ _).2 fun z hz=>Jf (ihk z (by have:=HH hz;omega)) (f5 hz);omega
    simp only[dE]
    have:=hx _ x (Ie _)
    omega
  have hl:∀(B A:List Val)(c:Nat),A++B=v.values->c<=1099511627776->aj (L220_0 (ai pg) aj) [.int .i64 (c:Nat),vals v.values,.int .i64 v.values.length,.int .i64 A.length]=M.pure (.int .i64 ((max c (dE B)+1:Nat))):=by
   intro B
   induction B with
   |nil=>
    intro A c e hc;simp only[I7]at e;subst e;rw[FL220_0];simp (disch:=omega) [L220_0,dE,aZ]
   | cons x B ih2=>
    intro A c e hc;have hll:A.length+(B.length+1)=v.values.length:=by rw[<- e];simp
    have h1:(A.length:Int)<(v.values.length:Int):=by omega
    have hx:v.values[A.length]! = x:=by
     rw[<- e,Is _ _ (by simp)];simp
    have hm:x∈v.values:=by rw[<- e];simp
    have hx':v.values[A.length]'(by omega)=x:=by rw[<- hx,Is]
    have h3:=ih x (by have:=HH hm;omega) (by have:=HH hm;omega);have hxb:dU x<=1099511627776:=Jf ((fW v.values _).1 (hlv v.values (by have:=v.sz_values;omega)) x hm) (Ie _);have h4:=ih2 (A++[x]) (max c (dU x)) (by rw[<- e];simp) (by omega);rw[FL220_0];have hmx:(max (c:Int) (dU x:Int))=((max c (dU x):Nat):Int):=by omega
    simp (disch:=omega) [L220_0,h1,aZ,jX,hx',h3,hmx]at h4 |-;rw[h4];simp only[dE]
  rw[C220]
  have:=hl v.values [] 0 rfl (by omega)
  simp at this;simp[S220,this,gH]
def t224(f:ca)(e:Exp):ai pg 224 [bG f,.ip (aa e.av)]=M.pure (.bool (f.1== e.s)):=by
 rw[C224];simp[S224,cl,dC]
def G4(l:List ca)(hl:l.length<=1099511627776)(e:Exp):ai pg 81 [bd l,.fn (.func 224) [] [.ip (aa e.av)]]=M.pure (.int .i64 (cY l e.s)):=
 t81 _ _ l (by omega) (fun g=>by simp[cl,dC]) (fun f _=>t224 f e)
@[simp] theorem E7(t:Nat)(a b:Int):am T .geq t (.int .u8 a) (.int .u8 b)=some (.bool (decide (b<=a))):=rfl
@[simp] theorem E8(t:Nat)(a b:Int):am T .leq t (.int .u8 a) (.int .u8 b)=some (.bool (decide (a<=b))):=rfl
@[simp] theorem Gl(t:Nat)(a b:bF):am T .leq t (.str a) (.str b)=some (.bool (cW a b||a== b)):=rfl
def t96(f:AV)(F:ca->Bool)(l:List ca)(hb:l.length<=4611686018427387904)(hc:∀g,cl g f=f)(hf:∀x∈l,bW (ai pg) f [bG x]=M.pure (.bool (F x))):ai pg 96 [bd l,f]=M.pure (.bool (l.any F)):=by
 rw[C96];simp[S96,hc,t81 f F l hb hc hf,o7]
def t205(b:UInt8):ai pg 205 [.int .u8 b.toNat]=M.pure (.bool (mo b)):=by
 rw[C205];have e:decide ((b.toNat:Int)<=122)=decide (b.toNat<=122):=Ka.2 (by omega);have e2:decide (97<=(b.toNat:Int))=decide (97<=b.toNat):=Ka.2 (by omega);simp[S205,mo,e,e2]
def t208(b:UInt8):ai pg 208 [.int .u8 b.toNat]=M.pure (.bool (tA b)):=by
 rw[C208];have e:decide ((b.toNat:Int)<=57)=decide (b.toNat<=57):=Ka.2 (by omega);have e2:decide (48<=(b.toNat:Int))=decide (48<=b.toNat):=Ka.2 (by omega);simp[S208,tA,e,e2]
def t207(b:UInt8):ai pg 207 [.int .u8 b.toNat]=M.pure (.bool (mK b)):=by
 rw[C207];simp[S207,t205,t208,mK]
theorem CX{s:bF}{i:Nat}(h:i<s.length):eJ T 9 (.str s) (.int .i64 (i:Int))=some (.int .u8 (s[i].toNat:Int)):=by
 have e1:eJ T 9 (.str s) (.int .i64 (i:Int))=(if(i:Int)<0 then none else s[(i:Int).toNat]?.map fun b=>.int .u8 b.toNat):=rfl;rw[e1,if_neg (by omega),I0,Ih h];rfl
def BA(F:UInt8->Bool)(f:AV)(s:bF)(hb:s.length<=4611686018427387904)(hf:∀b:UInt8,bW (ai pg) f [.int .u8 b.toNat]=M.pure (.bool (F b))):∀(n i:Nat),s.length-i=n->i<=s.length->
  aj (L206_0 (ai pg) aj) [.str s,f,.int .i64 i]=M.pure (.int .i64 ((i+((s.drop i).takeWhile F).length:Nat):Int)):=by
 intro n
 induction n with
 |zero=>
  intro i hn hi;rw[FL206_0];simp only[L206_0];have h1:¬((i:Int)<(s.length:Int)):=by omega
  have h2:s.drop i=[]:=Iv (by omega);simp[h1,h2]
 | succ n ih=>
  intro i hn hi;have hlt:i<s.length:=by omega
  have h1:(i:Int)<(s.length:Int):=by omega
  have h2:s.drop i=s[i]:: s.drop (i+1):=ID hlt;have h4:=ih (i+1) (by omega) (by omega);have hw:IntKind.i64.wrap ((i:Int)+1)=((i+1:Nat):Int):=ej (by omega);rw[FL206_0];simp only[L206_0,aJ,aX,Gq,ao,ep,h1,JB,dl,CX hlt,hf,aC,fZ,aA,fC,hw,h4,h2,List.takeWhile_cons];cases F s[i]
  ·simp
  ·rw[Ic rfl,Ic rfl];congr 3;simp;omega
def t158(s:bF):ai pg 158 [.str s]=M.pure (.bool (mb s)):=by
 rw[C158];by_cases hs:s=[]
 ·subst hs;simp[S158,mb]
 ·have hs':(s== [])=false:=Jz.2 hs;have hpos:0<s.length:=JX.2 hs;have h0:=CX (s:=s) (i:=0) hpos;have hd:s[0]=s.headD 0:=by cases s with|nil=>exact absurd rfl hs|cons c s=>rfl
  rw[hd]at h0;simp at h0;by_cases hl:s.length<=20
  ·have h1:=BA mK (.fn (.func 207) [] []) s (by omega) (fun b=>t207 b) s.length 0 (by simp) (by simp);have hsp:ai pg 206 [.str s,.fn (.func 207) [] []]=M.pure (.int .i64 (((s.takeWhile mK).length:Nat):Int)):=by
    rw[C206];simp only[S206,cl,dC];rw[show (AV.int .i64 0)=AV.int .i64 ((0:Nat):Int)from rfl,h1];simp
   have e1:decide (20<(s.length:Int))=false:=by rw[JI];omega
   have e3:decide (20<s.length)=false:=by rw[JI];omega
   have e4:decide (s.length<=20)=true:=by simpa using hl
   simp[S158,hs',h0,t205,hsp,e1,e3,e4,mb]
  ·have e1:decide (20<(s.length:Int))=true:=by rw[Ia];omega
   have e3:decide (20<s.length)=true:=by rw[Ia];omega
   have e4:decide (s.length<=20)=false:=by simpa using hl
   simp[S158,hs',h0,t205,e1,e3,e4,mb]
def t159(s:bF):ai pg 159 [.str jd,.str s]=M.pure (.bool (Lib.contains jd s)):=by
 rw[ga aE (E:=gB) rfl];rfl
theorem vS(t:Nat)(a b:bF):am T .add t (.str a) (.str b)=if a.length+b.length<=4611686018427387904 then some (.str (a++b))else none:=rfl
def t119(s:bF):ai pg 119 [.str s]=M.pure (.bool (gM s)):=by
 rw[C119];have h1:=t158 s;unfold gM;cases hw:mb s with
 |false=>
  rw[hw]at h1;simp[S119,h1]
 |true=>
  have hl:=xr hw;rw[hw]at h1;have h2:=t159 ([32]++s++[32]);unfold jd at h2;have e1:am T .add 9 (.str [32]) (.str s)=some (.str ([32]++s)):=by rw[vS,Ic (by simp;omega)]
  have e2:am T .add 9 (.str ([32]++s)) (.str [32])=some (.str ([32]++s++[32])):=by rw[vS,Ic (by simp;omega)]
  simp only[S119,Dw,h1,aC,dl,e1,ao,e2,h2,kK,aJ,fZ,jb,JJ];rfl
def Bt{t:Ty}(h:t.Lim)(k:Nat)(hk:k<t.fields.length):(t.fields[k]!).2.Lim:=by
 rw[Is t.fields k hk];exact h.kid (Iq hk)
theorem t99:∀(d:Nat),d<=4->∀(t:Ty),t.Lim->ai pg 99 [t.av,.int .i64 d]=M.pure (.bool (dp d t))
 |0,_,t,_=>by
  rw[C99];simp[S99,dp]
 | d + 1,hd,t,ht=>by
  have ih:=t99 d (by omega);have hlen:=ht.len;have hd1:IntKind.i64.wrap ((((d+1:Nat)):Int)-1)=(d:Int):=xt (by omega);have hloop:=Bn (F:=L99_0 (ai pg) aj) (FL99_0 (ai pg)) (fun k=>[.int .i64 ((d+1:Nat):Int),.ip (aa t.av),bd t.fields,.int .i64 t.fields.length,.int .i64 k]) t.fields.length
   (fun k=>(gM (t.fields[k]!).1&&dp d (t.fields[k]!).2)&&(decide (k=0)||gl (t.fields[k-1]!).1 (t.fields[k]!).1))
   (by simp[L99_0]) (fun k hk=>by
    have h1:(k:Int)<(t.fields.length:Int):=by omega
    have hix:=iu (l:=t.fields) (n:=(k:Int)) (by omega) h1;rw[I0]at hix;have hm:t.fields[k]! ∈t.fields:=by rw[Is t.fields k hk];exact Iq hk
    have h2:=t119 (t.fields[k]!).1;have h3:=ih (t.fields[k]!).2 (Bt ht k hk);have hw:IntKind.i64.wrap ((k:Int)+1)=(k:Int)+1:=by rw[ej (by omega)];simp
    have hd0:IntKind.i64.wrap (d:Int)=(d:Int):=AC (by omega);generalize t.fields[k]! = f at hix h2 h3 hm |-;rcases IU k with hk0|hk0
    ·subst hk0;have hix0:ak T 23 (bd t.fields) (.int .i64 0)=some (.ip (aa (bG f))):=hix;have hw0:IntKind.i64.wrap 1=1:=rfl;simp[L99_0,hix0,h2,h3,hw0,hd0,hk];cases gM f.1<;>cases dp d f.2<;>simp
    ·have hp:IntKind.i64.wrap ((k:Int)-1)=((k-1:Nat):Int):=by
      rw[aZ (by omega) (by omega)];omega
     have h4:((k-1:Nat):Int)<(t.fields.length:Int):=by omega
     have hix2:=iu (l:=t.fields) (n:=((k-1:Nat):Int)) (by omega) h4;rw[I0]at hix2;generalize t.fields[k-1]! = g at hix2 |-;have hk1:¬k=0:=by omega
     simp[L99_0,h1,hix,h2,h3,hw,hd0,hp,hix2,hk0,hk1,hk];cases gM f.1<;>simp;cases h5:cW f.1 g.1<;>cases dp d f.2<;>by_cases h6:f.1=g.1<;>simp[gl,h5,h6]) 0 (Jk _)
  have hall:((List.range' 0 t.fields.length).all fun k=>(gM (t.fields[k]!).1&&dp d (t.fields[k]!).2)&&(decide (k=0)||gl (t.fields[k-1]!).1 (t.fields[k]!).1))=(t.fields.all (fun f=>gM f.1&&dp d f.2)&&mf (fun a b=>gl a.1 b.1) t.fields):=
   AQ (fun f:ca=>gM f.1&&dp d f.2) (fun a b=>gl a.1 b.1) t.fields
  rw[Nat.sub_zero,hall]at hloop;rw[C99];have h0:¬((d:Int)+1=0):=by omega
  have hl2:aj (L99_0 (ai pg) aj) [.int .i64 ((d:Int)+1),.ip [.int .i64 t.kind,bd t.fields],bd t.fields,.int .i64 t.fields.length,.int .i64 0]=M.pure (.bool (t.fields.all (fun f=>gM f.1&&dp d f.2)&&mf (fun a b=>gl a.1 b.1) t.fields)):=by
   simpa using hloop
  have hR:dp (d+1) t=if((t.kind<0\/3<=t.kind)\/8<(t.fields.length:Int))\/¬t.kind=2/\0<t.fields.length then false else(t.fields.all (fun f=>gM f.1&&dp d f.2)&&mf (fun a b=>gl a.1 b.1) t.fields):=by
   rw[lY];generalize (t.fields.all (fun f=>gM f.1&&dp d f.2)&&mf (fun a b=>gl a.1 b.1) t.fields)=q;generalize t.fields.length=n;generalize t.kind=k;split
   ·rename_i hc;cases q
    ·simp
    ·simp only[JV,Kd,JI,Kj,Jz];rcases hc with((h|h)|h)|h
     ·exact .inl (.inl (.inl (by omega)))
     ·exact .inl (.inl (.inr (by omega)))
     ·exact .inl (.inr (by omega))
     ·exact .inr ⟨h.1,by omega⟩
   ·rename_i hc;have e1:decide (0<=k)=true:=by rw[Ia];omega
    have e2:decide (k<3)=true:=by rw[Ia];omega
    have e3:decide (n<=8)=true:=by rw[Ia];omega
    have e4:(k== 2||n== 0)=true:=by
     rw[Ji,I2,I2];omega
    rw[e1,e2,e3,e4];simp
  rw[hR];simp[S99,h0,hl2]
def t56(t:Ty)(ht:t.Lim):ai pg 56 [t.av]=M.pure (.bool (iR t)):=by
 rw[C56];have:ai pg 99 [t.av,.int .i64 4]=M.pure (.bool (dp 4 t)):=t99 4 (by omega) t ht;simp[S56,this]
def t23(t:Ty)(ht:t.Lim):ai pg 23 [t.av]=M.pure (.bool (iR t)):=by
 rw[C23];simp[S23,t56 t ht]
@[simp] theorem Dm(t:Nat)(a b:Int):am T .andNot t (.int .i64 a) (.int .i64 b)=some (.int .i64 (Bl a b)):=rfl
def D6(f:AV)(F:ca->ca->Bool)(a:List ca)(b:List ca)(hb:a.length<=4611686018427387904)(hab:a.length=b.length)(hf:∀x∈a,∀y∈b,bW (ai pg) f [bG x,bG y]=M.pure (.bool (F x y))):∀(n:Nat)(i:Int),a.length-i.toNat=n->0<=i->i<=a.length->
  aj (L83_0 (ai pg) aj) [bd b,f,bd a,.int .i64 a.length,.int .i64 i]=M.pure (.bool (b6 F (a.drop i.toNat) (b.drop i.toNat))):=by
 intro n
 induction n with
 |zero=>
  intro i hn hi hl;rw[FL83_0];simp only[L83_0];have h1:¬(i<(a.length:Int)):=by omega
  have h2:a.drop i.toNat=[]:=Iv (by omega);have h3:b.drop i.toNat=[]:=Iv (by omega);simp[h1,h2,h3,b6]
 |succ n ih=>
  intro i hn hi hl;have h1:i<(a.length:Int):=by omega
  have h1':i<(b.length:Int):=by omega
  have hlt:i.toNat<a.length:=by omega
  have hlt':i.toNat<b.length:=by omega
  have h3:=hf a[i.toNat] (Iq hlt) b[i.toNat] (Iq hlt');have h4:=ih (i+1) (by omega) (by omega) (by omega);rw[show (i+1).toNat=i.toNat+1 by omega]at h4;rw[FL83_0,iX F a b i.toNat hlt hlt'];simp only[L83_0];simp (disch:=omega) [h1,aZ,iu,iu,h4];rw[h3];cases F a[i.toNat] b[i.toNat]<;>simp
def t83(f:AV)(F:ca->ca->Bool)(a:List ca)(b:List ca)(hb:a.length<=4611686018427387904)(hc:∀g,cl g f=f)(hf:∀x∈a,∀y∈b,bW (ai pg) f [bG x,bG y]=M.pure (.bool (F x y))):ai pg 83 [bd a,bd b,f]=M.pure (.bool (b6 F a b)):=by
 rw[C83];by_cases h:a.length=b.length
 ·have:=D6 f F a b hb h hf a.length 0 rfl (by omega) (by omega)
  simp[S83,h,hc]at this |-;simp[this]
 ·have h3:(a.length != b.length)=true:=by simp[h]
  simp[S83,h3,e7 F a b h]
def t79:∀(N:Nat)(a b:Ty),SizeOf.sizeOf a<=N->a.Lim->ai pg 79 [a.av,b.av]=M.pure (.bool (jr a b)):=by
 intro N
 induction N with
 |zero=>intro a b h;cases a;simp at h
 | succ N ih=>
  intro a b hN hL;have hlen:=hL.len;have h1:=t83 (.fn (.func 129) [] []) (fun x y=>x.1== y.1&&jr x.2 y.2) a.fields b.fields (by omega) (fun _=>rfl) (fun x hx y _=>by
   have:=ih x.2 y.2 (by have:=C2 hx;omega) (hL.kid hx)
   show ai pg 129 [bG x,bG y]=_;rw[C129];simp[S129,this])
  rw[C79,Ah];simp[S79,h1]
theorem zg:∀ {n:Nat} {v:Val},bp n v=true->v.names.length=v.values.length/\v.names.length<=8/\∀x∈v.values,∃m,bp m x=true
 |0,v,h=>by simp[bp]at h
 | n+1,v,h=>by
  unfold bp at h;split at h
  ·simp only[H6,I2]at h;have h1:v.values=[]:=KG.1 h.1.2;refine⟨by omega,by omega,fun x hx=>by rw[h1]at hx;cases hx⟩
  ·simp only[H6,I2,Ia,Ip]at h;exact⟨h.1.1.1.2,h.1.1.2,fun x hx=>⟨n,h.2 x hx⟩⟩
theorem kW{α:Type}(F:α->Bool):(l:List α)->(i:Int)->br F l i= -1\/(i<=br F l i/\br F l i<i+l.length)
 |[],i=>.inl rfl
 | x:: l,i=>by
  simp only[br];split
  ·right;simp;omega
  ·rcases kW F l (i+1)with h|h
   ·exact .inl h
   ·right;simp only[Je];omega
def yv{α:Type}(F:α->Bool)(l:List α):(l.any fun x=>!F x)= !(l.all F):=by
 induction l with
 |nil=>rfl
 |cons x l ih=>simp only[KL,Jd,ih];cases F x<;>simp
theorem F9:∀(d:Nat)(t:Ty)(n:Nat)(v:Val),dp d t=true->bp n v=true->v.sz<=1099511627776->ai pg 55 [t.av,v.av]=M.pure (.bool (m5 d t v))
 |0,t,n,v,h,_,_=>by simp[dp]at h
 | d+1,t,n,v,h,hv,hz=>by
  have hr:=h;rw[lY]at hr;simp only[H6,Ip,Ia]at hr;obtain⟨hl,h8,hk⟩:=zg hv;have hcl:∀g,cl g (.fn (.func 97) [] [.ip (aa v.av)])= .fn (.func 97) [] [.ip (aa v.av)]:=fun g=>by simp[cl,dC]
  have hany:=t96 (.fn (.func 97) [] [.ip (aa v.av)]) (fun f=>!(decide (0<=io v.names f.1)&&m5 d f.2 v.values[(io v.names f.1).toNat]!)) t.fields (by have:=hr.1.1.2;omega) hcl (fun f hf=>by
   show ai pg 97 [bG f,.ip (aa v.av)]=_;have hi:=t98 v.names f.1 (by omega);have hfr:=(hr.2.1 f hf).2;have hix:br (fun x=>f.1== x) v.names 0=io v.names f.1:=rfl;rw[hix]at hi;rw[C97];rcases kW (fun x=>f.1== x) v.names 0 with h1|h1
   ·rw[hix]at h1;have h2:io v.names f.1<0:=by omega
    have h3:¬(0<=io v.names f.1):=by omega
    simp[S97,cl,dC,hi,h2,h3]
   ·rw[hix]at h1;have h2:¬io v.names f.1<0:=by omega
    have h3:0<=io v.names f.1:=by omega
    have hlt:(io v.names f.1).toNat<v.values.length:=by omega
    have hvx:=jX (l:=v.values) (n:=io v.names f.1) h3 (by omega);have hmem:v.values[(io v.names f.1).toNat]! ∈v.values:=by rw[Is v.values _ hlt];exact Iq hlt
    obtain⟨m,hm⟩:=hk _ hmem;have ih:=F9 d f.2 m v.values[(io v.names f.1).toNat]! hfr hm (by have:=HH hmem;omega);generalize v.values[(io v.names f.1).toNat]! = x at hvx ih |-;simp[S97,cl,dC,hi,h2,h3,hvx,ih])
  rw[yv]at hany;have ea:aa v.av=[.int .i64 v.kind,.int .i64 v.n,strs v.names,vals v.values]:=by simp
  rw[ea]at hany;rw[C55,show m5 (d+1) t v=(t.kind== v.kind&&t.fields.all fun f=>decide (0<=io v.names f.1)&&m5 d f.2 v.values[(io v.names f.1).toNat]!)from rfl];generalize (t.fields.all fun f=>decide (0<=io v.names f.1)&&m5 d f.2 v.values[(io v.names f.1).toNat]!)=b at hany |-;simp[S55,hany]
def t20(t:Ty)(v:Val)(ht:t.Lim)(hz:v.sz<=1099511627776):ai pg 20 [t.av,v.av]=M.pure (.bool (g8 t v)):=by
 have h1:=t23 t ht;have h2:=t49 v (by omega);rw[C20];unfold g8;cases hr:iR t with
 |false=>simp[S20,h1,hr]
 | true=>
  cases hv:bp 4 v with
  |false=>simp[S20,h1,hr,h2,hv]
  |true=>
   have h3:=F9 4 t 4 v hr hv hz;simp[S20,h1,hr,h2,hv,h3]
theorem zJ(l:List ca)(vs:List Val)(hl:l.length<=140737488355328)(hlen:l.length=vs.length)(ht:∀f∈l,f.2.Lim)(hz:∀v∈vs,v.sz<=1099511627776):∀n k:Nat,l.length-k=n->k<=l.length->aj (L43_0 (ai pg) aj) [vals vs,bd l,.int .i64 l.length,.int .i64 (k:Int)]=M.pure (.bool (b6 (fun f v=>g8 f.2 v) (l.drop k) (vs.drop k)))
 |0,k,hn,hk=>by
  have h1:¬((k:Int)<(l.length:Int)):=by omega
  have h2:l.drop k=[]:=Iv (by omega);have h3:vs.drop k=[]:=Iv (by omega);rw[FL43_0];simp[L43_0,h1,h2,h3,b6]
 | n+1,k,hn,hk=>by
  have h1:(k:Int)<(l.length:Int):=by omega
  have hkl:k<l.length:=by omega
  have hkv:k<vs.length:=by omega
  have hix:=iu (l:=l) (n:=(k:Int)) (by omega) h1;have hiv:=jX (l:=vs) (n:=(k:Int)) (by omega) (by omega);rw[I0,Is l k hkl]at hix;rw[I0,Is vs k hkv]at hiv;have hh:=t20 l[k].2 vs[k] (ht _ (Iq hkl)) (hz _ (Iq hkv));have hw:IntKind.i64.wrap ((k:Int)+1)=((k+1:Nat):Int):=by rw[aZ (by omega) (by omega)];omega
  have ih:=zJ l vs hl hlen ht hz n (k+1) (by omega) (by omega);rw[iX _ l vs k hkl hkv];generalize l[k]=f at hix hh;generalize vs[k]=v at hiv hh;rw[FL43_0];cases hx:g8 f.2 v with
  |false=>
   rw[hx]at hh;simp[L43_0,h1,hix,hiv,hh,hkl]
  |true=>
   rw[hx]at hh;simp[L43_0,h1,hix,hiv,hh,hkl,hw];simpa using ih
def t43(l:List ca)(vs:List Val)(hl:l.length<=140737488355328)(ht:∀f∈l,f.2.Lim)(hz:∀v∈vs,v.sz<=1099511627776):ai pg 43 [bd l,vals vs]=M.pure (.bool (cb l vs)):=by
 rw[C43];by_cases h:l.length=vs.length
 ·have:=zJ l vs hl h ht hz l.length 0 rfl (Jk _)
  simp only[IV,Kb]at this;have h3:((l.length:Int) != (vs.length:Int))=false:=by simp[h]
  have h4:(l.length != vs.length)=false:=by simp[h]
  unfold cb;rw[h]at this;simp[S43,h3,h4,h,this]
 ·have h3:((l.length:Int) != (vs.length:Int))=true:=by simp;omega
  have h4:(l.length != vs.length)=true:=by simp[h]
  unfold cb;simp[S43,h3,h4,h]
def BP(t:Bool)(p:List Mod):AV:=if t=true then(match p with|[]=>.hn|_=>jQ p)else jQ p
def mw{t:Bool}{p:List Mod}(h:p≠[]):BP t p=jQ p:=by
 cases t with
 |false=>rfl
 |true=>cases p with
  |nil=>exact absurd rfl h
  |cons _ _=>rfl
def xu(t:Bool)(w:List Int):AV:=if t=true then .hn else ints w
def rowP(p:List Mod)(t:Bool)(m:Ms)(dv cv sv:AV):List AV:=[BP t p,xu t m.world,.int .i64 m.fuel,.int .i64 m.frames,.int .i64 0,.int .i64 0,.int .i64 0,.hn,.hn,dv,cv,sv]
abbrev dZ(p:List Mod)(nm:SNm):=Ho (rowP p nm.told) nm
structure LimP (p:List Mod):Prop where
 len:p.length<=1099511627776
 funcs:∀m∈p,m.funcs.length<=1099511627776/\m.vars.length<=1099511627776
def LimP.funcsAt{p:List Mod}(L:LimP p)(i:Nat):(p[i]?.getD default).funcs.length<=1099511627776/\(p[i]?.getD default).vars.length<=1099511627776:=by
 cases h:p[i]? with
 |none=>exact⟨Jk _,Jk _⟩
 |some m=>exact L.funcs m (IQ h)
theorem km{α:Type}(F:α->Bool):(l:List α)->(i:Int)->br F l i= -1\/(i<=br F l i/\br F l i<i+l.length)
 |[],i=>.inl rfl
 | x:: l,i=>by
  simp only[br];split
  ·exact .inr ⟨JF _,by simp;omega⟩
  ·rcases km F l (i+1)with h|h
   ·exact .inl h
   ·exact .inr ⟨by omega,by simp;omega⟩
def t221{p:List Mod}{nm:SNm}{m:Ms}{h:Hp}(R:dZ p nm m h)(L:LimP p)(s:bF):ai pg 221 [.hp 0 0,.str s] h= .ok (.int .i64 (sn p s)) h:=by
 obtain⟨tag,dv,cv,sv,R⟩:=R;have h0:bO T 92 (.hp 0 (0+0)) h= .ok (BP nm.told p) h:=cw rfl rfl R.r0 rfl;have hpv:∀f:AV,ai pg 193 [BP nm.told p,f]=ai pg 193 [jQ p,f]:=fun f=>by
  by_cases hp:p=[]
  ·subst hp;cases nm.told with
   |false=>rfl
   |true=>rw[C193,C193];rfl
  ·rw[mw hp]
 rw[C221];simp only[S221,dJ,ao,FH164_0];rw[bZ h0,hpv]
 have:=F7 p (by have:=L.len;omega) s
 simp only[mI,this,aC];rfl
def tO:Option Fun->AV
 |some f=>.tup [f.av,.bool true]
 |none=>.tup [Fun.av default,.bool false]
theorem t222{p:List Mod}{nm:SNm}{m:Ms}{h:Hp}(R:dZ p nm m h)(L:LimP p)(a:Int)(ha:a<p.length)(s:bF):ai pg 222 [.hp 0 0,.int .i64 a,.str s] h= .ok (tO (na p a s)) h:=by
 obtain⟨tag,dv,cv,sv,R⟩:=R;have h0:p≠[]->bO T 92 (.hp 0 (0+0)) h= .ok (jQ p) h:=fun hp=>cw rfl rfl R.r0 (by rw[<- mw (t:=nm.told) hp];rfl);have hz:cj T false 68 []=some (Fun.av default):=rfl;have hzz:∀f:Fun,AV.agg [nth (aa f.av) 0,nth (aa f.av) 1,nth (aa f.av) 2,nth (aa f.av) 3,nth (aa f.av) 4,nth (aa f.av) 5,nth (aa f.av) 6,nth (aa f.av) 7,nth (aa f.av) 8,nth (aa f.av) 9,nth (aa f.av) 10,nth (aa f.av) 11]=f.av:=fun f=>by simp
 have hcf:∀f:Fun,aD 12 [] f.av=M.pure (.agg (aa f.av)):=fun f=>bR (gO f);have hac:∀f:Fun,aa (.agg (aa f.av))=aa f.av:=fun _=>rfl;rw[C222];unfold na;simp only[S222,ep,ao,aA];by_cases h1:a<0
 ·simp only[h1,JB,Iu,hz,ao,hcf,aC,hac,hzz];rfl
 ·simp only[h1,JZ,H9,Ir,dJ,ao,FH164_0];rw[bZ (h0 (fun e=>by subst e;simp at ha;omega))];have hi:=AL (l:=p) (n:=a) (by omega) ha;have hlt:a.toNat<p.length:=by omega
  have e1:p[a.toNat]! = p[a.toNat]?.getD default:=by rw[Is p a.toNat hlt,Ih hlt];rfl
  have hlen:=(L.funcsAt a.toNat).1;have hx:=F8 (p[a.toNat]?.getD default).funcs (by omega) s;generalize hm:p[a.toNat]?.getD default=md at hx hlen e1;rw[hi,e1];simp only[ao,fO,FA29_4,IX,IV,LD25,mI,hx,aC,ep,aA];by_cases h2:jp md.funcs s<0
  ·simp only[h2,JB,Iu,hz,ao,hcf,aC,hac,hzz];rfl
  ·simp only[h2,JZ,H9,Ir];rcases km (fun f=>f.name== s) md.funcs 0 with h3|h3
   ·exact absurd (show jp md.funcs s<0 by unfold jp;rw[h3];decide) h2
   ·have h4:jp md.funcs s<(md.funcs.length:Int):=by unfold jp;omega
    have h5:(jp md.funcs s).toNat<md.funcs.length:=by omega
    rw[Da (by omega) h4,Is md.funcs _ h5,Ih h5];have hld:ah T 68 (.ip (aa (md.funcs[(jp md.funcs s).toNat]).av))=some (md.funcs[(jp md.funcs s).toNat]).av:=by simp
    simp only[ao,hld,hcf,aC,hac,hzz];rfl
def fB{α:Type}(p:List Mod)(nm:SNm)(enc:α->AV)(r:Rs α)(c:R AV):Prop:=match r with
 |.ok v s=>∃h',c= .ok (enc v) h'/\dZ p nm s h'
 |.er e s=>∃h',c= .pan (ka e) h'/\dZ p nm s h'
def bE{α β:Type}{p:List Mod}{nm:SNm}{enc:α->AV}{enc':β->AV}{x:X α}{f:α->X β}{c:M AV}{d:AV->M AV}{m:Ms}{h:Hp}(H:fB p nm enc (x m) (c h))(K:∀a s h',x m= .ok a s->dZ p nm s h'->fB p nm enc' (f a s) (d (enc a) h')):fB p nm enc' (x.bind f m) (ae c d h):=by
 unfold X.bind;cases hr:x m with
 |ok a s=>
  rw[hr]at H;obtain⟨h',h1,h2⟩:=H;rw[bZ h1];exact K a s h' hr h2
 |er e s=>
  rw[hr]at H;obtain⟨h',h1,h2⟩:=H;exact⟨h',uP h1,h2⟩
def cN{α:Type}{p:List Mod}{nm:SNm}{enc:α->AV}{a:α}{m:Ms}{h:Hp}(R:dZ p nm m h):fB p nm enc (X.ok a m) (M.pure (enc a) h):=⟨h,rfl,R⟩
def dL{α:Type}{p:List Mod}{nm:SNm}{enc:α->AV}{e:Int}{m:Ms}{h:Hp}(R:dZ p nm m h):fB p nm enc (X.er e m) (da (ka e) h):=⟨h,rfl,R⟩
def C5(v:Val):ae (aD 4 [] v.av) (fun w=>M.pure (AV.agg [nth (aa w) 0,nth (aa w) 1,nth (aa w) 2,nth (aa w) 3]))=M.pure v.av:=by simp
def fA(m:Ms):Ms:={ m with fuel:=m.fuel-1 }
def zZ{p:List Mod}{nm:SNm}{tag:Nat->Nat}{dv cv sv:AV}{m:Ms}{h:Hp}(R:RepT (rowP p nm.told) nm tag dv cv sv m h):RepT (rowP p nm.told) nm tag dv cv sv (fA m) (h.set 0 (rowP p nm.told (fA m) dv cv sv)):=R.set0 rfl rfl rfl id
def step0{p:List Mod}{nm:SNm}{m:Ms}{h:Hp}(R:dZ p nm m h):∃h1,dZ p nm (fA m) h1/\
  (∀f:AV->M AV,ae (bO T 3 (.hp 0 2)) f h=f (.int .i64 m.fuel) h)/\(∀f:AV->M AV,ae (cZ T 3 (.hp 0 2) (.int .i64 (m.fuel-1))) f h=f (.tup []) h1):=by
 obtain⟨tag,dv,cv,sv,R⟩:=R;refine⟨_,⟨tag,dv,cv,sv,zZ R⟩,fun f=>bZ (cw rfl rfl R.r0 rfl),fun f=>bZ (fK rfl R.r0 rfl (show 2+1<=12 by decide) (by decide))⟩
def zb{p:List Mod}{nm:SNm}{m:Ms}{h:Hp}(R:dZ p nm m h)(hf:¬0<m.fuel)(sc:AV)(e:Exp):ai pg 134 [.hp 0 0,sc,e.av] h= .pan (ka 16) h:=by
 obtain⟨tag,dv,cv,sv,R⟩:=R;have h0:∀f:AV->M AV,ae (bO T 3 (.hp 0 2)) f h=f (.int .i64 m.fuel) h:=fun f=>bZ (cw rfl rfl R.r0 rfl);rw[C134];simp[S134,h0,hf,aQ,bS,da]
def lz(e:Exp):Prop:=¬bh e.op= -2/\(bh e.op= -1\/bh e.op=e.args.length)
def DJ{p:List Mod}{nm:SNm}{m:Ms}{h:Hp}(R:dZ p nm m h)(G:GoodM p m)(hf:0<m.fuel)(sc:AV)(e:Exp)(hc:¬lz e):∃h1,dZ p nm (fA m) h1/\ai pg 134 [.hp 0 0,sc,e.av] h= .pan (ka 13) h1:=by
 obtain⟨h1,R1,hl,hs⟩:=step0 R;refine⟨h1,R1,?_⟩;have hw:IntKind.i64.wrap (m.fuel-1)=m.fuel-1:=aZ (by omega) (by have:=G.bud;simp only[mu]at this;omega);unfold lz at hc;rw[C134];simp[S134,hl,hs,hf,aQ,bS,hw,t167,hc];rfl
mutual
def aT:Exp->Prop
 |.mk _ _ _ _ ns es=>ns.length<=8796093022208/\es.length<=274877906944/\ke es
def ke:List Exp->Prop
 |[]=>True
 |e:: es=>aT e/\ke es
end
theorem lK:{l:List Exp} ->ke l->∀e∈l,aT e
 |[],_,_,h=>by cases h
 |x:: l,H,e,h=>by
  simp only[ke]at H;rcases IF.1 h with rfl|h
  ·exact H.1
  ·exact lK H.2 e h
def aY{e x:Exp}(H:aT e)(h:x∈e.args):aT x:=by
 obtain⟨o,n,s,m,ns,es⟩:=e;simp only[aT]at H;exact lK H.2.2 x h
def gY{e:Exp}(H:aT e):e.names.length<=8796093022208/\e.args.length<=274877906944:=by
 obtain⟨o,n,s,m,ns,es⟩:=e;simp only[aT]at H;exact⟨H.1,H.2.1⟩
structure LimB (p:List Mod):Prop where
 lim:LimP p
 body:∀m∈p,∀f∈m.funcs,aT f.body/\f.params.length<=274877906944
structure Sc (p:List Mod) (own:Int) (ns:List bF) (vs:List Val) (m:Ms):Prop where
 own:own<p.length
 right:ix ns vs
 len:(ns.length:Int)+m.fuel<=549755813888
def me(p:List Mod)(nm:SNm)(n:Nat):Prop:=∀own ns vs e m h,dZ p nm m h->GoodM p m->m.fuel<=n->Sc p own ns vs m->aT e->fB p nm Val.av (bK p n own ns vs e m) (ai pg 134 [.hp 0 0,bc own ns vs,e.av] h)
def C7(p:List Mod)(nm:SNm)(n:Nat):Prop:=∀own ns vs e m h,dZ p nm m h->GoodM p m->m.fuel<=n->Sc p own ns vs m->aT e->fB p nm AV.bool (boolX (bK p n own ns vs e) m) (ai pg 171 [.hp 0 0,bc own ns vs,e.av] h)
def B7(p:List Mod)(nm:SNm)(n:Nat):Prop:=∀own ns vs e m h,dZ p nm m h->GoodM p m->m.fuel<=n->Sc p own ns vs m->aT e->fB p nm Val.av (ib (bK p n own ns vs) e m) (ai pg 173 [.hp 0 0,bc own ns vs,e.av] h)
def xz(p:List Mod)(nm:SNm)(n:Nat):Prop:=∀own ns vs e m h,dZ p nm m h->GoodM p m->mu m<1000000->m.fuel<=n->Sc p own ns vs m->aT e->fB p nm Val.av (mP p (bK p n) own ns vs e m) (ai pg 174 [.hp 0 0,bc own ns vs,e.av] h)
def om(p:List Mod)(r:Exp->X Val)(own:Int)(e:Exp):X Val:=if e.op=16 then ta (r e.args[0]!) e else uA p r own e
def uF(p:List Mod)(nm:SNm)(n:Nat):Prop:=∀own ns vs e m h,e.op=16\/e.op=17\/e.op=18->lz e->dZ p nm m h->GoodM p m->mu m<1000000->m.fuel<=n->Sc p own ns vs m->aT e->fB p nm Val.av (om p (bK p n own ns vs) own e m) (ai pg 175 [.hp 0 0,bc own ns vs,e.av] h)
def Sc.less{p:List Mod}{own:Int}{ns:List bF}{vs:List Val}{m s:Ms}(H:Sc p own ns vs m)(h:s.fuel<=m.fuel):Sc p own ns vs s:=⟨H.own,H.right,by have:=H.len;omega⟩
theorem t171{p:List Mod}{nm:SNm}{n:Nat}(IH:me p nm n):C7 p nm n:=by
 intro own ns vs e m h R G hn hs he;unfold boolX;have hsc:ah T 168 (.ip (aa (bc own ns vs)))=some (bc own ns vs):=rfl;have hex:ah T 66 (.ip (aa e.av))=some e.av:=by simp
 rw[C171];simp only[S171,hsc,hex,ao];refine bE (IH own ns vs e m h R G hn hs he) fun v s h' hv Rs=>?_;simp only[bn (dy v),aC,cO,di,FA45_0,FA45_1,IV,LD3,ao,eU,aQ,bS,IX];by_cases hk:v.kind=1
 ·simp only[hk,Js,Iu];exact cN Rs
 ·have:(v.kind== 1)=false:=by simpa using hk
  simp only[hk,this,Ir,H9];exact dL Rs
theorem pi:∀(ns:List bF)(vs:List Val)(n:bF)(v:Val)(s:bF),ns.length=vs.length->gk (ns++[n]) (vs++[v]) s=if n=s then some v else gk ns vs s
 |[],[],n,v,s,_=>by simp[gk]
 |a:: ns,b:: vs,n,v,s,h=>by
  simp only[IZ,gk,pi ns vs n v s (by simpa using h)];by_cases hn:n=s
  ·simp[hn]
  ·simp[hn]
 |[],_:: _,_,_,_,h=>by simp at h
 |_:: _,[],_,_,_,h=>by simp at h
def zF(o:Option Val):M AV:=match o with
 |some v=>M.pure v.av
 |none=>da (ka 12)
theorem sg(kk:List AV->M AV)(own:Int)(ns:List bF)(vs:List Val)(e:Exp)(x1 x2 x3 x4:AV)(hl:ns.length=vs.length)(hb:ns.length<=1099511627776):∀(i:Nat),i<=ns.length->
  aj (L134_0 (ai pg) aj kk) [.hp 0 0,.ip [.int .i64 own,strs ns,vals vs],.ip (aa e.av),.int .i64 ((i:Int)-1),x1,x2,x3,x4]=zF (gk (ns.take i) (vs.take i) e.s)
 |0,_=>by
  have hi:gL T 39 (.int .i64 12)=some (ka 12):=rfl;rw[FL134_0];simp only[L134_0,aJ,aX,ml,ao,aA,hi];simp[gk,zF,BM];rfl
 |i+1,hi=>by
  have ih:=sg kk own ns vs e x1 x2 x3 x4 hl hb i (by omega);have h1:i<ns.length:=by omega
  have h2:i<vs.length:=by omega
  have h3:(ns.take (i+1))=ns.take i++[ns[i]]:=by simp
  have h4:(vs.take (i+1))=vs.take i++[vs[i]]:=by simp
  rw[h3,h4,pi _ _ _ _ _ (by simp;omega),FL134_0];have e1:((i+1:Nat):Int)-1=(i:Int):=by omega
  rw[e1];simp only[L134_0];simp (disch:=omega) [aZ,s8,jX,h1,h2];simp only[bI]at ih;by_cases hs:ns[i]=e.s
  ·simp[hs,zF]
  ·simp[hs,ih]
end Go.Proofs.YtihmmkncokjbaaaGreatDoor
namespace Go.Proofs.YtihmmkncokjbaaaGreatDoor
open Go Go.Av Go.Av.Ap
set_option maxRecDepth 100000
@[simp] theorem FH(a:Exp)(l:List Exp):ak T 24 (bQ (a:: l)) (.int .i64 0)=some (.ip (aa a.av)):=by
 have:=qQ (l:=a:: l) (n:=0) (by omega) (by simp<;>omega)
 simpa using this
@[simp] theorem Hq(a b:Exp)(l:List Exp):ak T 24 (bQ (a:: b:: l)) (.int .i64 1)=some (.ip (aa b.av)):=by
 have:=qQ (l:=a:: b:: l) (n:=1) (by omega) (by simp<;>omega)
 simpa using this
@[simp] theorem Hr(a b c:Exp)(l:List Exp):ak T 24 (bQ (a:: b:: c:: l)) (.int .i64 2)=some (.ip (aa c.av)):=by
 have:=qQ (l:=a:: b:: c:: l) (n:=2) (by omega) (by simp<;>omega)
 simpa using this
section
variable (o n:Int) (s m:bF) (ns:List bF) (es:List Exp)
@[simp] theorem iM:(Exp.mk o n s m ns es).op=o:=rfl
@[simp] theorem oC:(Exp.mk o n s m ns es).n=n:=rfl
@[simp] theorem ul:(Exp.mk o n s m ns es).s=s:=rfl
@[simp] theorem wR:(Exp.mk o n s m ns es).m=m:=rfl
@[simp] theorem dI:(Exp.mk o n s m ns es).names=ns:=rfl
@[simp] theorem eT:(Exp.mk o n s m ns es).args=es:=rfl
end
def gD(o n:Int)(s m:bF)(ns:List bF)(es:List Exp):AV.agg [.int .i64 o,.int .i64 n,.str s,.str m,strs ns,bQ es]=(Exp.mk o n s m ns es).av:=by rw[Exp.av,Exp.cells_eq];rfl
theorem mX:∀(ns:List bF)(vs:List Val)(s:bF)(i:Int),ns.length=vs.length->(br (fun x=>s== x) ns i= -1/\gp ns vs s=none)\/(∃(k:Nat)(h:k<vs.length),br (fun x=>s== x) ns i=i+k/\gp ns vs s=some vs[k])
 |[],[],s,i,_=>.inl ⟨rfl,rfl⟩
 | n:: ns,v:: vs,s,i,h=>by
  simp only[br,gp];by_cases hn:n=s
  ·right;exact⟨0,by simp,by simp[hn],by simp[hn]⟩
  ·have hn':(s== n)=false:=by simpa using fun e=>hn e.symm
   simp only[if_neg hn,hn',H9,Ir];rcases mX ns vs s (i+1) (by simpa using h)with⟨h1,h2⟩|⟨k,hk,h1,h2⟩
   ·left;exact⟨by simpa using h1,h2⟩
   ·right;exact⟨k+1,by simp;omega,by simp[h1];omega,by simpa using h2⟩
 |[],_:: _,_,_,h=>by simp at h
 |_:: _,[],_,_,h=>by simp at h
def gP{p:List Mod}{nm:SNm}{x:X Val}(hx:(∃v,x= .ok v)\/(∃e,x= .er e)){m:Ms}{h:Hp}(R:dZ p nm m h):fB p nm Val.av (x m) (ff x h):=by
 rcases hx with⟨v,rfl⟩|⟨e,rfl⟩
 ·exact cN R
 ·exact dL R
def gA(op:Int)(a b:Val):(∃v,jz op a b= .ok v)\/(∃e,jz op a b= .er e):=by
 unfold jz;split
 ·split
  ·exact .inl ⟨_,rfl⟩
  ·exact .inr ⟨_,rfl⟩
 ·split
  ·split
   ·exact .inl ⟨_,rfl⟩
   ·split
    ·exact .inl ⟨_,rfl⟩
    ·split
     ·exact .inl ⟨_,rfl⟩
     ·exact .inl ⟨_,rfl⟩
  ·exact .inr ⟨_,rfl⟩
def DU{l:List Exp}(h:l.length=1):∃a,l=[a]:=by
 match l,h with
 |[a],_=>exact⟨a,rfl⟩
def sb{l:List Exp}(h:l.length=2):∃a b,l=[a,b]:=by
 match l,h with
 |[a,b],_=>exact⟨a,b,rfl⟩
def GU{l:List Exp}(h:l.length=3):∃a b c,l=[a,b,c]:=by
 match l,h with
 |[a,b,c],_=>exact⟨a,b,c,rfl⟩
def vJ{α:Type}{p:List Mod}{nm:SNm}{enc:α->AV}{c:Prop}[Decidable c]{x y:X α}{a b:M AV}{m:Ms}{h:Hp}(h1:c->fB p nm enc (x m) (a h))(h2:¬c->fB p nm enc (y m) (b h)):fB p nm enc ((if c then x else y) m) ((if c then a else b) h):=by
 split
 ·exact h1 ‹_›
 ·exact h2 ‹_›
def uU(a b:Bool):am T .eql 4 (.bool a) (.bool b)=some (.bool (a== b)):=by cases a<;>cases b<;>rfl
def ly(v:Val)(h:Hp):ae (aD 4 [] v.av) (fun w=>M.pure (AV.agg [nth (aa w) 0,nth (aa w) 1,nth (aa w) 2,nth (aa w) 3])) h=M.pure v.av h:=by rw[C5]
def cz{p:List Mod}{nm:SNm}{r:Rs Val}{c:M AV}{h:Hp}(H:fB p nm Val.av r (c h)):fB p nm Val.av r (ae c (fun v=>ae (aD 4 [] v) fun w=>M.pure (AV.agg [nth (aa w) 0,nth (aa w) 1,nth (aa w) 2,nth (aa w) 3])) h):=by
 cases r with
 |ok v s=>
  obtain⟨h',h1,h2⟩:=H;refine⟨h',?_,h2⟩;rw[bZ h1,C5];rfl
 |er e s=>
  obtain⟨h',h1,h2⟩:=H;exact⟨h',uP h1,h2⟩
theorem wA{p:List Mod}{nm:SNm}{n:Nat}(IH:me p nm n)(IR:B7 p nm n)(IC:xz p nm n)(IW:uF p nm n):me p nm (n+1):=by
 intro own ns vs e m h R G hn hs he;have IB:=t171 IH;by_cases hf:0<m.fuel
 rotate_left
 ·have e1:bK p (n+1) own ns vs e m= .er 16 m:=by
   show kH p (bK p n) own ns vs e m=_;unfold kH X.get;simp only;rw[Ic (by omega)];rfl
  rw[e1];exact⟨h,zb R hf _ e,R⟩
 have hspec:bK p (n+1) own ns vs e m=(if bh e.op= -2\/(bh e.op≠-1/\bh e.op≠e.args.length)then .er 13
   else if e.op=0 then .ok (jR e.n)
   else if e.op=1 then(if e.n=0\/e.n=1 then .ok (eQ (e.n== 1))else .er 13)
   else if e.op=2 then(match gk ns vs e.s with|some v=>.ok v|none=>.er 12)
   else if e.op=3\/e.op=4\/e.op=5\/e.op=6\/e.op=7 then(bK p n own ns vs e.args[0]!).bind fun a=>(bK p n own ns vs e.args[1]!).bind fun b=>jz e.op a b
   else if e.op=8\/e.op=9 then(boolX (bK p n own ns vs e.args[0]!)).bind fun x=>if x=(e.op== 9)then .ok (eQ (e.op== 9))else(boolX (bK p n own ns vs e.args[1]!)).bind fun y=>.ok (eQ y)
   else if e.op=10 then(boolX (bK p n own ns vs e.args[0]!)).bind fun x=>.ok (eQ !x)
   else if e.op=11 then(boolX (bK p n own ns vs e.args[0]!)).bind fun x=>if x=true then bK p n own ns vs e.args[1]! else bK p n own ns vs e.args[2]!
   else if e.op=12 then(bK p n own ns vs e.args[0]!).bind fun v=>bK p n own (ns++[e.s]) (vs++[v]) e.args[1]!
   else if e.op=13 then ib (bK p n own ns vs) e
   else if e.op=14 then(bK p n own ns vs e.args[0]!).bind fun v=>(match gp v.names v.values e.s with|some x=>if v.kind=2 then .ok x else .er 13|none=>.er 13)
   else if e.op=15 then mP p (bK p n) own ns vs e
   else om p (bK p n own ns vs) own e:X Val) (fA m):=by
  show kH p (bK p n) own ns vs e m=_;unfold kH X.get;simp only;rw[if_neg (by omega)];have hw:(if e.op=16 then ta (bK p n own ns vs e.args[0]!) e else uA p (bK p n own ns vs) own e)=om p (bK p n own ns vs) own e:=rfl;rw[hw];rfl
 have hbm:=G.bud;have G1:GoodM p (fA m):=⟨G.right,by simp only[mu,fA]at hbm |-;omega,G.fr,by simp only[fA];omega,G.shape⟩;have hmu:mu (fA m)<1000000:=by simp only[mu,fA]at hbm |-;omega
 have hn1:(fA m).fuel<=n:=by simp only[fA];omega
 have hft:(fA m).fuel<=m.fuel:=by simp only[fA];omega
 have hs1:Sc p own ns vs (fA m):=hs.less hft;by_cases hc:lz e
 rotate_left
 ·obtain⟨h1,R1,e1⟩:=DJ R G hf (bc own ns vs) e hc;have hc':bh e.op= -2\/(bh e.op≠-1/\bh e.op≠e.args.length):=by
   unfold lz at hc;by_cases k:bh e.op= -2
   ·exact .inl k
   ·right;exact⟨fun k2=>hc ⟨k,.inl k2⟩,fun k2=>hc ⟨k,.inr k2⟩⟩
  rw[hspec,Ic hc'];exact⟨h1,e1,R1⟩
 obtain⟨h1,R1,hl,hst⟩:=step0 R;have hw:IntKind.i64.wrap (m.fuel-1)=m.fuel-1:=aZ (by omega) (by simp only[mu]at hbm;omega);have hc':¬(bh e.op= -2\/(bh e.op≠-1/\bh e.op≠e.args.length)):=by
  unfold lz at hc;rintro (k|⟨k1,k2⟩)
  ·exact hc.1 k
  ·rcases hc.2 with k|k
   ·exact k1 k
   ·exact k2 k
 rw[hspec,if_neg hc'];have hcc:=hc;have hce:=hc.2;obtain⟨op,en,es,em,en2,ea⟩:=e;simp only[iM,oC,ul,eT]at hce |-;unfold lz at hc;simp only[iM,eT]at hc;generalize hcode:ai pg 134 [.hp 0 0,bc own ns vs,(Exp.mk op en es em en2 ea).av] h=code;rw[C134]at hcode;have hW:∀v:Val,∀h,ae (aD 4 [] v.av) (fun w=>M.pure (AV.agg [nth (aa w) 0,nth (aa w) 1,nth (aa w) 2,nth (aa w) 3])) h=M.pure v.av h:=ly;by_cases k0:op=0
 ·subst k0;have hlen:ea.length=0:=by simp[bh]at hce;omega
  obtain rfl:=Im hlen;simp[S134,hl,hst,hf,aQ,bS,hw,t167,bh,K134_2,K134_1,K134_0,bm,t168]at hcode;simp;rw[<- hcode];exact cN (a:=jR en) R1
 by_cases k1:op=1
 ·subst k1;have hlen:ea.length=0:=by simp[bh]at hce;omega
  obtain rfl:=Im hlen;simp[S134,hl,hst,hf,aQ,bS,hw,t167,bh,K134_2,K134_1,K134_0,bm,t169]at hcode;simp;rw[<- hcode];exact vJ (fun _=>cN (a:=eQ (en== 1)) R1) (fun _=>dL R1)
 by_cases k2:op=2
 ·subst k2;have hlen:ea.length=0:=by simp[bh]at hce;omega
  obtain rfl:=Im hlen;have hnl:=hs.right.1;have hns:(ns.length:Int)<=549755813888:=by have:=hs.len;omega
  have hloop:=sg (K134_0 (ai pg) aj) own ns vs (.mk 2 en es em en2 []) (.int .i64 0) (.int .i64 0) (.sl []) (.sl []) hnl (by omega) ns.length (Ie _);have hwl:IntKind.i64.wrap ((ns.length:Int)-1)=(ns.length:Int)-1:=aZ (by omega) (by omega);rw[J9,hnl,J9]at hloop;simp only[bI,iM,oC,ul,wR,dI,eT]at hloop;simp[S134,hl,hst,hf,aQ,bS,hw,t167,bh,hwl]at hcode;rw[hnl,hloop]at hcode;simp;rw[<- hcode];cases gk ns vs es with
  |none=>exact dL R1
  |some v=>exact cN R1
 by_cases k3:op=3
 ·subst k3;have hlen:ea.length=2:=by simp[bh]at hce;omega
  obtain⟨a,b,rfl⟩:=sb hlen;have ha:aT a:=aY he (by simp);have hb:aT b:=aY he (by simp);simp[S134,hl,hst,hf,aQ,bS,hw,t167,bh,K134_2,K134_1,K134_0,bm]at hcode;simp;rw[<- hcode];refine bE (IH own ns vs a _ _ R1 G1 hn1 hs1 ha) fun x s1 h2 hx R2=>?_;obtain⟨G2,_,f2⟩:=G1.eval hs1.right hx;refine bE (IH own ns vs b _ _ R2 G2 (by omega) (hs1.less f2) hb) fun y s2 h3 hy R3=>?_;rw[t170 3 x y (by simp)];exact cz (c:=ff (jz 3 x y)) (gP (gA _ _ _) R3)
 by_cases k4:op=4
 ·subst k4;have hlen:ea.length=2:=by simp[bh]at hce;omega
  obtain⟨a,b,rfl⟩:=sb hlen;have ha:aT a:=aY he (by simp);have hb:aT b:=aY he (by simp);simp[S134,hl,hst,hf,aQ,bS,hw,t167,bh,K134_2,K134_1,K134_0,bm]at hcode;simp;rw[<- hcode];refine bE (IH own ns vs a _ _ R1 G1 hn1 hs1 ha) fun x s1 h2 hx R2=>?_;obtain⟨G2,_,f2⟩:=G1.eval hs1.right hx;refine bE (IH own ns vs b _ _ R2 G2 (by omega) (hs1.less f2) hb) fun y s2 h3 hy R3=>?_;rw[t170 4 x y (by simp)];exact cz (c:=ff (jz 4 x y)) (gP (gA _ _ _) R3)
 by_cases k5:op=5
 ·subst k5;have hlen:ea.length=2:=by simp[bh]at hce;omega
  obtain⟨a,b,rfl⟩:=sb hlen;have ha:aT a:=aY he (by simp);have hb:aT b:=aY he (by simp);simp[S134,hl,hst,hf,aQ,bS,hw,t167,bh,K134_2,K134_1,K134_0,bm]at hcode;simp;rw[<- hcode];refine bE (IH own ns vs a _ _ R1 G1 hn1 hs1 ha) fun x s1 h2 hx R2=>?_;obtain⟨G2,_,f2⟩:=G1.eval hs1.right hx;refine bE (IH own ns vs b _ _ R2 G2 (by omega) (hs1.less f2) hb) fun y s2 h3 hy R3=>?_;rw[t170 5 x y (by simp)];exact cz (c:=ff (jz 5 x y)) (gP (gA _ _ _) R3)
 by_cases k6:op=6
 ·subst k6;have hlen:ea.length=2:=by simp[bh]at hce;omega
  obtain⟨a,b,rfl⟩:=sb hlen;have ha:aT a:=aY he (by simp);have hb:aT b:=aY he (by simp);simp[S134,hl,hst,hf,aQ,bS,hw,t167,bh,K134_2,K134_1,K134_0,bm]at hcode;simp;rw[<- hcode];refine bE (IH own ns vs a _ _ R1 G1 hn1 hs1 ha) fun x s1 h2 hx R2=>?_;obtain⟨G2,_,f2⟩:=G1.eval hs1.right hx;refine bE (IH own ns vs b _ _ R2 G2 (by omega) (hs1.less f2) hb) fun y s2 h3 hy R3=>?_;rw[t170 6 x y (by simp)];exact cz (c:=ff (jz 6 x y)) (gP (gA _ _ _) R3)
 by_cases k7:op=7
 ·subst k7;have hlen:ea.length=2:=by simp[bh]at hce;omega
  obtain⟨a,b,rfl⟩:=sb hlen;have ha:aT a:=aY he (by simp);have hb:aT b:=aY he (by simp);simp[S134,hl,hst,hf,aQ,bS,hw,t167,bh,K134_2,K134_1,K134_0,bm]at hcode;simp;rw[<- hcode];refine bE (IH own ns vs a _ _ R1 G1 hn1 hs1 ha) fun x s1 h2 hx R2=>?_;obtain⟨G2,_,f2⟩:=G1.eval hs1.right hx;refine bE (IH own ns vs b _ _ R2 G2 (by omega) (hs1.less f2) hb) fun y s2 h3 hy R3=>?_;rw[t170 7 x y (by simp)];exact cz (c:=ff (jz 7 x y)) (gP (gA _ _ _) R3)
 by_cases k8:op=8
 ·subst k8;have hlen:ea.length=2:=by simp[bh]at hce;omega
  obtain⟨a,b,rfl⟩:=sb hlen;have ha:aT a:=aY he (by simp);have hb:aT b:=aY he (by simp);simp[S134,hl,hst,hf,aQ,bS,hw,t167,bh,K134_2,K134_1,K134_0,bm]at hcode;simp;rw[<- hcode];refine bE (IB own ns vs a _ _ R1 G1 hn1 hs1 ha) fun x s1 h2 hx R2=>?_;obtain⟨G2,f2⟩:=G1.bool hs1.right hx;rw[uU];simp only[ao,aA];cases x
  ·simp[t169];exact cN R2
  ·simp[t169];refine bE (IB own ns vs b _ _ R2 G2 (by omega) (hs1.less f2) hb) fun y s2 h3 hy R3=>?_;simp only[t169,dK,aC,hW];exact cN R3
 by_cases k9:op=9
 ·subst k9;have hlen:ea.length=2:=by simp[bh]at hce;omega
  obtain⟨a,b,rfl⟩:=sb hlen;have ha:aT a:=aY he (by simp);have hb:aT b:=aY he (by simp);simp[S134,hl,hst,hf,aQ,bS,hw,t167,bh,K134_2,K134_1,K134_0,bm]at hcode;simp;rw[<- hcode];refine bE (IB own ns vs a _ _ R1 G1 hn1 hs1 ha) fun x s1 h2 hx R2=>?_;obtain⟨G2,f2⟩:=G1.bool hs1.right hx;rw[uU];simp only[ao,aA];cases x
  ·simp[t169];refine bE (IB own ns vs b _ _ R2 G2 (by omega) (hs1.less f2) hb) fun y s2 h3 hy R3=>?_;simp only[t169,dK,aC,hW];exact cN R3
  ·simp[t169];exact cN R2
 by_cases k10:op=10
 ·subst k10;have hlen:ea.length=1:=by simp[bh]at hce;omega
  obtain⟨a,rfl⟩:=DU hlen;have ha:aT a:=aY he (by simp);simp[S134,hl,hst,hf,aQ,bS,hw,t167,bh,K134_2,K134_1,K134_0,bm]at hcode;simp;rw[<- hcode];refine bE (IB own ns vs a _ _ R1 G1 hn1 hs1 ha) fun x s1 h2 hx R2=>?_;simp only[kK,ao,t169,dK,aC,hW];exact cN R2
 by_cases k11:op=11
 ·subst k11;have hlen:ea.length=3:=by simp[bh]at hce;omega
  obtain⟨a,b,c,rfl⟩:=GU hlen;have ha:aT a:=aY he (by simp);have hb:aT b:=aY he (by simp);have hc3:aT c:=aY he (by simp);simp[S134,hl,hst,hf,aQ,bS,hw,t167,bh,K134_2,K134_1,K134_0,bm]at hcode;simp;rw[<- hcode];refine bE (IB own ns vs a _ _ R1 G1 hn1 hs1 ha) fun x s1 h2 hx R2=>?_;obtain⟨G2,f2⟩:=G1.bool hs1.right hx;simp only[aA];exact vJ (fun _=>cz (IH own ns vs b _ _ R2 G2 (by omega) (hs1.less f2) hb)) (fun _=>cz (IH own ns vs c _ _ R2 G2 (by omega) (hs1.less f2) hc3))
 by_cases k12:op=12
 ·subst k12;have hlen:ea.length=2:=by simp[bh]at hce;omega
  obtain⟨a,b,rfl⟩:=sb hlen;have ha:aT a:=aY he (by simp);have hb:aT b:=aY he (by simp);simp[S134,hl,hst,hf,aQ,bS,hw,t167,bh,K134_2,K134_1,K134_0,bm]at hcode;simp;rw[<- hcode];refine bE (IH own ns vs a _ _ R1 G1 hn1 hs1 ha) fun x s1 h2 hx R2=>?_;obtain⟨G2,rx,f2⟩:=G1.eval hs1.right hx;have hsl:=hs1.len;have hrl:=hs1.right.1;have hfu:=G1.fuel;rw[t172 own ns vs es x (by omega) (by omega)];simp only[dK,aC];refine cz (IH own (ns++[es]) (vs++[x]) b _ _ R2 G2 (by omega) ⟨hs1.own,⟨by simp[hrl],fun w hw=>?_⟩,?_⟩ hb)
  ·rcases IA.1 hw with k|k
   ·exact hs1.right.2 w k
   ·simp only[I5]at k;subst k;exact rx
  ·have:(fA m).fuel=m.fuel-1:=rfl
   have:=hs.len
   simp only[IG,Jq];omega
 by_cases k13:op=13
 ·subst k13;simp[S134,hl,hst,hf,aQ,bS,hw,t167,bh,K134_2,K134_1,K134_0,bm,gD]at hcode;simp;rw[<- hcode];exact cz (IR own ns vs _ _ _ R1 G1 hn1 hs1 he)
 by_cases k14:op=14
 ·subst k14;have hlen:ea.length=1:=by simp[bh]at hce;omega
  obtain⟨a,rfl⟩:=DU hlen;have ha:aT a:=aY he (by simp);simp[S134,hl,hst,hf,aQ,bS,hw,t167,bh,K134_2,K134_1,K134_0,bm]at hcode;simp;rw[<- hcode];refine bE (IH own ns vs a _ _ R1 G1 hn1 hs1 ha) fun x s1 h2 hx R2=>?_;obtain⟨G2,rx,f2⟩:=G1.eval hs1.right hx;have hrl:=uk rx;have h8:=uj rx;have hi:=t98 x.names es (by omega);rw[bn (dy x)];simp only[aC,cO,di,IX,IV,LD22,LD30,LD3,ao,hi,eU,ml,dP,aJ,lk,aQ,bS];rcases mX x.names x.values es 0 hrl with⟨j1,j2⟩|⟨k,hk,j1,j2⟩
  ·rw[j1,j2];simp only[show decide ((0:Int)<=-1)=false by decide,Ko,H9,Ir];exact dL R2
  ·rw[j1,j2];have hk0:decide ((0:Int)<=0+(k:Int))=true:=by simp
   rw[hk0];simp only[JV];by_cases hk2:x.kind=2
   ·have hix:=jX (l:=x.values) (n:=0+(k:Int)) (by omega) (by omega);have e5:(0+(k:Int)).toNat=k:=by omega
    rw[e5,Is x.values k hk]at hix;have hld:ah T 45 (.ip (aa (x.values[k]).av))=some (x.values[k]).av:=by simp
    simp only[hk2,Js,Iu,hix,ao,hld,hW];exact cN R2
   ·have hk2':(x.kind== 2)=false:=by simpa using hk2
    simp only[hk2,hk2',H9,Ir];exact dL R2
 by_cases k15:op=15
 ·subst k15;simp[S134,hl,hst,hf,aQ,bS,hw,t167,bh,K134_2,K134_1,K134_0,bm,gD]at hcode;simp;rw[<- hcode];exact cz (IC own ns vs _ _ _ R1 G1 hmu hn1 hs1 he)
 by_cases k16:op=16
 ·subst k16;simp[S134,hl,hst,hf,aQ,bS,hw,t167,bh,K134_2,K134_1,K134_0,bm,gD]at hcode;have hce':bh 16=ea.length:=by simp only[bh]at hce |-;simpa using hce
  simp only[bh]at hce';simp at hce';simp[<- hce']at hcode;simp;rw[<- hcode];exact cz (IW own ns vs (.mk 16 en es em en2 ea) _ _ (by simp) hcc R1 G1 hmu hn1 hs1 he)
 by_cases k17:op=17
 ·subst k17;simp[S134,hl,hst,hf,aQ,bS,hw,t167,bh,K134_2,K134_1,K134_0,bm,gD]at hcode;have hce':bh 17=ea.length:=by simp only[bh]at hce |-;simpa using hce
  simp only[bh]at hce';simp at hce';simp[<- hce']at hcode;simp;rw[<- hcode];exact cz (IW own ns vs (.mk 17 en es em en2 ea) _ _ (by simp) hcc R1 G1 hmu hn1 hs1 he)
 by_cases k18:op=18
 ·subst k18;simp[S134,hl,hst,hf,aQ,bS,hw,t167,bh,K134_2,K134_1,K134_0,bm,gD]at hcode;have hce':bh 18=ea.length:=by simp only[bh]at hce |-;simpa using hce
  simp only[bh]at hce';simp at hce';simp[<- hce']at hcode;simp;rw[<- hcode];exact cz (IW own ns vs (.mk 18 en es em en2 ea) _ _ (by simp) hcc R1 G1 hmu hn1 hs1 he)
 exfalso;apply hc.1;simp[bh,k0,k1,k2,k3,k4,k5,k6,k7,k8,k9,k10,k11,k12,k13,k14,k15,k16,k17,k18]
end Go.Proofs.YtihmmkncokjbaaaGreatDoor
namespace Go.Proofs.YtihmmkncokjbaaaGreatDoor
open Go Go.Av Go.Av.Ap
set_option maxRecDepth 100000
def mc{α β γ:Type}(x:X α)(f:α->X β)(g:β->X γ):(x.bind f).bind g=x.bind fun a=>(f a).bind g:=by
 funext m;unfold X.bind;cases x m<;>rfl
theorem kM{α β:Type}(a:α)(f:α->X β):(X.ok a).bind f=f a:=rfl
def t219(l:List bF)(h:l.length<=8796093022208):ai pg 219 [strs l]=M.pure (strs l):=by
 have e:ai pg 219 [strs l]=gW T 22 (ai pg) [strs l]:=ga aE rfl _;rw[e];show af (db T 22 (.sl []) (strs l))=_
 have:=C6 (a:=[]) (b:=l) (by simp;omega)
 simp only[I6]at this;show af (db T 22 (strs []) (strs l))=_;rw[this];rfl
theorem sf{p:List Mod}{nm:SNm}{n:Nat}(IH:me p nm n)(own:Int)(ns:List bF)(vs:List Val)(en:List bF)(es:List Exp)(x5 x6 x7 x8:AV)(hes:∀e∈es,aT e)(h8:es.length<=8):
  ∀(B A:List Exp)(acc:List Val)(m:Ms)(h:Hp),A++B=es->acc.length=A.length->(∀v∈acc,Rv v)->en.length<=8->dZ p nm m h->GoodM p m->m.fuel<=n->Sc p own ns vs m->
  fB p nm Val.av ((listX (bK p n own ns vs) B).bind (fun ws=>if dU (.mk 2 0 en (acc++ws))<=4 then .ok (.mk 2 0 en (acc++ws))else .er 6) m)
   (aj (L173_0 (ai pg) aj) [.hp 0 0,.ip (aa (bc own ns vs)),bQ es,.int .i64 es.length,.int .i64 A.length,x5,x6,x7,x8,.int .i64 2,.int .i64 0,strs en,vals acc] h)
 | [],A,acc,m,h,e,ha,hr,hen,R,G,hn,hs=>by
  simp only[I7]at e;subst e;have hsz:(Val.mk 2 0 en acc).sz<=1099511627776:=by
   have h2:bu acc<=acc.length*200000:=by
    have key:∀l:List Val,(∀v∈l,Rv v)->bu l<=l.length*200000:=by
     intro l
     induction l with
     |nil=>intro _;simp[bu]
     |cons v l ih=>
      intro h;have h1:=nT (h v Jt);have h2:=ih fun w hw=>h w (Jo _ hw);simp only[bu,Je];omega
    exact key acc hr
   simp only[Val.sz];have:acc.length*200000<=8*200000:=Il _ (by omega);omega
  have hlv:=t220 _ (.mk 2 0 en acc) (Ie _) hsz;rw[Val.av_eq]at hlv;simp only[HR,HW,HJ,HI]at hlv;have hw:∀h,ae (aD 4 [] (AV.agg [.int .i64 2,.int .i64 0,strs en,vals acc])) (fun w=>M.pure (AV.agg [nth (aa w) 0,nth (aa w) 1,nth (aa w) 2,nth (aa w) 3])) h=M.pure (Val.mk 2 0 en acc).av h:=fun h=>by
   have:=ly (Val.mk 2 0 en acc) h
   rw[Val.av_eq]at this |-;exact this
  rw[FL173_0];simp only[listX,kM,I7];simp only[L173_0,aJ,aX,ep,ao,aA,KM,JZ,H9,Ir,hlv,aC,uM,aQ,bS,hw];by_cases h4:dU (.mk 2 0 en acc)<=4
  ·have h4':decide (((dU (.mk 2 0 en acc):Nat):Int)<=4)=true:=by simp;omega
   simp only[h4,h4',Iu,hw];exact cN R
  ·have h4':decide (((dU (.mk 2 0 en acc):Nat):Int)<=4)=false:=by simp;omega
   simp only[h4,h4',H9,Ir];exact dL R
 | x:: B,A,acc,m,h,e,ha,hr,hen,R,G,hn,hs=>by
  have hll:A.length+(B.length+1)=es.length:=by rw[<- e];simp
  have h1:(A.length:Int)<(es.length:Int):=by omega
  have hx:es[A.length]'(by omega)=x:=by subst e;simp
  have hm:x∈es:=by rw[<- e];simp
  have hi:=qQ (l:=es) (n:=(A.length:Int)) (by omega) h1;rw[show ((A.length:Int)).toNat=A.length by omega,Is es A.length (by omega),hx]at hi;have hsc:ah T 168 (.ip (aa (bc own ns vs)))=some (bc own ns vs):=rfl;have hex:ah T 66 (.ip (aa x.av))=some x.av:=by simp
  rw[FL173_0];simp only[listX,mc,kM];simp only[L173_0,aJ,aX,ep,ao,aA,h1,JB,Iu,hi,hex,bn (iJ x),aC,hsc,cO];refine bE (IH own ns vs x m h R G hn hs (hes x hm)) fun v s h' hv Rs=>?_;obtain⟨G2,rv,f2⟩:=G.eval hs.right hv;have hb2:aL T 30 1 [(0,v.av)]=some (vals [v]):=by rw[v.av_eq];simp[vals,dq,v.av_eq];rfl
  have ha2:db T 30 (vals acc) (vals [v])=some (vals (acc++[v])):=xy (by simp;omega);have hc1:gm (vals (acc++[v]))=M.pure (vals (acc++[v])):=rfl;have hw:IntKind.i64.wrap ((A.length:Int)+1)=((A.length+1:Nat):Int):=ej (by omega);simp only[hb2,ao,ha2,hc1,aC,fC,hw];have ih:=sf IH own ns vs en es x5 x6 x7 x8 hes h8 B (A++[x]) (acc++[v]) s h' (by rw[<- e];simp) (by simp[ha]) (fun w hw=>by
   rcases IA.1 hw with k|k
   ·exact hr w k
   ·simp only[I5]at k;subst k;exact rv) hen Rs G2 (by omega) (hs.less f2)
  simp only[Jg,Ke,IG,Jq]at ih;exact ih
theorem t173{p:List Mod}{nm:SNm}{n:Nat}(IH:me p nm n):B7 p nm n:=by
 intro own ns vs e m h R G hn hs he;obtain⟨l1,l2⟩:=gY he;unfold ib;have ha:=t135 e.names (by omega);have hcl:=t219 e.names (by omega);have hB:cj T true 45 [(0,.int .i64 2),(2,strs e.names)]=some (.agg [.int .i64 2,.int .i64 0,strs e.names,.hn]):=rfl;have hC:aD 4 [3] (.agg [.int .i64 2,.int .i64 0,strs e.names,.hn])=M.pure (.agg [.int .i64 2,.int .i64 0,strs e.names,.hn]):=rfl;rw[C173];simp only[S173,bI,FA66_4,FA66_5,IX,IV,LD22,LD24,pJ,xB,ao,eU,ha,aC,dP,aJ,aX,lk,aQ,bS,uM,hcl,hB,hC,cO];have hsc:(AV.ip (aa (bc own ns vs)))= .ip [.int .i64 own,strs ns,vals vs]:=rfl;by_cases hl:e.names.length=e.args.length
 ·by_cases hasc:wd e.names=true
  ·have e1:((e.names.length:Int)== (e.args.length:Int)&&wd e.names)=true:=by simp[hl,hasc]
   simp only[hl,hasc,e1,J0,Iu];by_cases h8:e.args.length<=8
   ·have h8':decide ((e.args.length:Int)<=8)=true:=by simp;omega
    have e2:((e.args.length:Int)== (e.args.length:Int)&&true)=true:=by simp
    simp only[h8,h8',e2,Iu]
    have:=sf IH own ns vs e.names e.args (.int .i64 0) (.int .i64 0) (.sl []) (.sl []) (fun x hx=>aY he hx) h8 e.args [] [] m h rfl rfl (fun v hv=>by cases hv) (by omega) R G hn hs
    simp only[I6]at this;exact this
   ·have h8':decide ((e.args.length:Int)<=8)=false:=by simp;omega
    have e2:((e.args.length:Int)== (e.args.length:Int)&&true)=true:=by simp
    simp only[h8,h8',e2,Iu,H9,Ir];exact dL R
  ·have e1:((e.names.length:Int)== (e.args.length:Int)&&false)=false:=by simp
   have hasc':wd e.names=false:=by simpa using hasc
   simp only[e1,hasc',and_false,H9,Ir];exact dL R
 ·have e1:((e.names.length:Int)== (e.args.length:Int)&&wd e.names)=false:=by
   have:((e.names.length:Int)== (e.args.length:Int))=false:=by
    rw[Jz];omega
   rw[this];rfl
  simp only[e1,hl,false_and,H9,Ir];exact dL R
def ub(s t:bF)(v:AV)(h:aV v=true):bD 3 (.agg [.str s,.str t,v])=true:=by
 simp only[bD,cd,aa,Jd,List.all_nil];rw[h];rfl
def tx{p:List Mod}{nm:SNm}{tag:Nat->Nat}{dv cv sv:AV}{m:Ms}{h:Hp}(R:RepT (rowP p nm.told) nm tag dv cv sv m h)(l:List Val)(hb:l.length<=274877906944):
  ∃av h1 tag1,ai pg 249 [vals l] h= .ok av h1/\RepT (rowP p nm.told) nm tag1 dv cv sv m h1/\pH tag1 4 h1 l av/\aV av=true:=by
 have e0:ai pg 249 [vals l]=eq T 30 (ai pg) [vals l]:=ga aE rfl _;have e1:=rq (T:=T) (t:=30) rfl rfl rfl rfl rfl (by decide) (ai pg) l (show l.length*64<=140737488355328 by omega) h;rw[e0];by_cases hl:l=[]
 ·rw[Ic hl]at e1;exact⟨_,h,tag,e1,R,.inl (by rw[hl]),rfl⟩
 ·rw[if_neg hl]at e1;refine⟨_,_,_,e1,(R.more (bj l) 4).1,.inr ⟨h.length,rfl,by simp,by simp⟩,rfl⟩
def xb{p:List Mod}{nm:SNm}{tag:Nat->Nat}{dv cv sv:AV}{m:Ms}{h:Hp}(R:RepT (rowP p nm.told) nm tag dv cv sv m h)(c:Ap.Call)(av:AV)(ha:pH tag 4 h c.args av)(hok:aV av=true)(hb:m.calls.length<=2000000):
  ∃cv' h1 h2,appH T 160 false cv (.sl [.agg [.str c.module,.str c.func,av]]) h= .ok cv' h1/\cZ T 160 (.hp 0 10) cv' h1= .ok (.tup []) h2/\dZ p nm { m with calls:=m.calls++[c] } h2:=by
 obtain⟨h1,cv',tag',e1,K,H,hc⟩:=sD (T:=T) (t:=160) rfl rfl rfl rfl (by decide) rfl (by decide) (x:=.agg [.str c.module,.str c.func,av]) R.cs (fun h0=>by
  have:m.calls=[]:=Im h0;rw[this];rfl) (fun cs h=>h.ok.1) (ub _ _ _ hok) (show (m.calls.length+1)*56<=140737488355328 by omega)
 have h0:=(K 0 _ R.r0 (by rw[R.t0];decide)).1;refine⟨cv',h1,_,e1,fK rfl h0 (fX hc).1 (show 10+1<=12 by decide) (by decide),?_⟩;have hac:aa cv'=[cv']:=(fX hc).2.1
 have:=R.pushCall (m':={ m with calls:=m.calls++[c] }) K ha H rfl rfl rfl id
 refine⟨tag',dv,cv',sv,?_⟩;rw[hac];exact this
def oc{p:List Mod}{nm:SNm}{m:Ms}{h:Hp}(R:dZ p nm m h)(x:Int):∃h1,dZ p nm { m with frames:=x } h1/\(∀f:AV->M AV,ae (bO T 3 (.hp 0 3)) f h=f (.int .i64 m.frames) h)/\
  (∀f:AV->M AV,ae (cZ T 3 (.hp 0 3) (.int .i64 x)) f h=f (.tup []) h1):=by
 obtain⟨tag,dv,cv,sv,R⟩:=R;exact⟨_,⟨tag,dv,cv,sv,R.set0 rfl rfl rfl id⟩,fun f=>bZ (cw rfl rfl R.r0 rfl),fun f=>bZ (fK rfl R.r0 rfl (show 3+1<=12 by decide) (by decide))⟩
theorem pj(f:Fun)(a:Int)(ps:List ca)(l:List Val)(x6 x7 x8 x9:AV)(hb:ps.length<=274877906944)(hl:l.length=ps.length):∀(B A:List ca)(lb la:List Val),A++B=ps->la++lb=l->la.length=A.length->
  aj (L223_0 (ai pg) aj) [.hp 0 0,vals l,.ip (aa f.av),bd ps,.int .i64 ps.length,.int .i64 A.length,x6,x7,x8,x9,.int .i64 a,strs (A.map (·.1)),vals la]=
  aj (L223_0 (ai pg) aj) [.hp 0 0,vals l,.ip (aa f.av),bd ps,.int .i64 ps.length,.int .i64 ps.length,x6,x7,x8,x9,.int .i64 a,strs (ps.map (·.1)),vals l]
 | [],A,lb,la,e,e2,hla=>by
  simp only[I7]at e;subst e;have hz:lb=[]:=by
   apply Im;have:(la++lb).length=l.length:=by rw[e2]
   rw[IG]at this;omega
  rw[hz,I7]at e2;rw[e2]
 | x:: B,A,lb,la,e,e2,hla=>by
  have hll:A.length+(B.length+1)=ps.length:=by rw[<- e];simp
  have h1:(A.length:Int)<(ps.length:Int):=by omega
  have hx:ps[A.length]'(by omega)=x:=by subst e;simp
  obtain⟨v,lb',rfl⟩:∃v lb',lb=v:: lb':=by
   cases lb with
   |nil=>
    have:(la++([]:List Val)).length=l.length:=by rw[e2]
    simp at this;omega
   |cons v lb'=>exact⟨v,lb',rfl⟩
  have hv:l[A.length]'(by omega)=v:=by
   subst e2;rw[List.getElem_append_right (by omega)];simp[hla]
  have hi:=iu (l:=ps) (n:=(A.length:Int)) (by omega) h1;rw[show ((A.length:Int)).toNat=A.length by omega,Is ps A.length (by omega),hx]at hi;have hj:=jX (l:=l) (n:=(A.length:Int)) (by omega) (by omega);rw[show ((A.length:Int)).toNat=A.length by omega,Is l A.length (by omega),hv]at hj;have hfl:ah T 37 (.ip [.str x.1,.int .i64 x.2.kind,bd x.2.fields])=some (bG x):=by simp
  have hvl:ah T 45 (.ip (aa v.av))=some v.av:=by simp
  have hw:IntKind.i64.wrap ((A.length:Int)+1)=((A.length+1:Nat):Int):=ej (by omega);have hbd:=t172 a (A.map (·.1)) la x.1 v (by simp;omega) (by omega);have ih:=pj f a ps l x6 x7 x8 x9 hb hl B (A++[x]) lb' (la++[v]) (by rw[<- e];simp) (by rw[<- e2];simp) (by simp[hla]);simp only[KH,Jc,KA,IG,Jq]at ih;rw[<- ih,FL223_0];simp only[L223_0,aJ,aX,ep,ao,aA,h1,JB,Iu,hi,hfl,bn (ky x),aC,cO,jx,FA37_0,IV,LD9,hj,hvl,bm,hbd,dK,bR (jT _ _ _),dh,fC,hw]
def uB(p:List Mod)(nm:SNm)(n:Nat):Prop:=∀(a:Int) (f:Fun) (l:List Val) m h,0<=a->a<p.length->f∈(p[a.toNat]?.getD default).funcs->l.length=f.params.length->(∀v∈l,Rv v)->dZ p nm m h->GoodM p m->mu m<1000000->m.fuel<=n->
 fB p nm Val.av (fk p (bK p n) a f l m) (ai pg 223 [.hp 0 0,.int .i64 a,f.av,vals l] h)
def tm(s t:bF)(v:AV)(h:aV v=true):cj T false 260 [(0,.str s),(1,.str t),(2,v)]=some (.agg [.str s,.str t,v]):=by
 have hc:=fX h;show (lL _ _ [(0,.str s),(1,.str t),(2,v)]).map AV.agg=_;simp only[lL];have h2:=hc.2.2;have h3:=hc.2.1;cases v with
 |any=>cases h
 |agg _=>cases h
 |tup _=>cases h
 |_=>rfl
theorem re(x:AV)(hx:cd x=some 3):aL T 160 1 [(0,x)]=some (.sl [x]):=by
 have h1:aL T 160 1 [(0,x)]=(g7 3 (List.replicate 1 (.agg [.str [],.str [],.sl []])) [(0,x)]).map .sl:=rfl;rw[h1];simp only[g7,hx,List.length_replicate];rfl
theorem tC{p:List Mod}{nm:SNm}{n:Nat}(LB:LimB p)(IH:me p nm n)(a:Int)(f:Fun)(l:List Val)(m:Ms)(h0:0<=a)(ha:a<p.length)(hf:f∈(p[a.toNat]?.getD default).funcs)(hl:l.length=f.params.length)(hr:∀v∈l,Rv v)(G:GoodM p m)(hmu:mu m<1000000)(hn:m.fuel<=n):
  ∀ (m1:Ms) (h1:Hp),dZ p nm m1 h1->m1= { m with calls:=if f.pub=true then m.calls++[⟨(p[a.toNat]?.getD default).name,f.name,l⟩]else m.calls } ->m.frames<60->
   fB p nm Val.av (((bK p n a (f.params.map (·.1)) l f.body).bind fun v=>.upd (fun m=>{ m with frames:=m.frames-1 }) (.ok v)) (ji p a f l m))
    (K223_0 (ai pg) aj [.hp 0 0,.int .i64 a,vals l,.ip (aa f.av),.int .i64 0,.int .i64 0,.sl [],.sl []] h1):=by
 have hlt:a.toNat<p.length:=by omega
 have hmp:p[a.toNat]?.getD default∈p:=by rw[Ih hlt];exact Iq hlt
 obtain⟨hbody,hparams⟩:=LB.body _ hmp f hf;have hfb:=G.bud;have hfu:=G.fuel;have hfr:=G.fr;intro m1 h1 R1 e1 h60;have hB:cj T false 168 [(0,.int .i64 a)]=some (bc a [] []):=rfl;have hcell:=bR (jT a [] []);have hloop:=pj f a f.params l (.int .i64 0) (.int .i64 0) (.sl []) (.sl []) hparams hl f.params [] l [] rfl rfl rfl;have hw1:IntKind.i64.wrap (m.frames+1)=m.frames+1:=aZ (by omega) (by omega);obtain⟨h2,R2,l2,s2⟩:=oc R1 (m.frames+1);have e2:{ m1 with frames:=m.frames+1 } = ji p a f l m:=by rw[e1];rfl
 have hm1f:m1.frames=m.frames:=by rw[e1]
 rw[e2]at R2;rw[hm1f]at l2;have hld:ah T 23 (.ip (bd f.params:: [.int .i64 f.result.kind,bd f.result.fields,.int .i64 f.effects,.int .i64 f.body.op,.int .i64 f.body.n,.str f.body.s,.str f.body.m,strs f.body.names,bQ f.body.args]))=some (bd f.params):=rfl;have hex:ah T 66 (.ip [.int .i64 f.body.op,.int .i64 f.body.n,.str f.body.s,.str f.body.m,strs f.body.names,bQ f.body.args])=some f.body.av:=by
  have:ah T 66 (.ip (aa f.body.av))=some f.body.av:=by simp
  rwa [bI]at this
 simp only[KA,Jw]at hloop;have hz:((0:Nat):Int)=0:=rfl;rw[hz]at hloop;have hm2:(if f.pub=true then m.calls++[(⟨(p[a.toNat]?.getD default).name,f.name,l⟩:Ap.Call)]else m.calls).length<=m.calls.length+1:=by
  split
  ·simp
  ·omega
 have G2:GoodM p (ji p a f l m):=by
  refine⟨⟨G.right.1,fun c hc=>?_⟩,?_,by simp only[ji];omega,hfu,G.shape⟩
  ·simp only[ji]at hc;split at hc
   ·rcases IA.1 hc with k|k
    ·exact G.right.2 c k
    ·simp only[I5]at k;subst k;exact hr
   ·exact G.right.2 c hc
  ·simp only[mu,ji]at hmu |-;omega
 simp only[K223_0,aJ,aX,hB,ao,hcell,aC,cO,dh,fN,FA68_2,FA68_5,IX,IV,hld,iv]at hloop |-;rw[show strs []=strs []from rfl]at hloop;rw[hloop,FL223_0];simp only[L223_0,aJ,aX,ep,ao,aA,KM,JZ,H9,Ir,dJ,FH164_3,II,l2,fC,hw1,s2,FA68_5,IX,IV,hex,bm];have hns:((f.params.map (·.1)).length:Int)+(ji p a f l m).fuel<=549755813888:=by
  simp only[Km,ji];simp only[mu]at hfb;omega
 refine bE (IH a (f.params.map (·.1)) l f.body _ _ R2 G2 hn ⟨ha,⟨by simp[hl],hr⟩,hns⟩ hbody) fun v s h3 hv R3=>?_;obtain⟨G3,_,_⟩:=G2.eval ⟨by simp[hl],hr⟩ hv;obtain⟨h4,R4,l4,s4⟩:=oc R3 (s.frames-1);have hfr3:=G3.fr;have hw2:IntKind.i64.wrap (s.frames-1)=s.frames-1:=aZ (by omega) (by omega);have hvl:ah T 45 (.ip (aa v.av))=some v.av:=by simp
 simp only[bn (dy v),aC,cO,dJ,ao,FH164_3,II,l4,uO,hw2,s4,hvl];have e9:_=Av.R.ok v.av h4:=ly v h4;rw[e9];exact⟨h4,rfl,R4⟩
def t223{p:List Mod}{nm:SNm}{n:Nat}(LB:LimB p)(IH:me p nm n):uB p nm n:=by
 intro a f l m h h0 ha hf hl hr R G hmu hn;have hlt:a.toNat<p.length:=by omega
 have hmp:p[a.toNat]?.getD default∈p:=by rw[Ih hlt];exact Iq hlt
 obtain⟨hbody,hparams⟩:=LB.body _ hmp f hf;have hfb:=G.bud;have hfu:=G.fuel;have hfr:=G.fr;have tail:=tC LB IH a f l m h0 ha hf hl hr G hmu hn;simp only[fN]at tail;obtain⟨tag,dv,cv,sv,R0⟩:=R;have l3:∀g:AV->M AV,ae (bO T 3 (.hp 0 3)) g h=g (.int .i64 m.frames) h:=fun g=>bZ (cw rfl rfl R0.r0 rfl);have lc:∀g:AV->M AV,ae (bO T 160 (.hp 0 10)) g h=g cv h:=fun g=>bZ (cw rfl rfl R0.r0 rfl);have lm:∀g:AV->M AV,ae (bO T 92 (.hp 0 0)) g h=g (jQ p) h:=fun g=>bZ (cw rfl rfl R0.r0 (by rw[<- mw (t:=nm.told) (fun e=>by subst e;simp at hlt)];rfl));generalize hcode:ai pg 223 [.hp 0 0,.int .i64 a,f.av,vals l] h=code;rw[C223]at hcode;simp -implicitDefEqProofs only[S223,dJ,ao,FH164_3,II,l3,ep,aQ,jL]at hcode;by_cases h60:m.frames<60
 ·rw[kR,Ic h60];have hd:decide (m.frames<60)=true:=by simpa using h60
  simp only[hd,bS,Iu]at hcode;simp -implicitDefEqProofs only[fN,FA68_1,FA68_0,IX,IV,LD4,LD9,ao,aA]at hcode;by_cases hp:f.pub=true
  ·simp only[hp,Iu]at hcode tail;have hi:=AL (l:=p) (n:=a) h0 ha;rw[Is p a.toNat hlt]at hi;have e3:p[a.toNat]?.getD default=p[a.toNat]:=by rw[Ih hlt];rfl
   obtain⟨av,h1,tag1,c1,R1,A1,ok1⟩:=tx R0 l (by omega);obtain⟨cv',h2,h3,p1,p2,R3⟩:=xb R1 ⟨p[a.toNat].name,f.name,l⟩ av A1 ok1 (by simp only[mu]at hmu;omega);have hB:cj T false 260 [(0,.str p[a.toNat].name),(1,.str f.name),(2,av)]=some (.agg [.str p[a.toNat].name,.str f.name,av]):=tm _ _ _ ok1;have hBS:=re (.agg [.str p[a.toNat].name,.str f.name,av]) rfl;have lc1:∀g:AV->M AV,ae (bO T 160 (.hp 0 10)) g h=g cv h:=lc;simp -implicitDefEqProofs only[lc,lm,hi,fO,FA29_0,FH164_0,FH164_4,FH162_3,IV,LD9,ao,II,Nat.reduceAdd]at hcode;rw[bZ c1]at hcode;simp only[hB,hBS,ao]at hcode;rw[bZ p1]at hcode;rw[bZ p2]at hcode;rw[<- hcode];exact tail _ h3 R3 (by rw[e3]) h60
  ·simp only[hp,H9,Ir]at hcode tail;rw[<- hcode];exact tail m h ⟨tag,dv,cv,sv,R0⟩ rfl h60
 ·rw[kR,if_neg h60];have hd:decide (m.frames<60)=false:=by simpa using h60
  simp only[hd,bS,H9,Ir]at hcode;rw[<- hcode];exact⟨h,rfl,tag,dv,cv,sv,R0⟩
theorem pk{p:List Mod}{nm:SNm}{n:Nat}(IH:me p nm n)(IE:uB p nm n)(own:Int)(ns:List bF)(vs:List Val)(at_:Int)(f:Fun)(es:List Exp)(x8 x9 x10 x11:AV)(ha:0<=at_)(hat:at_<p.length)(hf:f∈(p[at_.toNat]?.getD default).funcs)(hes:∀e∈es,aT e)(h8:es.length<=274877906944)(hlen:es.length=f.params.length):
  ∀(B A:List Exp)(acc:List Val)(m:Ms)(h:Hp),A++B=es->acc.length=A.length->(∀v∈acc,Rv v)->dZ p nm m h->GoodM p m->mu m<1000000->m.fuel<=n->Sc p own ns vs m->
  fB p nm Val.av ((listX (bK p n own ns vs) B).bind (fun ws=>fk p (bK p n) at_ f (acc++ws)) m)
   (aj (L174_0 (ai pg) aj) [.hp 0 0,.ip (aa (bc own ns vs)),.int .i64 at_,.ip (aa f.av),vals acc,bQ es,.int .i64 es.length,.int .i64 A.length,x8,x9,x10,x11] h)
 |[],A,acc,m,h,e,hac,hr,R,G,hmu,hn,hs=>by
  simp only[I7]at e;subst e;have hfl:ah T 68 (.ip (aa f.av))=some f.av:=by simp
  have IE':=IE at_ f acc m h ha hat hf (by omega) hr R G hmu hn;generalize hcode:aj (L174_0 (ai pg) aj) [.hp 0 0,.ip (aa (bc own ns vs)),.int .i64 at_,.ip (aa f.av),vals acc,bQ A,.int .i64 A.length,.int .i64 A.length,x8,x9,x10,x11] h=code;rw[FL174_0]at hcode;simp -implicitDefEqProofs only[L174_0,aJ,aX,ep,ao,aA,KM,JZ,H9,Ir,hfl]at hcode;simp only[listX,kM,I7];rw[<- hcode];exact cz IE'
 | x:: B,A,acc,m,h,e,hac,hr,R,G,hmu,hn,hs=>by
  have hll:A.length+(B.length+1)=es.length:=by rw[<- e];simp
  have h1:(A.length:Int)<(es.length:Int):=by omega
  have hx:es[A.length]'(by omega)=x:=by subst e;simp
  have hm:x∈es:=by rw[<- e];simp
  have hi:=qQ (l:=es) (n:=(A.length:Int)) (by omega) h1;rw[show ((A.length:Int)).toNat=A.length by omega,Is es A.length (by omega),hx]at hi;have hsc:ah T 168 (.ip (aa (bc own ns vs)))=some (bc own ns vs):=rfl;have hex:ah T 66 (.ip (aa x.av))=some x.av:=by simp
  have hw:IntKind.i64.wrap ((A.length:Int)+1)=((A.length+1:Nat):Int):=ej (by omega);generalize hcode:aj (L174_0 (ai pg) aj) [.hp 0 0,.ip (aa (bc own ns vs)),.int .i64 at_,.ip (aa f.av),vals acc,bQ es,.int .i64 es.length,.int .i64 A.length,x8,x9,x10,x11] h=code;rw[FL174_0]at hcode;simp -implicitDefEqProofs only[L174_0,aJ,aX,ep,ao,aA,h1,JB,Iu,hi,hex,bn (iJ x),aC,hsc]at hcode;have hex':ah T 66 (.ip (aa (.agg (aa x.av))))=some x.av:=hex;simp -implicitDefEqProofs only[hex',ao]at hcode;rw[<- hcode];simp only[listX,mc,kM];refine bE (IH own ns vs x m h R G hn hs (hes x hm)) fun v s h' hv Rs=>?_;obtain⟨G2,rv,f2⟩:=G.eval hs.right hv;obtain⟨t1,_⟩:=mB n own ns vs x m v s G.fuel hv;have hb2:aL T 30 1 [(0,v.av)]=some (vals [v]):=by rw[v.av_eq];simp[vals,dq,v.av_eq];rfl
  have ha2:db T 30 (vals acc) (vals [v])=some (vals (acc++[v])):=xy (by simp;omega);have ih:=pk IH IE own ns vs at_ f es x8 x9 x10 x11 ha hat hf hes h8 hlen B (A++[x]) (acc++[v]) s h' (by rw[<- e];simp) (by simp[hac]) (fun w hw=>by
   rcases IA.1 hw with k|k
   ·exact hr w k
   ·simp only[I5]at k;subst k;exact rv) Rs G2 (by omega) (by omega) (hs.less f2)
  simp only[Jg,Ke,IG,Jq]at ih;simp only[hb2,ao,ha2,fC,hw];exact ih
def jF(f:Fun):be 12 f.av=M.pure (.agg (aa f.av)):=bn (gO f)
theorem oO{p:List Mod}{nm:SNm}{n:Nat}(LB:LimB p)(IH:me p nm n)(own:Int)(ns:List bF)(vs:List Val)(e:Exp)(at_:Int)(hat:at_<p.length)(m:Ms)(h:Hp)(R:dZ p nm m h)(G:GoodM p m)(hmu:mu m<1000000)(hn:m.fuel<=n)(hs:Sc p own ns vs m)(he:aT e)(y1 y2 y3 y4:AV):
  fB p nm Val.av ((match na p at_ e.s with
   |none=>.er 12
   | some f=>if e.m=[]\/f.pub=true then
     (if e.args.length=f.params.length then(listX (bK p n own ns vs) e.args).bind fun l=>fk p (bK p n) at_ f l else .er 13)
    else .er 12:X Val) m)
   (K174_0 (ai pg) aj [.hp 0 0,.ip (aa (bc own ns vs)),.ip (aa e.av),.int .i64 at_,y1,y2,y3,y4] h):=by
 have IE:=t223 LB IH;obtain⟨l1,l2⟩:=gY he;have hfn:=t222 R LB.lim at_ hat e.s;generalize hcode:K174_0 (ai pg) aj [.hp 0 0,.ip (aa (bc own ns vs)),.ip (aa e.av),.int .i64 at_,y1,y2,y3,y4] h=code;simp -implicitDefEqProofs only[K174_0,aJ,aX,bI,FA66_2,FA66_3,FA66_5,IX,IV,LD9,LD24,xB,ao]at hcode;rw[bZ hfn]at hcode;cases hf:na p at_ e.s with
 |none=>
  rw[hf]at hcode;simp -implicitDefEqProofs only[tO,bB,Ig,Ix,ao,jF,aC,o5,List.replicate,aJ,tQ,fe,aQ,bS,H9,Ir]at hcode;rw[<- hcode];exact dL R
 | some f=>
  rw[hf]at hcode;obtain⟨f1,f2,f3⟩:=nc hf;have hmp:p[at_.toNat]?.getD default∈p:=by rw[Ih f2];exact Iq f2
  obtain⟨_,hparams⟩:=LB.body _ hmp f f3;have hac:∀f:Fun,aa (.agg (aa f.av))=aa f.av:=fun _=>rfl;simp -implicitDefEqProofs only[tO,bB,Ig,Ix,ao,jF,aC,dl,BX,aJ,hac]at hcode;have hpub:ah T 4 (.ip (List.drop 1 (aa f.av)))=some (.bool f.pub):=by simp
  have hpar:ah T 23 (.ip (List.drop 2 (aa f.av)))=some (bd f.params):=by simp
  have hgu:aw (.bool (e.m== [])) false 1 (M.pure [.bool f.pub])=M.pure [gv (e.m== []) false (.bool f.pub)]:=dP _ _ _;have hpk:aF (.bool (e.m== [])) (.bool true) (gv (e.m== []) false (.bool f.pub))=some (.bool ((e.m== [])||f.pub)):=nO _ _;simp -implicitDefEqProofs only[FA68_1,FA68_2,hpub,hpar,ao,hgu,aC,aJ,hpk,fZ,aQ,iv,eU]at hcode;by_cases h1:e.m=[]\/f.pub=true
  ·have h1':(e.m== []||f.pub)=true:=by
    simp only[Ji,I2];exact h1
   simp only[h1',bS,Iu]at hcode;simp only[Ic h1];by_cases h2:e.args.length=f.params.length
   ·have h2':((e.args.length:Int)== (f.params.length:Int))=true:=by simp[h2]
    simp only[h2',Iu]at hcode;simp only[Ic h2];rw[<- hcode]
    have:=pk IH IE own ns vs at_ f e.args y1 y2 y3 y4 (by omega) hat f3 (fun x hx=>aY he hx) (by omega) h2 e.args [] [] m h rfl rfl (fun v hv=>by cases hv) R G hmu hn hs
    simp only[I6]at this;exact this
   ·have h2':((e.args.length:Int)== (f.params.length:Int))=false:=by
     rw[Jz];omega
    simp only[h2',H9,Ir]at hcode;simp only[if_neg h2];rw[<- hcode];exact dL R
  ·have h1':(e.m== []||f.pub)=false:=by
    rw[<- KC];simp only[Ji,I2];exact h1
   simp only[h1',bS,H9,Ir]at hcode;simp only[if_neg h1];rw[<- hcode];exact dL R
theorem t174{p:List Mod}{nm:SNm}{n:Nat}(LB:LimB p)(IH:me p nm n):xz p nm n:=by
 intro own ns vs e m h R G hmu hn hs he;unfold mP;have hown:ah T 3 (.ip [.int .i64 own,strs ns,vals vs])=some (.int .i64 own):=rfl;have hmd:=t221 R LB.lim e.m;generalize hcode:ai pg 174 [.hp 0 0,bc own ns vs,e.av] h=code;rw[C174]at hcode;simp -implicitDefEqProofs only[S174,dh,bI,FA168_0,FA66_3,IX,IV,hown,LD9,ao,jL,BZ,aA]at hcode;by_cases h0:e.m=[]
 ·have h0':(!(e.m== []))=false:=by simp[h0]
  simp only[h0',H9,Ir]at hcode;simp only[Ic h0];rw[<- hcode]
  have:=oO LB IH own ns vs e own hs.own m h R G hmu hn hs he (.int .i64 0) (.int .i64 0) (.sl []) (.sl [])
  simp only[dh,bI]at this;exact this
 ·have h0':(!(e.m== []))=true:=by simp[h0]
  simp only[h0',Iu]at hcode;rw[bZ hmd]at hcode;simp only[if_neg h0];rw[<- hcode];have hlt:sn p e.m<p.length:=by
   rcases km (fun(x:Mod)=>x.name== e.m) p 0 with k|k
   ·show br _ p 0<_;rw[k];omega
   ·show br _ p 0<_;omega
  have:=oO LB IH own ns vs e (sn p e.m) hlt m h R G hmu hn hs he (.int .i64 0) (.int .i64 0) (.sl []) (.sl [])
  simp only[dh,bI]at this;exact this
end Go.Proofs.YtihmmkncokjbaaaGreatDoor
