/- What the functions of the seat compute, part 7: the texts of the claim, one behind the other. Conditions: bounds, as each theorem names them. -/
import Derived.Test.YtblddnfanlkgiaaGreatTf
set_option linter.defProp false
set_option linter.unusedSimpArgs false
set_option linter.unusedVariables false
namespace Go.Proofs.YtblddnfanlkgiaaGreat.MgS
open Go Go.Av Go.Av.Ap
set_option maxRecDepth 100000
def sl(l:List aT):AV:=.sl (l.map AV.str)
def ix{l:List aT}{i:Nat}(h:i<l.length):ak T 22 (sl l) (.int .i64 (i:Int))=some (.ip (ab (AV.str l[i]))):=by
 have:=bU (T:=T) (t:=22) (e:=9) rfl rfl rfl (f:=AV.str) (l:=l) (n:=(i:Int)) (fun _=>by first|rfl|(simp;done)|exact Mg.szS _|(simp;rfl)) (by omega) (by omega)
 rw[JW,J1 l i h]at this;exact this
def ap{a b:List aT}(h:(a.length+b.length)*16<=140737488355328):ca T 22 (sl a) (sl b)=some (sl (a++b)):=by
 have:=fZ (T:=T) (t:=22) (e:=9) rfl rfl rfl (f:=AV.str) (fun _=>by first|rfl|(simp;done)|exact Mg.okS _|(simp;rfl)) (a:=a) (b:=b) h (by decide)
 simpa [sl]using this
def ln(l:List aT):aP T 22 (sl l)=some (.int .i64 l.length):=by
 show some (AV.int .i64 (l.map AV.str).length)=_;rw[KI]
def FE(x:aT):cz 1 (AV.str x)=true:=by first|rfl|(simp;done)|exact Mg.okS x|(simp;rfl)
def ld(x:aT):ah T 9 (.ip (ab (AV.str x)))=some (AV.str x):=by first|rfl|(simp;done)|exact Mg.ldS x
def zq(g:Nat->Nat->Nat->Nat->Bool->AV)(x:aT):cl g (AV.str x)=AV.str x:=by first|rfl|(simp;done)|exact Mg.eY g x
def eY(g:Nat->Nat->Nat->Nat->Bool->AV)(l:List aT):cl g (sl l)=sl l:=by
 show AV.sl (df g (l.map AV.str))=_;rw[dl g AV.str (zq g)];rfl
def BP(f:AV)(F:aT->Bool)(l:List aT)(hb:l.length<=1000000)(hf:∀x∈l,aW (af pg) f [AV.str x]=M.pure (.bool (F x))):∀(n i:Nat),l.length-i=n->i<=l.length->
  aj (L113_0 (af pg) aj) [sl l,f,.int .i64 l.length,.int .i64 i]=M.pure (.int .i64 (be F (l.drop i) i)):=by
 intro n
 induction n with
 |zero=>
  intro i hn hl;obtain rfl:i=l.length:=by omega
  have h1:¬((l.length:Int)<(l.length:Int)):=by omega
  rw[FL113_0];simp -implicitDefEqProofs only[L113_0,az,aB,aF,am,ao,h1,Kv,JL,JZ,Lm,be]
 |succ n ih=>
  intro i hn hl;have hlt:i<l.length:=by omega
  have h1:(i:Int)<(l.length:Int):=by omega
  have hw:IntKind.i64.wrap ((i:Int)+1)=((i+1:Nat):Int):=aS (by omega);have h3:=hf l[i] (JP hlt);have h4:=ih (i+1) (by omega) (by omega);rw[FL113_0,JS hlt];simp -implicitDefEqProofs only[L113_0,az,aB,aF,am,ao,h1,Kf,J0,ix hlt,ld,aG,h3,aU,hw,h4,be];cases F l[i]<;>rfl
def t113(f:AV)(F:aT->Bool)(l:List aT)(hb:l.length<=1000000)(hc:∀g,cl g f=f)(hf:∀x∈l,aW (af pg) f [AV.str x]=M.pure (.bool (F x))):af pg 113 [sl l,f]=M.pure (.int .i64 (be F l 0)):=by
 have h:=BP f F l hb hf l.length 0 rfl (by omega);rw[C113,eY,hc];have e:S113 (af pg) aj (sl l) f=M.pure (.int .i64 (be F l 0)):=by
  simp -implicitDefEqProofs only[S113,ln,am];exact h
 rw[e];rfl
def P(a b:FuncId):AV:=.agg [.fn (.func a) [] [],.fn (.func b) [] []]
theorem t114{a b:FuncId}{nm:aT->aT}{x:aT}(h:af pg a [AV.str x]=M.pure (.str (nm x)))(s:aT):af pg 114 [AV.str x,.ip [.fn (.func a) [] [],.fn (.func b) [] []],.ip [.str s]]=M.pure (.bool (nm x== s)):=by
 have h2:aW (kz (af pg)) (.fn (.func a) [] []) [AV.str x]=M.pure (.str (nm x)):=Mg.iY h;have c1:cl ar (.ip [.fn (.func a) [] [],.fn (.func b) [] []])= .ip [.fn (.func a) [] [],.fn (.func b) [] []]:=rfl;have c2:cl ar (.ip [.str s])= .ip [.str s]:=rfl;have c3:aa T 96 (.ip [.fn (.func a) [] [],.fn (.func b) [] []]) 0=some (.ip [.fn (.func a) [] [],.fn (.func b) [] []]):=rfl;have c4:ah T 93 (.ip [.fn (.func a) [] [],.fn (.func b) [] []])=some (.fn (.func a) [] []):=rfl;have c5:ah T 9 (.ip [.str s])=some (.str s):=rfl;have c6:aw T .eql 9 (.str (nm x)) (.str s)=some (.bool (nm x== s)):=rfl;rw[C114,zq,c1,c2];simp -implicitDefEqProofs only[S114,c3,c4,c5,ld,am,h2,aG,c6];rfl
theorem t84{a b:FuncId}{nm:aT->aT}(l:List aT)(hb:l.length<=1000000)(h:∀x∈l,af pg a [AV.str x]=M.pure (.str (nm x)))(s:aT):af pg 84 [P a b,sl l,.str s]=M.pure (sl (aC nm l s)):=by
 have c1:cl ar (P a b)=P a b:=rfl;have c2:cl ar (.str s)= .str s:=rfl;have hi:=t113 (.fn (.func 114) [] [.ip [.fn (.func a) [] [],.fn (.func b) [] []],.ip [.str s]]) (fun x=>nm x== s) l hb (fun _=>rfl) (fun x hx=>t114 (h x hx) s);have ha:ab (P a b)=[.fn (.func a) [] [],.fn (.func b) [] []]:=rfl;have hs:ab (.str s)=[.str s]:=rfl;rw[C84,c1,eY,c2];have e:S84 (af pg) aj (P a b) (sl l) (.str s)=M.pure (sl (aC nm l s)):=by
  simp -implicitDefEqProofs only[S84,ha,hs,hi,aG,aF,am,ao];unfold aC;rcases ga (fun x=>nm x== s) l 0 (by omega)with⟨h1,h2⟩|⟨k,hk,h1,h2⟩
  ·rw[h1,h2];rfl
  ·have hn:¬((0:Int)+(k:Int)<0):=by omega
   have hw:IntKind.i64.wrap ((0:Int)+(k:Int)+1)=(k:Int)+1:=by rw[LV,bE (by omega) (by omega)]
   have hsl:d6 T 22 (sl l) (some (.int .i64 (0+(k:Int)))) (some (.int .i64 ((k:Int)+1))) none=some (sl [l[k]]):=by
    have hok:cO 1 (l.map AV.str)=true:=by
     simp only[cO,MC,J6];exact fun x _=>FE x
    have:=ic (T:=T) (t:=22) (e:=9) rfl rfl rfl (l.map AV.str) hok (a:=0+(k:Int)) (b:=(k:Int)+1) (by omega) (by omega) (by rw[KI];omega)
    rw[show ((k:Int)+1).toNat=k+1 by omega,show ((0:Int)+(k:Int)).toNat=k by omega]at this;refine this.trans ?_;rw[<- Me,<- Mf,K8 hk,Lq (by simp;omega),JQ (by simp;omega)];rfl
   simp -implicitDefEqProofs only[h1,h2,hn,Kv,JL,JZ,aU,am,hw,hsl];rfl
 rw[e];exact ba fun g=>eY g _
def Fq(f:AV)(F:aT->aT->Bool)(a b:List aT)(hb:a.length<=1000000)(hab:a.length=b.length)(hf:∀x∈a,∀y∈b,aW (af pg) f [AV.str x,AV.str y]=M.pure (.bool (F x y))):∀(n i:Nat),a.length-i=n->i<=a.length->
  aj (L85_0 (af pg) aj) [sl b,f,sl a,.int .i64 a.length,.int .i64 i]=M.pure (.bool (bF F (a.drop i) (b.drop i))):=by
 intro n
 induction n with
 |zero=>
  intro i hn hl;obtain rfl:i=a.length:=by omega
  have h1:¬((a.length:Int)<(a.length:Int)):=by omega
  rw[FL85_0,Lm,JQ (by omega:b.length<=a.length)];simp -implicitDefEqProofs only[L85_0,az,aB,aF,am,ao,h1,Kv,JL,JZ,bF]
 |succ n ih=>
  intro i hn hl;have hlt:i<a.length:=by omega
  have hlt':i<b.length:=by omega
  have h1:(i:Int)<(a.length:Int):=by omega
  have hw:IntKind.i64.wrap ((i:Int)+1)=((i+1:Nat):Int):=aS (by omega);have h3:=hf a[i] (JP hlt) b[i] (JP hlt');have h4:=ih (i+1) (by omega) (by omega);rw[FL85_0,gD F a b i hlt hlt'];simp -implicitDefEqProofs only[L85_0,az,aB,aF,am,ao,h1,Kf,J0,ix hlt,ix hlt',ld,aG,h3,cj,aU,hw,h4];cases F a[i] b[i]<;>rfl
def t85(f:AV)(F:aT->aT->Bool)(a b:List aT)(hb:a.length<=1000000)(hc:∀g,cl g f=f)(hf:∀x∈a,∀y∈b,aW (af pg) f [AV.str x,AV.str y]=M.pure (.bool (F x y))):af pg 85 [sl a,sl b,f]=M.pure (.bool (bF F a b)):=by
 rw[C85,eY,eY,hc];have e:S85 (af pg) aj (sl a) (sl b) f=M.pure (.bool (bF F a b)):=by
  simp -implicitDefEqProofs only[S85,ln,am,iT,ao];by_cases h:a.length=b.length
  ·have h2:((a.length:Int) != (b.length:Int))=false:=by simp[h]
   have:=Fq f F a b hb h hf a.length 0 rfl (by omega)
   rw[h2];exact this
  ·have h2:((a.length:Int) != (b.length:Int))=true:=by simp;omega
   rw[h2,dX F a b h];rfl
 rw[e];rfl
def t111(n:Nat)(h:n<=1000000):af pg 111 [.hn,.int .i64 (n:Int)]=M.pure (sl []):=by
 have e0:af pg 111 [.hn,.int .i64 (n:Int)]=gM (af pg) [.hn,.int .i64 (n:Int)]:=dZ aI rfl _;rw[e0];have h1:(decide (0<=(n:Int))&&decide ((n:Int)<=1000000))=true:=by simp;omega
 simp only[gM,h1,JM];rfl
theorem t82(a b c:List aT)(h:a.length+(b.length+c.length)<=1000000):af pg 82 [.sl [sl a,sl b,sl c]]=M.pure (sl (a++(b++c))):=by
 have i0:∀(x y z:List aT),ak T 165 (.sl [sl x,sl y,sl z]) (.int .i64 0)=some (.ip [sl x]):=fun _ _ _=>rfl;have i1:∀(x y z:List aT),ak T 165 (.sl [sl x,sl y,sl z]) (.int .i64 1)=some (.ip [sl y]):=fun _ _ _=>rfl;have i2:∀(x y z:List aT),ak T 165 (.sl [sl x,sl y,sl z]) (.int .i64 2)=some (.ip [sl z]):=fun _ _ _=>rfl;have lL:aP T 165 (.sl [sl a,sl b,sl c])=some (.int .i64 3):=rfl;have lS:∀x:List aT,ah T 22 (.ip [sl x])=some (sl x):=fun _=>rfl;have w0:IntKind.i64.wrap ((0:Int)+(a.length:Int))=(a.length:Int):=by rw[bE (by omega) (by omega)];omega
 have w1:IntKind.i64.wrap ((a.length:Int)+(b.length:Int))=((a.length+b.length:Nat):Int):=by rw[bE (by omega) (by omega)];omega
 have w2:IntKind.i64.wrap (((a.length+b.length:Nat):Int)+(c.length:Int))=((a.length+b.length+c.length:Nat):Int):=by rw[bE (by omega) (by omega)];omega
 have v0:IntKind.i64.wrap ((0:Int)+1)=1:=by decide
 have v1:IntKind.i64.wrap ((1:Int)+1)=2:=by decide
 have v2:IntKind.i64.wrap ((2:Int)+1)=3:=by decide
 have n0:∀n:Nat,decide ((n:Int)<0)=false:=fun n=>by simp
 have k0:decide ((0:Int)<3)=true:=rfl;have k1:decide ((1:Int)<3)=true:=rfl;have k2:decide ((2:Int)<3)=true:=rfl;have k3:decide ((3:Int)<3)=false:=rfl;have g:=t111 (a.length+b.length+c.length) (by omega);have a1:=ap (a:=[]) (b:=a) (by simp only[J8];omega);have a2:=ap (a:=a) (b:=b) (by omega);have a3:=ap (a:=a++b) (b:=c) (by rw[JY];omega);rw[Kt]at a1;have p0:∀x:AV,aj (L82_0 (af pg) aj) [sl [],.sl [sl a,sl b,sl c],.int .i64 3,.int .i64 0]=M.pure (sl (a++(b++c))):=by
  intro _;have q3:aj (L82_0 (af pg) aj) [sl (a++b++c),.sl [sl a,sl b,sl c],.int .i64 3,.int .i64 3]=M.pure (sl (a++(b++c))):=by
   rw[FL82_0];simp -implicitDefEqProofs only[L82_0,az,aB,aF,am,ao,k3,JL,JZ,KL]
  have q2:aj (L82_0 (af pg) aj) [sl (a++b),.sl [sl a,sl b,sl c],.int .i64 3,.int .i64 2]=M.pure (sl (a++(b++c))):=by
   rw[FL82_0];simp -implicitDefEqProofs only[L82_0,az,aB,aF,am,ao,k2,J0,i2,lS,a3,aU,v2];exact q3
  have q1:aj (L82_0 (af pg) aj) [sl a,.sl [sl a,sl b,sl c],.int .i64 3,.int .i64 1]=M.pure (sl (a++(b++c))):=by
   rw[FL82_0];simp -implicitDefEqProofs only[L82_0,az,aB,aF,am,ao,k1,J0,i1,lS,a2,aU,v1];exact q2
  rw[FL82_0];simp -implicitDefEqProofs only[L82_0,az,aB,aF,am,ao,k0,J0,i0,lS,a1,aU,v0];exact q1
 have s3:aj (L82_1 (af pg) aj) [.sl [sl a,sl b,sl c],.int .i64 ((a.length+b.length+c.length:Nat):Int),.sl [sl a,sl b,sl c],.int .i64 3,.int .i64 3]=M.pure (sl (a++(b++c))):=by
  rw[FL82_1];simp -implicitDefEqProofs only[L82_1,az,aB,aF,am,ao,k3,JL,JZ,g,aG,lL];exact p0 .any
 have s2:aj (L82_1 (af pg) aj) [.sl [sl a,sl b,sl c],.int .i64 ((a.length+b.length:Nat):Int),.sl [sl a,sl b,sl c],.int .i64 3,.int .i64 2]=M.pure (sl (a++(b++c))):=by
  rw[FL82_1];simp -implicitDefEqProofs only[L82_1,az,aB,aF,am,ao,k2,J0,i2,lS,ln,aU,w2,n0,JL,JZ,v2];exact s3
 have s1:aj (L82_1 (af pg) aj) [.sl [sl a,sl b,sl c],.int .i64 (a.length:Int),.sl [sl a,sl b,sl c],.int .i64 3,.int .i64 1]=M.pure (sl (a++(b++c))):=by
  rw[FL82_1];simp -implicitDefEqProofs only[L82_1,az,aB,aF,am,ao,k1,J0,i1,lS,ln,aU,w1,n0,JL,JZ,v1];exact s2
 have s0:aj (L82_1 (af pg) aj) [.sl [sl a,sl b,sl c],.int .i64 0,.sl [sl a,sl b,sl c],.int .i64 3,.int .i64 0]=M.pure (sl (a++(b++c))):=by
  rw[FL82_1];simp -implicitDefEqProofs only[L82_1,az,aB,aF,am,ao,k0,J0,i0,lS,ln,aU,w0,n0,JL,JZ,v0];exact s1
 have hcl:cl ar (.sl [sl a,sl b,sl c])= .sl [sl a,sl b,sl c]:=by
  show AV.sl [cl ar (sl a),cl ar (sl b),cl ar (sl c)]=_;rw[eY,eY,eY]
 rw[C82,hcl];have e:S82 (af pg) aj (.sl [sl a,sl b,sl c])=M.pure (sl (a++(b++c))):=by
  simp -implicitDefEqProofs only[S82,lL,am];exact s0
 rw[e];exact ba fun g=>eY g _
def kY(r:List aT×aT×Bool):AV:=.tup [sl r.1,.str r.2.1,.bool r.2.2]
theorem Fg{a b:FuncId}{nm:aT->aT}{same:aT->aT->Bool}(base mine theirs:List aT)(hl:base.length+(mine.length+theirs.length)<=1000000)(hnm:∀x∈base++(mine++theirs),af pg a [AV.str x]=M.pure (.str (nm x)))(hsm:∀x∈base++(mine++theirs),∀y∈base++(mine++theirs),af pg b [AV.str x,AV.str y]=M.pure (.bool (same x y))):∀(n i:Nat)(out:List aT)(done:List aT),(base++(mine++theirs)).length-i=n->i<=(base++(mine++theirs)).length->out.length<=i->done.length<=i->
  aj (L55_0 (af pg) aj) [sl base,sl mine,sl theirs,.ip (ab (P a b)),sl out,strs done,sl (base++(mine++theirs)),.int .i64 (base++(mine++theirs)).length,.int .i64 i]=M.pure (kY (bK nm same base mine theirs ((base++(mine++theirs)).drop i) out done)):=by
 have hL:(base++(mine++theirs)).length<=1000000:=by simp only[JY];omega
 have mb:∀s,∀x∈aC nm base s,x∈base++(mine++theirs):=fun s x h=>Kl _ (bZ nm h).1;have mm:∀s,∀x∈aC nm mine s,x∈base++(mine++theirs):=fun s x h=>J7 _ (Kl _ (bZ nm h).1);have mt:∀s,∀x∈aC nm theirs s,x∈base++(mine++theirs):=fun s x h=>J7 _ (J7 _ (bZ nm h).1);have fb:=fun s=>t84 (a:=a) (b:=b) (nm:=nm) base (by omega) (fun x hx=>hnm x (Kl _ hx)) s;have fm:=fun s=>t84 (a:=a) (b:=b) (nm:=nm) mine (by omega) (fun x hx=>hnm x (J7 _ (Kl _ hx))) s;have ft:=fun s=>t84 (a:=a) (b:=b) (nm:=nm) theirs (by omega) (fun x hx=>hnm x (J7 _ (J7 _ hx))) s;have hq:∀(l r:List aT),l.length<=1000000->(∀x∈l,x∈base++(mine++theirs))->(∀x∈r,x∈base++(mine++theirs))->af pg 85 [sl l,sl r,.fn (.func b) [] []]=M.pure (.bool (bF same l r)):=fun l r h h1 h2=>
  t85 (.fn (.func b) [] []) same l r h (fun _=>rfl) (fun x hx y hy=>hsm x (h1 x hx) y (h2 y hy))
 have q1:=fun s=>hq (aC nm base s) (aC nm mine s) (KP (bJ nm base s) (by decide)) (mb s) (mm s);have q2:=fun s=>hq (aC nm base s) (aC nm theirs s) (KP (bJ nm base s) (by decide)) (mb s) (mt s);have q3:=fun s=>hq (aC nm mine s) (aC nm theirs s) (KP (bJ nm mine s) (by decide)) (mm s) (mt s);have c3:aa T 96 (.ip (ab (P a b))) 0=some (.ip [.fn (.func a) [] [],.fn (.func b) [] []]):=rfl;have c4:ah T 93 (.ip [.fn (.func a) [] [],.fn (.func b) [] []])=some (.fn (.func a) [] []):=rfl;have c5:aa T 96 (.ip (ab (P a b))) 1=some (.ip [.fn (.func b) [] []]):=rfl;have c6:ah T 94 (.ip [.fn (.func b) [] []])=some (.fn (.func b) [] []):=rfl;have c7:ah T 96 (.ip (ab (P a b)))=some (P a b):=rfl;have c8:∀s:aT,aK T 22 1 [(0,.str s)]=some (strs [s]):=fun _=>rfl;intro n
 induction n with
 |zero=>
  intro i out done hn hi ho hd;have h1:¬((i:Int)<((base++(mine++theirs)).length:Int)):=by omega
  rw[FL55_0,JQ (by omega)];simp -implicitDefEqProofs only[L55_0,az,aB,aF,am,ao,h1,Kv,JL,JZ,bK];rfl
 |succ n ih=>
  intro i out done hn hi ho hd;have hlt:i<(base++(mine++theirs)).length:=by omega
  have h1:(i:Int)<((base++(mine++theirs)).length:Int):=by omega
  have hw:IntKind.i64.wrap ((i:Int)+1)=((i+1:Nat):Int):=aS (by omega);have hix:=ix hlt;have hmem:=JP hlt;rw[JS hlt];have hcv:aW (af pg) (.fn (.func a) [] []) [AV.str (base++(mine++theirs))[i]]=M.pure (.str (nm (base++(mine++theirs))[i])):=hnm _ hmem;generalize (base++(mine++theirs))[i]=x at *;have hct:=Hg (nm x) done (by omega);have hap:=oc (a:=done) (b:=[nm x]) (by simp only[Kk];omega);have l1:=bJ nm theirs (nm x);have l2:=bJ nm mine (nm x);have ha1:=ap (a:=out) (b:=aC nm theirs (nm x)) (by omega);have ha2:=ap (a:=out) (b:=aC nm mine (nm x)) (by omega);have i0:=ih (i+1) out done (by omega) (by omega) (by omega) (by omega);have i1:=ih (i+1) (out++aC nm theirs (nm x)) (done++[nm x]) (by omega) (by omega) (by simp only[JY];omega) (by simp only[JY,Kk];omega);have i2:=ih (i+1) (out++aC nm mine (nm x)) (done++[nm x]) (by omega) (by omega) (by simp only[JY];omega) (by simp only[JY,Kk];omega);rw[FL55_0];simp -implicitDefEqProofs only[L55_0,K55_0,oX,az,aB,aF,am,ao,h1,Kf,J0,hix,ld,c3,c4,c5,c6,c7,c8,hcv,aG,hct,hap,fb,fm,ft,cd,q1,q2,q3,ha1,ha2,aU,hw,i0,i1,i2,bK];cases done.contains (nm x)<;>cases bF same (aC nm base (nm x)) (aC nm mine (nm x))<;>cases bF same (aC nm base (nm x)) (aC nm theirs (nm x))<;>cases bF same (aC nm mine (nm x)) (aC nm theirs (nm x))<;>rfl
theorem t55{a b:FuncId}{nm:aT->aT}{same:aT->aT->Bool}(base mine theirs:List aT)(hl:base.length+(mine.length+theirs.length)<=1000000)(hnm:∀x∈base++(mine++theirs),af pg a [AV.str x]=M.pure (.str (nm x)))(hsm:∀x∈base++(mine++theirs),∀y∈base++(mine++theirs),af pg b [AV.str x,AV.str y]=M.pure (.bool (same x y))):af pg 55 [P a b,sl base,sl mine,sl theirs]=M.pure (kY (a7 nm same base mine theirs)):=by
 have h:=Fg base mine theirs hl hnm hsm _ 0 [] [] rfl (by omega) (by simp) (by simp);have hcn:=t82 base mine theirs hl;have c0:aK T 165 3 [(0,sl base),(1,sl mine),(2,sl theirs)]=some (.sl [sl base,sl mine,sl theirs]):=rfl;have cP:cl ar (P a b)=P a b:=rfl;rw[C55,cP,eY,eY,eY];have e:S55 (af pg) aj (P a b) (sl base) (sl mine) (sl theirs)=M.pure (kY (a7 nm same base mine theirs)):=by
  simp -implicitDefEqProofs only[S55,c0,am,hcn,aG,ln];exact h
 rw[e];exact ba fun g=>by
  show AV.tup [cl g (sl _),.str _,.bool _]=_;rw[eY];rfl
end Go.Proofs.YtblddnfanlkgiaaGreat.MgS
namespace Go.Proofs.YtblddnfanlkgiaaGreat.MgF
open Go Go.Av Go.Av.Ap
set_option maxRecDepth 100000
def sl(l:List Fun):AV:=.sl (l.map Fun.av)
def ix{l:List Fun}{i:Nat}(h:i<l.length):ak T 25 (sl l) (.int .i64 (i:Int))=some (.ip (ab (Fun.av l[i]))):=by
 have:=bU (T:=T) (t:=25) (e:=48) rfl rfl rfl (f:=Fun.av) (l:=l) (n:=(i:Int)) (fun _=>by first|rfl|(simp;done)|exact Mg.szF _|(simp;rfl)) (by omega) (by omega)
 rw[JW,J1 l i h]at this;exact this
def ap{a b:List Fun}(h:(a.length+b.length)*184<=140737488355328):ca T 25 (sl a) (sl b)=some (sl (a++b)):=by
 have:=fZ (T:=T) (t:=25) (e:=48) rfl rfl rfl (f:=Fun.av) (fun _=>by first|rfl|(simp;done)|exact Mg.okF _|(simp;rfl)) (a:=a) (b:=b) h (by decide)
 simpa [sl]using this
def ln(l:List Fun):aP T 25 (sl l)=some (.int .i64 l.length):=by
 show some (AV.int .i64 (l.map Fun.av).length)=_;rw[KI]
def FE(x:Fun):cz 12 (Fun.av x)=true:=by first|rfl|(simp;done)|exact Mg.okF x|(simp;rfl)
def ld(x:Fun):ah T 48 (.ip (ab (Fun.av x)))=some (Fun.av x):=by first|rfl|(simp;done)|exact Mg.ldF x
def cm(x:Fun):aO 12 (Fun.av x)=M.pure (Fun.av x):=by first|rfl|(simp;done)|exact Mg.cmF x
def zq(g:Nat->Nat->Nat->Nat->Bool->AV)(x:Fun):cl g (Fun.av x)=Fun.av x:=by first|rfl|(simp;done)|exact Mg.clF g x
def eY(g:Nat->Nat->Nat->Nat->Bool->AV)(l:List Fun):cl g (sl l)=sl l:=by
 show AV.sl (df g (l.map Fun.av))=_;rw[dl g Fun.av (zq g)];rfl
def BQ(f:AV)(F:Fun->Bool)(l:List Fun)(hb:l.length<=1000000)(hf:∀x∈l,aW (af pg) f [Fun.av x]=M.pure (.bool (F x))):∀(n i:Nat),l.length-i=n->i<=l.length->
  aj (L118_0 (af pg) aj) [sl l,f,.int .i64 l.length,.int .i64 i]=M.pure (.int .i64 (be F (l.drop i) i)):=by
 intro n
 induction n with
 |zero=>
  intro i hn hl;obtain rfl:i=l.length:=by omega
  have h1:¬((l.length:Int)<(l.length:Int)):=by omega
  rw[FL118_0];simp -implicitDefEqProofs only[L118_0,az,aB,aF,am,ao,h1,Kv,JL,JZ,Lm,be]
 |succ n ih=>
  intro i hn hl;have hlt:i<l.length:=by omega
  have h1:(i:Int)<(l.length:Int):=by omega
  have hw:IntKind.i64.wrap ((i:Int)+1)=((i+1:Nat):Int):=aS (by omega);have h3:=hf l[i] (JP hlt);have h4:=ih (i+1) (by omega) (by omega);rw[FL118_0,JS hlt];simp -implicitDefEqProofs only[L118_0,az,aB,aF,am,ao,h1,Kf,J0,ix hlt,ld,cm,aG,h3,aU,hw,h4,be];cases F l[i]<;>rfl
def t118(f:AV)(F:Fun->Bool)(l:List Fun)(hb:l.length<=1000000)(hc:∀g,cl g f=f)(hf:∀x∈l,aW (af pg) f [Fun.av x]=M.pure (.bool (F x))):af pg 118 [sl l,f]=M.pure (.int .i64 (be F l 0)):=by
 have h:=BQ f F l hb hf l.length 0 rfl (by omega);rw[C118,eY,hc];have e:S118 (af pg) aj (sl l) f=M.pure (.int .i64 (be F l 0)):=by
  simp -implicitDefEqProofs only[S118,ln,am];exact h
 rw[e];rfl
def P(a b:FuncId):AV:=.agg [.fn (.func a) [] [],.fn (.func b) [] []]
theorem t119{a b:FuncId}{nm:Fun->aT}{x:Fun}(h:af pg a [Fun.av x]=M.pure (.str (nm x)))(s:aT):af pg 119 [Fun.av x,.ip [.fn (.func a) [] [],.fn (.func b) [] []],.ip [.str s]]=M.pure (.bool (nm x== s)):=by
 have h2:aW (kz (af pg)) (.fn (.func a) [] []) [Fun.av x]=M.pure (.str (nm x)):=Mg.iY h;have c1:cl ar (.ip [.fn (.func a) [] [],.fn (.func b) [] []])= .ip [.fn (.func a) [] [],.fn (.func b) [] []]:=rfl;have c2:cl ar (.ip [.str s])= .ip [.str s]:=rfl;have c3:aa T 105 (.ip [.fn (.func a) [] [],.fn (.func b) [] []]) 0=some (.ip [.fn (.func a) [] [],.fn (.func b) [] []]):=rfl;have c4:ah T 103 (.ip [.fn (.func a) [] [],.fn (.func b) [] []])=some (.fn (.func a) [] []):=rfl;have c5:ah T 9 (.ip [.str s])=some (.str s):=rfl;have c6:aw T .eql 9 (.str (nm x)) (.str s)=some (.bool (nm x== s)):=rfl;rw[C119,zq,c1,c2];simp -implicitDefEqProofs only[S119,c3,c4,c5,ld,am,h2,aG,c6];rfl
theorem t90{a b:FuncId}{nm:Fun->aT}(l:List Fun)(hb:l.length<=1000000)(h:∀x∈l,af pg a [Fun.av x]=M.pure (.str (nm x)))(s:aT):af pg 90 [P a b,sl l,.str s]=M.pure (sl (aC nm l s)):=by
 have c1:cl ar (P a b)=P a b:=rfl;have c2:cl ar (.str s)= .str s:=rfl;have hi:=t118 (.fn (.func 119) [] [.ip [.fn (.func a) [] [],.fn (.func b) [] []],.ip [.str s]]) (fun x=>nm x== s) l hb (fun _=>rfl) (fun x hx=>t119 (h x hx) s);have ha:ab (P a b)=[.fn (.func a) [] [],.fn (.func b) [] []]:=rfl;have hs:ab (.str s)=[.str s]:=rfl;rw[C90,c1,eY,c2];have e:S90 (af pg) aj (P a b) (sl l) (.str s)=M.pure (sl (aC nm l s)):=by
  simp -implicitDefEqProofs only[S90,ha,hs,hi,aG,aF,am,ao];unfold aC;rcases ga (fun x=>nm x== s) l 0 (by omega)with⟨h1,h2⟩|⟨k,hk,h1,h2⟩
  ·rw[h1,h2];rfl
  ·have hn:¬((0:Int)+(k:Int)<0):=by omega
   have hw:IntKind.i64.wrap ((0:Int)+(k:Int)+1)=(k:Int)+1:=by rw[LV,bE (by omega) (by omega)]
   have hsl:d6 T 25 (sl l) (some (.int .i64 (0+(k:Int)))) (some (.int .i64 ((k:Int)+1))) none=some (sl [l[k]]):=by
    have hok:cO 12 (l.map Fun.av)=true:=by
     simp only[cO,MC,J6];exact fun x _=>FE x
    have:=ic (T:=T) (t:=25) (e:=48) rfl rfl rfl (l.map Fun.av) hok (a:=0+(k:Int)) (b:=(k:Int)+1) (by omega) (by omega) (by rw[KI];omega)
    rw[show ((k:Int)+1).toNat=k+1 by omega,show ((0:Int)+(k:Int)).toNat=k by omega]at this;refine this.trans ?_;rw[<- Me,<- Mf,K8 hk,Lq (by simp;omega),JQ (by simp;omega)];rfl
   simp -implicitDefEqProofs only[h1,h2,hn,Kv,JL,JZ,aU,am,hw,hsl];rfl
 rw[e];exact ba fun g=>eY g _
def Fc(f:AV)(F:Fun->Fun->Bool)(a b:List Fun)(hb:a.length<=1000000)(hab:a.length=b.length)(hf:∀x∈a,∀y∈b,aW (af pg) f [Fun.av x,Fun.av y]=M.pure (.bool (F x y))):∀(n i:Nat),a.length-i=n->i<=a.length->
  aj (L41_0 (af pg) aj) [sl b,f,sl a,.int .i64 a.length,.int .i64 i]=M.pure (.bool (bF F (a.drop i) (b.drop i))):=by
 intro n
 induction n with
 |zero=>
  intro i hn hl;obtain rfl:i=a.length:=by omega
  have h1:¬((a.length:Int)<(a.length:Int)):=by omega
  rw[FL41_0,Lm,JQ (by omega:b.length<=a.length)];simp -implicitDefEqProofs only[L41_0,az,aB,aF,am,ao,h1,Kv,JL,JZ,bF]
 |succ n ih=>
  intro i hn hl;have hlt:i<a.length:=by omega
  have hlt':i<b.length:=by omega
  have h1:(i:Int)<(a.length:Int):=by omega
  have hw:IntKind.i64.wrap ((i:Int)+1)=((i+1:Nat):Int):=aS (by omega);have h3:=hf a[i] (JP hlt) b[i] (JP hlt');have h4:=ih (i+1) (by omega) (by omega);rw[FL41_0,gD F a b i hlt hlt'];simp -implicitDefEqProofs only[L41_0,az,aB,aF,am,ao,h1,Kf,J0,ix hlt,ix hlt',ld,cm,aG,h3,cj,aU,hw,h4];cases F a[i] b[i]<;>rfl
def t41(f:AV)(F:Fun->Fun->Bool)(a b:List Fun)(hb:a.length<=1000000)(hc:∀g,cl g f=f)(hf:∀x∈a,∀y∈b,aW (af pg) f [Fun.av x,Fun.av y]=M.pure (.bool (F x y))):af pg 41 [sl a,sl b,f]=M.pure (.bool (bF F a b)):=by
 rw[C41,eY,eY,hc];have e:S41 (af pg) aj (sl a) (sl b) f=M.pure (.bool (bF F a b)):=by
  simp -implicitDefEqProofs only[S41,ln,am,iT,ao];by_cases h:a.length=b.length
  ·have h2:((a.length:Int) != (b.length:Int))=false:=by simp[h]
   have:=Fc f F a b hb h hf a.length 0 rfl (by omega)
   rw[h2];exact this
  ·have h2:((a.length:Int) != (b.length:Int))=true:=by simp;omega
   rw[h2,dX F a b h];rfl
 rw[e];rfl
def t117(n:Nat)(h:n<=1000000):af pg 117 [.hn,.int .i64 (n:Int)]=M.pure (sl []):=by
 have e0:af pg 117 [.hn,.int .i64 (n:Int)]=gM (af pg) [.hn,.int .i64 (n:Int)]:=dZ aI rfl _;rw[e0];have h1:(decide (0<=(n:Int))&&decide ((n:Int)<=1000000))=true:=by simp;omega
 simp only[gM,h1,JM];rfl
theorem t89(a b c:List Fun)(h:a.length+(b.length+c.length)<=1000000):af pg 89 [.sl [sl a,sl b,sl c]]=M.pure (sl (a++(b++c))):=by
 have i0:∀(x y z:List Fun),ak T 170 (.sl [sl x,sl y,sl z]) (.int .i64 0)=some (.ip [sl x]):=fun _ _ _=>rfl;have i1:∀(x y z:List Fun),ak T 170 (.sl [sl x,sl y,sl z]) (.int .i64 1)=some (.ip [sl y]):=fun _ _ _=>rfl;have i2:∀(x y z:List Fun),ak T 170 (.sl [sl x,sl y,sl z]) (.int .i64 2)=some (.ip [sl z]):=fun _ _ _=>rfl;have lL:aP T 170 (.sl [sl a,sl b,sl c])=some (.int .i64 3):=rfl;have lS:∀x:List Fun,ah T 25 (.ip [sl x])=some (sl x):=fun _=>rfl;have w0:IntKind.i64.wrap ((0:Int)+(a.length:Int))=(a.length:Int):=by rw[bE (by omega) (by omega)];omega
 have w1:IntKind.i64.wrap ((a.length:Int)+(b.length:Int))=((a.length+b.length:Nat):Int):=by rw[bE (by omega) (by omega)];omega
 have w2:IntKind.i64.wrap (((a.length+b.length:Nat):Int)+(c.length:Int))=((a.length+b.length+c.length:Nat):Int):=by rw[bE (by omega) (by omega)];omega
 have v0:IntKind.i64.wrap ((0:Int)+1)=1:=by decide
 have v1:IntKind.i64.wrap ((1:Int)+1)=2:=by decide
 have v2:IntKind.i64.wrap ((2:Int)+1)=3:=by decide
 have n0:∀n:Nat,decide ((n:Int)<0)=false:=fun n=>by simp
 have k0:decide ((0:Int)<3)=true:=rfl;have k1:decide ((1:Int)<3)=true:=rfl;have k2:decide ((2:Int)<3)=true:=rfl;have k3:decide ((3:Int)<3)=false:=rfl;have g:=t117 (a.length+b.length+c.length) (by omega);have a1:=ap (a:=[]) (b:=a) (by simp only[J8];omega);have a2:=ap (a:=a) (b:=b) (by omega);have a3:=ap (a:=a++b) (b:=c) (by rw[JY];omega);rw[Kt]at a1;have p0:∀x:AV,aj (L89_0 (af pg) aj) [sl [],.sl [sl a,sl b,sl c],.int .i64 3,.int .i64 0]=M.pure (sl (a++(b++c))):=by
  intro _;have q3:aj (L89_0 (af pg) aj) [sl (a++b++c),.sl [sl a,sl b,sl c],.int .i64 3,.int .i64 3]=M.pure (sl (a++(b++c))):=by
   rw[FL89_0];simp -implicitDefEqProofs only[L89_0,az,aB,aF,am,ao,k3,JL,JZ,KL]
  have q2:aj (L89_0 (af pg) aj) [sl (a++b),.sl [sl a,sl b,sl c],.int .i64 3,.int .i64 2]=M.pure (sl (a++(b++c))):=by
   rw[FL89_0];simp -implicitDefEqProofs only[L89_0,az,aB,aF,am,ao,k2,J0,i2,lS,a3,aU,v2];exact q3
  have q1:aj (L89_0 (af pg) aj) [sl a,.sl [sl a,sl b,sl c],.int .i64 3,.int .i64 1]=M.pure (sl (a++(b++c))):=by
   rw[FL89_0];simp -implicitDefEqProofs only[L89_0,az,aB,aF,am,ao,k1,J0,i1,lS,a2,aU,v1];exact q2
  rw[FL89_0];simp -implicitDefEqProofs only[L89_0,az,aB,aF,am,ao,k0,J0,i0,lS,a1,aU,v0];exact q1
 have s3:aj (L89_1 (af pg) aj) [.sl [sl a,sl b,sl c],.int .i64 ((a.length+b.length+c.length:Nat):Int),.sl [sl a,sl b,sl c],.int .i64 3,.int .i64 3]=M.pure (sl (a++(b++c))):=by
  rw[FL89_1];simp -implicitDefEqProofs only[L89_1,az,aB,aF,am,ao,k3,JL,JZ,g,aG,lL];exact p0 .any
 have s2:aj (L89_1 (af pg) aj) [.sl [sl a,sl b,sl c],.int .i64 ((a.length+b.length:Nat):Int),.sl [sl a,sl b,sl c],.int .i64 3,.int .i64 2]=M.pure (sl (a++(b++c))):=by
  rw[FL89_1];simp -implicitDefEqProofs only[L89_1,az,aB,aF,am,ao,k2,J0,i2,lS,ln,aU,w2,n0,JL,JZ,v2];exact s3
 have s1:aj (L89_1 (af pg) aj) [.sl [sl a,sl b,sl c],.int .i64 (a.length:Int),.sl [sl a,sl b,sl c],.int .i64 3,.int .i64 1]=M.pure (sl (a++(b++c))):=by
  rw[FL89_1];simp -implicitDefEqProofs only[L89_1,az,aB,aF,am,ao,k1,J0,i1,lS,ln,aU,w1,n0,JL,JZ,v1];exact s2
 have s0:aj (L89_1 (af pg) aj) [.sl [sl a,sl b,sl c],.int .i64 0,.sl [sl a,sl b,sl c],.int .i64 3,.int .i64 0]=M.pure (sl (a++(b++c))):=by
  rw[FL89_1];simp -implicitDefEqProofs only[L89_1,az,aB,aF,am,ao,k0,J0,i0,lS,ln,aU,w0,n0,JL,JZ,v0];exact s1
 have hcl:cl ar (.sl [sl a,sl b,sl c])= .sl [sl a,sl b,sl c]:=by
  show AV.sl [cl ar (sl a),cl ar (sl b),cl ar (sl c)]=_;rw[eY,eY,eY]
 rw[C89,hcl];have e:S89 (af pg) aj (.sl [sl a,sl b,sl c])=M.pure (sl (a++(b++c))):=by
  simp -implicitDefEqProofs only[S89,lL,am];exact s0
 rw[e];exact ba fun g=>eY g _
def kY(r:List Fun×aT×Bool):AV:=.tup [sl r.1,.str r.2.1,.bool r.2.2]
theorem Fi{a b:FuncId}{nm:Fun->aT}{same:Fun->Fun->Bool}(base mine theirs:List Fun)(hl:base.length+(mine.length+theirs.length)<=1000000)(hnm:∀x∈base++(mine++theirs),af pg a [Fun.av x]=M.pure (.str (nm x)))(hsm:∀x∈base++(mine++theirs),∀y∈base++(mine++theirs),af pg b [Fun.av x,Fun.av y]=M.pure (.bool (same x y))):∀(n i:Nat)(out:List Fun)(done:List aT),(base++(mine++theirs)).length-i=n->i<=(base++(mine++theirs)).length->out.length<=i->done.length<=i->
  aj (L58_0 (af pg) aj) [sl base,sl mine,sl theirs,.ip (ab (P a b)),sl out,strs done,sl (base++(mine++theirs)),.int .i64 (base++(mine++theirs)).length,.int .i64 i]=M.pure (kY (bK nm same base mine theirs ((base++(mine++theirs)).drop i) out done)):=by
 have hL:(base++(mine++theirs)).length<=1000000:=by simp only[JY];omega
 have mb:∀s,∀x∈aC nm base s,x∈base++(mine++theirs):=fun s x h=>Kl _ (bZ nm h).1;have mm:∀s,∀x∈aC nm mine s,x∈base++(mine++theirs):=fun s x h=>J7 _ (Kl _ (bZ nm h).1);have mt:∀s,∀x∈aC nm theirs s,x∈base++(mine++theirs):=fun s x h=>J7 _ (J7 _ (bZ nm h).1);have fb:=fun s=>t90 (a:=a) (b:=b) (nm:=nm) base (by omega) (fun x hx=>hnm x (Kl _ hx)) s;have fm:=fun s=>t90 (a:=a) (b:=b) (nm:=nm) mine (by omega) (fun x hx=>hnm x (J7 _ (Kl _ hx))) s;have ft:=fun s=>t90 (a:=a) (b:=b) (nm:=nm) theirs (by omega) (fun x hx=>hnm x (J7 _ (J7 _ hx))) s;have hq:∀(l r:List Fun),l.length<=1000000->(∀x∈l,x∈base++(mine++theirs))->(∀x∈r,x∈base++(mine++theirs))->af pg 41 [sl l,sl r,.fn (.func b) [] []]=M.pure (.bool (bF same l r)):=fun l r h h1 h2=>
  t41 (.fn (.func b) [] []) same l r h (fun _=>rfl) (fun x hx y hy=>hsm x (h1 x hx) y (h2 y hy))
 have q1:=fun s=>hq (aC nm base s) (aC nm mine s) (KP (bJ nm base s) (by decide)) (mb s) (mm s);have q2:=fun s=>hq (aC nm base s) (aC nm theirs s) (KP (bJ nm base s) (by decide)) (mb s) (mt s);have q3:=fun s=>hq (aC nm mine s) (aC nm theirs s) (KP (bJ nm mine s) (by decide)) (mm s) (mt s);have c3:aa T 105 (.ip (ab (P a b))) 0=some (.ip [.fn (.func a) [] [],.fn (.func b) [] []]):=rfl;have c4:ah T 103 (.ip [.fn (.func a) [] [],.fn (.func b) [] []])=some (.fn (.func a) [] []):=rfl;have c5:aa T 105 (.ip (ab (P a b))) 1=some (.ip [.fn (.func b) [] []]):=rfl;have c6:ah T 79 (.ip [.fn (.func b) [] []])=some (.fn (.func b) [] []):=rfl;have c7:ah T 105 (.ip (ab (P a b)))=some (P a b):=rfl;have c8:∀s:aT,aK T 22 1 [(0,.str s)]=some (strs [s]):=fun _=>rfl;intro n
 induction n with
 |zero=>
  intro i out done hn hi ho hd;have h1:¬((i:Int)<((base++(mine++theirs)).length:Int)):=by omega
  rw[FL58_0,JQ (by omega)];simp -implicitDefEqProofs only[L58_0,az,aB,aF,am,ao,h1,Kv,JL,JZ,bK];rfl
 |succ n ih=>
  intro i out done hn hi ho hd;have hlt:i<(base++(mine++theirs)).length:=by omega
  have h1:(i:Int)<((base++(mine++theirs)).length:Int):=by omega
  have hw:IntKind.i64.wrap ((i:Int)+1)=((i+1:Nat):Int):=aS (by omega);have hix:=ix hlt;have hmem:=JP hlt;rw[JS hlt];have hcv:aW (af pg) (.fn (.func a) [] []) [Fun.av (base++(mine++theirs))[i]]=M.pure (.str (nm (base++(mine++theirs))[i])):=hnm _ hmem;generalize (base++(mine++theirs))[i]=x at *;have hct:=Hg (nm x) done (by omega);have hap:=oc (a:=done) (b:=[nm x]) (by simp only[Kk];omega);have l1:=bJ nm theirs (nm x);have l2:=bJ nm mine (nm x);have ha1:=ap (a:=out) (b:=aC nm theirs (nm x)) (by omega);have ha2:=ap (a:=out) (b:=aC nm mine (nm x)) (by omega);have i0:=ih (i+1) out done (by omega) (by omega) (by omega) (by omega);have i1:=ih (i+1) (out++aC nm theirs (nm x)) (done++[nm x]) (by omega) (by omega) (by simp only[JY];omega) (by simp only[JY,Kk];omega);have i2:=ih (i+1) (out++aC nm mine (nm x)) (done++[nm x]) (by omega) (by omega) (by simp only[JY];omega) (by simp only[JY,Kk];omega);rw[FL58_0];simp -implicitDefEqProofs only[L58_0,K58_0,oX,az,aB,aF,am,ao,h1,Kf,J0,hix,ld,cm,c3,c4,c5,c6,c7,c8,hcv,aG,hct,hap,fb,fm,ft,cd,q1,q2,q3,ha1,ha2,aU,hw,i0,i1,i2,bK];cases done.contains (nm x)<;>cases bF same (aC nm base (nm x)) (aC nm mine (nm x))<;>cases bF same (aC nm base (nm x)) (aC nm theirs (nm x))<;>cases bF same (aC nm mine (nm x)) (aC nm theirs (nm x))<;>rfl
theorem t58{a b:FuncId}{nm:Fun->aT}{same:Fun->Fun->Bool}(base mine theirs:List Fun)(hl:base.length+(mine.length+theirs.length)<=1000000)(hnm:∀x∈base++(mine++theirs),af pg a [Fun.av x]=M.pure (.str (nm x)))(hsm:∀x∈base++(mine++theirs),∀y∈base++(mine++theirs),af pg b [Fun.av x,Fun.av y]=M.pure (.bool (same x y))):af pg 58 [P a b,sl base,sl mine,sl theirs]=M.pure (kY (a7 nm same base mine theirs)):=by
 have h:=Fi base mine theirs hl hnm hsm _ 0 [] [] rfl (by omega) (by simp) (by simp);have hcn:=t89 base mine theirs hl;have c0:aK T 170 3 [(0,sl base),(1,sl mine),(2,sl theirs)]=some (.sl [sl base,sl mine,sl theirs]):=rfl;have cP:cl ar (P a b)=P a b:=rfl;rw[C58,cP,eY,eY,eY];have e:S58 (af pg) aj (P a b) (sl base) (sl mine) (sl theirs)=M.pure (kY (a7 nm same base mine theirs)):=by
  simp -implicitDefEqProofs only[S58,c0,am,hcn,aG,ln];exact h
 rw[e];exact ba fun g=>by
  show AV.tup [cl g (sl _),.str _,.bool _]=_;rw[eY];rfl
end Go.Proofs.YtblddnfanlkgiaaGreat.MgF
namespace Go.Proofs.YtblddnfanlkgiaaGreat.Mg
open Go Go.Av Go.Av.Ap
set_option maxRecDepth 100000
def jP:Mod:=⟨[],[],[],[],[],false,[],[],[]⟩
def AW:aT:=[109,111,118,101]
def Hw(m:Mod)(s:aT)(b:Bool):AV:=.tup [m.av,.str s,.bool b]
def iL(name:aT)(uses:List aT)(l:List Vr)(fs:List Fun)(mv:Bool)(g:Mig):Mod:=⟨name,uses,l.map Prod.fst,l.map Prod.snd,fs,mv,g.old,g.forward,g.back⟩
def eD{α β:Type}(f:α->β)(l:List α)(i:Nat)(h:i<l.length):(l.take i).map f++[f l[i]]=(l.take (i+1)).map f:=by
 rw[Ml,Ka h,Lo];rfl
theorem BU(l:List Vr)(hl:l.length<=1000000)(z0 z1 z2 z3 z4 z5 z6 z7 z8:AV)(name:aT)(uses:List aT)(fs:List Fun)(mv:Bool)(g:Mig):∀(n i:Nat),l.length-i=n->i<=l.length->
  aj (L17_0 (af pg) aj) [MgV.sl l,.int .i64 l.length,.int .i64 i,z0,z1,z2,z3,z4,z5,z6,z7,z8,.str name,strs uses,aN ((l.take i).map Prod.fst),bp ((l.take i).map Prod.snd),dK fs,.bool mv,aN g.old,bp g.forward,bp g.back]=M.pure (Hw (iL name uses l fs mv g) [] true):=by
 intro n
 induction n with
 |zero=>
  intro i hn hi;obtain rfl:i=l.length:=by omega
  have h1:¬((l.length:Int)<(l.length:Int)):=by omega
  have hm:AV.agg [.str name,strs uses,aN (l.map Prod.fst),bp (l.map Prod.snd),dK fs,.bool mv,aN g.old,bp g.forward,bp g.back]=(iL name uses l fs mv g).av:=rfl;rw[FL17_0,Mz];simp -implicitDefEqProofs only[L17_0,az,aB,aF,am,ao,h1,Kv,JL,JZ,hm,d7,aG,bo];rfl
 | succ n ih=>
  intro i hn hi;have hlt:i<l.length:=by omega
  have h1:(i:Int)<(l.length:Int):=by omega
  have hw:IntKind.i64.wrap ((i:Int)+1)=((i+1:Nat):Int):=aS (by omega);have h4:=ih (i+1) (by omega) (by omega);have hix:=MgV.ix hlt;have l0:∀x:Vr,ah T 51 (.ip ((ab (cD x)).drop 0))=some (bi x.1):=fun x=>by rw[lg,eB];rfl
  have l1:∀x:Vr,ah T 46 (.ip ((ab (cD x)).drop 3))=some x.2.av:=fun x=>by rw[lg,Exp.av,Exp.cells_eq];rfl
  have b0:∀f:bI,aK T 23 1 [(0,bi f)]=some (aN [f]):=fun f=>by
   rw[show aN [f]= .sl [bi f]from rfl,eB];rfl
  have b1:∀e:Exp,aK T 24 1 [(0,e.av)]=some (bp [e]):=fun e=>by
   rw[show bp [e]= .sl [e.av]from rfl,Exp.av,Exp.cells_eq];rfl
  have a0:=yD (a:=(l.take i).map Prod.fst) (b:=[l[i].1]) (by rw[KI,KQ,Kk];omega);have a1:=Gg (a:=(l.take i).map Prod.snd) (b:=[l[i].2]) (by rw[KI,KQ,Kk];omega);rw[eD Prod.fst l i hlt]at a0;rw[eD Prod.snd l i hlt]at a1;have c0:∀l:List bI,bR (aN l)=M.pure (aN l):=fun _=>rfl;have c1:∀l:List Exp,bR (bp l)=M.pure (bp l):=fun _=>rfl;rw[FL17_0];simp -implicitDefEqProofs only[L17_0,az,aB,aF,am,ao,h1,Kf,J0,hix,HT,Ix,aG,FV0,FV1,l0,l1,b0,b1,a0,a1,c0,c1,aU,hw];exact h4
def qX(base mine theirs:Mod)(uses:List aT)(l:List Vr):Mod×aT×Bool:=
 let f:=a7 Fun.name fO base.funcs mine.funcs theirs.funcs
 if f.2.2=false then(jP,f.2.1,false)else
 let m:=a7 (fun _=>AW) eM (cb base) (cb mine) (cb theirs)
 if m.2.2=false then(jP,m.2.1,false)else
 match m.1 with
 |[]=>(iL base.name uses l f.1 false ⟨[],[],[]⟩,[],true)
 |g:: _=>
  let o:=cS l (if(mine.moves&&eM ⟨mine.old,mine.forward,mine.back⟩ g)=true then mine else theirs).vars []
  if o.2=false then(jP,AW,false)else(iL base.name uses o.1 f.1 true g,[],true)
def um(r:Mod×aT×Bool):AV:=Hw r.1 r.2.1 r.2.2
theorem GL(l:List bI):bR (aN l)=M.pure (aN l):=rfl
theorem GK(l:List Exp):bR (bp l)=M.pure (bp l):=rfl
theorem GM(l:List Fun):bR (dK l)=M.pure (dK l):=rfl
theorem GN(l:List aT):bR (strs l)=M.pure (strs l):=rfl
theorem jb:aY T false 29 []=some jP.av:=rfl
structure Sm (m:Mod):Prop where
 lim:m.Lim
 vars:m.vars.length<=1000
 init:m.init.length=m.vars.length
 uses:m.uses.length<=1000
 funcs:m.funcs.length<=1000
def jR{m:Mod}(h:m.Lim){x:Mig}(hx:x∈cb m):MigLim x:=by
 unfold cb at hx;split at hx
 ·rw[Le]at hx;subst hx;exact⟨h.old,h.oty,h.forward,h.fes,h.back,h.bes⟩
 ·cases hx
def pj(m:Mod):(cb m).length<=1:=by unfold cb;split<;>simp
theorem mM(l:List Vr):∀(fs:List bI)(out:List Vr),(cS l fs out).1.length<=out.length+fs.length
 |[],out=>by simp[cS]
 | f:: fs,out=>by
  unfold cS;split
  ·simp
  ·rename_i v _
   have:=mM l fs (out++[v])
   rw[JY,Kk]at this;rw[Ke];omega
def Hb(l:List Vr)(fr:List bI)(name:aT)(uses:List aT)(fs:List Fun)(g:Mig):Mod×aT×Bool:=
 if(cS l fr []).2=false then(jP,AW,false)else(iL name uses (cS l fr []).1 fs true g,[],true)
def Gl(l:List Vr)(hl:l.length<=1000000)(fr:List bI)(hv:fr.length<=1000000)(name:aT)(uses:List aT)(fs:List Fun)(g:Mig)(z0 z1 z2 z3 z4 z5 z6 z7 z8 y0 y1 c0 c1 c3 c4 c5 c6 c7 c8:AV):
  K17_0 (af pg) aj [MgV.sl l,z0,z1,z2,z3,z4,z5,z6,z7,z8,.str name,strs uses,y0,y1,dK fs,.bool true,aN g.old,bp g.forward,bp g.back,c0,c1,aN fr,c3,c4,c5,c6,c7,c8]=M.pure (um (Hb l fr name uses fs g)):=by
 have ho:=t61 l fr hl hv;have hlen:=mM l fr [];rw[J8,Ko]at hlen;unfold K17_0 Hb;simp -implicitDefEqProofs only[az,aB,ho,aG,dn,Kd,KO,am,cj,ao,jb,d7,bo,MgV.ln];cases h:(cS l fr []).2 with
 |false=>rfl
 |true=>
  have h2:=BU (cS l fr []).1 (by omega) z0 z1 z2 z3 z4 z5 z6 z7 z8 name uses fs true g _ 0 rfl (by omega);simp -implicitDefEqProofs only[Kx,JL,JZ];exact h2
def mS(g:Nat->Nat->Nat->Nat->Bool->AV)(r:Mod×aT×Bool):cl g (um r)=um r:=by
 show AV.tup [cl g (Mod.av _),.str _,.bool _]=_;rw[de];rfl
def BI{r v:AV}(h:∀g,cl g r=v):aJ (M.pure r)=M.pure v:=by
 funext hp;show R.ok (i4 6 [] r) hp=R.ok v hp;congr 1;exact h _
theorem Cl(base mine theirs:Mod)(hb:Sm base)(hm:Sm mine)(ht:Sm theirs)(uses:List aT)(l:List Vr)(hl:l.length<=1000000):
  ∃r,aj (L17_1 (af pg) aj) [.ip (ab base.av),.ip (ab mine.av),.ip (ab theirs.av),.ip [.fn (.func 51) [] [],.fn (.func 52) [] []],.ip [.fn (.func 53) [] [],.fn (.func 54) [] []],MgV.sl l,MgV.sl l,.int .i64 l.length,.int .i64 l.length,
   .str [],.sl [],.sl [],.sl [],.sl [],.bool false,.sl [],.sl [],.sl [],.str base.name,strs uses,aN (l.map Prod.fst),bp (l.map Prod.snd),.hn,.bool false,.hn,.hn,.hn]=M.pure r/\∀g,cl g r=um (qX base mine theirs uses l):=by
 have h1:¬((l.length:Int)<(l.length:Int)):=by omega
 have hf:af pg 58 [MgF.P 51 52,dK base.funcs,dK mine.funcs,dK theirs.funcs]=M.pure (.tup [dK (a7 Fun.name fO base.funcs mine.funcs theirs.funcs).1,.str (a7 Fun.name fO base.funcs mine.funcs theirs.funcs).2.1,.bool (a7 Fun.name fO base.funcs mine.funcs theirs.funcs).2.2]):=
  MgF.t58 base.funcs mine.funcs theirs.funcs (by have:=hb.funcs;have:=hm.funcs;have:=ht.funcs;omega) (fun x _=>t51 x) (fun x hx y _=>t52 x y (by
   rcases J3.1 hx with h|h
   ·exact hb.lim.fns x h
   ·rcases J3.1 h with h|h
    ·exact hm.lim.fns x h
    ·exact ht.lim.fns x h))
 have hg:af pg 59 [MgM.P 53 54,MgM.sl (cb base),MgM.sl (cb mine),MgM.sl (cb theirs)]=M.pure (.tup [MgM.sl (a7 (fun _=>AW) eM (cb base) (cb mine) (cb theirs)).1,.str (a7 (fun _=>AW) eM (cb base) (cb mine) (cb theirs)).2.1,.bool (a7 (fun _=>AW) eM (cb base) (cb mine) (cb theirs)).2.2]):=
  MgM.t59 (cb base) (cb mine) (cb theirs) (by have:=pj base;have:=pj mine;have:=pj theirs;omega) (fun x _=>t53 x) (fun x hx y _=>t54 x y (by
   rcases J3.1 hx with h|h
   ·exact jR hb.lim h
   ·rcases J3.1 h with h|h
    ·exact jR hm.lim h
    ·exact jR ht.lim h))
 have p1:ah T 105 (.ip [.fn (.func 51) [] [],.fn (.func 52) [] []])=some (MgF.P 51 52):=rfl;have p2:ah T 109 (.ip [.fn (.func 53) [] [],.fn (.func 54) [] []])=some (MgM.P 53 54):=rfl;have f4:∀cs,aa T 29 (.ip cs) 4=some (.ip (cs.drop 4)):=fun _=>rfl;have f5:∀cs,aa T 29 (.ip cs) 5=some (.ip (cs.drop 5)):=fun _=>rfl;have f6:∀cs,aa T 29 (.ip cs) 6=some (.ip (cs.drop 6)):=fun _=>rfl;have l4:∀m:Mod,ah T 25 (.ip ((ab m.av).drop 4))=some (dK m.funcs):=fun m=>by simp
 have l5:∀m:Mod,ah T 4 (.ip ((ab m.av).drop 5))=some (.bool m.moves):=fun m=>by simp
 have l6:∀m:Mod,ah T 27 (.ip ((ab m.av).drop 6))=some (bG ⟨m.old,m.forward,m.back⟩):=fun m=>by
  rw[show (ab m.av).drop 6=[aN m.old,bp m.forward,bp m.back] by simp];rfl
 have lm:∀m:Mod,ah T 29 (.ip (ab m.av))=some m.av:=fun m=>by simp
 have mb:=t60 base;have mm:=t60 mine;have mt:=t60 theirs;rw[FL17_1];unfold qX;simp -implicitDefEqProofs only[L17_1,az,aB,aF,am,ao,h1,Kv,JL,JZ,p1,p2,f4,l4,hf,aG,dn,Kd,KO,GM,cj,jb,d7,lm,mb,mm,mt,cd,hg,MgM.ln,gz];generalize a7 Fun.name fO base.funcs mine.funcs theirs.funcs=f;obtain⟨fl,fs,fb⟩:=f;cases fb with
 |false=>simp -implicitDefEqProofs only[K6,J0,bo];exact⟨_,rfl,fun g=>mS g (jP,_,false)⟩
 | true=>
  simp -implicitDefEqProofs only[Kx,JL,Ln,JZ];generalize a7 (fun _=>AW) eM (cb base) (cb mine) (cb theirs)=q;obtain⟨ql,qs,qb⟩:=q;cases qb with
  |false=>simp -implicitDefEqProofs only[K6,J0,bo];exact⟨_,rfl,fun g=>mS g (jP,_,false)⟩
  | true=>
   simp -implicitDefEqProofs only[Kx,JL,Ln,JZ];cases ql with
   |nil=>
    have hz:(((([]:List Mig).length:Nat):Int)== 0)=true:=rfl;have hm:aH 9 [] (AV.agg [.str base.name,strs uses,aN (l.map Prod.fst),bp (l.map Prod.snd),dK fl,.bool false,.hn,.hn,.hn])=M.pure (AV.agg [.str base.name,strs uses,aN (l.map Prod.fst),bp (l.map Prod.snd),dK fl,.bool false,.hn,.hn,.hn]):=rfl;have ag:∀cs,ab (.agg cs)=cs:=fun _=>rfl;simp -implicitDefEqProofs only[hz,J0,hm,aG,ag,az,aB];refine⟨_,rfl,fun g=>?_⟩;show AV.tup [AV.agg [.str base.name,cl g (strs uses),cl g (aN (l.map Prod.fst)),cl g (bp (l.map Prod.snd)),cl g (dK fl),.bool false,.sl [],.sl [],.sl []],.str [],.bool true]=_;rw[kf,nU,Bj,wz];rfl
   | cons g t=>
    have hz:((((g:: t).length:Nat):Int)== 0)=false:=by rw[J4,Ke];omega
    have hix:ak T 118 (MgM.sl (g:: t)) (.int .i64 0)=some (.ip (ab (bG g))):=MgM.ix (l:=g:: t) (i:=0) (by simp);have hcn:aH 3 [] (bG g)=M.pure (bG g):=by rw[bB (HU g)];rfl
    have hac:ab (bG g)=[aN g.old,bp g.forward,bp g.back]:=rfl;have hsm:af pg 54 [bG ⟨mine.old,mine.forward,mine.back⟩,bG g]=M.pure (.bool (eM ⟨mine.old,mine.forward,mine.back⟩ g)):=t54 _ _ ⟨hm.lim.old,hm.lim.oty,hm.lim.forward,hm.lim.fes,hm.lim.back,hm.lim.bes⟩;have hc1:bR (.bool true)=M.pure (.bool true):=rfl;have K1:=Gl l hl mine.vars (by have:=hm.vars;omega) base.name uses fl g;have K2:=Gl l hl theirs.vars (by have:=ht.vars;omega) base.name uses fl g;simp -implicitDefEqProofs only[hz,JL,JZ,hix,Ja,am,hc1,aG,hcn,d7,oX,f5,l5,f6,l6,hsm,cd,ci,az,fJ,ao];cases (mine.moves&&eM ⟨mine.old,mine.forward,mine.back⟩ g)with
    |true=>
     simp -implicitDefEqProofs only[J0,hac,bo,az,aB];exact⟨_,K1 _ _ _ _ _ _ _ _ _ _ _ _ _ _ _ _ _ _ _,fun g=>mS g _⟩
    |false=>
     simp -implicitDefEqProofs only[JL,JZ,hac,bo,az,aB];exact⟨_,K2 _ _ _ _ _ _ _ _ _ _ _ _ _ _ _ _ _ _ _,fun g=>mS g _⟩
theorem hG{α:Type}(nm:α->aT)(same:α->α->Bool)(a b c:List α):∀(xs out:List α)(done:List aT),(bK nm same a b c xs out done).1.length<=out.length+xs.length
 |[],out,_=>by simp[bK]
 | x:: xs,out,done=>by
  have l1:=bJ nm c (nm x);have l2:=bJ nm b (nm x);unfold bK;rw[Ke];split
  ·have:=hG nm same a b c xs out done;omega
  ·split
   ·have:=hG nm same a b c xs (out++aC nm c (nm x)) (done++[nm x]);rw[JY]at this;omega
   ·split
    ·have:=hG nm same a b c xs (out++aC nm b (nm x)) (done++[nm x]);rw[JY]at this;omega
    ·simp
def i8{α:Type}(nm:α->aT)(same:α->α->Bool)(a b c:List α):(a7 nm same a b c).1.length<=a.length+(b.length+c.length):=by
 have:=hG nm same a b c (a++(b++c)) [] []
 simp only[JY,J8]at this;unfold a7;omega
def BV(base mine theirs:Mod)(hb:Sm base)(hm:Sm mine)(ht:Sm theirs)(uses:List aT)(l:List Vr)(hl:l.length<=1000000):∀(n i:Nat),l.length-i=n->i<=l.length->
  ∃r,aj (L17_1 (af pg) aj) [.ip (ab base.av),.ip (ab mine.av),.ip (ab theirs.av),.ip [.fn (.func 51) [] [],.fn (.func 52) [] []],.ip [.fn (.func 53) [] [],.fn (.func 54) [] []],MgV.sl l,MgV.sl l,.int .i64 l.length,.int .i64 i,
   .str [],.sl [],.sl [],.sl [],.sl [],.bool false,.sl [],.sl [],.sl [],.str base.name,strs uses,aN ((l.take i).map Prod.fst),bp ((l.take i).map Prod.snd),.hn,.bool false,.hn,.hn,.hn]=M.pure r/\∀g,cl g r=um (qX base mine theirs uses l):=by
 intro n
 induction n with
 |zero=>
  intro i hn hi;obtain rfl:i=l.length:=by omega
  rw[Mz];exact Cl base mine theirs hb hm ht uses l hl
 | succ n ih=>
  intro i hn hi;have hlt:i<l.length:=by omega
  have h1:(i:Int)<(l.length:Int):=by omega
  have hw:IntKind.i64.wrap ((i:Int)+1)=((i+1:Nat):Int):=aS (by omega);have h4:=ih (i+1) (by omega) (by omega);have hix:=MgV.ix hlt;have l0:∀x:Vr,ah T 51 (.ip ((ab (cD x)).drop 0))=some (bi x.1):=fun x=>by rw[lg,eB];rfl
  have l1:∀x:Vr,ah T 46 (.ip ((ab (cD x)).drop 3))=some x.2.av:=fun x=>by rw[lg,Exp.av,Exp.cells_eq];rfl
  have b0:∀f:bI,aK T 23 1 [(0,bi f)]=some (aN [f]):=fun f=>by
   rw[show aN [f]= .sl [bi f]from rfl,eB];rfl
  have b1:∀e:Exp,aK T 24 1 [(0,e.av)]=some (bp [e]):=fun e=>by
   rw[show bp [e]= .sl [e.av]from rfl,Exp.av,Exp.cells_eq];rfl
  have a0:=yD (a:=(l.take i).map Prod.fst) (b:=[l[i].1]) (by rw[KI,KQ,Kk];omega);have a1:=Gg (a:=(l.take i).map Prod.snd) (b:=[l[i].2]) (by rw[KI,KQ,Kk];omega);rw[eD Prod.fst l i hlt]at a0;rw[eD Prod.snd l i hlt]at a1;rw[FL17_1];simp -implicitDefEqProofs only[L17_1,az,aB,aF,am,ao,h1,Kf,J0,hix,HT,Ix,aG,FV0,FV1,l0,l1,b0,b1,a0,a1,GL,GK,aU,hw];exact h4
def dq(base mine theirs:Mod):Mod×aT×Bool:=
 let u:=a7 (fun s=>s) (fun x y=>x== y) base.uses mine.uses theirs.uses
 if u.2.2=false then(jP,u.2.1,false)else
 let v:=a7 kB gV (varsOf base) (varsOf mine) (varsOf theirs)
 if v.2.2=false then(jP,v.2.1,false)else qX base mine theirs u.1 v.1
def kb{m:Mod}(h:m.Lim){x:Vr}(hx:x∈varsOf m):x.1.2.Lim/\x.2.Lim:=by
 have:=List.of_mem_zip (a:=x.1) (b:=x.2) hx
 exact⟨h.vty _ this.1,h.ies _ this.2⟩
def iK(m:Mod):(varsOf m).length<=m.vars.length:=by
 simp only[varsOf,Lj];omega
theorem t17(base mine theirs:Mod)(hb:Sm base)(hm:Sm mine)(ht:Sm theirs):af pg 17 [base.av,mine.av,theirs.av]=M.pure (um (dq base mine theirs)):=by
 have hu:af pg 55 [MgS.P 47 48,strs base.uses,strs mine.uses,strs theirs.uses]=M.pure (.tup [strs (a7 (fun s=>s) (fun x y=>x== y) base.uses mine.uses theirs.uses).1,.str (a7 (fun s:aT=>s) (fun x y=>x== y) base.uses mine.uses theirs.uses).2.1,.bool (a7 (fun s:aT=>s) (fun x y=>x== y) base.uses mine.uses theirs.uses).2.2]):=
  MgS.t55 base.uses mine.uses theirs.uses (by have:=hb.uses;have:=hm.uses;have:=ht.uses;omega) (fun x _=>t47 x) (fun x _ y _=>t48 x y)
 have vb:=t57 base (by have:=hb.vars;omega) (by have:=hb.init;omega);have vm:=t57 mine (by have:=hm.vars;omega) (by have:=hm.init;omega);have vt:=t57 theirs (by have:=ht.vars;omega) (by have:=ht.init;omega);have hsum:(varsOf base).length+((varsOf mine).length+(varsOf theirs).length)<=3000:=by
  have:=iK base;have:=iK mine;have:=iK theirs
  have:=hb.vars;have:=hm.vars;have:=ht.vars
  omega
 have hv:af pg 56 [MgV.P 49 50,MgV.sl (varsOf base),MgV.sl (varsOf mine),MgV.sl (varsOf theirs)]=M.pure (.tup [MgV.sl (a7 kB gV (varsOf base) (varsOf mine) (varsOf theirs)).1,.str (a7 kB gV (varsOf base) (varsOf mine) (varsOf theirs)).2.1,.bool (a7 kB gV (varsOf base) (varsOf mine) (varsOf theirs)).2.2]):=
  MgV.t56 (varsOf base) (varsOf mine) (varsOf theirs) (by omega) (fun x _=>t49 x) (fun x hx y _=>by
   have:x.1.2.Lim/\x.2.Lim:=by
    rcases J3.1 hx with h|h
    ·exact kb hb.lim h
    ·rcases J3.1 h with h|h
     ·exact kb hm.lim h
     ·exact kb ht.lim h
   exact t50 x y this.1 this.2)
 have hlen:=i8 kB gV (varsOf base) (varsOf mine) (varsOf theirs);have f0:∀cs,aa T 29 (.ip cs) 0=some (.ip (cs.drop 0)):=fun _=>rfl;have f1:∀cs,aa T 29 (.ip cs) 1=some (.ip (cs.drop 1)):=fun _=>rfl;have l0:∀m:Mod,ah T 9 (.ip ((ab m.av).drop 0))=some (.str m.name):=fun m=>by simp
 have l1:∀m:Mod,ah T 22 (.ip ((ab m.av).drop 1))=some (strs m.uses):=fun m=>by simp
 have lm:∀m:Mod,ah T 29 (.ip (ab m.av))=some m.av:=fun m=>by simp
 have b0:∀s:aT,aY T true 29 [(0,.str s)]=some (.agg [.str s,.hn,.hn,.hn,.hn,.bool false,.hn,.hn,.hn]):=fun _=>rfl;have n0:∀s:aT,aH 9 [2,3] (.agg [.str s,.hn,.hn,.hn,.hn,.bool false,.hn,.hn,.hn])=M.pure (.agg [.str s,.hn,.hn,.hn,.hn,.bool false,.hn,.hn,.hn]):=fun _=>rfl;have ag:∀cs,ab (.agg cs)=cs:=fun _=>rfl;have q1:aY T false 96 [(0,.fn (.func 47) [] []),(1,.fn (.func 48) [] [])]=some (.agg [.fn (.func 47) [] [],.fn (.func 48) [] []]):=rfl;have q2:aY T false 102 [(0,.fn (.func 49) [] []),(1,.fn (.func 50) [] [])]=some (.agg [.fn (.func 49) [] [],.fn (.func 50) [] []]):=rfl;have q3:aY T false 105 [(0,.fn (.func 51) [] []),(1,.fn (.func 52) [] [])]=some (.agg [.fn (.func 51) [] [],.fn (.func 52) [] []]):=rfl;have q4:aY T false 109 [(0,.fn (.func 53) [] []),(1,.fn (.func 54) [] [])]=some (.agg [.fn (.func 53) [] [],.fn (.func 54) [] []]):=rfl;have cc:∀a b:FuncId,aO 2 (.agg [.fn (.func a) [] [],.fn (.func b) [] []])=M.pure (.agg [.fn (.func a) [] [],.fn (.func b) [] []]):=fun _ _=>rfl;have p1:ah T 96 (.ip [.fn (.func 47) [] [],.fn (.func 48) [] []])=some (MgS.P 47 48):=rfl;have p2:ah T 102 (.ip [.fn (.func 49) [] [],.fn (.func 50) [] []])=some (MgV.P 49 50):=rfl;rw[C17,de,de,de];have e:∃r,S17 (af pg) aj base.av mine.av theirs.av=M.pure r/\∀g,cl g r=um (dq base mine theirs):=by
  unfold dq;simp -implicitDefEqProofs only[S17,f0,f1,l0,l1,lm,am,b0,n0,aG,q1,q2,q3,q4,cc,ag,p1,p2,hu,dn,Kd,KO,GN,cj,ao,jb,d7,vb,vm,vt,cd,hv,MgV.ln,az,aB];have key:=fun u v hl=>BV base mine theirs hb hm ht u v hl _ 0 rfl (by omega);generalize a7 (fun s:aT=>s) (fun x y=>x== y) base.uses mine.uses theirs.uses=u;obtain⟨ul,us,ub⟩:=u;cases ub with
  |false=>simp -implicitDefEqProofs only[K6,J0];exact⟨_,rfl,fun g=>mS g (jP,_,false)⟩
  | true=>
   simp -implicitDefEqProofs only[Kx,JL,Ln,JZ];generalize a7 kB gV (varsOf base) (varsOf mine) (varsOf theirs)=v at *;obtain⟨vl,vs,vb⟩:=v;cases vb with
   |false=>simp -implicitDefEqProofs only[K6,J0];exact⟨_,rfl,fun g=>mS g (jP,_,false)⟩
   |true=>
    simp -implicitDefEqProofs only[Kx,JL,Ln,JZ];exact key ul vl (by simp only at hlen;omega)
 obtain⟨r,e1,e2⟩:=e;rw[e1];exact BI e2
end Go.Proofs.YtblddnfanlkgiaaGreat.Mg
namespace Go.Proofs.YtblddnfanlkgiaaGreat
open Go Go.Av Go.Av.Ap
set_option maxRecDepth 100000
theorem zH(k:Int)(es:List Exp):aY T false 46 [(0,.int .i64 k),(5,bp es)]=some (Exp.mk k 0 [] [] [] es).av:=rfl
def rF(e:Exp):aO 6 e.av=M.pure e.av:=by rw[cf (jX _),cn,eC]
def zx(e:Exp):aH 6 [] e.av=M.pure e.av:=by rw[bB (jX _),cn,eC]
def f6(o n:Int)(s m:aT)(ns:List aT)(es:List Exp):AV.agg [.int .i64 o,.int .i64 n,.str s,.str m,strs ns,bp es]=(Exp.mk o n s m ns es).av:=eC (Exp.mk o n s m ns es)
def I4(o n:Int)(s m:aT)(es:List Exp):AV.agg [.int .i64 o,.int .i64 n,.str s,.str m,.sl [],bp es]=(Exp.mk o n s m [] es).av:=eC (Exp.mk o n s m [] es)
def wK(e:Exp)(n:Int):aJ (M.pure (.tup [e.av,.int .i64 n]))=M.pure (.tup [e.av,.int .i64 n]):=ba fun g=>by simp[cl,df]
def cq(o n:Int)(s m:aT)(ns:List aT)(es:List Exp):ab (Exp.mk o n s m ns es).av=[.int .i64 o,.int .i64 n,.str s,.str m,strs ns,bp es]:=cn _
def t108(e:Exp):af pg 108 [e.av]=M.pure (.tup [(fe e).1.av,.int .i64 (fe e).2]):=by
 have hc1:∀n:Int,bR (.int .i64 n)=M.pure (.int .i64 n):=fun n=>rfl;have hc2:∀s:aT,bR (.str s)=M.pure (.str s):=fun s=>rfl;have hc3:∀s:List aT,bR (strs s)=M.pure (strs s):=fun s=>rfl;rw[C108];obtain⟨o,n,s,m,ns,es⟩:=e;have ho:o=0\/o=1\/o=2\/o=17\/o=18\/o=14\/o=16\/o=10\/o=12\/o=11\/o=13\/o=15\/(o≠0/\o≠1/\o≠2/\o≠17/\o≠18/\o≠14/\o≠16/\o≠10/\o≠12/\o≠11/\o≠13/\o≠15):=by omega
 rcases ho with rfl|rfl|rfl|rfl|rfl|rfl|rfl|rfl|rfl|rfl|rfl|rfl|⟨h0,h1,h2,h17,h18,h14,h16,h10,h12,h11,h13,h15⟩
 all_goals first
  | (simp[S108,K108_0,K108_1,K108_2,zH,zx,cq,f6,I4,hc1,hc2,hc3,fe,Exp.op,Exp.n,Exp.s,Exp.m,Exp.names,Exp.args]
     exact wK _ _)
  | (simp[S108,K108_0,K108_1,K108_2,zH,zx,cq,f6,I4,hc1,hc2,hc3,fe,Exp.op,Exp.n,Exp.s,Exp.m,Exp.names,Exp.args,h0,h1,h2,h17,h18,h14,h16,h10,h12,h11,h13,h15]
     exact wK _ _)
theorem Aa(e:Exp)(he:e.Lim):aj (L109_0 (af pg) aj) [.ip (ab e.av),strs e.names,.int .i64 e.names.length,.int .i64 0]=M.pure (.bool (vG e.names)):=by
 have hlen:=he.names
 have hloop:∀(m i:Nat),e.names.length-i=m->i<=e.names.length->aj (L109_0 (af pg) aj) [.ip (ab e.av),strs e.names,.int .i64 e.names.length,.int .i64 i]=M.pure (.bool ((List.range' i (e.names.length-i)).all (fun k=>cJ e.names[k]! && (decide (k=0)||eH e.names[k-1]! e.names[k]!))&&decide (e.names.length<=8))):=by
  intro m
  induction m with
  |zero=>
   intro i hm hi;rw[FL109_0,hm];have h1:¬((i:Int)<(e.names.length:Int)):=by omega
   have h2:decide ((e.names.length:Int)<=8)=decide (e.names.length<=8):=by rw[Lf];omega
   simp[L109_0,h1,h2]
  | succ m ih=>
   intro i hm hi;have hlt:i<e.names.length:=by omega
   have h1:(i:Int)<(e.names.length:Int):=by omega
   have ih':=ih (i+1) (by omega) (by omega);have er:List.range' i (e.names.length-i)=i:: List.range' (i+1) (e.names.length-(i+1)):=by
    rw[show e.names.length-i=(e.names.length-(i+1))+1 by omega,Mr]
   have hix:=nO (l:=e.names) (n:=(i:Int)) (by omega) h1;rw[JW]at hix;have hw:IntKind.i64.wrap ((i:Int)+1)=((i+1:Nat):Int):=aS (by omega);have h2:=t22 e.names[i]!;rw[FL109_0,er,La];generalize e.names[i]! = s at hix h2 |-;cases hn:cJ s with
   |false=>
    rw[hn]at h2;simp[L109_0,h1,hix,h2]
   | true=>
    rw[hn]at h2;rcases Ky i with hk0|hk0
    ·subst hk0;have hix0:ak T 22 (strs e.names) (.int .i64 0)=some (.ip (ab (.str s))):=hix;have hw0:IntKind.i64.wrap 1=1:=rfl;have hlt':0<e.names.length:=hlt;simpa [L109_0,h1,hlt',hix0,h2,hw0]using ih'
    ·have hp:IntKind.i64.wrap ((i:Int)-1)=((i-1:Nat):Int):=by
      rw[bE (by omega) (by omega)];omega
     have h4:((i-1:Nat):Int)<(e.names.length:Int):=by omega
     have hix2:=nO (l:=e.names) (n:=((i-1:Nat):Int)) (by omega) h4;rw[JW]at hix2;generalize e.names[i-1]! = g at hix2 |-;have hk2:0<(i:Int):=by omega
     have hk3:¬i=0:=by omega
     have hle:aw T .leq 9 (.str s) (.str g)=some (.bool (!(eH g s))):=by
      have:aw T .leq 9 (.str s) (.str g)=some (.bool (dT s g||s== g)):=rfl;rw[this];simp[eH]
     cases hs:eH g s with
     |false=>
      rw[hs]at hle;simp[L109_0,h1,hix,h2,hp,hix2,hk0,hk2,hk3,hle,-xi]
     |true=>
      rw[hs]at hle;simpa [L109_0,h1,hix,h2,hp,hix2,hk0,hk2,hk3,hle,hw,-xi]using ih'
 have h:=hloop e.names.length 0 rfl (Ki _);rw[Mv,wv]at h;exact h
theorem t109(e:Exp)(he:e.Lim):af pg 109 [e.av]=M.pure (.bool (fg e)):=by
 rw[C109];have hs:=t22 e.s;have hm:=t22 e.m;have hbn:=Aa e he;obtain⟨o,n,s,m,ns,es⟩:=e;simp only[cq,Exp.names]at hbn;simp only[Exp.s,Exp.m]at hs hm;have ho:o=0\/o=1\/o=2\/o=17\/o=18\/o=14\/o=16\/o=12\/o=13\/o=15\/(o≠0/\o≠1/\o≠2/\o≠17/\o≠18/\o≠14/\o≠16/\o≠12/\o≠13/\o≠15):=by omega
 rcases ho with rfl|rfl|rfl|rfl|rfl|rfl|rfl|rfl|rfl|rfl|⟨h0,h1,h2,h17,h18,h14,h16,h12,h13,h15⟩
 ·simp[S109,K109_0,cq,fg,Exp.op,Exp.n,Exp.s,Exp.m,Exp.names,Exp.args];rfl
 ·simp[S109,K109_0,cq,fg,Exp.op,Exp.n,Exp.s,Exp.m,Exp.names,Exp.args]
 ·simp[S109,K109_0,cq,fg,Exp.op,Exp.n,Exp.s,Exp.m,Exp.names,Exp.args,hs]
 ·simp[S109,K109_0,cq,fg,Exp.op,Exp.n,Exp.s,Exp.m,Exp.names,Exp.args,hs]
 ·simp[S109,K109_0,cq,fg,Exp.op,Exp.n,Exp.s,Exp.m,Exp.names,Exp.args,hs]
 ·simp[S109,K109_0,cq,fg,Exp.op,Exp.n,Exp.s,Exp.m,Exp.names,Exp.args,hs]
 ·simp[S109,K109_0,cq,fg,Exp.op,Exp.n,Exp.s,Exp.m,Exp.names,Exp.args]
 ·simp[S109,K109_0,cq,fg,Exp.op,Exp.n,Exp.s,Exp.m,Exp.names,Exp.args,hs]
 ·simp[S109,K109_0,cq,fg,Exp.op,Exp.n,Exp.s,Exp.m,Exp.names,Exp.args,hbn]
 ·have e6:aw T .leq 3 (.int .i64 es.length) (.int .i64 6)=some (.bool (decide (es.length<=6))):=by
   have:aw T .leq 3 (.int .i64 es.length) (.int .i64 6)=some (.bool (decide ((es.length:Int)<=6))):=rfl;rw[this];exact JU (fun b=>some (AV.bool b)) (Lf.2 (by omega))
  cases ha:cJ s with
  |false=>rw[ha]at hs;simp[S109,K109_0,cq,fg,Exp.op,Exp.n,Exp.s,Exp.m,Exp.names,Exp.args,hs,ha]
  | true=>
   rw[ha]at hs;by_cases hme:m=[]
   ·simp[S109,K109_0,cq,fg,Exp.op,Exp.n,Exp.s,Exp.m,Exp.names,Exp.args,hs,ha,hme,e6,-iS];try rfl
   ·cases hb:cJ m with
    |false=>rw[hb]at hm;simp[S109,K109_0,cq,fg,Exp.op,Exp.n,Exp.s,Exp.m,Exp.names,Exp.args,hs,hm,ha,hb,hme,e6,-iS];try rfl
    |true=>rw[hb]at hm;simp[S109,K109_0,cq,fg,Exp.op,Exp.n,Exp.s,Exp.m,Exp.names,Exp.args,hs,hm,ha,hb,hme,e6,-iS];try rfl
 ·simp[S109,K109_0,cq,fg,Exp.op,Exp.n,Exp.s,Exp.m,Exp.names,Exp.args,h0,h1,h2,h17,h18,h14,h16,h12,h13,h15]
theorem t77:∀(d:Nat),d<=100->∀(e:Exp),e.Lim->af pg 77 [e.av,.int .i64 d]=M.pure (.bool (cU d e))
 |0,_,e,_=>by
  rw[C77];simp[S77,cU]
 | d+1,hd,e,he=>by
  have hlen:=he.len;have hd1:IntKind.i64.wrap (((d+1:Nat):Int)-1)=(d:Int):=rk (by omega);have hloop:∀(m i:Nat),e.args.length-i=m->i<=e.args.length->aj (L77_0 (af pg) aj) [.int .i64 ((d+1:Nat):Int),bp e.args,.int .i64 e.args.length,.int .i64 i]=M.pure (.bool ((e.args.drop i).all (cU d))):=by
   intro m
   induction m with
   |zero=>
    intro i hm hi;have h1:¬((i:Int)<(e.args.length:Int)):=by omega
    have h2:e.args.drop i=[]:=JQ (by omega);rw[FL77_0,h2];simp[L77_0,h1]
   |succ m ih=>
    intro i hm hi;have hlt:i<e.args.length:=by omega
    have h1:(i:Int)<(e.args.length:Int):=by omega
    have h2:e.args.drop i=e.args[i]:: e.args.drop (i+1):=JS hlt;have hix:=jx (l:=e.args) (n:=(i:Int)) (by omega) h1;rw[JW,J1 e.args i hlt]at hix;have hw:IntKind.i64.wrap ((i:Int)+1)=((i+1:Nat):Int):=aS (by omega);have hb:=t77 d (by omega) e.args[i] (he.kid (JP hlt));have ih':=ih (i+1) (by omega) (by omega);rw[h2,La,FL77_0];generalize e.args[i]=x at hix hb |-;cases hr:cU d x<;>rw[hr]at hb <;>
    simp only[L77_0,az,aB,aF,am,h1,Kf,ao,J0,hix,cn,LD46,Ke,J8,Ko,Nat.reduceAdd,JO,KE,KM,eC,rF,aG,A7,hd1,hb,cj,K6,Kx,JL,JZ,aU,hw,ih',Ma,Lg]
  have hx':aj (L77_0 (af pg) aj) [.int .i64 ((d:Int)+1),bp e.args,.int .i64 e.args.length,.int .i64 0]=M.pure (.bool (e.args.all (cU d))):=hloop e.args.length 0 rfl (Ki _);have hc:=t108 e;have hl:=t109 e he;rw[C77,nE];unfold pN;generalize (fe e).1=c at hc |-;generalize (fe e).2=n at hc |-;have g1:(((d:Int)+1)== 0)=false:=by rw[J4];omega
  have x0:aD (.tup [c.av,.int .i64 n]) 0=some c.av:=rfl;have x1:aD (.tup [c.av,.int .i64 n]) 1=some (.int .i64 n):=rfl;have e1:aw T .neq 3 (.int .i64 c.n) (.int .i64 e.n)=some (.bool (!(c.n== e.n))):=rfl;have e2:aw T .neq 9 (.str c.s) (.str e.s)=some (.bool (!(c.s== e.s))):=rfl;have e3:aw T .neq 9 (.str c.m) (.str e.m)=some (.bool (!(c.m== e.m))):=rfl;have e4:aw T .neq 3 (.int .i64 c.names.length) (.int .i64 e.names.length)=some (.bool (!((c.names.length:Int)== (e.names.length:Int)))):=rfl;have e5:aw T .neq 3 (.int .i64 n) (.int .i64 e.args.length)=some (.bool (!(n== (e.args.length:Int)))):=rfl;have e6:aw T .geq 3 (.int .i64 n) (.int .i64 0)=some (.bool (!(decide (n<0)))):=by
   have:aw T .geq 3 (.int .i64 n) (.int .i64 0)=some (.bool (decide (0<=n))):=rfl;rw[this,<- decide_not];exact JU (fun b=>some (AV.bool b)) (Lf.2 (by omega))
  have e7:aw T .lss 3 (.int .i64 e.op) (.int .i64 0)=some (.bool (!(decide (0<=e.op)))):=by
   have:aw T .lss 3 (.int .i64 e.op) (.int .i64 0)=some (.bool (decide (e.op<0))):=rfl;rw[this,<- decide_not];exact JU (fun b=>some (AV.bool b)) (Lf.2 (by omega))
  have e8:aw T .geq 3 (.int .i64 e.op) (.int .i64 19)=some (.bool (!(decide (e.op<19)))):=by
   have:aw T .geq 3 (.int .i64 e.op) (.int .i64 19)=some (.bool (decide (19<=e.op))):=rfl;rw[this,<- decide_not];exact JU (fun b=>some (AV.bool b)) (Lf.2 (by omega))
  generalize (c.n== e.n)=b1 at e1 |-;generalize (c.s== e.s)=b2 at e2 |-;generalize (c.m== e.m)=b3 at e3 |-;generalize ((c.names.length:Int)== (e.names.length:Int))=b4 at e4 |-;generalize (n== (e.args.length:Int))=b5 at e5 |-;generalize decide (n<0)=b6 at e6 |-;generalize decide (0<=e.op)=b7 at e7 |-;generalize decide (e.op<19)=b8 at e8 |-;generalize fg e=bl at hl |-;generalize e.args.all (cU d)=bx at hx' |-;cases b7 with
  |false=>simp[S77,g1,e7,-aF]
  | true=>
   cases b8 with
   |false=>simp[S77,g1,e7,e8,-aF,-rA]
   |true=>
    cases b6<;>cases b5<;>cases b1<;>cases b2<;>cases b3<;>cases b4<;>cases bl<;>simp[S77,g1,hc,x0,x1,rF,hl,hx',e1,e2,e3,e4,e5,e6,e7,e8,-aF,-rA,-iT]
def t25(e:Exp)(he:e.Lim):af pg 25 [e.av]=M.pure (.bool (wZ e)):=by
 have hb':af pg 77 [e.av,.int .i64 12]=M.pure (.bool (cU 12 e)):=t77 12 (by omega) e he;rw[C25];simp[S25,hb']
def setRow(ns:List aT):List AV:=ns.map fun s=>.tup [.str s,.bool true]
theorem EL(a b:aT):xJ T 20 9 (.str a) (.str b)=some (a== b):=rfl
theorem mu(s:aT):(ns:List aT)->(i:Nat)->(ns.contains s=false/\eA T 9 (.str s) (setRow ns) i=some none)\/(ns.contains s=true/\∃(j:Nat)(k:AV),eA T 9 (.str s) (setRow ns) i=some (some (j,k,.bool true)))
 |[],i=>.inl ⟨rfl,rfl⟩
 | x:: ns,i=>by
  show (_/\eA T 9 (.str s) (.tup [.str x,.bool true]:: setRow ns) i=_)\/(_/\∃(j:Nat)(k:AV),eA T 9 (.str s) (.tup [.str x,.bool true]:: setRow ns) i=_);unfold eA;rw[EL,List.contains_cons];cases h:s== x with
  |true=>exact .inr ⟨rfl,i,.str x,rfl⟩
  |false=>
   rcases mu s ns (i+1)with⟨h1,h2⟩|⟨h1,j,k,h2⟩
   ·exact .inl ⟨by rw[h1];rfl,h2⟩
   ·exact .inr ⟨by rw[h1];rfl,j,k,h2⟩
theorem pd{h:Hp}{l:Nat}{ns:List aT}(hl:h[l]? = some [.tup (setRow ns)])(s:aT):eh T 70 (.mp l) (.str s) false h= .ok (.bool (ns.contains s)) h:=by
 have e:nu T 70 (setRow ns) (.str s) false=(match eA T 9 (.str s) (setRow ns) 0 with
   |some (some (_,_,v))=>some v
   |some none=>some (.bool false)
   |none=>none):=rfl
 unfold eh jK;simp only[hl];rw[e];rcases mu s ns 0 with⟨h1,h2⟩|⟨h1,j,k,h2⟩
 ·rw[h2,h1]
 ·rw[h2,h1]
theorem r7{h:Hp}{l:Nat}{ns:List aT}(hl:h[l]? = some [.tup (setRow ns)])(s:aT)(hs:ns.contains s=false):lY T 70 (.mp l) (.str s) (.bool true) h= .ok (.tup []) (h.set l [.tup (setRow (ns++[s]))]):=by
 have e:lY T 70 (.mp l) (.str s) (.bool true) h=(match h[l]? with
   |some [.tup es]=>(match tQ T 9 es (.str s) (.bool true)with
    |some es'=>.ok (.tup []) (h.set l [.tup es'])
    |none=>.fail)
   |_=>.fail):=rfl
 rw[e,hl];simp only;unfold tQ;rcases mu s ns 0 with⟨h1,h2⟩|⟨h1,j,k,h2⟩
 ·rw[h2];simp[setRow]
 ·rw[h1]at hs;cases hs
theorem EY(l:List bI)(hb:l.length<=140737488355328)(ht:∀f∈l,f.2.Lim)(most:Int)(q:Nat):∀(n i:Nat),l.length-i=n->i<=l.length->∀(seen:List aT)(h:Hp),h[q]? = some [.tup (setRow seen)]->
  ∃h',aj (L23_0 (af pg) aj) [aN l,.int .i64 most,.mp q,aN l,.int .i64 l.length,.int .i64 i] h= .ok (.bool (mL seen (l.drop i)&&decide ((l.length:Int)<=most))) h':=by
 intro n
 induction n with
 |zero=>
  intro i hn hi seen h hq;rw[FL23_0];have h1:¬((i:Int)<(l.length:Int)):=by omega
  have h2:l.drop i=[]:=JQ (by omega);rw[h2];exact⟨h,by simp[L23_0,h1,mL,M.pure]⟩
 | succ n ih=>
  intro i hn hi seen h hq;have hlt:i<l.length:=by omega
  have h1:(i:Int)<(l.length:Int):=by omega
  have h2:l.drop i=l[i]:: l.drop (i+1):=JS hlt;have hw:IntKind.i64.wrap ((i:Int)+1)=((i+1:Nat):Int):=aS (by omega);have hix:=iM (l:=l) (n:=(i:Int)) (by omega) h1;rw[JW,J1 l i hlt]at hix;have hfl:=ht _ (JP hlt);have ih':=fun s=>ih (i+1) (by omega) (by omega) (seen++[s]) (h.set q [.tup (setRow (seen++[s]))]);have hql:q<h.length:=(Kn.1 hq).1;rw[h2];generalize l[i]=f at hix hfl |-;have hlk:=pd hq f.1;have hnm:=t22 f.1;have hty:=t24 f.2 hfl;have hcf:aO 3 (bi f)=M.pure (bi f):=by rw[cf (iF f),eG,jN]
  generalize hcode:aj (L23_0 (af pg) aj) [aN l,.int .i64 most,.mp q,aN l,.int .i64 l.length,.int .i64 i] h=code;rw[FL23_0]at hcode;simp -implicitDefEqProofs only[L23_0,az,aB,aF,am,h1,Kf,ao,J0,hix,eG,LD51,Ke,J8,Ko,Nat.reduceAdd,JO,KE,KM,jN,hcf,aG,FA51_0,FA51_1,KG,Lk,LD9]at hcode;rw[aX hlk]at hcode;have eo:mL seen (f:: l.drop (i+1))=(!(seen.contains f.1)&&cJ f.1&&bX f.2&&mL (seen++[f.1]) (l.drop (i+1))):=rfl;rw[eo];cases hc:seen.contains f.1 with
  |true=>
   rw[hc]at hcode;refine⟨h,?_⟩;rw[<- hcode];simp[M.pure]
  | false=>
   rw[hc]at hcode;cases hn2:cJ f.1 with
   |false=>
    rw[hn2]at hnm;refine⟨h,?_⟩;rw[<- hcode];simp[hnm,M.pure]
   | true=>
    rw[hn2]at hnm;cases hr:bX f.2 with
    |false=>
     rw[hr]at hty;refine⟨h,?_⟩;rw[<- hcode];simp[hnm,hty,M.pure]
    |true=>
     rw[hr]at hty;obtain⟨h',e'⟩:=ih' f.1 (by rw[Lb hql]);refine⟨h',?_⟩;have hp:=r7 hq f.1 hc;rw[<- hcode];simp -implicitDefEqProofs only[hnm,hty,aG,cy,cj,Kx,K6,az,cN,ao,JL,JZ,LD44,Ke,J8,Ko,Nat.reduceAdd,JO,J0,KE,KM,ff,am];rw[aX hp];simp only[aU,am,hw,e',Lg]
theorem t23(l:List bI)(hb:l.length<=140737488355328)(ht:∀f∈l,f.2.Lim)(most:Int):af pg 23 [aN l,.int .i64 most]=M.pure (.bool (eE l most)):=by
 obtain⟨h',e⟩:=EY l hb ht most 0 l.length 0 rfl (Ki _) [] ([]++[[.tup []]]) rfl;rw[KG]at e;rw[C23];funext hp;have key:S23 (af pg) aj (cl ar (aN l)) (cl ar (.int .i64 most)) []= .ok (.bool (eE l most)) h':=by
  rw[nU,EF];have hn:fj []= .ok (.mp 0) ([]++[[.tup []]]):=rfl;simp -implicitDefEqProofs only[S23];rw[aX hn];simp only[og,am];exact e
 show aJ _ hp=R.ok (.bool (eE l most)) hp;unfold aJ;rw[key];rfl
def t26(l:List Exp)(hb:l.length<=140737488355328)(ht:∀e∈l,e.Lim)(n:Int):af pg 26 [bp l,.int .i64 n]=M.pure (.bool (l.all wZ&&((l.length:Int)== n))):=by
 have hloop:∀(m i:Nat),l.length-i=m->i<=l.length->aj (L26_0 (af pg) aj) [bp l,.int .i64 n,bp l,.int .i64 l.length,.int .i64 i]=M.pure (.bool ((l.drop i).all wZ&&((l.length:Int)== n))):=by
  intro m
  induction m with
  |zero=>
   intro i hm hi;rw[FL26_0];have h1:¬((i:Int)<(l.length:Int)):=by omega
   have h2:l.drop i=[]:=JQ (by omega);simp[L26_0,h1,h2]
  |succ m ih=>
   intro i hm hi;have hlt:i<l.length:=by omega
   have h1:(i:Int)<(l.length:Int):=by omega
   have h2:l.drop i=l[i]:: l.drop (i+1):=JS hlt;have hw:IntKind.i64.wrap ((i:Int)+1)=((i+1:Nat):Int):=aS (by omega);have hix:=jx (l:=l) (n:=(i:Int)) (by omega) h1;rw[JW,J1 l i hlt]at hix;have hr:=t25 l[i] (ht _ (JP hlt));have ih':=ih (i+1) (by omega) (by omega);rw[h2,La,FL26_0];generalize l[i]=e at hix hr |-;cases hb2:wZ e<;>rw[hb2]at hr <;>
   simp only[L26_0,az,aB,aF,am,h1,Kf,ao,J0,hix,cn,LD46,Ke,J8,Ko,Nat.reduceAdd,JO,KE,KM,eC,rF,aG,hr,cj,Kx,K6,JL,JZ,aU,hw,ih',Lg,Ma]
 have h:=hloop l.length 0 rfl (Ki _);rw[KG]at h;have h':aj (L26_0 (af pg) aj) [bp l,.int .i64 n,bp l,.int .i64 l.length,.int .i64 0]=M.pure (.bool (l.all wZ&&((l.length:Int)== n))):=h;rw[C26];simp[S26,h']
def Bp(f:Fun):aO 12 f.av=M.pure f.av:=by rw[cf (lQ f),iP,lD]
theorem Fx(m:Ap.Mod)(hm:m.Lim)(q:Nat)(R:Bool)(hend:∀h:Hp,∃h',aj (L8_0 (af pg) aj) [.ip (ab m.av),.mp q,dK m.funcs,.int .i64 m.funcs.length,.int .i64 m.funcs.length] h= .ok (.bool R) h'):∀(n i:Nat),m.funcs.length-i=n->i<=m.funcs.length->∀(seen:List aT)(h:Hp),h[q]? = some [.tup (setRow seen)]->
  ∃h',aj (L8_0 (af pg) aj) [.ip (ab m.av),.mp q,dK m.funcs,.int .i64 m.funcs.length,.int .i64 i] h= .ok (.bool (iG seen (m.funcs.drop i)&&R)) h':=by
 have hb:=hm.funcs;intro n
 induction n with
 |zero=>
  intro i hn hi seen h hq;have h2:m.funcs.drop i=[]:=JQ (by omega);obtain rfl:i=m.funcs.length:=by omega
  rw[h2];exact hend h
 | succ n ih=>
  intro i hn hi seen h hq;have hlt:i<m.funcs.length:=by omega
  have h1:(i:Int)<(m.funcs.length:Int):=by omega
  have h2:m.funcs.drop i=m.funcs[i]:: m.funcs.drop (i+1):=JS hlt;have hw:IntKind.i64.wrap ((i:Int)+1)=((i+1:Nat):Int):=aS (by omega);have hix:=p7 (l:=m.funcs) (n:=(i:Int)) (by omega) h1;rw[JW,J1 m.funcs i hlt]at hix;have hfl:=hm.fns _ (JP hlt);have ih':=fun s=>ih (i+1) (by omega) (by omega) (seen++[s]) (h.set q [.tup (setRow (seen++[s]))]);have hql:q<h.length:=(Kn.1 hq).1;rw[h2];generalize m.funcs[i]=f at hix hfl |-;have hlk:=pd hq f.name;have hnm:=t22 f.name;have hps:=t23 f.params hfl.params hfl.pty 6;have hty:=t24 f.result hfl.result;have hre:=t25 f.body hfl.body;have hex:aw T .andNot 3 (.int .i64 f.effects) (.int .i64 15)=some (.int .i64 (fV f.effects 15)):=rfl;generalize hcode:aj (L8_0 (af pg) aj) [.ip (ab m.av),.mp q,dK m.funcs,.int .i64 m.funcs.length,.int .i64 i] h=code;rw[FL8_0]at hcode;simp -implicitDefEqProofs only[L8_0,az,aB,aF,am,h1,Kf,ao,J0,hix,iP,LD48,Ke,J8,Ko,Nat.reduceAdd,JO,KE,KM,lD,Bp,aG,FA48_0,KG,LD9]at hcode;rw[aX hlk]at hcode;have eo:iG seen (f:: m.funcs.drop (i+1))=(!(seen.contains f.name)&&vg f&&iG (seen++[f.name]) (m.funcs.drop (i+1))):=rfl;rw[eo];unfold vg;cases hc:seen.contains f.name with
  |true=>
   rw[hc]at hcode;refine⟨h,?_⟩;rw[<- hcode];simp[M.pure]
  | false=>
   rw[hc]at hcode;cases hn2:cJ f.name with
   |false=>rw[hn2]at hnm;refine⟨h,?_⟩;rw[<- hcode];simp[hnm,M.pure]
   | true=>
    rw[hn2]at hnm;cases hp2:eE f.params 6 with
    |false=>rw[hp2]at hps;refine⟨h,?_⟩;rw[<- hcode];simp[hnm,hps,M.pure]
    | true=>
     rw[hp2]at hps;cases hr:bX f.result with
     |false=>rw[hr]at hty;refine⟨h,?_⟩;rw[<- hcode];simp[hnm,hps,hty,M.pure]
     | true=>
      rw[hr]at hty;cases hrb:wZ f.body with
      |false=>rw[hrb]at hre;refine⟨h,?_⟩;rw[<- hcode];simp[hnm,hps,hty,hre,M.pure]
      | true=>
       rw[hrb]at hre;by_cases he:fV f.effects 15=0
       ·obtain⟨h',e'⟩:=ih' f.name (by rw[Lb hql]);refine⟨h',?_⟩;have hp:=r7 hq f.name hc;rw[<- hcode];have e'':=e';simp only[bo]at e'';simp[hnm,hps,hty,hre,hex,he];rw[aX hp];simpa [hw]using e''
       ·refine⟨h,?_⟩;rw[<- hcode];have he':(fV f.effects 15== 0)=false:=J4.2 he;simp[hnm,hps,hty,hre,hex,he,he',M.pure]
def IC(m:Ap.Mod)(hm:m.Lim)(q:Nat)(h:Hp):∃h',aj (L8_0 (af pg) aj) [.ip (ab m.av),.mp q,dK m.funcs,.int .i64 m.funcs.length,.int .i64 m.funcs.length] h= .ok (.bool (nC m)) h':=by
 have hnm:=t22 m.name;have hv:=t23 m.vars hm.vars hm.vty 8;have hi:=t26 m.init hm.init hm.ies m.vars.length;have ho:=t23 m.old hm.old hm.oty 8;have hf:=fun n=>t26 m.forward hm.forward hm.fes n;have hb:=t26 m.back hm.back hm.bes m.old.length;refine⟨h,?_⟩;rw[FL8_0];unfold nC;generalize eE m.vars 8=b1 at hv |-;generalize (m.init.all wZ&&((m.init.length:Int)== (m.vars.length:Int)))=b2 at hi |-;generalize eE m.old 8=b3 at ho |-;generalize (m.back.all wZ&&((m.back.length:Int)== (m.old.length:Int)))=b4 at hb |-;cases hn:cJ m.name with
 |false=>rw[hn]at hnm;simp[L8_0,hnm,M.pure]
 | true =>
  rw[hn]at hnm;by_cases hu:m.uses.length<=12
  ·have hu':¬(12<(m.uses.length:Int)):=by omega
   by_cases hfn:m.funcs.length<=30
   ·have hfn':¬(30<(m.funcs.length:Int)):=by omega
    cases b1 with
    |false=>simp[L8_0,hnm,hu,hu',hfn,hfn',hv,M.pure]
    | true=>
     cases b2 with
     |false=>simp[L8_0,hnm,hu,hu',hfn,hfn',hv,hi,M.pure]
     | true=>
      cases hmv:m.moves with
      |true=>
       have hfv:=hf m.vars.length;rw[JV rfl];generalize (m.forward.all wZ&&((m.forward.length:Int)== (m.vars.length:Int)))=b5 at hfv |-;cases b3<;>cases b5<;>cases b4<;>simp[L8_0,K8_0,hnm,hu,hu',hfn,hfn',hv,hi,ho,hfv,hb,hmv,M.pure]
      | false=>
       have hfv:=hf 0;rw[if_neg (by decide)];generalize (m.forward.all wZ&&((m.forward.length:Int)== 0))=b5 at hfv |-;by_cases hz:0<m.old.length
       ·have hz':0<(m.old.length:Int):=by omega
        have hz2:¬m.old.length=0:=by omega
        simp[L8_0,K8_0,hnm,hu,hu',hfn,hfn',hv,hi,hmv,hz,hz',hz2,M.pure]
       ·have hz':¬0<(m.old.length:Int):=by omega
        have hz2:m.old.length=0:=by omega
        have hb0:af pg 26 [bp m.back,.int .i64 0]=M.pure (.bool b4):=by
         rw[hz2]at hb;exact hb
        cases b3<;>cases b5<;>cases b4<;>simp[L8_0,K8_0,hnm,hu,hu',hfn,hfn',hv,hi,ho,hfv,hb0,hmv,hz,hz',hz2,M.pure]
   ·have hfn':30<(m.funcs.length:Int):=by omega
    simp[L8_0,hnm,hu,hu',hfn,hfn',M.pure]
  ·have hu':12<(m.uses.length:Int):=by omega
   simp[L8_0,hnm,hu,hu',M.pure]
theorem Fy(m:Ap.Mod)(hm:m.Lim)(q:Nat)(R:Bool)(hend:∀h:Hp,∃h',aj (L8_1 (af pg) aj) [.ip (ab m.av),.mp q,strs m.uses,.int .i64 m.uses.length,.int .i64 m.uses.length] h= .ok (.bool R) h'):∀(n i:Nat),m.uses.length-i=n->i<=m.uses.length->∀(seen:List aT)(h:Hp),h[q]? = some [.tup (setRow seen)]->
  ∃h',aj (L8_1 (af pg) aj) [.ip (ab m.av),.mp q,strs m.uses,.int .i64 m.uses.length,.int .i64 i] h= .ok (.bool (qj seen (m.uses.drop i)&&R)) h':=by
 have hb:=hm.uses;intro n
 induction n with
 |zero=>
  intro i hn hi seen h hq;have h2:m.uses.drop i=[]:=JQ (by omega);obtain rfl:i=m.uses.length:=by omega
  rw[h2];exact hend h
 | succ n ih=>
  intro i hn hi seen h hq;have hlt:i<m.uses.length:=by omega
  have h1:(i:Int)<(m.uses.length:Int):=by omega
  have h2:m.uses.drop i=m.uses[i]:: m.uses.drop (i+1):=JS hlt;have hw:IntKind.i64.wrap ((i:Int)+1)=((i+1:Nat):Int):=aS (by omega);have hix:=nO (l:=m.uses) (n:=(i:Int)) (by omega) h1;rw[JW,J1 m.uses i hlt]at hix;have ih':=fun s=>ih (i+1) (by omega) (by omega) (seen++[s]) (h.set q [.tup (setRow (seen++[s]))]);have hql:q<h.length:=(Kn.1 hq).1;rw[h2];generalize m.uses[i]=s at hix |-;have hlk:=pd hq s;have hnm:=t22 s;generalize hcode:aj (L8_1 (af pg) aj) [.ip (ab m.av),.mp q,strs m.uses,.int .i64 m.uses.length,.int .i64 i] h=code;rw[FL8_1]at hcode;simp -implicitDefEqProofs only[L8_1,az,aB,aF,am,h1,Kf,ao,J0,hix,dD,LD9]at hcode;rw[aX hlk]at hcode;have eo:qj seen (s:: m.uses.drop (i+1))=(!(seen.contains s)&&cJ s&&qj (seen++[s]) (m.uses.drop (i+1))):=rfl;rw[eo];cases hc:seen.contains s with
  |true=>
   rw[hc]at hcode;refine⟨h,?_⟩;rw[<- hcode];simp[M.pure]
  | false=>
   rw[hc]at hcode;cases hn2:cJ s with
   |false=>rw[hn2]at hnm;refine⟨h,?_⟩;rw[<- hcode];simp[hnm,M.pure]
   |true=>
    rw[hn2]at hnm;obtain⟨h',e'⟩:=ih' s (by rw[Lb hql]);refine⟨h',?_⟩;have hp:=r7 hq s hc;rw[<- hcode];have e'':=e';simp only[bo]at e'';simp[hnm];rw[aX hp];simpa [hw]using e''
theorem t8(m:Ap.Mod)(hm:m.Lim):af pg 8 [m.av]=M.pure (.bool (aZ m)):=by
 have hend:∀h:Hp,∃h',aj (L8_1 (af pg) aj) [.ip (ab m.av),.mp 0,strs m.uses,.int .i64 m.uses.length,.int .i64 m.uses.length] h= .ok (.bool (iG [] m.funcs&&nC m)) h':=fun h=>by
  have h1:¬((m.uses.length:Int)<(m.uses.length:Int)):=by omega
  obtain⟨h',e⟩:=Fx m hm h.length (nC m) (fun h=>IC m hm _ h) m.funcs.length 0 rfl (Ki _) [] (h++[[.tup []]]) (by simp[setRow]);rw[KG]at e;refine⟨h',?_⟩;rw[FL8_1];have hn:fj h= .ok (.mp h.length) (h++[[.tup []]]):=rfl;simp only[bo]at e;simp -implicitDefEqProofs only[L8_1,az,aB,aF,am,h1,Kv,ao,JL,JZ];rw[aX hn];simp only[bo,FA29_4,Lk,KG,am,LD25,yG];exact e
 obtain⟨h',e⟩:=Fy m hm 0 _ hend m.uses.length 0 rfl (Ki _) [] ([]++[[.tup []]]) rfl;rw[KG]at e;rw[C8];funext hp;have key:S8 (af pg) aj (cl ar m.av) []= .ok (.bool (aZ m)) h':=by
  have hn:fj []= .ok (.mp 0) ([]++[[.tup []]]):=rfl;simp only[bo]at e;rw[de];simp -implicitDefEqProofs only[S8];rw[aX hn];simp only[bo,FA29_1,Lk,KG,am,LD22,jy];exact e
 show aJ _ hp=R.ok (.bool (aZ m)) hp;unfold aJ;rw[key];rfl
def Hv(q:Nat)(m:Ap.Mod)(mp:AV)(h:Hp):Tr Ty->Av.R AV
 |.ok t n=>.ok (.tup [t.av,.int .i64 0]) (h.set q (bg m mp n))
 |.er b n=>.ok (.tup [ty0.av,.int .i64 b]) (h.set q (bg m mp n))
def Je(q:Nat)(m:Ap.Mod)(mp:AV)(h:Hp)(acc:List Ty):Tr (List Ty)->Av.R AV
 |.ok ts n=>.ok (.tup [gy (acc++ts),.int .i64 0]) (h.set q (bg m mp n))
 |.er b n=>.ok (.tup [.sl [],.int .i64 b]) (h.set q (bg m mp n))
def kE(q:Nat)(m:Ap.Mod)(mp:AV)(fs:List Face)(d:Nat):Prop:=∀(ls:List bI)(e:Exp)(n:Int)(h:Hp),cU d e=true->e.Lim->(∀z∈ls,dJ z.2)->ls.length+d<=1000000->JR h q m mp fs n->
 af pg 20 [.hp q 0,aN ls,e.av] h=Hv q m mp h (bL (dL m fs) d ls e n)/\∀t n',bL (dL m fs) d ls e n= .ok t n'->dJ t
def Cg{q:Nat}{m:Ap.Mod}{mp:AV}{fs:List Face}{d:Nat}(P:kE q m mp fs d)(ls:List bI)(hls:∀z∈ls,dJ z.2)(hll:ls.length+d<=1000000)(es:List Exp)(hes:es.length<=140737488355328)(he:∀e∈es,cU d e=true/\e.Lim):∀(k i:Nat)(acc:List Ty)(n:Int)(h:Hp),es.length-i=k->i<=es.length->acc.length<=i->es.length<=1000000->JR h q m mp fs n->
  aj (L70_0 (af pg) aj) [.hp q 0,aN ls,gy acc,bp es,.int .i64 es.length,.int .i64 i] h=Je q m mp h acc (dR (bL (dL m fs) d ls) (es.drop i) n)/\∀ts n',dR (bL (dL m fs) d ls) (es.drop i) n= .ok ts n'->ts.length=es.length-i/\∀t∈ts,dJ t:=by
 intro k
 induction k with
 | zero=>
  intro i acc n h hk hi ha hs R;have h1:¬((i:Int)<(es.length:Int)):=by omega
  have h2:es.drop i=[]:=JQ (by omega);rw[h2];refine⟨?_,fun ts n' ht=>?_⟩
  ·rw[FL70_0];show _=Av.R.ok (AV.tup [gy (acc++[]),.int .i64 0]) (h.set q (bg m mp n));rw[R.same,L6];simp[L70_0,h1];rfl
  ·cases ht;exact⟨by simp;omega,fun t ht=>by cases ht⟩
 | succ k ih=>
  intro i acc n h hk hi ha hs R;have hlt:i<es.length:=by omega
  have h1:(i:Int)<(es.length:Int):=by omega
  have h2:es.drop i=es[i]:: es.drop (i+1):=JS hlt;have hw:IntKind.i64.wrap ((i:Int)+1)=(i:Int)+1:=aS (by omega);have hix:=jx (l:=es) (n:=(i:Int)) (by omega) h1;rw[JW,J1 es i hlt]at hix;obtain⟨hr,hl⟩:=he es[i] (JP hlt);obtain⟨p1,p2⟩:=P ls es[i] n h hr hl hls hll R;rw[h2];have hne:=ia (dL m fs) d ls es[i] n;generalize es[i]=e at hix hr hl p1 p2 hne |-;generalize hcode:aj (L70_0 (af pg) aj) [.hp q 0,aN ls,gy acc,bp es,.int .i64 es.length,.int .i64 i] h=code;rw[FL70_0]at hcode;simp -implicitDefEqProofs only[L70_0,az,aB,aF,am,h1,Kf,ao,J0,hix,cn,LD46,Ke,J8,Ko,Nat.reduceAdd,JO,KE,KM,eC,rF,aG]at hcode;cases ht:bL (dL m fs) d ls e n with
  | er b n'=>
   rw[ht]at p1;have hb:(b != 0)=true:=Ll.2 (hne b n' ht);have hz:aO 2 ty0.av=M.pure ty0.av:=Av.iu ty0;rw[aX p1]at hcode;simp -implicitDefEqProofs only[dn,Kd,KO,am,hz,aG,iT,hb,ao,J0]at hcode;have e1:dR (bL (dL m fs) d ls) (e:: es.drop (i+1)) n= .er b n':=by
    simp only[dR,dU.bind,ht]
   rw[e1];exact⟨hcode.symm,fun ts n'' h3=>by cases h3⟩
  | ok t n'=>
   rw[ht]at p1;rw[aX p1]at hcode;have R':=R.set n';obtain⟨i1,i2⟩:=ih (i+1) (acc++[t]) n' (h.set q (bg m mp n')) (by omega) (by omega) (by simp;omega) hs R';have hap:=Gh (a:=acc) (b:=[t]) (by simp;omega);have hsl:aK T 88 1 [(0,t.av)]=some (gy [t]):=by cases t;rfl
   have i1':aj (L70_0 (af pg) aj) [.hp q 0,aN ls,gy (acc++[t]),bp es,.int .i64 es.length,.int .i64 ((i:Int)+1)] (h.set q (bg m mp n'))=_:=i1;simp -implicitDefEqProofs only[dn,Kd,KO,am,Av.iu,aG,iT,bne_self_eq_false,ao,JL,JZ,eQ,LD44,Ke,J8,Ko,Nat.reduceAdd,JO,J0,KE,KM,ff,hsl,hap,aU,hw,i1']at hcode;have e1:dR (bL (dL m fs) d ls) (e:: es.drop (i+1)) n=(match dR (bL (dL m fs) d ls) (es.drop (i+1)) n' with|.ok ts n''=>.ok (t:: ts) n''|.er b n''=>.er b n''):=by
    simp only[dR,dU.bind,ht];cases dR (bL (dL m fs) d ls) (es.drop (i+1)) n'<;>rfl
   rw[e1];cases hL:dR (bL (dL m fs) d ls) (es.drop (i+1)) n' with
   |er b n''=>
    rw[hL]at hcode;refine⟨?_,fun ts n'' h3=>by cases h3⟩;rw[<- hcode];show Av.R.ok _ _=Av.R.ok _ _;rw[Jw]
   | ok ts n''=>
    rw[hL]at hcode;obtain⟨j1,j2⟩:=i2 ts n'' hL;refine⟨?_,fun us n3 h3=>?_⟩
    ·rw[<- hcode];show Av.R.ok _ _=Av.R.ok _ _;rw[Jw,KL];rfl
    ·cases h3;refine⟨by simp only[Ke];omega,fun u hu=>?_⟩;rcases Kc.1 hu with rfl|hu
     ·exact p2 _ _ ht
     ·exact j2 u hu
def Jc{q:Nat}{m:Ap.Mod}{mp:AV}{fs:List Face}{d:Nat}(P:kE q m mp fs d)(ls:List bI)(hls:∀z∈ls,dJ z.2)(hll:ls.length+d<=1000000)(es:List Exp)(hes:es.length<=1000000)(he:∀e∈es,cU d e=true/\e.Lim)(n:Int)(h:Hp)(R:JR h q m mp fs n):
  af pg 70 [.hp q 0,aN ls,bp es] h=Je q m mp h [] (dR (bL (dL m fs) d ls) es n)/\∀ts n',dR (bL (dL m fs) d ls) es n= .ok ts n'->ts.length=es.length/\∀t∈ts,dJ t:=by
 obtain⟨h1,h2⟩:=Cg P ls hls hll es (by omega) he es.length 0 [] n h rfl (Ki _) (Ki _) hes R;rw[KG]at h1 h2;refine⟨?_,fun ts n' ht=>h2 ts n' ht⟩;rw[<- h1,C70];simp only[S70,yF,am];rfl
end Go.Proofs.YtblddnfanlkgiaaGreat
