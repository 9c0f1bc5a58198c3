/- The abstract evaluator of the model and plain laws, part 4: its soundness holds for every program whose table of types is the evaluator's. No further condition. -/
import Derived.Test.YtpmcemjkdkbicaaGreatDoorLc
import Derived.Sort.MapsRangeIn
import Derived.Maps.OwnIn
import Derived.RangeFuncSeq
import Derived.Lib.AtoiAllCases
import Derived.Lib.Split
import Derived.Lib.IndexBytes
import Derived.Sort.AssemblyPlain
set_option linter.defProp false
set_option linter.unusedSimpArgs false
set_option linter.unusedVariables false
namespace Go.Av.Ap
open Go Go.Av
def dC{e:Exp}(h:di e=true):(e.op=0/\e.args.length=0)\/(e.op=1/\e.args.length=0/\(e.n=0\/e.n=1))\/(e.op=2/\e.args.length=0)\/((e.op=3\/e.op=4\/e.op=5\/e.op=6\/e.op=7)/\e.args.length=2)\/((e.op=8\/e.op=9)/\e.args.length=2)\/(e.op=10/\e.args.length=1)\/(e.op=11/\e.args.length=3)\/(e.op=12/\e.args.length=2)\/(e.op=13/\e.names.length=e.args.length/\d9 e.names=true)\/(e.op=14/\e.args.length=1)\/e.op=15\/(e.op=16/\e.args.length=1/\(e.n=1\/e.n=2\/e.n=4\/e.n=8))\/(e.op=17/\e.args.length=0)\/(e.op=18/\e.args.length=1):=by
 have hb:0<=e.op/\e.op<19:=by
  unfold di at h;simp only[LD,LB]at h;exact⟨h.1.1.1.1.1.1.1,h.1.1.1.1.1.1.2⟩
 have ho:e.op=0\/e.op=1\/e.op=2\/e.op=3\/e.op=4\/e.op=5\/e.op=6\/e.op=7\/e.op=8\/e.op=9\/e.op=10\/e.op=11\/e.op=12\/e.op=13\/e.op=14\/e.op=15\/e.op=16\/e.op=17\/e.op=18:=by omega
 rcases ho with o|o|o|o|o|o|o|o|o|o|o|o|o|o|o|o|o|o|o<;>simp[di,eY,dI,o,-List.length_eq_zero_iff]at h|- <;> first|omega|grind
def fw:Nat->Nat
 |0=>0
 |n+1=>3+8*fw n
def iU(c:List Ins)(k:Nat)(n:Int):(fJ c k n).length=c.length:=by simp[fJ]
def bS(i:Ins)(c:dP):(bF i c).1.length=c.1.length+1:=by simp[bF]
def CP{e:Exp}(h:di e=true)(h6:e.op=15->e.args.length<=6):e.args.length<=8:=by
 rcases dC h with h|h|h|h|h|h|h|h|⟨h1,h2,h3⟩|h|h|h|h|h
 all_goals try omega
 simp only[d9,LD,LB]at h3;omega
def HK{e:Exp}(h:di e=true)(ho:e.op=15):e.args.length<=6:=by
 simp only[di,LD]at h
 have:=h.2
 unfold dI at this;rw[if_neg (by omega),if_neg (by omega),if_neg (by omega),if_neg (by omega),LC ho]at this;simp only[LD,LB]at this;exact this.2
def xC{e:Exp}(h:di e=true):e.args.length<=8:=CP h (HK h)
theorem fT(vars:List bM)(n:Nat)(t:Int)(names:List aU)(c:dP):aN vars (n+1) (fe t) names c=bF (aD 1 t) c:=rfl
def iY(em:dP->dP)(L:Nat):Prop:=∀c:dP,c.1.length<=(em c).1.length/\(em c).1.length<=c.1.length+L
def fS{em:Exp->dP->dP}{yes no:Exp}{L1 L2:Nat}(h1:iY (em yes) L1)(h2:iY (em no) L2):iY (cT em yes no) (L1+L2+2):=by
 intro c;unfold cT;simp only[iU];have a:=h1 (bF (aD 11 0) c);have e1:=bS (aD 11 0) c;generalize em yes (bF (aD 11 0) c)=c2 at *;have e2:=bS (aD 10 0) c2;have b:=h2 (fJ (bF (aD 10 0) c2).1 c.1.length (bF (aD 10 0) c2).1.length,(bF (aD 10 0) c2).2);simp only[iU]at b;omega
theorem pd(em:Exp->dP->dP)(L:Nat):∀(l:List Exp),(∀x∈l,iY (em x) L)->iY (fun c=>l.foldl (fun c x=>em x c) c) (l.length*L)
 |[],_=>fun c=>by simp
 |x:: l,h=>fun c=>by
  have a:=h x (by simp) c;have b:=pd em L l (fun y hy=>h y (by simp[hy])) (em x c);simp only[NY,LQ,Nu]at b |-;omega
def dh{n:Nat}{e x:Exp}(h:bo (n+1) e=true)(hx:x∈e.args):bo n x=true:=by
 rw[cQ,LD,LO]at h;exact h.2 x hx
def cu{n:Nat}{e:Exp}(h:bo n e=true):∃m,n=m+1:=by
 cases n with
 |zero=>simp[bo]at h
 |succ m=>exact⟨m,rfl⟩
def bq{n:Nat}{e:Exp}(h:bo (n+1) e=true){k:Nat}(hk:k<e.args.length):bo n e.args[k]! = true:=by
 rw[LK e.args k hk];exact dh h (LM hk)
theorem bQ(vars:List bM):∀(n:Nat)(e:Exp),bo n e=true->∀names,iY (aN vars n e names) (fw n)
 |0,e,h,names=>by simp[bo]at h
 | n+1,e,h,names=>by
  have hs:di e=true:=by rw[cQ,LD]at h;exact h.1
  have hc:=dC hs;have ha:=xC hs;intro c;unfold aN;simp only[fw];have htr:∀t,1<=n->iY (aN vars n (fe t) names) 1:=fun t hn c=>by
   obtain⟨m,rfl⟩:∃m,n=m+1:=⟨n-1,by omega⟩;rw[fT,bS];omega
  split
  ·rw[bS];omega
  split
  ·rw[bS];omega
  split
  ·rw[bS];omega
  split
  ·rw[bS];omega
  split
  ·rename_i ho;have hl:e.args.length=2:=by omega
   obtain⟨m,rfl⟩:=cu (bq h (k:=0) (by omega));have a:=bQ vars _ _ (bq h (k:=0) (by omega)) names c;have b:=fS (em:=fun x=>aN vars (m+1) x names) (bQ vars _ _ (bq h (k:=1) (by omega)) names) (htr 0 (by omega)) (aN vars (m+1) e.args[0]! names c);simp only[fw]at a b |-;omega
  split
  ·rename_i ho;have hl:e.args.length=2:=by omega
   obtain⟨m,rfl⟩:=cu (bq h (k:=0) (by omega));have a:=bQ vars _ _ (bq h (k:=0) (by omega)) names c;have b:=fS (em:=fun x=>aN vars (m+1) x names) (htr 1 (by omega)) (bQ vars _ _ (bq h (k:=1) (by omega)) names) (aN vars (m+1) e.args[0]! names c);simp only[fw]at a b |-;omega
  split
  ·rename_i ho;have hl:e.args.length=3:=by omega
   obtain⟨m,rfl⟩:=cu (bq h (k:=0) (by omega));have a:=bQ vars _ _ (bq h (k:=0) (by omega)) names c;have b:=fS (em:=fun x=>aN vars (m+1) x names) (bQ vars _ _ (bq h (k:=1) (by omega)) names) (bQ vars _ _ (bq h (k:=2) (by omega)) names) (aN vars (m+1) e.args[0]! names c);simp only[fw]at a b |-;omega
  split
  ·rename_i ho;have hl:e.args.length=2:=by omega
   obtain⟨m,rfl⟩:=cu (bq h (k:=0) (by omega));have a:=bQ vars _ _ (bq h (k:=0) (by omega)) names c;have e1:=bS (aD 3 names.length) (aN vars (m+1) e.args[0]! names c);have b:=bQ vars _ _ (bq h (k:=1) (by omega)) (names++[e.s]) ((bF (aD 3 names.length) (aN vars (m+1) e.args[0]! names c)).1,max (bF (aD 3 names.length) (aN vars (m+1) e.args[0]! names c)).2 (names.length+1));simp only[fw]at a b |-;omega
  ·have b:=pd (fun x=>aN vars n x names) (fw n) e.args (fun x hx=>bQ vars n x (dh h hx) names) c;rw[bS];have hm:e.args.length*fw n<=8*fw n:=L0 _ ha;simp only at b |-;omega
end Go.Av.Ap
namespace Go.Av.Ap
open Go Go.Av
section
variable {α:Type} {f:α->AV} {sz:Nat}
def rowOf(f:α->AV)(l:List α):List AV:=(l.map f).flatMap ab
theorem eE(x:α)(l:List α):rowOf f (x:: l)=ab (f x)++rowOf f l:=by simp[rowOf]
theorem eN(hs:∀x,(ab (f x)).length=sz):(l:List α)->(rowOf f l).length=l.length*sz
 |[]=>by simp[rowOf]
 |x:: l=>by rw[eE,L4,hs,eN hs l,LQ,Nu];omega
theorem km(hs:∀x,(ab (f x)).length=sz):(l:List α)->(i:Nat)->(h:i<l.length)->((rowOf f l).drop (i*sz)).take sz=ab (f l[i])
 |x:: l,0,_=>by
  rw[eE,Nw,Mx,Ol (hs x)];rfl
 |x:: l,i+1,h=>by
  rw[eE,show (i+1)*sz=(ab (f x)).length+i*sz by rw[hs,Nu];omega,List.drop_append,Me (by omega),OS,Mn];simpa using km hs l i (by simpa using h)
theorem mR(hs:∀x,(ab (f x)).length=sz)(hag:∀x,f x= .agg (ab (f x)))(hcl:∀x g,cl g (f x)=f x)(hz:0<sz){h:Hp}{q:Nat}{l:List α}(hq:h[q]? = some (rowOf f l))(d:Nat):
  fV (d+1) h (.hs q 0 l.length sz true)= .sl (l.map f):=by
 have hlen:=eN (f:=f) hs l;simp only[fV,cl,hq];have h1:(decide (0+l.length*sz<=(rowOf f l).length)&&decide (0<sz)&&(true||(Nat.beq sz 1&&(rowOf f l).all bn)))=true:=by
  simp[hlen,hz]
 rw[h1,LF];congr 1;apply Ob
 ·simp
 ·intro i h2 h3;have hi:i<l.length:=by simpa using h2
  simp only[OP,Oy,Ma,LF];rw[km hs l i hi,<- hag];cases d with
  |zero=>exact hcl _ _
  |succ d=>exact hcl _ _
end
end Go.Av.Ap
namespace Go.Av.Ap
open Go Go.Av
abbrev Cu:=aU×aU
def uX(r:Cu):AV:=.agg [.str r.1,.str r.2]
def uY(l:List Cu):AV:=.sl (l.map uX)
def xb(l:List (List Cu)):AV:=.sl (l.map uY)
@[simp] theorem F5(r:Cu):ab (uX r)=[.str r.1,.str r.2]:=rfl
@[simp] theorem H9(r:Cu):AV.agg [.str r.1,.str r.2]=uX r:=rfl
@[simp] theorem BI(r:Cu):cI 2 (uX r)=true:=rfl
@[simp] theorem Hh(l:List Cu):cR 2 (l.map uX)=true:=dJ BI l
@[simp] theorem Gh(g:Nat->Nat->Nat->Nat->Bool->AV)(r:Cu):cl g (uX r)=uX r:=rfl
@[simp] theorem De(g:Nat->Nat->Nat->Nat->Bool->AV)(l:List Cu):cl g (uY l)=uY l:=by simp[uY,cl,dk g uX (Gh g)]
@[simp] theorem HT(g:Nat->Nat->Nat->Nat->Bool->AV)(l:List (List Cu)):cl g (xb l)=xb l:=by simp[xb,cl,dk g uY (De g)]
section
variable {V:Type}
end
end Go.Av.Ap
namespace Go.Av.Ap
open Go Go.Av
mutual
def GL:Exp->List Exp
 |.mk o n s m ns es=>.mk o n s m ns es:: yg es
def yg:List Exp->List Exp
 |[]=>[]
 |e:: es=>GL e++yg es
end
end Go.Av.Ap
namespace Go.Av
open Go
section
variable {F:Fence} {n:Nat} {P:Program} {w w':World} {ops:Array Oper} {rest:List Oper} {o:Oper} {a:Act} {Q:Exit->Act->World->Prop} {v:Value}
end
end Go.Av
namespace Go.Av.Ap
open Go Go.Av
def fX{T:TT}{t:Nat}{ti:TI}(ht:T t=some ti)(ha:ti.agg=false){h:Hp}{l k:Nat}{cs:List AV}{v:AV}(h0:h[l]? = some cs)(h1:cs[k]? = some v):bj T t (.hp l k) h= .ok v h:=by
 simp[bj,ht,h0,ha,h1]
def Br{T:TT}{t:Nat}{ti:TI}(ht:T t=some ti)(ha:ti.agg=true){h:Hp}{l k:Nat}{cs:List AV}(h0:h[l]? = some cs)(hle:k+ti.size<=cs.length):bj T t (.hp l k) h= .ok (.agg ((cs.drop k).take ti.size)) h:=by
 simp[bj,ht,h0,ha,hle]
def gM{T:TT}{t:Nat}{ti:TI}(ht:T t=some ti){h:Hp}{l k:Nat}{cs:List AV}{v:AV}(h0:h[l]? = some cs)(hv:cI ti.size v=true)(hle:k+ti.size<=cs.length)(hp:0<ti.size):
  bI T t (.hp l k) v h= .ok (.tup []) (h.set l (setCells cs k (ab v))):=by
 simp[bI,ht,h0,hv,hle,hp]
def xA{T:TT}{t e:Nat}{ti ei:TI}(ht:T t=some ti)(hk:ti.kind= .slice e)(he:T e=some ei){x:AV}(hx:cI ei.size x=true)(hb:0<ei.bytes)(hs:0<ei.size)(hc:ei.bytes<=140737488355328)(h:Hp):
  appH T t false .hn (.sl [x]) h= .ok (.hs h.length 0 1 ei.size ei.agg) (h++[ab x]):=by
 have:cR ei.size [x]=true:=by simp[cR,hx]
 simp[appH,ht,hk,he,iu,this,hb,hs,mu,hc]
def xB{T:TT}{t e:Nat}{ti ei:TI}(ht:T t=some ti)(hk:ti.kind= .slice e)(he:T e=some ei){x:AV}(hx:cI ei.size x=true)(hb:0<ei.bytes)(hs:0<ei.size){h:Hp}{q n:Nat}{cs:List AV}(h0:h[q]? = some cs)(hok:cs.all bn=true)(hl:cs.length=n*ei.size)(hn:0<n)(hc:(n+1)*ei.bytes<=140737488355328):appH T t false (.hs q 0 n ei.size ei.agg) (.sl [x]) h= .ok (.hs h.length 0 (n+1) ei.size ei.agg) ((h.set q [])++[cs++ab x]):=by
 have h1:cR ei.size [x]=true:=by simp[cR,hx]
 have h2:List.all cs bn=true:=hok;have h3:0<n*ei.size:=ND hn hs;have h4:cs.take (n*ei.size)=cs:=by rw[<- hl];exact Ny
 simp only[appH,ht,hk,he,iu,h1,hb,hs,mu,h0,h2,hl,MI,NT,LF,Nc,MP,List.isEmpty_cons,LL,M5,List.flatMap_nil,MW,h3,h4,LI];rw[Mj hc];simp
def sA(b:BitVec 64):AV:=.int .i64 b.toInt
abbrev yn(e:Exp):Bool:=bo 12 e
def uS:List aU->List bM->Bool
 |_,[]=>true
 |seen,f:: l=>!(seen.contains f.1)&&bz f.1&&ci f.2&&uS (seen++[f.1]) l
def fG(l:List bM)(most:Int):Bool:=uS [] l&&decide ((l.length:Int)<=most)
def zd(f:Fun):Bool:=bz f.name&&fG f.params 6&&ci f.result&&yn f.body&&(gg f.effects 15== 0)
def nR:List aU->List Fun->Bool
 |_,[]=>true
 |seen,f:: l=>!(seen.contains f.name)&&zd f&&nR (seen++[f.name]) l
def BK:List aU->List aU->Bool
 |_,[]=>true
 |seen,s:: l=>!(seen.contains s)&&bz s&&BK (seen++[s]) l
def rI(m:Mod):Bool:=bz m.name&&decide (m.uses.length<=12)&&decide (m.funcs.length<=30)&&fG m.vars 8&&(m.init.all yn&&((m.init.length:Int)== m.vars.length))&&(m.moves||decide (m.old.length=0)) &&
 (fG m.old 8&&(m.forward.all yn&&((m.forward.length:Int)== (if m.moves=true then(m.vars.length:Int)else 0)))&&(m.back.all yn&&((m.back.length:Int)== m.old.length)))
def gB(m:Mod):Bool:=BK [] m.uses&&(nR [] m.funcs&&rI m)
theorem md:(l:List bM)->(seen:List aU)->uS seen l=true->(∀f∈l,bz f.1=true/\ci f.2=true/\f.1 ∉ seen)/\(l.map (·.1)).Nodup
 |[],seen,_=>⟨fun f h=>(by cases h),List.nodup_nil⟩
 | f:: l,seen,h=>by
  simp only[uS,LD,MA]at h;obtain⟨⟨⟨h1,h2⟩,h3⟩,h4⟩:=h;obtain⟨i1,i2⟩:=md l _ h4;have h1':f.1 ∉ seen:=fun hm=>by rw[NL.2 hm]at h1;cases h1
  refine⟨fun g hg=>?_,?_⟩
  ·rcases LU.1 hg with rfl|hg
   ·exact⟨h2,h3,h1'⟩
   ·obtain⟨j1,j2,j3⟩:=i1 g hg;exact⟨j1,j2,fun hm=>j3 (Om _ hm)⟩
  ·rw[Mi,NZ];refine⟨fun hm=>?_,i2⟩;obtain⟨g,hg,e⟩:=Mu.1 hm;exact (i1 g hg).2.2 (NK _ (by rw[e];simp))
theorem rC:(l:List Fun)->(seen:List aU)->nR seen l=true->(∀f∈l,zd f=true/\f.name ∉ seen)/\(l.map (·.name)).Nodup
 |[],seen,_=>⟨fun f h=>(by cases h),List.nodup_nil⟩
 | f:: l,seen,h=>by
  simp only[nR,LD,MA]at h;obtain⟨⟨h1,h2⟩,h4⟩:=h;obtain⟨i1,i2⟩:=rC l _ h4;have h1':f.name ∉ seen:=fun hm=>by rw[NL.2 hm]at h1;cases h1
  refine⟨fun g hg=>?_,?_⟩
  ·rcases LU.1 hg with rfl|hg
   ·exact⟨h2,h1'⟩
   ·obtain⟨j1,j3⟩:=i1 g hg;exact⟨j1,fun hm=>j3 (Om _ hm)⟩
  ·rw[Mi,NZ];refine⟨fun hm=>?_,i2⟩;obtain⟨g,hg,e⟩:=Mu.1 hm;exact (i1 g hg).2 (NK _ (by rw[e];simp))
structure FunOk (f:Fun):Prop where
 name:bz f.name=true
 plen:f.params.length<=6
 pars:∀z∈f.params,ci z.2=true
 pnames:(f.params.map (·.1)).Nodup
 res:ci f.result=true
 body:bo 12 f.body=true
 eff:gg f.effects 15=0
def Gt{f:Fun}(h:zd f=true):FunOk f:=by
 unfold zd fG at h;simp only[LD,LB,MF]at h;obtain⟨⟨⟨⟨h1,h2,h3⟩,h4⟩,h5⟩,h6⟩:=h;obtain⟨i1,i2⟩:=md _ _ h2;exact⟨h1,by omega,fun z hz=>(i1 z hz).2.1,i2,h4,h5,h6⟩
structure ModOk (m:Mod):Prop where
 name:bz m.name=true
 ulen:m.uses.length<=12
 flen:m.funcs.length<=30
 fns:∀f∈m.funcs,FunOk f
 fnames:(m.funcs.map (·.name)).Nodup
 vlen:m.vars.length<=8
 vars:∀z∈m.vars,ci z.2=true
 vnames:(m.vars.map (·.1)).Nodup
 ilen:m.init.length=m.vars.length
 init:∀e∈m.init,bo 12 e=true
 olen:m.old.length<=8
 old:∀z∈m.old,ci z.2=true
 wlen:m.moves=true->m.forward.length=m.vars.length
 forw:∀e∈m.forward,bo 12 e=true
 blen:m.back.length=m.old.length
 back:∀e∈m.back,bo 12 e=true
def sR{m:Mod}(h:gB m=true):ModOk m:=by
 unfold gB rI fG at h;simp only[LD,LB,MF,LO,ML]at h;obtain⟨h1,h2,⟨⟨⟨⟨⟨h3,h4⟩,h5⟩,h6,h7⟩,h8,h9⟩,h10⟩,⟨⟨h11,h12⟩,h13,h14⟩,h15,h16⟩:=h;obtain⟨f1,f2⟩:=rC _ _ h2;obtain⟨v1,v2⟩:=md _ _ h6;obtain⟨o1,_⟩:=md _ _ h11;exact⟨h3,h4,h5,fun f hf=>Gt (f1 f hf).1,f2,by omega,fun z hz=>(v1 z hz).2.1,v2,by omega,h8,by omega,fun z hz=>(o1 z hz).2.1,fun hm=>by rw[LC hm]at h14;omega,h13,by omega,h15⟩
theorem lK:∀(f u:Nat)(x:UInt8),x∈iL f u->48<=x.toNat/\x.toNat<=57
 |0,_,x,h=>by simp[iL]at h
 | f+1,u,x,h=>by
  simp only[iL]at h;by_cases h10:u<10
  ·rw[Mj h10]at h;simp only[LF,L5]at h;subst h;simp[Oz];omega
  ·rw[Mp h10]at h;simp only[LL,L3,L5]at h;rcases h with h|rfl
   ·exact lK f _ x h
   ·simp[Oz];omega
theorem sw:∀(f u:Nat),iL (f+1) u≠[]
 |f,u=>by
  simp only[iL];cases decide (u<10)<;>simp
def wM{n:Int}(h0:0<=n):cD n=iL 20 n.toNat:=by unfold cD;rw[Mp (by omega)];rfl
theorem oV:∀(f u:Nat),(iL f u).length<=f
 |0,_=>by simp[iL]
 |f+1,u=>by
  simp only[iL];cases decide (u<10)with
  |true=>simp
  |false=>have:=oV f (u / 10);simp;omega
def gS(n:Int):(cD n).length<=21:=by
 unfold cD;cases decide (n<0)with
 |true=>have:=oV 20 n.natAbs;simp;omega
 |false=>have:=oV 20 n.toNat;simp;omega
theorem kg(d:Nat)(hd:d<10):∀(l:aU)(acc m:Nat),Lib.parseUint10 acc l= .ok m->m*10+d<18446744073709551616->Lib.parseUint10 acc (l++[UInt8.ofNat (48+d)])= .ok (m*10+d)
 |[],acc,m,h,hm=>by
  simp only[Lib.parseUint10]at h;cases h;have e:(UInt8.ofNat (48+d)).toNat=48+d:=by simp[Oz];omega
  simp only[Mn,Lib.parseUint10,e];rw[LC (by omega),if_neg (by omega),if_neg (by omega)];congr 1;omega
 | c :: l,acc,m,h,hm=>by
  simp only[Mg,Lib.parseUint10]at h|-;split at h
  ·rename_i hc;rw[LC hc];split at h
   ·cases h
   ·rename_i h1;rw[if_neg h1];split at h
    ·cases h
    ·rename_i h2;rw[if_neg h2];exact kg d hd l _ m h hm
  ·cases h
theorem kf:∀(f u:Nat),u<10 ^ (f+1)->u<18446744073709551616->Lib.parseUint10 0 (iL (f+1) u)= .ok u
 | f,u,h,hb=>by
  rw[show iL (f+1) u=bif decide (u<10)then[UInt8.ofNat (48+u)]else iL f (u / 10)++[UInt8.ofNat (48+u % 10)]from rfl];by_cases h10:u<10
  ·rw[Mj h10]
   have:=kg u h10 [] 0 0 rfl (by omega)
   simpa using this
  ·rw[Mp h10];simp only[LL];cases f with
   |zero=>omega
   |succ f=>
    have ih:=kf f (u / 10) (by rw[Nat.pow_succ]at h;omega) (by omega);rw[kg (u % 10) (by omega) _ 0 (u / 10) ih (by omega)];congr 1;omega
theorem vW(n:Int)(h0:-9223372036854775808<=n)(h1:n<=9223372036854775807):Lib.atoiAll (cD n)= .ok n:=by
 by_cases hn:0<=n
 ·rw[wM hn];have hp:=kf 19 n.toNat (by omega) (by omega);cases hd:iL 20 n.toNat with
  |nil=>exact absurd hd (sw 19 _)
  |cons c r=>
   have hc:=lK 20 n.toNat c (by rw[hd];simp);rw[Lib.atoiAll_plain c r (by omega) (by omega),<- hd];unfold Lib.parseMag;rw[if_neg (sw 19 _),hp];simp only[Lib.signless];rw[if_neg (by omega)];congr 1;omega
 ·have e:cD n=45:: iL 20 n.natAbs:=by unfold cD;rw[Mj (by omega)];rfl
  have hp:=kf 19 n.natAbs (by omega) (by omega);have h45:(45:UInt8).toNat=45:=rfl;rw[e];unfold Lib.atoiAll;simp only[h45,or_true,Mc];unfold Lib.parseMag;rw[if_neg (sw 19 _),hp];simp only[not_true_eq_false,false_and,Md,Ow,Mc];rw[if_neg (by omega)];congr 1;omega
theorem pr{c:UInt8}:∀ {a:aU} (r:aU),c ∉ a->Lib.indexByte (a++c:: r) c=a.length
 |[],r,_=>by simp[Lib.indexByte]
 |x:: a,r,h=>by
  have hx:¬x=c:=fun e=>h (by simp[e]);have ih:=pr (c:=c) (a:=a) r (fun hm=>h (by simp[hm]));simp[Lib.indexByte,hx,ih]
def eb(c:UInt8)(sv:Nat)(s:aU):List aU:=Lib.splitK [c] sv (s.count c) s
def kH{c:UInt8}{sv:Nat}{s:aU}(h:c ∉ s):eb c sv s=[s]:=by
 unfold eb;rw[List.count_eq_zero.2 h];rfl
def nj{c:UInt8}{sv:Nat}{a:aU}(r:aU)(h:c ∉ a):eb c sv (a++c:: r)=(a++c:: r).take (a.length+sv):: eb c sv r:=by
 unfold eb;have hc:(a++c:: r).count c=r.count c+1:=by
  rw[List.count_append,List.count_eq_zero.2 h,List.count_cons_self];omega
 have hi:Lib.index (a++c:: r) [c]=a.length:=by rw[Lib.index_one,pr r h]
 have hne:((a.length:Int)== -1)=false:=by
  rw[LX];omega
 have hd:(a++c:: r).drop (a.length+1)=r:=by
  rw[show a++c:: r=(a++[c])++r by simp];exact List.drop_left' (by simp)
 rw[hc];show (if Lib.index (a++c:: r) [c]== -1 then[a++c:: r]else(a++c:: r).take ((Lib.index (a++c:: r) [c]).toNat+sv):: Lib.splitK [c] sv (r.count c) ((a++c:: r).drop ((Lib.index (a++c:: r) [c]).toNat+1)))=_;rw[hi,hne,if_neg (by simp),LH,hd]
def IV{c:UInt8}{a:aU}(r:aU)(h:c ∉ a):eb c 0 (a++c:: r)=a:: eb c 0 r:=by
 rw[nj r h];simp
def IW{c:UInt8}{a:aU}(r:aU)(h:c ∉ a):eb c 1 (a++c:: r)=(a++[c]):: eb c 1 r:=by
 rw[nj r h];congr 1;rw[show a++c:: r=(a++[c])++r by simp];exact Ol (by simp)
def fK(op:Int):Bool:=decide (op=4)||decide (op=5)||decide (op=6)||decide (op=7)||decide (op=8)||decide (op=9)||decide (op=18)||decide (op=19)
def aV(len locals:Int)(i:Ins):Bool:=
 if i.op=0 then i.s== []&&i.m== []&&i.names== []
 else if i.op=1 then(i.a== 0||i.a== 1)&&i.s== []&&i.m== []&&i.names== []
 else if i.op=2\/i.op=3 then(decide (0<=i.a)&&decide (i.a<locals))&&i.s== []&&i.m== []&&i.names== []
 else if i.op=10\/i.op=11 then(decide (0<=i.a)&&decide (i.a<len))&&i.s== []&&i.m== []&&i.names== []
 else if i.op=16\/i.op=17 then(decide (0<=i.a)&&decide (i.a<8))&&i.s== []&&i.m== []&&i.names== []
 else if i.op=15 then(i.a== 1||i.a== 2||i.a== 4||i.a== 8)&&i.s== []&&i.m== []&&i.names== []
 else if i.op=13 then bz i.s&&i.a== 0&&i.m== []&&i.names== []
 else if i.op=14 then(decide (0<=i.a)&&decide (i.a<=6))&&bz i.s&&(i.m== []||bz i.m)&&i.names== []
 else if i.op=12 then d9 i.names&&i.a== 0&&i.s== []&&i.m== []
 else fK i.op&&i.a== 0&&i.s== []&&i.m== []&&i.names== []
def eg:List aU->aU
 |[]=>[]
 |[a]=>a
 |a:: b:: l=>a++32:: eg (b:: l)
theorem lB:∀(l:List aU),l≠[]->(∀a∈l,(32:UInt8) ∉ a)->eb 32 0 (eg l)=l
 |[],h,_=>absurd rfl h
 |[a],_,h=>kH (h a (by simp))
 |a:: b:: l,_,h=>by
  show eb 32 0 (a++32:: eg (b:: l))=_;rw[IV _ (h a (by simp)),lB (b:: l) (by simp) (fun x hx=>h x (by simp[hx]))]
theorem sJ{c:UInt8}(hc:c≠32):∀(l:List aU),(∀a∈l,c ∉ a)->c ∉ eg l
 |[],_=>by simp[eg]
 |[a],h=>h a (by simp)
 |a:: b:: l,h=>by
  show c ∉ a++32:: eg (b:: l);have h1:=h a (by simp);have h2:=sJ hc (b:: l) (fun x hx=>h x (by simp[hx]));simp only[L3,LU,not_or];exact⟨h1,hc,h2⟩
def dX(op:Int):aU:=cb[op.toNat]!
def iy(i:Ins):List aU:=
 if i.op=13 then[dX i.op,i.s]
 else if i.op=14 then[dX i.op,if i.m=[]then[46]else i.m,i.s,cD i.a]
 else if i.op=12 then dX i.op:: i.names
 else if fK i.op=true then[dX i.op]
 else[dX i.op,cD i.a]
def fL(i:Ins):aU:=eg (iy i)++[10]
def ix(c:Cod):List aU:=[[102,117,110,99],c.func,cD c.params,cD c.locals]
def lI(c:Cod):List aU:=(eg (ix c)++[10]):: c.code.map fL
def iz(l:List Cod):aU:=(l.flatMap lI).flatten
def fp(s:aU):Int:=match Lib.atoiAll s with
 |.ok n=>n
 |.range=>Lib.atoiSat s
 |_=>0
def mB(s:aU):aU:=if s.head? = some 46 then s.tail else s
def eB(w:List aU):Ins:=
 let op:=bG (fun x=>x== w.headD []) cb 0;let r:=w.tail
 if op=12 then⟨op,0,[],[],r⟩
 else if op=13/\r.length=1 then⟨op,0,r.headD [],[],[]⟩
 else if op=14/\r.length=3 then⟨op,fp (r.getD 2 []),r.getD 1 [],mB (r.headD []),[]⟩
 else if r.length=1 then⟨op,fp (r.headD []),[],[],[]⟩
 else⟨op,0,[],[],[]⟩
def fN(s:aU):aU:=if s.getLast? = some 10 then s.dropLast else s
def addI(acc:List Cod)(i:Ins):List Cod:=acc.dropLast++(match acc.getLast? with|some c=>[{ c with code:=c.code++[i] }]|none=>[])
def cY:List aU->List Cod->Option (List Cod)
 |[],acc=>some acc
 | s:: l,acc=>
  if s=[]then cY l acc
  else
   let w:=eb 32 0 (fN s)
   if w.headD []=[102,117,110,99]/\w.length=4 then cY l (acc++[⟨w.getD 1 [],fp (w.getD 2 []),fp (w.getD 3 []),[]⟩])
   else if acc=[]then none else cY l (addI acc (eB w))
def yd{s:aU}(h:bz s=true):∀x∈s,fQ x=true:=by
 unfold bz mC at h;simp only[LD,MF]at h;have hl:=h.1.2;have ht:s.takeWhile fQ=s:=(List.takeWhile_prefix fQ).eq_of_length hl;have ha:(s.takeWhile fQ).all fQ=true:=List.all_takeWhile;rw[ht,LO]at ha;exact ha
def db{s:aU}(h:bz s=true):s.length<=20:=by
 unfold bz at h;rw[LD]at h;exact rV h.1
def l9{s:aU}(h:bz s=true)(c:UInt8)(hc:fQ c=false):c ∉ s:=fun hm=>by
 rw[yd h c hm]at hc;cases hc
def px(n:Int):∀x∈cD n,x=45\/(48<=x.toNat/\x.toNat<=57):=by
 intro x hx;unfold cD at hx;cases hn:decide (n<0)with
 |true=>
  rw[hn]at hx;rcases LU.1 hx with rfl|hx
  ·exact .inl rfl
  ·exact .inr (lK 20 _ x hx)
 |false=>rw[hn]at hx;exact .inr (lK 20 _ x hx)
def mV(n:Int):(32:UInt8) ∉ cD n:=fun h=>by
 rcases px n 32 h with h|h
 ·exact absurd h (by decide)
 ·exact absurd h.1 (by decide)
def mU(n:Int):(10:UInt8) ∉ cD n:=fun h=>by
 rcases px n 10 h with h|h
 ·exact absurd h (by decide)
 ·exact absurd h.1 (by decide)
def pR{n:Int}(h0:-9223372036854775808<=n)(h1:n<=9223372036854775807):fp (cD n)=n:=by
 unfold fp;rw[vW n h0 h1]
def Cr:∀w∈cb,(32:UInt8) ∉ w/\(10:UInt8) ∉ w/\w≠[]/\w≠[102,117,110,99]:=by decide
def rU{op:Int}(h0:0<=op)(h1:op<20):(32:UInt8) ∉ dX op/\(10:UInt8) ∉ dX op/\dX op≠[]/\dX op≠[102,117,110,99]:=by
 refine Cr _ ?_;unfold dX;rw[LK cb op.toNat (by show op.toNat<20;omega)];exact LM _
def Bb{op:Int}(h0:0<=op)(h1:op<20):bG (fun x=>x== dX op) cb 0=op:=by
 have key:∀k:Fin 20,bG (fun x=>x== dX (k.1:Int)) cb 0=(k.1:Int):=by decide
 have:=key ⟨op.toNat,by omega⟩
 rwa [show ((op.toNat:Nat):Int)=op by omega]at this
def iN{len locals:Int}{i:Ins}(h:aV len locals i=true):0<=i.op/\i.op<20:=by
 unfold aV fK at h
 repeat' split at h
 all_goals first|omega|skip
 simp only[LD,ML,LB]at h;omega
def pC{len locals:Int}{i:Ins}(h:aV len locals i=true)(c:UInt8)(hc:c=32\/c=10):∀w∈iy i,c ∉ w:=by
 obtain⟨h0,h1⟩:=iN h;obtain⟨w1,w2,_⟩:=rU h0 h1;have hw:c ∉ dX i.op:=by rcases hc with rfl|rfl<;>assumption
 have hi:c ∉ cD i.a:=by
  rcases hc with rfl|rfl
  ·exact mV _
  ·exact mU _
 have ha:fQ c=false:=by rcases hc with rfl|rfl<;>decide
 unfold iy;split
 ·rename_i ho;have hs:bz i.s=true:=by
   simp[aV,ho]at h;exact h.1.1.1
  intro w hw';simp only[LU,MM,Ng]at hw';rcases hw' with rfl|rfl
  ·exact hw
  ·exact l9 hs c ha
 split
 ·rename_i ho;simp[aV,ho]at h;obtain⟨⟨⟨_,hs⟩,hm⟩,_⟩:=h;intro w hw';simp only[LU,MM,Ng]at hw';rcases hw' with rfl|rfl|rfl|rfl
  ·exact hw
  ·split
   ·rcases hc with rfl|rfl<;>decide
   ·rename_i hne;exact l9 (hm.resolve_left hne) c ha
  ·exact l9 hs c ha
  ·exact hi
 split
 ·rename_i ho;have hn:d9 i.names=true:=by
   simp[aV,ho]at h;exact h.1.1.1
  simp only[d9,LD,LO]at hn;intro w hw';rcases LU.1 hw' with rfl|hw'
  ·exact hw
  ·exact l9 (hn.1.1 w hw') c ha
 split
 ·intro w hw';rw[L5]at hw';subst hw';exact hw
 ·intro w hw';simp only[LU,MM,Ng]at hw';rcases hw' with rfl|rfl
  ·exact hw
  ·exact hi
def zL{s:aU}(h:bz s=true):mB s=s:=by
 unfold mB;rw[if_neg];intro e;cases s with
 |nil=>cases e
 |cons x s=>
  simp only[List.head?_cons,LA]at e
  have:=yd h x (by simp)
  rw[e]at this;exact absurd this (by decide)
def wL{len locals:Int}{i:Ins}(h:aV len locals i=true)(hb:-9223372036854775808<=i.a/\i.a<=9223372036854775807):eB (iy i)=i:=by
 obtain⟨h0,h1⟩:=iN h;have hx:=Bb h0 h1;have hn:=pR hb.1 hb.2;have hop:i.op=0\/i.op=1\/i.op=2\/i.op=3\/i.op=4\/i.op=5\/i.op=6\/i.op=7\/i.op=8\/i.op=9\/i.op=10\/i.op=11\/i.op=12\/i.op=13\/i.op=14\/i.op=15\/i.op=16\/i.op=17\/i.op=18\/i.op=19:=by omega
 obtain⟨op,a,s,m,names⟩:=i;simp only at *;rcases hop with rfl|rfl|rfl|rfl|rfl|rfl|rfl|rfl|rfl|rfl|rfl|rfl|rfl|rfl|rfl|rfl|rfl|rfl|rfl|rfl <;>
  simp[aV,fK]at h<;>simp[eB,iy,fK,hx,hn,h]
 by_cases hm:m=[]
 ·simp[hm,mB]
 ·simp[hm,zL (h.1.2.resolve_left hm)]
structure CodOk (c:Cod):Prop where
 name:bz c.func=true
 par:-9223372036854775808<=c.params/\c.params<=9223372036854775807
 loc:-9223372036854775808<=c.locals/\c.locals<=9223372036854775807
 ins:∀i∈c.code,aV c.code.length c.locals i=true/\-9223372036854775808<=i.a/\i.a<=9223372036854775807
def rS(s:aU):fN (s++[10])=s:=by simp[fN]
def Bo(i:Ins):iy i≠[]:=by
 unfold iy
 repeat' split
 all_goals simp
def wO(i:Ins):(iy i).headD []=dX i.op:=by
 unfold iy
 repeat' split
 all_goals rfl
def pj{c:Cod}(h:bz c.func=true)(x:UInt8)(hx:x=32\/x=10):∀w∈ix c,x ∉ w:=by
 have ha:fQ x=false:=by rcases hx with rfl|rfl<;>decide
 intro w hw;simp only[ix,LU,MM,Ng]at hw;rcases hw with rfl|rfl|rfl|rfl
 ·rcases hx with rfl|rfl<;>decide
 ·exact l9 h x ha
 ·rcases hx with rfl|rfl
  ·exact mV _
  ·exact mU _
 ·rcases hx with rfl|rfl
  ·exact mV _
  ·exact mU _
def nC{c:Cod}(K:CodOk c):∀t∈lI c,∃u,t=u++[10]/\(10:UInt8) ∉ u:=by
 intro t ht;rcases LU.1 ht with rfl|ht
 ·exact⟨_,rfl,sJ (by decide) _ (pj K.name 10 (.inr rfl))⟩
 ·obtain⟨i,hi,rfl⟩:=Mu.1 ht;exact⟨_,rfl,sJ (by decide) _ (pC (K.ins i hi).1 10 (.inr rfl))⟩
theorem kp:∀ts:List aU,(∀t∈ts,∃u,t=u++[10]/\(10:UInt8) ∉ u)->eb 10 1 ts.flatten=ts++[[]]
 |[],_=>kH (by simp)
 |t:: ts,h=>by
  obtain⟨u,rfl,hu⟩:=h t (by simp);have ih:=kp ts (fun x hx=>h x (by simp[hx]));rw[OH,show (u++[10])++ts.flatten=u++10:: ts.flatten by simp,IW _ hu,ih];rfl
def BZ{len locals:Int}{i:Ins}(h:aV len locals i=true)(hb:-9223372036854775808<=i.a/\i.a<=9223372036854775807)(rest:List aU)(acc:List Cod)(c:Cod):
  cY (fL i:: rest) (acc++[c])=cY rest (acc++[{ c with code:=c.code++[i] }]):=by
 have hne:fL i≠[]:=by simp[fL]
 have hs:eb 32 0 (fN (fL i))=iy i:=by
  unfold fL;rw[rS,lB _ (Bo i) (pC h 32 (.inl rfl))]
 obtain⟨h0,h1⟩:=iN h;have hw:=(rU h0 h1).2.2.2;have hl:=wO i;have he:addI (acc++[c]) i=acc++[{ c with code:=c.code++[i] }]:=by simp[addI]
 rw[cY,if_neg hne];simp only[hs,hl];rw[if_neg (fun e=>hw e.1),if_neg (by simp),wL h hb,he]
def rG{len locals:Int}:∀(is:List Ins)(rest:List aU)(acc:List Cod)(c:Cod),(∀i∈is,aV len locals i=true/\-9223372036854775808<=i.a/\i.a<=9223372036854775807)->
  cY (is.map fL++rest) (acc++[c])=cY rest (acc++[{ c with code:=c.code++is }])
 |[],rest,acc,c,_=>by simp
 |i:: is,rest,acc,c,h=>by
  have hi:=h i (by simp);rw[Mi,Mg,BZ hi.1 hi.2,rG is rest acc _ (fun j hj=>h j (by simp[hj]))];simp
def BX{c:Cod}(K:CodOk c)(rest:List aU)(acc:List Cod):cY (lI c++rest) acc=cY rest (acc++[c]):=by
 have hs:eb 32 0 (fN (eg (ix c)++[10]))=ix c:=by
  rw[rS,lB _ (by simp[ix]) (pj K.name 32 (.inl rfl))]
 have hp:=pR K.par.1 K.par.2;have hl:=pR K.loc.1 K.loc.2;show cY ((eg (ix c)++[10]):: (c.code.map fL++rest)) acc=_;rw[cY,if_neg (by simp)];simp only[hs];rw[LC ⟨rfl,rfl⟩];show cY _ (acc++[⟨c.func,fp (cD c.params),fp (cD c.locals),[]⟩])=_;rw[hp,hl,rG c.code rest acc _ K.ins];rfl
theorem rH:∀(l:List Cod)(rest:List aU)(acc:List Cod),(∀c∈l,CodOk c)->cY (l.flatMap lI++rest) acc=cY rest (acc++l)
 |[],rest,acc,_=>by simp
 |c:: l,rest,acc,h=>by
  rw[M5,Mz,BX (h c (by simp)),rH l rest _ (fun x hx=>h x (by simp[hx]))];simp
def xa{l:List Cod}(h:∀c∈l,CodOk c):cY (eb 10 1 (iz l)) []=some l:=by
 unfold iz;rw[kp _ (fun t ht=>by
  obtain⟨c,hc,ht⟩:=Nh.1 ht;exact nC (h c hc) t ht),rH l _ _ h]
 rfl
theorem ij:(a:aU)->bK a a=false
 |[]=>rfl
 |x:: a=>by simp[bK,ij a]
theorem kT:(a b c:aU)->bK a b=true->bK b c=true->bK a c=true
 |_,[],c,h,_=>by cases ‹aU› <;> simp[bK]at h
 |_,_:: _,[],_,h=>by simp[bK]at h
 |[],_:: _,_:: _,_,_=>by simp[bK]
 | x:: a,y:: b,z:: c,h1,h2=>by
  simp only[bK,ML,LD,LB,MF,UInt8.lt_iff_toNat_lt]at h1 h2 |-;rcases h1 with h1|⟨rfl,h1⟩
  ·rcases h2 with h2|⟨rfl,h2⟩
   ·exact .inl (by omega)
   ·exact .inl h1
  ·rcases h2 with h2|⟨rfl,h2⟩
   ·exact .inl h2
   ·exact .inr ⟨rfl,kT a b c h1 h2⟩
theorem kS:(a b:aU)->bK a b=false->a≠b->bK b a=true
 |[],[],_,h=>absurd rfl h
 |[],_:: _,h,_=>by simp[bK]at h
 |_:: _,[],_,_=>by simp[bK]
 | x:: a,y:: b,h1,h2=>by
  simp only[bK,M7,M9,ML,LD,LB,MF,UInt8.lt_iff_toNat_lt]at h1 |-;by_cases e:x=y
  ·subst e;refine .inr ⟨rfl,kS a b ?_ fun e=>h2 (by rw[e])⟩;simpa using h1.2
  ·refine .inl ?_;have:x.toNat≠y.toNat:=fun e'=>e (UInt8.toNat_inj.1 e');omega
def vR(p f:aU):dD p f=true↔bK p f=true:=by
 unfold dD;rw[MA,M7];constructor
 ·rintro⟨h1,h2⟩;exact kS f p h1 (LX.1 h2)
 ·intro h;refine⟨?_,?_⟩
  ·cases hc:bK f p with
   |false=>rfl
   |true=>exact absurd (kT _ _ _ h hc) (by simp[ij])
  ·rw[LX];rintro rfl;rw[ij]at h;cases h
def ba(i:Ins):Int×Int:=
 if i.op=0\/i.op=1\/i.op=2\/i.op=16 then(0,1)
 else if i.op=4\/i.op=5\/i.op=6\/i.op=7\/i.op=8 then(2,1)
 else if i.op=9\/i.op=13\/i.op=15\/i.op=17 then(1,1)
 else if i.op=12 then(i.names.length,1)
 else if i.op=14 then(i.a,1)
 else if i.op=10 then(0,0)
 else(1,0)
def cV(i:Ins)(k:Int):List Int:=
 if i.op=18 then[]else if i.op=10 then[i.a]else if i.op=11 then[k+1,i.a]else[k+1]
def uM{len locals:Int}{i:Ins}(h:aV len locals i=true):0<=(ba i).1/\(ba i).1<=8/\0<=(ba i).2/\(ba i).2<=1:=by
 unfold ba;split
 ·simp
 split
 ·simp
 split
 ·simp
 split
 ·rename_i ho;have hn:d9 i.names=true:=by
   simp[aV,ho]at h;exact h.1.1.1
  simp only[d9,LD,LB]at hn;simp only;omega
 split
 ·rename_i ho;simp[aV,ho]at h;obtain⟨⟨⟨h1,_⟩,_⟩,_⟩:=h;simp only;omega
 split
 ·simp
 ·simp
def eF(n:Nat)(k:Nat)(nd gv:Int):List Int->List Int->List Int->Option (List Int×List Int)
 |[],hl,td=>some (hl,td)
 |v:: r,hl,td=>
  if v=n then none
  else if hl[v.toNat]! < 0 then eF n k nd gv r (hl.set v.toNat (hl[k]! - nd+gv)) (td++[v])
  else if hl[v.toNat]! ≠hl[k]! - nd+gv then none
  else eF n k nd gv r hl td
def kP(c:List Ins):Nat->List Int->List Int->Option (List Int)
 |0,_,_=>none
 |_+1,hl,[]=>some hl
 | f+1,hl,k:: td=>
  let i:=c[k.toNat]!
  if hl[k.toNat]! < (ba i).1\/(i.op=18/\hl[k.toNat]! ≠1)then none
  else match eF c.length k.toNat (ba i).1 (ba i).2 (cV i k) hl td with
   |none=>none
   |some (hl',td')=>kP c f hl' td'
def lp(c:Cod):Bool:=bz c.func&&decide (0<=c.params)&&decide (c.params<=6)&&decide (c.params<=c.locals)&&decide (c.code≠[])
def cj(c:Cod):Option (List Int):=
 if lp c=true/\c.code.all (aV c.code.length c.locals)=true then kP c.code (2*c.code.length+2) (0:: List.replicate (c.code.length-1) (-1)) [0]else none
def pk{c:Cod}(h:(cj c).isSome=true)(hl:c.locals<=9223372036854775807)(hi:∀i∈c.code,-9223372036854775808<=i.a/\i.a<=9223372036854775807):CodOk c:=by
 unfold cj at h;split at h
 ·rename_i h1;obtain⟨h1,h2⟩:=h1;unfold lp at h1;simp only[LD,LB]at h1;rw[LO]at h2;obtain⟨⟨⟨⟨a1,a2⟩,a3⟩,a4⟩,_⟩:=h1;exact⟨a1,⟨by omega,by omega⟩,⟨by omega,hl⟩,fun i hx=>⟨h2 i hx,hi i hx⟩⟩
 ·cases h
def kN(hl:List Int):Nat:=hl.countP fun x=>decide (x<0)
structure HInv (n:Nat) (hl:List Int):Prop where
 len:hl.length=n
 lo:∀j,j<n->-1<=hl[j]!
 hi:∀j,j<n->hl[j]! + kN hl<=n
def pQ{hl:List Int}{v:Nat}(hv:v<hl.length)(h:hl[v]! < 0){x:Int}(hx:0<=x):kN (hl.set v x)+1=kN hl:=by
 unfold kN;rw[LK hl v hv]at h;have hp:0<hl.countP (fun x=>decide (x<0)):=List.countP_pos_iff.2 ⟨hl[v],LM hv,by simpa using h⟩;have h1:decide (hl[v]<0)=true:=by simpa using h
 have h2:decide (x<0)=false:=by simpa using hx
 rw[List.countP_set hv];simp only[h1,h2,Mc,LJ,Md];omega
def jV{hl:List Int}{v j:Nat}(hv:v<hl.length)(hj:j<hl.length)(x:Int):(hl.set v x)[j]! = if v=j then x else hl[j]!:=by
 rw[LK (hl.set v x) j (by simpa using hj),List.getElem_set,LK hl j hj]
def HInv.set{n:Nat}{hl:List Int}(H:HInv n hl){v:Nat}(hv:v<n)(h:hl[v]! < 0){x:Int}(h0:0<=x)(h1:x+kN hl<=n+1):HInv n (hl.set v x):=by
 have hv':v<hl.length:=by rw[H.len];exact hv
 have hn:=pQ hv' h h0;refine⟨by simpa using H.len,fun j hj=>?_,fun j hj=>?_⟩
 ·rw[jV hv' (by rw[H.len];exact hj)];split
  ·omega
  ·exact H.lo j hj
 ·rw[jV hv' (by rw[H.len];exact hj)]
  have:=H.hi j hj
  split<;>omega
theorem qj{n k:Nat}{nd gv:Int}(hk:k<n)(h0:0<=nd)(g0:0<=gv)(g1:gv<=1):∀(nx hl td:List Int){hl' td':List Int},HInv n hl->nd<=hl[k]! ->(∀v∈nx,0<=v/\v<=n)->(∀v∈td,0<=v/\v<n)->eF n k nd gv nx hl td=some (hl',td')->
  HInv n hl'/\td'.length+2*kN hl'<=td.length+2*kN hl/\∀v∈td',0<=v/\v<n
 |[],hl,td,hl',td',H,_,_,ht,e=>by
  simp only[eF,LA,Mv]at e;obtain⟨rfl,rfl⟩:=e;exact⟨H,LI _,ht⟩
 | v :: nx,hl,td,hl',td',H,hd,hx,ht,e=>by
  have hv:=hx v (by simp);simp only[eF]at e;split at e
  ·cases e
  ·rename_i hne;have hvn:v.toNat<n:=by omega
   have hvl:v.toNat<hl.length:=by rw[H.len];exact hvn
   have hkl:k<hl.length:=by rw[H.len];exact hk
   split at e
   ·rename_i hneg;have hkk:=H.hi k hk;have hI:=H.set hvn hneg (x:=hl[k]! - nd+gv) (by omega) (by omega);have hns:=pQ hvl hneg (x:=hl[k]! - nd+gv) (by omega);have hkv:¬v.toNat=k:=fun e=>by rw[e]at hneg;omega
    have ih:=qj hk h0 g0 g1 nx _ _ hI (by rw[jV hvl hkl,if_neg hkv];exact hd) (fun x h=>hx x (by simp[h])) (fun x h=>by
     rcases L3.1 h with h|h
     ·exact ht x h
     ·rw[L5]at h;subst h;omega) e
    refine⟨ih.1,?_,ih.2.2⟩
    have:=ih.2.1
    simp only[L4,MP]at this;omega
   ·split at e
    ·cases e
    ·exact qj hk h0 g0 g1 nx hl td H hd (fun x h=>hx x (by simp[h])) ht e
def m9(s:aU):-9223372036854775808<=fp s/\fp s<=9223372036854775807:=by
 unfold fp;split
 ·rename_i v h;unfold Lib.atoiAll at h;cases s with
  |nil=>cases h
  | cons c r=>
   simp only at h;split at h
   ·cases h
   ·cases h
   ·split at h
    ·cases h
    ·split at h
     ·cases h
     ·rename_i u _ h1 h2;injection h with h;subst h;split<;>rename_i hn<;>simp[hn]at h1 h2<;>omega
 ·unfold Lib.atoiSat;split<;>omega
 ·omega
theorem AM(c:UInt8):∀s:aU,c ∉ s\/∃a r,s=a++c:: r/\c ∉ a/\a.length+r.length+1=s.length
 |[]=>.inl (by simp)
 | x:: s=>by
  by_cases hx:c=x
  ·subst hx;exact .inr ⟨[],s,rfl,by simp,by simp⟩
  ·rcases AM c s with h|⟨a,r,h1,h2,h3⟩
   ·exact .inl (by simp[hx,h])
   ·exact .inr ⟨x:: a,r,by rw[h1];rfl,by simp[hx,h2],by simp;omega⟩
theorem jt(c:UInt8)(sv:Nat):∀(n:Nat)(s:aU),s.length<=n->eb c sv s≠[]/\(eb c sv s).length<=s.length+1/\∀w∈eb c sv s,w.length<=s.length
 |0,s,h=>by
  have:s=[]:=List.length_eq_zero_iff.1 (by omega);subst this;rw[kH (by simp)];simp
 | n+1,s,h=>by
  rcases AM c s with h1|⟨a,r,h1,h2,h3⟩
  ·rw[kH h1];simp
  ·have ih:=jt c sv n r (by omega);have e:=nj (sv:=sv) r h2;rw[<- h1]at e;rw[e];refine⟨by simp,by simp only[LQ];omega,fun w hw=>?_⟩;rcases LU.1 hw with rfl|hw
   ·rw[MR];omega
   ·have:=ih.2.2 w hw;omega
def rR(s:aU):(fN s).length<=s.length:=by
 unfold fN;split
 ·simp
 ·exact LI _
structure CodLim (n N:Nat) (c:Cod):Prop where
 len:c.code.length<=n
 loc:-9223372036854775808<=c.locals/\c.locals<=9223372036854775807
 ins:∀i∈c.code,i.names.length<=N/\-9223372036854775808<=i.a/\i.a<=9223372036854775807
def CodLim.le{n m N:Nat}{c:Cod}(h:CodLim n N c)(hm:n<=m):CodLim m N c:=⟨Nx h.len hm,h.loc,h.ins⟩
def zn(w:List aU):(eB w).names.length<=w.length/\-9223372036854775808<=(eB w).a/\(eB w).a<=9223372036854775807:=by
 unfold eB;simp only
 repeat' split
 ·simp only[List.length_tail];omega
 ·simp
 ·have:=m9 (w.tail.getD 2 []);simp only[Mb];omega
 ·have:=m9 (w.tail.headD []);simp only[Mb];omega
 ·simp
def CI{acc:List Cod}(h:acc≠[])(i:Ins):∃q c,acc=q++[c]/\addI acc i=q++[{ c with code:=c.code++[i] }]:=by
 refine⟨acc.dropLast,acc.getLast h,(NM h).symm,?_⟩;unfold addI;rw[List.getLast?_eq_some_getLast h]
def zT{n N:Nat}{acc:List Cod}(h:acc≠[]){i:Ins}(ha:∀c∈acc,CodLim n N c)(hi:i.names.length<=N/\-9223372036854775808<=i.a/\i.a<=9223372036854775807):(∀c∈addI acc i,CodLim (n+1) N c)/\(addI acc i).length=acc.length:=by
 obtain⟨q,c,e1,e2⟩:=CI h i;rw[e2];subst e1;refine⟨fun x hx=>?_,by simp⟩;rcases L3.1 hx with hx|hx
 ·exact (ha x (by simp[hx])).le (by omega)
 ·rw[L5]at hx;subst hx;have hc:=ha c (by simp);refine⟨by have:=hc.len;simp;omega,hc.loc,fun j hj=>?_⟩;rcases L3.1 hj with hj|hj
  ·exact hc.ins j hj
  ·rw[L5]at hj;subst hj;exact hi
theorem jr{N:Nat}:∀(B:List aU)(acc l:List Cod)(n:Nat),cY B acc=some l->(∀t∈B,t.length+1<=N)->(∀c∈acc,CodLim n N c)->(∀c∈l,CodLim (n+B.length) N c)/\l.length<=acc.length+B.length
 |[],acc,l,n,h,_,ha=>by
  simp only[cY,LA]at h;subst h;exact⟨ha,LI _⟩
 | s :: B,acc,l,n,h,hB,ha=>by
  have hs:=hB s (by simp);have hB':∀t∈B,t.length+1<=N:=fun t ht=>hB t (by simp[ht]);have up:∀ {c},CodLim (n+B.length) N c->CodLim (n+(s:: B).length) N c:=fun h=>h.le (by simp);rw[cY]at h;split at h
  ·have ih:=jr B acc l n h hB' ha;exact⟨fun c hc=>up (ih.1 c hc),by simp;omega⟩
  ·simp only at h;split at h
   ·have ih:=jr B _ l n h hB' (fun c hc=>by
     rcases L3.1 hc with hc|hc
     ·exact ha c hc
     ·rw[L5]at hc;subst hc;exact⟨LZ _,m9 _,fun i hi=>by cases hi⟩)
    refine⟨fun c hc=>up (ih.1 c hc),?_⟩
    have:=ih.2
    simp at this |-;omega
   ·split at h
    ·cases h
    ·rename_i hne;have hw:=(jt 32 0 _ (fN s) (LI _)).2.1;have ht:=rR s;have hi:=zn (eb 32 0 (fN s));have hA:=zT (i:=eB (eb 32 0 (fN s))) hne ha ⟨by omega,hi.2⟩;have ih:=jr B _ l (n+1) h hB' hA.1;refine⟨fun c hc=>(ih.1 c hc).le (by simp;omega),?_⟩
     have:=ih.2
     rw[hA.2]at this;simp;omega
def Gy(c:Cod):Bool:=(cj c).isSome
def nN(l:List Cod):aU:=if l.all Gy=true then iz l else[]
def uW(s:aU):List Cod×Int:=match cY (eb 10 1 s) []with
 |none=>([],2)
 |some l=>if nN l=s then(l,0)else([],2)
def zE{l:List Cod}(h:l.all Gy=true)(hl:∀c∈l,c.locals<=9223372036854775807/\∀i∈c.code,-9223372036854775808<=i.a/\i.a<=9223372036854775807):uW (nN l)=(l,0):=by
 have e:nN l=iz l:=LC h;unfold uW;rw[e,xa fun c hc=>pk (LO.1 h c hc) (hl c hc).1 (hl c hc).2];simp only;rw[LC e]
def d5:Nat->Exp->Nat
 |0,_=>0
 |d+1,e=>1+(e.args.map (d5 d)).sum
theorem Ck{α:Type}{f g:α->Nat}:∀(l:List α),(∀x∈l,f x<=g x)->(l.map f).sum<=(l.map g).sum
 |[],_=>LI _
 |x:: l,h=>by
  have a:=h x (by simp);have b:=Ck l (fun y hy=>h y (by simp[hy]));simp only[Mi,OE];omega
theorem wm:∀(d:Nat)(e:Exp),d5 d e<=d5 (d+1) e
 |0,_=>LZ _
 |d+1,e=>by
  have:=Ck e.args (fun x _=>wm d x)
  simp only[d5]at this |-;omega
theorem ue(em:Exp->dP->dP)(L:Exp->Nat):∀(l:List Exp),(∀x∈l,iY (em x) (L x))->iY (fun c=>l.foldl (fun c x=>em x c) c) ((l.map L).sum)
 |[],_=>fun c=>by simp
 |x:: l,h=>fun c=>by
  have a:=h x (by simp) c;have b:=ue em L l (fun y hy=>h y (by simp[hy])) (em x c);simp only[NY,Mi,OE]at b |-;omega
theorem rQ{d:Nat}:∀l:List Exp,(l.map fun x=>3*d5 d x).sum=3*(l.map (d5 d)).sum
 |[]=>rfl
 |x:: l=>by
  have:=rQ (d:=d) l
  simp only[Mi,OE,this];omega
def Gj{n:Nat}{e:Exp}(h:e.args.length=2):d5 (n+1) e=1+d5 n e.args[0]! + d5 n e.args[1]!:=by
 obtain⟨a,b,hab⟩:∃a b,e.args=[a,b]:=⟨_,_,List.eq_getElem_of_length_eq_two _ h⟩;simp only[d5,hab];simp;omega
def JS{n:Nat}{e:Exp}(h:e.args.length=3):d5 (n+1) e=1+d5 n e.args[0]! + d5 n e.args[1]! + d5 n e.args[2]!:=by
 obtain⟨a,b,c,hab⟩:∃a b c,e.args=[a,b,c]:=⟨_,_,_,List.eq_getElem_of_length_eq_three _ h⟩;simp only[d5,hab];simp;omega
theorem ey(vars:List bM):∀(n:Nat)(e:Exp),bo n e=true->∀names,iY (aN vars n e names) (3*d5 n e)
 |0,e,h,names=>by simp[bo]at h
 | n+1,e,h,names=>by
  have hs:di e=true:=by rw[cQ,LD]at h;exact h.1
  have hc:=dC hs;have h1:1<=d5 (n+1) e:=by simp only[d5];omega
  intro c;unfold aN;have htr:∀t,1<=n->iY (aN vars n (fe t) names) 1:=fun t hn c=>by
   obtain⟨m,rfl⟩:∃m,n=m+1:=⟨n-1,by omega⟩;rw[fT,bS];omega
  split
  ·rw[bS];omega
  split
  ·rw[bS];omega
  split
  ·rw[bS];omega
  split
  ·rw[bS];omega
  split
  ·rename_i ho;have hl:e.args.length=2:=by omega
   obtain⟨m,rfl⟩:=cu (bq h (k:=0) (by omega));have a:=ey vars _ _ (bq h (k:=0) (by omega)) names c;have b:=fS (em:=fun x=>aN vars (m+1) x names) (ey vars _ _ (bq h (k:=1) (by omega)) names) (htr 0 (by omega)) (aN vars (m+1) e.args[0]! names c);rw[Gj hl];omega
  split
  ·rename_i ho;have hl:e.args.length=2:=by omega
   obtain⟨m,rfl⟩:=cu (bq h (k:=0) (by omega));have a:=ey vars _ _ (bq h (k:=0) (by omega)) names c;have b:=fS (em:=fun x=>aN vars (m+1) x names) (htr 1 (by omega)) (ey vars _ _ (bq h (k:=1) (by omega)) names) (aN vars (m+1) e.args[0]! names c);rw[Gj hl];omega
  split
  ·rename_i ho;have hl:e.args.length=3:=by omega
   obtain⟨m,rfl⟩:=cu (bq h (k:=0) (by omega));have a:=ey vars _ _ (bq h (k:=0) (by omega)) names c;have b:=fS (em:=fun x=>aN vars (m+1) x names) (ey vars _ _ (bq h (k:=1) (by omega)) names) (ey vars _ _ (bq h (k:=2) (by omega)) names) (aN vars (m+1) e.args[0]! names c);rw[JS hl];omega
  split
  ·rename_i ho;have hl:e.args.length=2:=by omega
   obtain⟨m,rfl⟩:=cu (bq h (k:=0) (by omega));have a:=ey vars _ _ (bq h (k:=0) (by omega)) names c;have e1:=bS (aD 3 names.length) (aN vars (m+1) e.args[0]! names c);have b:=ey vars _ _ (bq h (k:=1) (by omega)) (names++[e.s]) ((bF (aD 3 names.length) (aN vars (m+1) e.args[0]! names c)).1,max (bF (aD 3 names.length) (aN vars (m+1) e.args[0]! names c)).2 (names.length+1));dsimp only at b |-;rw[Gj hl];omega
  ·have b:=ue (fun x=>aN vars n x names) (fun x=>3*d5 n x) e.args (fun x hx=>ey vars n x (dh h hx) names) c;rw[rQ]at b;rw[bS];simp only[d5]at b |-;omega
def AH{vars:List bM}{f:Fun}(h:bo 12 f.body=true)(hc:d5 14 f.body<=60):(bh vars f).code.length<=181:=by
 have a:=(ey vars 12 f.body h (f.params.map (·.1)) ([],f.params.length)).2;have b:d5 12 f.body<=d5 13 f.body:=wm 12 f.body;have c:d5 13 f.body<=d5 14 f.body:=wm 13 f.body;show (bF (aD 18 0) (aN vars 12 f.body (f.params.map (·.1)) ([],f.params.length))).1.length<=_;rw[bS];simp only[Mb]at a;omega
def lO:Face:=⟨[],[]⟩
def d6(m:Mod)(fs:List Face):Tcx:=⟨m.vars,m.funcs,m.uses,fun s=>fs.find? fun f=>f.module== s⟩
def c7:List Face->List Face->List Face
 |acc,[]=>acc
 |acc,f:: fs=>c7 (if(acc.find? fun g=>g.module== f.module).isSome=true then acc else acc++[f]) fs
def zO(m:Mod)(fs:List Face):List (aU×Int):=m.funcs.map fun f=>(f.name,zP (d6 m fs) f)
def kW(m:Mod)(fs:List Face):List (aU×Int):=m.uses.map fun u=>(u,if(fs.find? fun f=>f.module== u).isNone||u== m.name then 12 else 0)
def jf(m:Mod)(fs:List Face):aU×Int:=if(fs.all hJ&&gB m)=true then b9 (kW m (c7 [] fs)++j9 m:: zO m (c7 [] fs))else([],1)
theorem xK:{l:List (aU×Int)} ->(b9 l).2=0->∀x∈l,x.2=0
 |[],_,x,hx=>by cases hx
 | y:: l,h,x,hx=>by
  unfold b9 at h;split at h
  ·rename_i hy;rcases LU.1 hx with rfl|hx
   ·exact hy
   ·exact xK h x hx
  ·rename_i hy;exact absurd h hy
def GM(loc:Int)(i:Ins):Prop:=∀len:Int,((i.op=10\/i.op=11)->0<=i.a/\i.a<len)->aV len loc i=true
structure Seg (loc:Int) (a:Nat) (c:List Ins) (G:List Int) (Q:Int->Int->Prop) (out:Int->Prop):Prop where
 len:G.length=c.length
 ins:∀k,k<c.length->0<=G[k]! /\(ba c[k]!).1<=G[k]! /\c[k]!.op≠18/\GM loc c[k]! /\∀v∈cV c[k]! ((a+k:Nat):Int),(∃j,j<c.length/\v=((a+j:Nat):Int)/\G[j]! = G[k]! - (ba c[k]!).1+(ba c[k]!).2)\/Q v (G[k]! - (ba c[k]!).1+(ba c[k]!).2)
 pre:∀k,0<k->k<c.length->∃j,j<k/\((a+k:Nat):Int)∈cV c[j]! ((a+j:Nat):Int)
 out:∀v,out v->∃j,j<c.length/\v∈cV c[j]! ((a+j:Nat):Int)
def lU{α:Type}[Inhabited α]{x y:List α}{k:Nat}(h:k<x.length):(x++y)[k]! = x[k]!:=by
 rw[LK (x++y) k (by simp;omega),LK x k h,List.getElem_append_left h]
def uk{α:Type}[Inhabited α]{x y:List α}(k:Nat)(h:k<y.length):(x++y)[x.length+k]! = y[k]!:=by
 rw[LK (x++y) (x.length+k) (by simp;omega),LK y k h,List.getElem_append_right (by omega)];simp
def Seg.app{loc:Int}{a:Nat}{x y:List Ins}{G H:List Int}{Q1 Q2 Q:Int->Int->Prop}{o1 o2 o:Int->Prop}(h1:Seg loc a x G Q1 o1)(h2:Seg loc (a+x.length) y H Q2 o2)(q1:∀v h,Q1 v h->(∃j,j<y.length/\v=((a+x.length+j:Nat):Int)/\H[j]! = h)\/Q v h)(q2:∀v h,Q2 v h->Q v h)(hin:y≠[]->o1 ((a+x.length:Nat):Int))(ho:∀v,o v->o1 v\/o2 v):Seg loc a (x++y) (G++H) Q o:=by
 have hlen:=h1.len;refine⟨by simp[h1.len,h2.len],fun k hk=>?_,fun k h0 hk=>?_,fun v hv=>?_⟩
 ·rcases L8 k x.length with hx|hx
  ·obtain⟨a1,a2,a3,a4,a5⟩:=h1.ins k hx;have e1:(x++y)[k]! = x[k]!:=lU hx;have e2:(G++H)[k]! = G[k]!:=lU (by omega);rw[e1,e2];refine⟨a1,a2,a3,a4,fun v hv=>?_⟩;rcases a5 v hv with⟨j,j1,j2,j3⟩|hq
   ·exact .inl ⟨j,by simp;omega,j2,by rw[lU (by omega)];exact j3⟩
   ·rcases q1 v _ hq with⟨j,j1,j2,j3⟩|hq
    ·refine .inl ⟨x.length+j,by simp;omega,by rw[j2];omega,?_⟩;rw[show x.length+j=G.length+j by omega,uk j (by rw[h2.len];omega)];exact j3
    ·exact .inr hq
  ·obtain⟨m,rfl⟩:∃m,k=x.length+m:=⟨k-x.length,by omega⟩;have hm:m<y.length:=by simp at hk;omega
   obtain⟨a1,a2,a3,a4,a5⟩:=h2.ins m hm;have e1:(x++y)[x.length+m]! = y[m]!:=uk m hm;have e2:(G++H)[x.length+m]! = H[m]!:=by rw[show x.length+m=G.length+m by omega];exact uk m (by rw[h2.len];omega)
   rw[e1,e2];refine⟨a1,a2,a3,a4,fun v hv=>?_⟩;rcases a5 v (by rw[NS];exact hv)with⟨j,j1,j2,j3⟩|hq
   ·refine .inl ⟨x.length+j,by simp;omega,by rw[j2];omega,?_⟩;rw[show x.length+j=G.length+j by omega,uk j (by rw[h2.len];omega)];exact j3
   ·exact .inr (q2 _ _ hq)
 ·rcases L8 k x.length with hx|hx
  ·obtain⟨j,j1,j2⟩:=h1.pre k h0 hx;exact⟨j,j1,by rw[lU (by omega)];exact j2⟩
  ·obtain⟨m,rfl⟩:∃m,k=x.length+m:=⟨k-x.length,by omega⟩;have hm:m<y.length:=by simp at hk;omega
   rcases Mq m with rfl|h0
   ·obtain⟨j,j1,j2⟩:=h1.out _ (hin (by intro e;rw[e]at hm;simp at hm));exact⟨j,by omega,by rw[lU j1];exact j2⟩
   ·obtain⟨j,j1,j2⟩:=h2.pre m h0 hm;refine⟨x.length+j,by omega,?_⟩;rw[uk j (by omega),<- NS,<- NS];exact j2
 ·rcases ho v hv with h|h
  ·obtain⟨j,j1,j2⟩:=h1.out v h;exact⟨j,by simp;omega,by rw[lU j1];exact j2⟩
  ·obtain⟨j,j1,j2⟩:=h2.out v h;refine⟨x.length+j,by simp;omega,?_⟩;rw[uk j j1,<- NS];exact j2
def Seg.one{loc:Int}{a:Nat}{i:Ins}{d:Int}{Q:Int->Int->Prop}{o:Int->Prop}(h0:0<=d)(h1:(ba i).1<=d)(h2:i.op≠18)(h3:GM loc i)(h4:∀v∈cV i (a:Int),Q v (d-(ba i).1+(ba i).2))(h5:∀v,o v->v∈cV i (a:Int)):Seg loc a [i] [d] Q o:=by
 refine⟨rfl,fun k hk=>?_,fun k h0 hk=>?_,fun v hv=>⟨0,by simp,h5 v hv⟩⟩
 ·have:k=0:=by simp at hk;omega
  subst this;exact⟨h0,h1,h2,h3,fun v hv=>.inr (h4 v hv)⟩
 ·simp at hk;omega
def HL(n:Nat)(d:Int):Int->Int->Prop:=fun v h=>v=(n:Int)/\h=d
def I6(n:Nat):Int->Prop:=fun v=>v=(n:Int)
def iH(loc:Int)(a:Nat)(d e:Int)(c:List Ins):Prop:=c≠[]/\∃G,Seg loc a c G (HL (a+c.length) e) (I6 (a+c.length))/\G[0]! = d
def iH.app{loc:Int}{a:Nat}{d e f:Int}{x y:List Ins}(h1:iH loc a d e x)(h2:iH loc (a+x.length) e f y):iH loc a d f (x++y):=by
 obtain⟨n1,G,s1,g1⟩:=h1;obtain⟨n2,H,s2,g2⟩:=h2;have hx:0<x.length:=Ms.2 n1;have hy:0<y.length:=Ms.2 n2;refine⟨by simp[n1],G++H,s1.app s2 (fun v h hv=>.inl ⟨0,hy,hv.1,by rw[g2,hv.2]⟩) (fun v h hv=>?_) (fun _=>rfl) (fun v hv=>.inr ?_),?_⟩
 ·exact⟨by rw[hv.1];simp;omega,hv.2⟩
 ·show v=_;rw[show v=_ from hv];simp;omega
 ·rw[lU (by rw[s1.len];exact hx)];exact g1
def iH.one{loc:Int}{a:Nat}{i:Ins}{d e:Int}(h0:0<=d)(h1:(ba i).1<=d)(h2:i.op≠18)(h3:GM loc i)(h4:cV i (a:Int)=[(a:Int)+1])(h5:e=d-(ba i).1+(ba i).2):iH loc a d e [i]:=by
 refine⟨by simp,[d],Seg.one h0 h1 h2 h3 (fun v hv=>?_) (fun v hv=>?_),rfl⟩
 ·rw[h4,L5]at hv;exact⟨by rw[hv];simp,h5.symm⟩
 ·rw[h4,L5,show v=_ from hv];simp
theorem Lv{loc:Int}{a:Nat}{d:Int}{yes no:List Ins}(hd:1<=d)(h1:iH loc (a+1) (d-1) d yes)(h2:iH loc (a+yes.length+2) (d-1) d no):
  iH loc a d d ((Ins.mk 11 ((a+yes.length+2:Nat):Int) [] [] []):: (yes++((Ins.mk 10 ((a+yes.length+2+no.length:Nat):Int) [] [] []):: no))):=by
 obtain⟨n1,G,s1,g1⟩:=h1;obtain⟨n2,H,s2,g2⟩:=h2;have hx:0<yes.length:=Ms.2 n1;have hy:0<no.length:=Ms.2 n2;have A:Seg loc a [(Ins.mk 11 ((a+yes.length+2:Nat):Int) [] [] [])] [d] (fun v h=>(v=((a+1:Nat):Int)\/v=((a+yes.length+2:Nat):Int))/\h=d-1) (fun v=>v=((a+1:Nat):Int)\/v=((a+yes.length+2:Nat):Int)):=by
  have hn:cV (Ins.mk 11 ((a+yes.length+2:Nat):Int) [] [] []) (a:Int)=[(a:Int)+1,((a+yes.length+2:Nat):Int)]:=rfl;refine Seg.one (by omega) (show (1:Int)<=d from hd) (show (11:Int)≠18 by decide) (fun len hl=>?_) (fun v hv=>⟨?_,?_⟩) (fun v hv=>?_)
  ·have:=hl (.inr rfl)
   simp[aV];simp only at this;omega
  ·rw[hn]at hv;simp only[LU,MM,Ng]at hv;rcases hv with rfl|rfl
   ·exact .inl (by omega)
   ·exact .inr rfl
  ·show d-1+0=d-1;omega
  ·rw[hn];simp only[LU,MM,Ng];rcases hv with rfl|rfl
   ·exact .inl (by omega)
   ·exact .inr rfl
 have J:Seg loc (a+1+yes.length) [(Ins.mk 10 ((a+yes.length+2+no.length:Nat):Int) [] [] [])] [d] (HL (a+yes.length+2+no.length) d) (fun v=>v=((a+yes.length+2+no.length:Nat):Int)):=by
  have hn:cV (Ins.mk 10 ((a+yes.length+2+no.length:Nat):Int) [] [] []) ((a+1+yes.length:Nat):Int)=[((a+yes.length+2+no.length:Nat):Int)]:=rfl;refine Seg.one (by omega) (show (0:Int)<=d by omega) (show (10:Int)≠18 by decide) (fun len hl=>?_) (fun v hv=>⟨?_,?_⟩) (fun v hv=>?_)
  ·have:=hl (.inl rfl)
   simp[aV];simp only at this;omega
  ·rw[hn,L5]at hv;exact hv
  ·show d-0+0=d;omega
  ·rw[hn,L5];exact hv
 have B:Seg loc (a+1) (yes++[(Ins.mk 10 ((a+yes.length+2+no.length:Nat):Int) [] [] [])]) (G++[d]) (HL (a+yes.length+2+no.length) d) (fun _=>False):=
  s1.app J (fun v h hv=>.inl ⟨0,by simp,hv.1,hv.2.symm⟩) (fun v h hv=>hv) (fun _=>rfl) (fun v hv=>hv.elim)
 have C:Seg loc a ([(Ins.mk 11 ((a+yes.length+2:Nat):Int) [] [] [])]++(yes++[(Ins.mk 10 ((a+yes.length+2+no.length:Nat):Int) [] [] [])])) ([d]++(G++[d])) (fun v h=>(v=((a+yes.length+2:Nat):Int)/\h=d-1)\/(v=((a+yes.length+2+no.length:Nat):Int)/\h=d)) (fun v=>v=((a+yes.length+2:Nat):Int)):=by
  refine A.app B (fun v h hv=>?_) (fun v h hv=>.inr hv) (fun _=>.inl (by simp)) (fun v hv=>.inl (.inr hv));rcases hv with⟨rfl|rfl,rfl⟩
  ·refine .inl ⟨0,by simp,by simp,?_⟩;rw[lU (by rw[s1.len];exact hx)];exact g1
  ·exact .inr (.inl ⟨rfl,rfl⟩)
 have el:a+([(Ins.mk 11 ((a+yes.length+2:Nat):Int) [] [] [])]++(yes++[(Ins.mk 10 ((a+yes.length+2+no.length:Nat):Int) [] [] [])])).length=a+yes.length+2:=by simp;omega
 have D:=C.app (y:=no) (H:=H) (Q2:=HL (a+yes.length+2+no.length) d) (o2:=I6 (a+yes.length+2+no.length)) (Q:=HL (a+yes.length+2+no.length) d) (o:=I6 (a+yes.length+2+no.length)) (by rw[el];exact s2) (fun v h hv=>by
   rcases hv with⟨rfl,rfl⟩|hv
   ·exact .inl ⟨0,hy,by rw[el],g2⟩
   ·exact .inr hv) (fun v h hv=>hv) (fun _=>by show _=_;rw[el]) (fun v hv=>.inr hv)
 refine⟨by simp,[d]++(G++[d])++H,?_,rfl⟩;have e1:a+(((Ins.mk 11 ((a+yes.length+2:Nat):Int) [] [] []):: (yes++((Ins.mk 10 ((a+yes.length+2+no.length:Nat):Int) [] [] []):: no)):List Ins)).length=a+yes.length+2+no.length:=by simp;omega
 rw[e1];have e2:((Ins.mk 11 ((a+yes.length+2:Nat):Int) [] [] []):: (yes++((Ins.mk 10 ((a+yes.length+2+no.length:Nat):Int) [] [] []):: no)):List Ins)=[(Ins.mk 11 ((a+yes.length+2:Nat):Int) [] [] [])]++(yes++[(Ins.mk 10 ((a+yes.length+2+no.length:Nat):Int) [] [] [])])++no:=by simp
 rw[e2];exact D
def i6(c:List Ins):Prop:=∀i∈c,i.names.length<=1000000
def gk{i:Ins}{c:dP}(hi:i.names.length<=1000000)(h:i6 c.1):i6 (bF i c).1:=by
 intro x hx;rcases L3.1 hx with hx|hx
 ·exact h x hx
 ·rw[L5]at hx;subst hx;exact hi
def yt{c:List Ins}(h:i6 c)(k:Nat)(n:Int):i6 (fJ c k n):=by
 intro x hx;unfold fJ at hx;rcases L8 k c.length with hk|hk
 ·rcases OK hx with hx|rfl
  ·exact h x hx
  ·rw[LK c k hk];exact h c[k] (LM hk)
 ·rw[OQ hk]at hx;exact h x hx
def mJ{em:Exp->dP->dP}{yes no:Exp}(h1:∀c,i6 c.1->i6 (em yes c).1)(h2:∀c,i6 c.1->i6 (em no c).1)(c:dP)(h:i6 c.1):i6 (cT em yes no c).1:=by
 unfold cT;exact yt (h2 _ (yt (gk (LZ _) (h1 _ (gk (LZ _) h))) _ _)) _ _
theorem xP(em:Exp->dP->dP):∀(l:List Exp),(∀x∈l,∀c,i6 c.1->i6 (em x c).1)->∀c:dP,i6 c.1->i6 (l.foldl (fun c x=>em x c) c).1
 |[],_,c,h=>h
 |x:: l,ha,c,h=>xP em l (fun y hy=>ha y (by simp[hy])) (em x c) (ha x (by simp) c h)
def BO(vars:List bM){e:Exp}(h:e.op=13->e.names.length<=1000000):(bU vars e).names.length<=1000000:=by
 unfold bU
 repeat' split
 all_goals first
  |exact LZ _
  |exact h (by assumption)
theorem xJ(vars:List bM):∀(n:Nat)(e:Exp),bo n e=true->∀names (c:dP),i6 c.1->i6 (aN vars n e names c).1
 |0,e,h,names,c,hc=>by simp[bo]at h
 | n+1,e,h,names,c,hc=>by
  have hs:di e=true:=by rw[cQ,LD]at h;exact h.1
  have hcs:=dC hs;have h8:=xC hs;have ih:=fun(x:Exp) (hx:bo n x=true) (nm:List aU) (c:dP) (hc:i6 c.1)=>xJ vars n x hx nm c hc;have htr:∀t (c:dP),i6 c.1->i6 (aN vars n (fe t) names c).1:=fun t c hc=>by
   cases n with
   |zero=>exact hc
   |succ m=>rw[fT];exact gk (LZ _) hc
  unfold aN;split
  ·exact gk (LZ _) hc
  split
  ·exact gk (LZ _) hc
  split
  ·exact gk (LZ _) hc
  split
  ·exact gk (LZ _) hc
  split
  ·exact mJ (em:=fun x=>aN vars n x names) (ih _ (bq h (k:=1) (by omega)) names) (htr 0) _ (ih _ (bq h (k:=0) (by omega)) names c hc)
  split
  ·exact mJ (em:=fun x=>aN vars n x names) (htr 1) (ih _ (bq h (k:=1) (by omega)) names) _ (ih _ (bq h (k:=0) (by omega)) names c hc)
  split
  ·exact mJ (em:=fun x=>aN vars n x names) (ih _ (bq h (k:=1) (by omega)) names) (ih _ (bq h (k:=2) (by omega)) names) _ (ih _ (bq h (k:=0) (by omega)) names c hc)
  split
  ·exact ih _ (bq h (k:=1) (by omega)) _ _ (gk (LZ _) (ih _ (bq h (k:=0) (by omega)) names c hc))
  ·refine gk (BO vars fun h13=>?_) (xP (fun x=>aN vars n x names) e.args (fun x hx=>ih x (dh h hx) names) c hc);rcases hcs with hc|hc|hc|hc|hc|hc|hc|hc|⟨_,k2,_⟩|hc|hc|hc|hc|hc<;>omega
def AJ{vars:List bM}{f:Fun}(F:FunOk f):(bh vars f).code.length<=1000000000000/\∀i∈(bh vars f).code,i.names.length<=1000000:=by
 constructor
 ·have:=(bQ vars 12 f.body F.body (f.params.map (·.1)) ([],f.params.length)).2
  have hcap:fw 12<=99000000000:=by simp[fw]
  show (bF (aD 18 0) (aN vars 12 f.body (f.params.map (·.1)) ([],f.params.length))).1.length<=_;rw[bS];simp only[Mb]at this;omega
 ·exact gk (LZ _) (xJ vars 12 f.body F.body _ _ (fun i hi=>by cases hi))
def CB(vars:List bM):Nat->List aU->Exp->Prop
 |0,_,_=>False
 |n+1,names,e=>(e.op=2->e.s∈names)/\((e.op=17\/e.op=18)->e.s∈vars.map (·.1))/\(e.op=12->CB vars n names e.args[0]! /\CB vars n (names++[e.s]) e.args[1]!)/\(e.op≠12->∀x∈e.args,CB vars n names x)
theorem pz(names:List aU)(s:aU):∀n,n<=names.length->s∈names.take n->0<=gA names s n/\gA names s n<n
 |0,_,h=>by simp at h
 | n+1,hn,h=>by
  unfold gA;split
  ·omega
  ·rename_i hne;have hnl:n<names.length:=by omega
   rw[Nf hnl,L3]at h;rcases h with h|h
   ·have:=pz names s n (by omega) h
    omega
   ·rw[L5]at h;exact absurd (by rw[LY hnl,h]) hne
def zq{names:List aU}{s:aU}(h:s∈names):0<=jy names s/\jy names s<names.length:=by
 have:=pz names s names.length (LI _) (by rw[Ny];exact h)
 exact⟨this.1,this.2⟩
theorem pn{α:Type}(F:α->Bool):(l:List α)->(i:Int)->bG F l i= -1\/(i<=bG F l i/\bG F l i<i+l.length)
 |[],i=>.inl rfl
 | x:: l,i=>by
  simp only[bG];split
  ·right;simp;omega
  ·rcases pn F l (i+1)with h|h
   ·exact .inl h
   ·right;simp only[LQ];omega
def vF{vars:List bM}{s:aU}(h:s∈vars.map (·.1)):0<=iW vars s/\iW vars s<vars.length:=by
 have h1:0<=iW vars s:=by
  unfold iW;rw[pm _ _ _ (by omega),ON];obtain⟨f,hf,e⟩:=Mu.1 h;exact⟨f,hf,by simp[e]⟩
 refine⟨h1,?_⟩;rcases pn (fun f:bM=>f.1== s) vars 0 with h2|h2
 ·unfold iW at h1;omega
 ·unfold iW;omega
def rZ(f:dP->dP):Prop:=∀c,c.2<=(f c).2
def fj{em:Exp->dP->dP}{yes no:Exp}(h1:rZ (em yes))(h2:rZ (em no)):rZ (cT em yes no):=fun c=>by
 unfold cT;exact NN (h1 (bF (aD 11 0) c)) (h2 (fJ (bF (aD 10 0) (em yes (bF (aD 11 0) c))).1 c.1.length (bF (aD 10 0) (em yes (bF (aD 11 0) c))).1.length,(bF (aD 10 0) (em yes (bF (aD 11 0) c))).2))
theorem mQ{em:Exp->dP->dP}(h:∀x,rZ (em x)):∀l:List Exp,rZ (fun c=>l.foldl (fun c x=>em x c) c)
 |[]=>fun c=>NU _
 |x:: l=>fun c=>NN (h x c) (mQ h l (em x c))
theorem kA(vars:List bM):∀(n:Nat)(e:Exp)(names:List aU),rZ (aN vars n e names)
 |0,_,_=>fun c=>NU _
 | n+1,e,names=>fun c=>by
  have ih:=kA vars n;unfold aN;split
  ·exact NU _
  split
  ·exact NU _
  split
  ·exact NU _
  split
  ·exact NU _
  split
  ·exact NN (ih _ names c) (fj (em:=fun x=>aN vars n x names) (ih _ names) (ih _ names) _)
  split
  ·exact NN (ih _ names c) (fj (em:=fun x=>aN vars n x names) (ih _ names) (ih _ names) _)
  split
  ·exact NN (ih _ names c) (fj (em:=fun x=>aN vars n x names) (ih _ names) (ih _ names) _)
  split
  ·have h1:=ih e.args[0]! names c;have h2:=ih e.args[1]! (names++[e.s]) ((bF (aD 3 names.length) (aN vars n e.args[0]! names c)).1,max (bF (aD 3 names.length) (aN vars n e.args[0]! names c)).2 (names.length+1));have h3:(bF (aD 3 names.length) (aN vars n e.args[0]! names c)).2=(aN vars n e.args[0]! names c).2:=rfl;simp only[h3]at h2 |-;omega
  ·exact mQ (fun x=>ih x names) e.args c
def vo(x y:List Ins)(i:Ins)(n:Int):fJ (x++i:: y) x.length n=x++ { i with a:=n } :: y:=by
 have h:(x++i:: y)[x.length]! = i:=by
  rw[LK _ _ (by simp)];simp
 unfold fJ;rw[h];simp
def FZ(loc:Int)(f:dP->dP):Prop:=∀(c:dP)(d:Int),0<=d->(f c).2<=loc->∃fr,(f c).1=c.1++fr/\iH loc c.1.length d (d+1) fr
theorem lh{loc:Int}{em:Exp->dP->dP}{yes no:Exp}(h1:FZ loc (em yes))(h2:FZ loc (em no))(m2:rZ (em no))(c:dP)(d:Int)(hd:1<=d)(hl:(cT em yes no c).2<=loc):
  ∃fr,(cT em yes no c).1=c.1++fr/\iH loc c.1.length d d fr:=by
 have hl':=hl;unfold cT at hl |-;simp only at hl |-;have a2:=m2 (fJ (bF (aD 10 0) (em yes (bF (aD 11 0) c))).1 c.1.length (bF (aD 10 0) (em yes (bF (aD 11 0) c))).1.length,(bF (aD 10 0) (em yes (bF (aD 11 0) c))).2);have a3:(bF (aD 10 0) (em yes (bF (aD 11 0) c))).2=(em yes (bF (aD 11 0) c)).2:=rfl;simp only[a3]at a2 hl |-;obtain⟨fy,y1,y2⟩:=h1 (bF (aD 11 0) c) (d-1) (by omega) (by omega);have e1:(bF (aD 11 0) c).1=c.1++[aD 11 0]:=rfl;have e2:(bF (aD 10 0) (em yes (bF (aD 11 0) c))).1=c.1++aD 11 0:: (fy++[aD 10 0]):=by
  show (em yes (bF (aD 11 0) c)).1++[aD 10 0]=_;rw[y1,e1];simp
 have e3:fJ (bF (aD 10 0) (em yes (bF (aD 11 0) c))).1 c.1.length (bF (aD 10 0) (em yes (bF (aD 11 0) c))).1.length=c.1++⟨11,((c.1.length+fy.length+2:Nat):Int),[],[],[]⟩:: (fy++[aD 10 0]):=by
  rw[e2,vo];congr 2;simp only[aD,Ins.mk.injEq,OM,Ow];simp;omega
 rw[e3]at hl a2 |-;obtain⟨fn,n1,n2⟩:=h2 (c.1++⟨11,((c.1.length+fy.length+2:Nat):Int),[],[],[]⟩:: (fy++[aD 10 0]),(em yes (bF (aD 11 0) c)).2) (d-1) (by omega) hl;have e4:(em yes (bF (aD 11 0) c)).1.length=(c.1++⟨11,((c.1.length+fy.length+2:Nat):Int),[],[],[]⟩:: fy).length:=by
  rw[y1,e1];simp
 have e5:c.1++⟨11,((c.1.length+fy.length+2:Nat):Int),[],[],[]⟩:: (fy++[aD 10 0])++fn=(c.1++⟨11,((c.1.length+fy.length+2:Nat):Int),[],[],[]⟩:: fy)++aD 10 0:: fn:=by simp
 rw[n1,e4];simp only[e5];rw[vo];have hdd:d-1+1=d:=by omega
 rw[hdd]at y2 n2;have l1:(bF (aD 11 0) c).1.length=c.1.length+1:=by rw[e1];simp
 rw[l1]at y2;have l2:(c.1++⟨11,((c.1.length+fy.length+2:Nat):Int),[],[],[]⟩:: (fy++[aD 10 0])).length=c.1.length+fy.length+2:=by simp;omega
 simp only[l2]at n2;refine⟨_,?_,Lv (by omega) y2 n2⟩;simp only[Mz,Mg];congr 4;simp only[aD,Ins.mk.injEq,OM,Ow];simp;omega
theorem uf{loc:Int}{em:Exp->dP->dP}{i:Ins}(hi:i.op≠18/\i.op≠10/\i.op≠11)(ho:GM loc i):∀(l:List Exp),(∀x∈l,FZ loc (em x))->(∀x,rZ (em x))->
  ∀(c:dP)(d:Int),0<=d->(ba i).1<=d+l.length->(l.foldl (fun c x=>em x c) c).2<=loc->∃fr,(bF i (l.foldl (fun c x=>em x c) c)).1=c.1++fr/\iH loc c.1.length d (d+l.length-(ba i).1+(ba i).2) fr
 |[],_,_,c,d,h0,hn,_=>⟨[i],rfl,iH.one h0 (by simpa using hn) hi.1 ho (by unfold cV;rw[if_neg hi.1,if_neg hi.2.1,if_neg hi.2.2]) (by simp)⟩
 | x:: l,hx,hm,c,d,h0,hn,hl=>by
  obtain⟨fr,f1,f2⟩:=hx x (by simp) c d h0 (NN (mQ hm l (em x c)) hl);obtain⟨gr,g1,g2⟩:=uf hi ho l (fun y hy=>hx y (by simp[hy])) hm (em x c) (d+1) (by omega) (by simp only[LQ]at hn;omega) hl;refine⟨fr++gr,?_,?_⟩
  ·rw[NY,g1,f1,Mz]
  ·have e:(em x c).1.length=c.1.length+fr.length:=by rw[f1];simp
   rw[e]at g2
   have:=f2.app g2
   rw[show d+1+(l.length:Int)=d+((x:: l).length:Nat) by simp;omega]at this;exact this
def kv(loc:Int){op:Int}(h:op=4\/op=5\/op=6\/op=7\/op=8\/op=9):GM loc (aD op 0):=fun len _=>by
 rcases h with rfl|rfl|rfl|rfl|rfl|rfl<;>rfl
def BP{vars:List bM}(hv:vars.length<=8)(loc:Int){e:Exp}(hs:di e=true)(h1:e.op=3\/e.op=4\/e.op=5\/e.op=6\/e.op=7\/e.op=10\/e.op=13\/e.op=14\/e.op=15\/e.op=16\/e.op=18)(h18:e.op=18->e.s∈vars.map (·.1)):
  ((bU vars e).op≠18/\(bU vars e).op≠10/\(bU vars e).op≠11)/\GM loc (bU vars e)/\(ba (bU vars e)).1=e.args.length/\(ba (bU vars e)).2=1:=by
 have hc:=dC hs;have hleaf:dI e=true:=by
  simp only[di,LD]at hs;exact hs.2
 rcases h1 with o|o|o|o|o|o|o|o|o|o|o
 ·rw[show bU vars e=aD 4 0 by simp[bU,o]];exact⟨by decide,kv loc (by decide),by show (2:Int)=_;omega,rfl⟩
 ·rw[show bU vars e=aD 5 0 by simp[bU,o]];exact⟨by decide,kv loc (by decide),by show (2:Int)=_;omega,rfl⟩
 ·rw[show bU vars e=aD 6 0 by simp[bU,o]];exact⟨by decide,kv loc (by decide),by show (2:Int)=_;omega,rfl⟩
 ·rw[show bU vars e=aD 7 0 by simp[bU,o]];exact⟨by decide,kv loc (by decide),by show (2:Int)=_;omega,rfl⟩
 ·rw[show bU vars e=aD 8 0 by simp[bU,o]];exact⟨by decide,kv loc (by decide),by show (2:Int)=_;omega,rfl⟩
 ·rw[show bU vars e=aD 9 0 by simp[bU,o]];exact⟨by decide,kv loc (by decide),by show (1:Int)=_;omega,rfl⟩
 ·rw[show bU vars e=⟨12,0,[],[],e.names⟩ by simp[bU,o]];have hn:e.names.length=e.args.length/\d9 e.names=true:=by rcases hc with hc|hc|hc|hc|hc|hc|hc|hc|hc|hc|hc|hc|hc|hc<;>first|omega|exact hc.2
  refine⟨by simp[aD],fun len _=>?_,by show ((e.names.length:Nat):Int)=_;rw[hn.1],rfl⟩;simp[aV,hn.2]
 ·rw[show bU vars e=⟨13,0,e.s,[],[]⟩ by simp[bU,o]];have ha:e.args.length=1:=by omega
  have hs:bz e.s=true:=by
   unfold dI at hleaf;rw[if_neg (by omega),if_neg (by omega),if_neg (by omega),LC (by omega)]at hleaf;exact hleaf
  refine⟨by simp[aD],fun len _=>?_,by show (1:Int)=_;omega,rfl⟩;simp[aV,hs]
 ·rw[show bU vars e=⟨14,e.args.length,e.s,e.m,[]⟩ by simp[bU,o]];unfold dI at hleaf;rw[if_neg (by omega),if_neg (by omega),if_neg (by omega),if_neg (by omega),LC o]at hleaf;simp only[LD,ML,LB,MF]at hleaf;refine⟨by simp[aD],fun len _=>?_,rfl,rfl⟩;have h6:(e.args.length:Int)<=6:=by have:=hleaf.2;omega
  simp[aV,hleaf.1.1,hleaf.1.2,h6]
 ·rw[show bU vars e=aD 15 e.n by simp[bU,o]];have ha:e.args.length=1/\(e.n=1\/e.n=2\/e.n=4\/e.n=8):=by rcases hc with hc|hc|hc|hc|hc|hc|hc|hc|hc|hc|hc|hc|hc|hc<;>first|omega|exact hc.2
  refine⟨by simp[aD],fun len _=>?_,by show (1:Int)=_;omega,rfl⟩;rcases ha.2 with h|h|h|h<;>rw[h]<;>rfl
 ·rw[show bU vars e=aD 17 (iW vars e.s) by simp[bU,o]];have ha:e.args.length=1:=by omega
  have hv2:=vF (h18 o);refine⟨by simp[aD],fun len _=>?_,by show (1:Int)=_;omega,rfl⟩;have h8:iW vars e.s<8:=by omega
  simp[aV,aD,hv2.1,h8]
theorem tS{vars:List bM}(hv:vars.length<=8){loc:Int}:∀(n:Nat)(e:Exp),bo n e=true->∀names:List aU,CB vars n names e->names.length<=loc->FZ loc (aN vars n e names)
 |0,e,h,names,_,_=>by simp[bo]at h
 | n+1,e,h,names,hsc,hnl=>by
  have hs:di e=true:=by rw[cQ,LD]at h;exact h.1
  have hc:=dC hs;have hleaf:dI e=true:=by
   have:=hs
   simp only[di,LD]at this;exact this.2
  obtain⟨s2,s17,s12,sA⟩:=hsc;have ih:=fun(x:Exp) (hx:bo n x=true) (nm:List aU) (h1:CB vars n nm x) (h2:nm.length<=loc)=>tS hv n x hx nm h1 h2;have sAt:∀k,k<e.args.length->e.op≠12->CB vars n names e.args[k]!:=fun k hk ho=>by
   rw[LK e.args k hk];exact sA ho _ (LM hk)
  have one:∀i:Ins,(i.op≠18/\i.op≠10/\i.op≠11)->GM loc i->(ba i).1=0->(ba i).2=1->FZ loc (bF i):=fun i h1 h2 h3 h4 c d h0 _=>by
   refine⟨[i],rfl,iH.one h0 (by omega) h1.1 h2 (by unfold cV;rw[if_neg h1.1,if_neg h1.2.1,if_neg h1.2.2]) (by omega)⟩
  have htr:∀t,t=0\/t=1->1<=n->FZ loc (aN vars n (fe t) names):=fun t ht hn c d h0 hl=>by
   obtain⟨m,rfl⟩:∃m,n=m+1:=⟨n-1,by omega⟩;rw[fT]at hl |-;exact one (aD 1 t) (by simp[aD]) (fun len _=>by rcases ht with rfl|rfl<;>rfl) rfl rfl c d h0 hl
  have seq:∀(f g:dP->dP)(c:dP)(d:Int),0<=d->FZ loc f->rZ g->(g (f c)).2<=loc->(∀c':dP,c'=f c->(g c').2<=loc->∃fr,(g c').1=c'.1++fr/\iH loc c'.1.length (d+1) (d+1) fr)->∃fr,(g (f c)).1=c.1++fr/\iH loc c.1.length d (d+1) fr:=fun f g c d h0 hf hg hl hk=>by
   obtain⟨fr,f1,f2⟩:=hf c d h0 (NN (hg _) hl);obtain⟨gr,g1,g2⟩:=hk (f c) rfl hl;refine⟨fr++gr,by rw[g1,f1,Mz],?_⟩;have e:(f c).1.length=c.1.length+fr.length:=by rw[f1];simp
   rw[e]at g2;exact f2.app g2
  have mo:=kA vars n;intro c d h0 hl;unfold aN at hl |-;split at hl
  ·rename_i ho;rw[LC ho];exact one (aD 0 e.n) (by simp[aD]) (fun len _=>rfl) rfl rfl c d h0 hl
  rename_i o0;rw[if_neg o0];split at hl
  ·rename_i ho;rw[LC ho];have hb:e.n=0\/e.n=1:=by omega
   exact one (aD 1 e.n) (by simp[aD]) (fun len _=>by rcases hb with h|h<;>rw[h]<;>rfl) rfl rfl c d h0 hl
  rename_i o1;rw[if_neg o1];split at hl
  ·rename_i ho;rw[LC ho];have hm:=zq (s2 ho);refine one (aD 2 (jy names e.s)) (by simp[aD]) (fun len _=>?_) rfl rfl c d h0 hl;have h8:jy names e.s<loc:=by omega
   simp[aV,aD,hm.1,h8]
  rename_i o2;rw[if_neg o2];split at hl
  ·rename_i ho;rw[LC ho];have hm:=vF (s17 (.inl ho));refine one (aD 16 (iW vars e.s)) (by simp[aD]) (fun len _=>?_) rfl rfl c d h0 hl;have h8:iW vars e.s<8:=by omega
   simp[aV,aD,hm.1,h8]
  rename_i o17;rw[if_neg o17];split at hl
  ·rename_i ho;rw[LC ho];have hlen:e.args.length=2:=by omega
   obtain⟨m,rfl⟩:=cu (bq h (k:=0) (by omega));exact seq (aN vars (m+1) e.args[0]! names) (cT (fun x=>aN vars (m+1) x names) e.args[1]! (fe 0)) c d h0 (ih _ (bq h (k:=0) (by omega)) names (sAt 0 (by omega) (by omega)) hnl) (fj (em:=fun x=>aN vars (m+1) x names) (mo _ names) (mo _ names)) hl
    (fun c' _ hl'=>lh (em:=fun x=>aN vars (m+1) x names) (ih _ (bq h (k:=1) (by omega)) names (sAt 1 (by omega) (by omega)) hnl) (htr 0 (.inl rfl) (by omega)) (mo _ names) c' (d+1) (by omega) hl')
  rename_i o8;rw[if_neg o8];split at hl
  ·rename_i ho;rw[LC ho];have hlen:e.args.length=2:=by omega
   obtain⟨m,rfl⟩:=cu (bq h (k:=0) (by omega));exact seq (aN vars (m+1) e.args[0]! names) (cT (fun x=>aN vars (m+1) x names) (fe 1) e.args[1]!) c d h0 (ih _ (bq h (k:=0) (by omega)) names (sAt 0 (by omega) (by omega)) hnl) (fj (em:=fun x=>aN vars (m+1) x names) (mo _ names) (mo _ names)) hl
    (fun c' _ hl'=>lh (em:=fun x=>aN vars (m+1) x names) (htr 1 (.inr rfl) (by omega)) (ih _ (bq h (k:=1) (by omega)) names (sAt 1 (by omega) (by omega)) hnl) (mo _ names) c' (d+1) (by omega) hl')
  rename_i o9;rw[if_neg o9];split at hl
  ·rename_i ho;rw[LC ho];have hlen:e.args.length=3:=by omega
   obtain⟨m,rfl⟩:=cu (bq h (k:=0) (by omega));exact seq (aN vars (m+1) e.args[0]! names) (cT (fun x=>aN vars (m+1) x names) e.args[1]! e.args[2]!) c d h0 (ih _ (bq h (k:=0) (by omega)) names (sAt 0 (by omega) (by omega)) hnl) (fj (em:=fun x=>aN vars (m+1) x names) (mo _ names) (mo _ names)) hl
    (fun c' _ hl'=>lh (em:=fun x=>aN vars (m+1) x names) (ih _ (bq h (k:=1) (by omega)) names (sAt 1 (by omega) (by omega)) hnl) (ih _ (bq h (k:=2) (by omega)) names (sAt 2 (by omega) (by omega)) hnl) (mo _ names) c' (d+1) (by omega) hl')
  rename_i o11;rw[if_neg o11];split at hl
  ·rename_i ho;rw[LC ho];have hlen:e.args.length=2:=by omega
   obtain⟨t1,t2⟩:=s12 ho;have g2:=mo e.args[1]! (names++[e.s]) ((bF (aD 3 names.length) (aN vars n e.args[0]! names c)).1,max (bF (aD 3 names.length) (aN vars n e.args[0]! names c)).2 (names.length+1));have a3:(bF (aD 3 names.length) (aN vars n e.args[0]! names c)).2=(aN vars n e.args[0]! names c).2:=rfl;simp only[a3]at g2 hl |-;have hl2:(names.length:Int)+1<=loc:=by omega
   obtain⟨f1,p1,q1⟩:=ih _ (bq h (k:=0) (by omega)) names t1 hnl c d h0 (by omega);have q2:iH loc (c.1.length+f1.length) (d+1) d [aD 3 names.length]:=iH.one (by omega) (show (1:Int)<=d+1 by omega) (by simp[aD]) (fun len _=>by
    have h8:(names.length:Int)<loc:=by omega
    simp[aV,aD,h8]) rfl (by show d=d+1-1+0;omega)
   obtain⟨f3,p3,q3⟩:=ih _ (bq h (k:=1) (by omega)) (names++[e.s]) t2 (by simp;omega) ((bF (aD 3 names.length) (aN vars n e.args[0]! names c)).1,max (aN vars n e.args[0]! names c).2 (names.length+1)) d h0 hl;have e1:(bF (aD 3 names.length) (aN vars n e.args[0]! names c)).1=c.1++(f1++[aD 3 names.length]):=by
    show (aN vars n e.args[0]! names c).1++_=_;rw[p1,Mz]
   refine⟨f1++[aD 3 names.length]++f3,?_,(q1.app q2).app ?_⟩
   ·rw[p3];simp only[e1,Mz]
   ·have e2:(bF (aD 3 names.length) (aN vars n e.args[0]! names c)).1.length=c.1.length+(f1++[aD 3 names.length]).length:=by rw[e1];simp
    simp only[e2]at q3;exact q3
  rename_i o12;rw[if_neg o12];have hop:e.op=3\/e.op=4\/e.op=5\/e.op=6\/e.op=7\/e.op=10\/e.op=13\/e.op=14\/e.op=15\/e.op=16\/e.op=18:=by omega
  obtain⟨k1,k2,k3,k4⟩:=BP hv loc hs hop (fun h18=>s17 (.inr h18));have hl':(e.args.foldl (fun c x=>aN vars n x names c) c).2<=loc:=hl
  have:=uf (em:=fun x=>aN vars n x names) k1 k2 e.args (fun x hx=>ih x (dh h hx) names (sA o12 x hx) hnl) (fun x=>mo x names) c d h0 (by omega) hl'
  rw[k3,k4,show d+(e.args.length:Int)-e.args.length+1=d+1 by omega]at this;exact this
structure Full (loc:Int) (C:List Ins) (G:List Int):Prop where
 ne:0<C.length
 len:G.length=C.length
 g0:G[0]! = 0
 ins:∀k,k<C.length->0<=G[k]! /\(ba C[k]!).1<=G[k]! /\(C[k]!.op=18->G[k]! = 1)/\aV C.length loc C[k]! = true/\∀v∈cV C[k]! (k:Int),∃j,j<C.length/\v=(j:Int)/\G[j]! = G[k]! - (ba C[k]!).1+(ba C[k]!).2
 pre:∀k,0<k->k<C.length->∃j,j<k/\(k:Int)∈cV C[j]! (j:Int)
structure Part (G:List Int) (hl td:List Int):Prop where
 len:hl.length=G.length
 agr:∀j,j<G.length->hl[j]! = -1\/hl[j]! = G[j]!
 todo:∀v∈td,∃j,j<G.length/\v=(j:Int)/\hl[j]! = G[j]!
theorem nk{G:List Int}(hG:∀j,j<G.length->0<=G[j]!){k:Nat}(hk:k<G.length){nd gv:Int}:∀(nx hl td:List Int),Part G hl td->hl[k]! = G[k]! ->(∀v∈nx,∃j,j<G.length/\v=(j:Int)/\G[j]! = G[k]! - nd+gv)->
  ∃hl' td',eF G.length k nd gv nx hl td=some (hl',td')/\Part G hl' td'/\(∀j,j<G.length->hl[j]! = G[j]! ->hl'[j]! = G[j]!)/\(∀v∈nx,hl'[v.toNat]! = G[v.toNat]!)/\(∀v∈td,v∈td')/\(∀j,j<G.length->hl'[j]! = G[j]! ->hl[j]! = G[j]! \/(j:Int)∈td')/\td'.length+kN hl'=td.length+kN hl
 |[],hl,td,P,_,_=>⟨hl,td,rfl,P,fun _ _ h=>h,(fun v hv=>by cases hv),fun v hv=>hv,fun _ _ h=>.inl h,rfl⟩
 | v :: nx,hl,td,P,hh,hx=>by
  obtain⟨j,hj,rfl,hg⟩:=hx v (by simp);have hjl:j<hl.length:=by rw[P.len];exact hj
  have hne:¬((j:Int)=(G.length:Int)):=by omega
  have hx':∀v∈nx,∃j,j<G.length/\v=(j:Int)/\G[j]! = G[k]! - nd+gv:=fun v hv=>hx v (by simp[hv]);simp only[eF];rw[if_neg hne,LH];have gj:=hG j hj;by_cases hlt:hl[j]! < 0
  ·rw [LC hlt];have hset:∀i,i<G.length->(hl.set j (hl[k]! - nd+gv))[i]! = if j=i then G[j]! else hl[i]!:=fun i hi=>by
    rw[jV hjl (by rw[P.len];exact hi),hh,<- hg]
   have P':Part G (hl.set j (hl[k]! - nd+gv)) (td++[(j:Int)]):=by
    refine⟨by simpa using P.len,fun i hi=>?_,fun v hv=>?_⟩
    ·rw[hset i hi];split
     ·rename_i e;subst e;exact .inr rfl
     ·exact P.agr i hi
    ·rcases L3.1 hv with hv|hv
     ·obtain⟨i,hi,rfl,hgi⟩:=P.todo v hv;refine⟨i,hi,rfl,?_⟩;rw[hset i hi];split
      ·rename_i e;subst e;rfl
      ·exact hgi
     ·rw[L5]at hv;subst hv;exact⟨j,hj,rfl,by rw[hset j hj,LC rfl]⟩
   have hkk:(hl.set j (hl[k]! - nd+gv))[k]! = G[k]!:=by
    rw[hset k hk];split
    ·rename_i e;subst e;rfl
    ·exact hh
   obtain⟨hl',td',e1,p1,p2,p3,p4,p5,p6⟩:=nk hG hk (nd:=nd) (gv:=gv) nx _ _ P' hkk hx';refine⟨hl',td',e1,p1,fun i hi h=>p2 i hi ?_,fun v hv=>?_,fun v hv=>p4 v (by simp[hv]),fun i hi h=>?_,?_⟩
   ·rw[hset i hi];split
    ·rename_i e;subst e;rfl
    ·exact h
   ·rcases LU.1 hv with rfl|hv
    ·rw[LH];exact p2 j hj (by rw[hset j hj,LC rfl])
    ·exact p3 v hv
   ·rcases p5 i hi h with h'|h'
    ·rw[hset i hi]at h';split at h'
     ·rename_i e;subst e;exact .inr (p4 _ (by simp))
     ·exact .inl h'
    ·exact .inr h'
   ·have hn:=pQ hjl hlt (x:=hl[k]! - nd+gv) (by rw[hh,<- hg];exact gj);simp only[L4,MP]at p6;omega
  ·rw[if_neg hlt];have hj2:hl[j]! = G[j]!:=by rcases P.agr j hj with h|h<;>omega
   rw[if_neg (by rw[hh,<- hg,hj2];simp)];obtain⟨hl',td',e1,p1,p2,p3,p4,p5,p6⟩:=nk hG hk (nd:=nd) (gv:=gv) nx hl td P hh hx';refine⟨hl',td',e1,p1,p2,fun v hv=>?_,p4,p5,p6⟩;rcases LU.1 hv with rfl|hv
   ·rw[LH];exact p2 j hj hj2
   ·exact p3 v hv
theorem ve{loc:Int}{C:List Ins}{G:List Int}(F:Full loc C G):∀(f:Nat)(hl td:List Int),Part G hl td->(∀k,k<G.length->hl[k]! = G[k]! ->(k:Int)∈td\/∀v∈cV C[k]! (k:Int),hl[v.toNat]! = G[v.toNat]!)->td.length+kN hl<f->
  ∃hl',kP C f hl td=some hl'/\hl'.length=G.length/\(∀j,j<G.length->hl[j]! = G[j]! ->hl'[j]! = G[j]!)/\∀k,k<G.length->hl'[k]! = G[k]! ->∀v∈cV C[k]! (k:Int),hl'[v.toNat]! = G[v.toNat]!
 |0,_,_,_,_,h=>absurd h (by omega)
 | f+1,hl,[],P,hc,_=>⟨hl,rfl,P.len,fun _ _ h=>h,fun k hk h=>by
   rcases hc k hk h with h'|h'
   ·cases h'
   ·exact h'⟩
 | f + 1,hl,a:: td,P,hc,hf=>by
  obtain⟨k,hk,rfl,hgk⟩:=P.todo a (by simp);have hkC:k<C.length:=by rw[<- F.len];exact hk
  obtain⟨i1,i2,i3,i4,i5⟩:=F.ins k hkC;have hG:∀j,j<G.length->0<=G[j]!:=fun j hj=>(F.ins j (by rw[<- F.len];exact hj)).1;have P0:Part G hl td:=⟨P.len,P.agr,fun v hv=>P.todo v (by simp[hv])⟩;obtain⟨hl',td',e1,p1,p2,p3,p4,p5,p6⟩:=nk hG hk (nd:=(ba C[k]!).1) (gv:=(ba C[k]!).2) (cV C[k]! (k:Int)) hl td P0 hgk (fun v hv=>by
   obtain⟨j,j1,j2,j3⟩:=i5 v hv;exact⟨j,by rw[F.len];exact j1,j2,j3⟩)
  have hc':∀i,i<G.length->hl'[i]! = G[i]! ->(i:Int)∈td'\/∀v∈cV C[i]! (i:Int),hl'[v.toNat]! = G[v.toNat]!:=by
   intro i hi h;by_cases hik:i=k
   ·subst hik;exact .inr p3
   ·rcases p5 i hi h with h'|h'
    ·rcases hc i hi h' with h2|h2
     ·rcases LU.1 h2 with h2|h2
      ·exact absurd (by omega) hik
      ·exact .inl (p4 _ h2)
     ·refine .inr fun v hv=>?_;have hiC:i<C.length:=by rw[<- F.len];exact hi
      obtain⟨j,j1,rfl,_⟩:=(F.ins i hiC).2.2.2.2 v hv
      have:=h2 _ hv
      rw[LH]at this |-;exact p2 j (by rw[F.len];exact j1) this
    ·exact .inl h'
  obtain⟨hl2,e2,q1,q2,q3⟩:=ve F f hl' td' p1 hc' (by simp only[LQ]at hf;omega);refine⟨hl2,?_,q1,fun j hj h=>q2 j hj (p2 j hj h),q3⟩;have hn:¬(hl[(k:Int).toNat]! < (ba C[(k:Int).toNat]!).1\/(C[(k:Int).toNat]!.op=18/\hl[(k:Int).toNat]! ≠1)):=by
   rw[LH,hgk];rintro (h|⟨h,h'⟩)
   ·omega
   ·exact h' (i3 h)
  simp only[kP];rw[if_neg hn,LH,<- F.len,e1];exact e2
def A6{loc:Int}{C:List Ins}{G:List Int}(F:Full loc C G):∃hl,kP C (2*C.length+2) (0:: List.replicate (C.length-1) (-1)) [0]=some hl/\hl.length=C.length/\∀k,k<C.length->0<=hl[k]!:=by
 have hn:=F.ne;have hl0:(0:: List.replicate (C.length-1) (-1:Int)).length=C.length:=by simp;omega
 have hv:∀j,j<G.length->(j=0/\(0:: List.replicate (C.length-1) (-1:Int))[j]! = 0)\/(0<j/\(0:: List.replicate (C.length-1) (-1:Int))[j]! = -1):=by
  intro j hj;rw[LK _ j (by rw[hl0,<- F.len];exact hj)];cases j with
  |zero=>exact .inl ⟨rfl,rfl⟩
  |succ j=>exact .inr ⟨by omega,by simp⟩
 have P:Part G (0:: List.replicate (C.length-1) (-1:Int)) [0]:=by
  refine⟨by rw[hl0,F.len],fun j hj=>?_,fun v hv'=>?_⟩
  ·rcases hv j hj with⟨rfl,h⟩|⟨_,h⟩
   ·exact .inr (by rw[h,F.g0])
   ·exact .inl h
  ·rw[L5]at hv';subst hv';exact⟨0,by rw[F.len];exact hn,rfl,by rw[F.g0];rfl⟩
 have hneg:kN (0:: List.replicate (C.length-1) (-1:Int))=C.length-1:=by
  unfold kN;rw[OV (by simp),List.countP_replicate];simp
 obtain⟨hl,e1,q1,q2,q3⟩:=ve F (2*C.length+2) _ [0] P (fun k hk h=>by
  rcases hv k hk with⟨rfl,_⟩|⟨h0,h1⟩
  ·exact .inl (by simp)
  ·have:=(F.ins k (by rw[<- F.len];exact hk)).1
   rw[h1]at h;omega) (by rw[hneg];simp;omega)
 refine⟨hl,e1,by rw[q1,F.len],fun k hk=>?_⟩;have key:∀n k,k<=n->k<C.length->hl[k]! = G[k]!:=by
  intro n
  induction n with
  |zero=>
   intro k hk hC;obtain rfl:k=0:=by omega
   exact q2 0 (by rw[F.len];exact hC) (by rw[F.g0];rfl)
  | succ n ih=>
   intro k hk hC;rcases Mq k with rfl|h0
   ·exact ih 0 (by omega) hC
   ·obtain⟨j,j1,j2⟩:=F.pre k h0 hC
    have:=q3 j (by rw[F.len];omega) (ih j (by omega) (by omega)) _ j2
    rwa [LH]at this
 rw[key k k (LI _) hk];exact (F.ins k hk).1
theorem sr{vars:List bM}(hv:vars.length<=8){f:Fun}(F:FunOk f)(hs:CB vars 12 (f.params.map (·.1)) f.body):∃hl,cj (bh vars f)=some hl/\hl.length=(bh vars f).code.length/\∀k,k<(bh vars f).code.length->0<=hl[k]!:=by
 have hm:=kA vars 12 f.body (f.params.map (·.1)) ([],f.params.length);have hloc:(bh vars f).locals=(aN vars 12 f.body (f.params.map (·.1)) ([],f.params.length)).2:=rfl;obtain⟨fr,e1,n1,G,s1,g1⟩:=tS hv (loc:=(bh vars f).locals) 12 f.body F.body (f.params.map (·.1)) hs (by rw[hloc];simpa using hm) ([],f.params.length) 0 (by omega) (by rw[hloc];exact NU _);simp only[Mn,Mb,Ma]at e1 s1;have hC:(bh vars f).code=fr++[aD 18 0]:=by
  show (aN vars 12 f.body (f.params.map (·.1)) ([],f.params.length)).1++[aD 18 0]=_;rw[e1]
 have hfr:0<fr.length:=Ms.2 n1;have FF:Full (bh vars f).locals (bh vars f).code (G++[1]):=by
  rw[hC];have hlen:=s1.len;have hlast:(fr++[aD 18 0])[fr.length]! = aD 18 0:=by
   simp
  have glast:(G++[1])[fr.length]! = (1:Int):=by
   have:=uk (x:=G) (y:=[(1:Int)]) 0 (by simp)
   rw[hlen]at this;simpa using this
  refine⟨by simp,by simp[hlen],by rw[lU (by omega)];exact g1,fun k hk=>?_,fun k h0 hk=>?_⟩
  ·rcases L8 k fr.length with hx|hx
   ·obtain⟨a1,a2,a3,a4,a5⟩:=s1.ins k hx;rw[lU hx,lU (by omega)];have a5':∀v∈cV fr[k]! (k:Int),∃j,j<(fr++[aD 18 0]).length/\v=(j:Int)/\(G++[1])[j]! = G[k]! - (ba fr[k]!).1+(ba fr[k]!).2:=by
     intro v hv';rcases a5 v (by simpa using hv')with⟨j,j1,j2,j3⟩|⟨q1,q2⟩
     ·exact⟨j,by simp;omega,by simpa using j2,by rw[lU (by omega)];exact j3⟩
     ·exact⟨fr.length,by simp,by simpa using q1,by rw[glast,q2];rfl⟩
    refine⟨a1,a2,fun h=>absurd h a3,a4 _ fun ho=>?_,a5'⟩;have:fr[k]!.a∈cV fr[k]! (k:Int):=by
     unfold cV;rw[if_neg a3];rcases ho with h|h
     ·rw[LC h];simp
     ·rw[if_neg (by omega),LC h];simp
    obtain⟨j,j1,j2,_⟩:=a5' _ this;omega
   ·obtain rfl:k=fr.length:=by simp at hk;omega
    rw[hlast,glast];exact⟨by omega,by show (1:Int)<=1;omega,fun _=>rfl,rfl,fun v hv'=>by cases hv'⟩
  ·rcases L8 k fr.length with hx|hx
   ·obtain⟨j,j1,j2⟩:=s1.pre k h0 hx;exact⟨j,j1,by rw[lU (by omega)];simpa using j2⟩
   ·obtain rfl:k=fr.length:=by simp at hk;omega
    obtain⟨j,j1,j2⟩:=s1.out ((0+fr.length:Nat):Int) (by simp[I6]);exact⟨j,j1,by rw[lU j1];simpa using j2⟩
 obtain⟨hl,h1,h2,h3⟩:=A6 FF;refine⟨hl,?_,h2,h3⟩;unfold cj;have hh:lp (bh vars f)=true:=by
  unfold lp;have p6:=F.plen;have hp:(bh vars f).params=f.params.length:=rfl;have hn:(bh vars f).func=f.name:=rfl;have hne:(bh vars f).code≠[]:=by rw[hC];simp
  have hle:(f.params.length:Int)<=(bh vars f).locals:=by rw[hloc];exact hm
  simp[hp,hn,F.name,hne,p6,hle];omega
 have ha:(bh vars f).code.all (aV (bh vars f).code.length (bh vars f).locals)=true:=by
  rw[LO];intro i hi;obtain⟨k,hk,rfl⟩:=List.mem_iff_getElem.1 hi
  have:=(FF.ins k hk).2.2.2.1
  rwa [LK _ k hk]at this
 rw[LC ⟨hh,ha⟩];exact h1
theorem lv{F:bM->Bool}:∀ {l:List bM} {z:bM},cf F l=some z->z∈l/\F z=true
 |[],z,h=>by simp[cf]at h
 | x:: l,z,h=>by
  unfold cf at h;split at h
  ·rename_i y hy;cases h
   have:=lv hy
   exact⟨by simp[this.1],this.2⟩
  ·cases hx:F x with
   |true=>rw[hx]at h;simp at h;subst h;exact⟨by simp,hx⟩
   |false=>rw[hx]at h;simp at h
theorem uG{r:Exp->ek Ty}:∀ {l:List Exp} {n:Int} {ts:List Ty} {n':Int},dO r l n= .ok ts n'->∀x∈l,∃m t m',r x m= .ok t m'
 |[],_,_,_,_,x,hx=>by cases hx
 | e :: l,n,ts,n',h,x,hx=>by
  simp only[dO,ek.bind]at h;split at h
  ·rename_i t m hm;rcases LU.1 hx with rfl|hx
   ·exact⟨_,_,_,hm⟩
   ·split at h
    ·rename_i ts' m' hm';exact uG hm' x hx
    ·cases h
  ·cases h
theorem vC{c:Tcx}:∀(n:Nat)(e:Exp),bo n e=true->∀(ls:List bM)(k:Int)(t:Ty)(k':Int),bT c n ls e k= .ok t k'->CB c.vars n (ls.map (·.1)) e
 |0,e,h,_,_,_,_,_=>by simp[bo]at h
 | n + 1,e,h,ls,k,t,k',ht=>by
  have hs:di e=true:=by rw[cQ,LD]at h;exact h.1
  have hc:=dC hs;have ih:=fun(x:Exp) (hx:bo n x=true)=>vC (c:=c) n x hx;have ht':dv c (bT c n) ls e k= .ok t k':=ht;have inArgs:(∃ts m,dO (bT c n ls) e.args k= .ok ts m)->∀x∈e.args,CB c.vars n (ls.map (·.1)) x:=by
   rintro⟨ts,m,hl⟩ x hx;obtain⟨m1,t1,m2,h1⟩:=uG hl x hx;exact ih x (dh h hx) ls _ _ _ h1
  refine⟨fun ho=>?_,fun ho=>?_,fun ho=>?_,fun ho=>?_⟩
  ·rw[qi ho]at ht';cases hz:cf (fun z:bM=>z.1== e.s) ls with
   |none=>rw[hz]at ht';cases ht'
   |some z=>
    obtain⟨h1,h2⟩:=lv hz;exact Mu.2 ⟨z,h1,by simpa using h2⟩
  ·rw[lC ho]at ht';cases hz:cf (fun z:bM=>z.1== e.s) c.vars with
   |none=>rw[hz]at ht';cases ht'
   |some z=>
    obtain⟨h1,h2⟩:=lv hz;exact Mu.2 ⟨z,h1,by simpa using h2⟩
  ·rw[qh ho]at ht';have hlen:e.args.length=2:=by omega
   simp only[ek.bind]at ht';split at ht'
   ·rename_i t1 m hm;refine⟨ih _ (bq h (k:=0) (by omega)) ls _ _ _ hm,?_⟩
    have:=ih _ (bq h (k:=1) (by omega)) _ _ _ _ ht'
    simpa using this
   ·cases ht'
  ·by_cases o2:e.op=2
   ·have:e.args=[]:=List.length_eq_zero_iff.1 (by omega);rw[this];intro x hx;cases hx
   by_cases o17:e.op=17\/e.op=18
   ·rw [lC o17]at ht';cases hz:cf (fun z:bM=>z.1== e.s) c.vars with
    |none=>rw[hz]at ht';cases ht'
    | some z=>
     rw[hz]at ht';simp only at ht';by_cases o18:e.op=18
     ·rw[LC o18]at ht';simp only[ek.bind]at ht';have hlen:e.args.length=1:=by omega
      split at ht'
      ·rename_i t1 m hm;intro x hx;have hx0:x=e.args[0]!:=by
        obtain⟨a,ha⟩:∃a,e.args=[a]:=List.length_eq_one_iff.1 hlen;rw[ha]at hx |-;simpa using hx
       rw[hx0];exact ih _ (bq h (k:=0) (by omega)) ls _ _ _ hm
      ·cases ht'
     ·have:e.args=[]:=List.length_eq_zero_iff.1 (by omega);rw[this];intro x hx;cases hx
   by_cases o15:e.op=15
   ·rw [nZ o15]at ht';cases hz:dG c e with
    |none=>rw[hz]at ht';cases ht'
    | some s=>
     rw[hz]at ht';simp only at ht';split at ht'
     ·simp only[ek.bind]at ht';split at ht'
      ·rename_i ts m hm;exact inArgs ⟨_,_,hm⟩
      ·cases ht'
     ·cases ht'
   ·rw[oc o2 ho o17 o15]at ht';simp only[ek.bind]at ht';split at ht'
    ·rename_i ts m hm;exact inArgs ⟨_,_,hm⟩
    ·cases ht'
def CE(c:List Ins):Prop:=∀i∈c,-9223372036854775808<=i.a/\i.a<=9223372036854775807
def iE{i:Ins}{c:dP}(hi:-9223372036854775808<=i.a/\i.a<=9223372036854775807)(h:CE c.1):CE (bF i c).1:=by
 intro x hx;rcases L3.1 hx with hx|hx
 ·exact h x hx
 ·rw[L5]at hx;subst hx;exact hi
def B8{c:List Ins}(h:CE c)(k:Nat){n:Int}(h0:0<=n)(hn:n<=9223372036854775807):CE (fJ c k n):=by
 intro x hx;unfold fJ at hx;rcases L8 k c.length with hk|hk
 ·rcases OK hx with hx|rfl
  ·exact h x hx
  ·exact⟨by show -9223372036854775808<=n;omega,hn⟩
 ·rw[OQ hk]at hx;exact h x hx
def oA(L:Nat)(em:dP->dP):Prop:=∀c:dP,c.1.length+L<=1000000000000->CE c.1->CE (em c).1
def oO{em:Exp->dP->dP}{yes no:Exp}{L1 L2:Nat}(h1:oA L1 (em yes))(h2:oA L2 (em no))(a1:iY (em yes) L1)(a2:iY (em no) L2):oA (L1+L2+2) (cT em yes no):=by
 intro c hl hc;have e1:=bS (aD 11 0) c;have b1:=(a1 (bF (aD 11 0) c)).2;have k1:=h1 (bF (aD 11 0) c) (by omega) (iE (i:=aD 11 0) (by decide) hc);show CE (fJ (em no (fJ (bF (aD 10 0) (em yes (bF (aD 11 0) c))).1 c.1.length (bF (aD 10 0) (em yes (bF (aD 11 0) c))).1.length,(bF (aD 10 0) (em yes (bF (aD 11 0) c))).2)).1 (em yes (bF (aD 11 0) c)).1.length _);generalize em yes (bF (aD 11 0) c)=c2 at *;have e2:=bS (aD 10 0) c2;have k3:CE (bF (aD 10 0) c2).1:=iE (i:=aD 10 0) (by decide) k1;generalize bF (aD 10 0) c2=c3 at *;have k4:CE (fJ c3.1 c.1.length c3.1.length):=B8 k3 _ (by omega) (by omega);have l4:((fJ c3.1 c.1.length c3.1.length,c3.2):dP).1.length=c3.1.length:=iU _ _ _;have b2:=(a2 (fJ c3.1 c.1.length c3.1.length,c3.2)).2;have k5:=h2 (fJ c3.1 c.1.length c3.1.length,c3.2) (by omega) k4;generalize ((fJ c3.1 c.1.length c3.1.length,c3.2):dP)=c4 at *;exact B8 k5 _ (by omega) (by omega)
theorem A4(em:Exp->dP->dP)(L:Nat):∀(l:List Exp),(∀x∈l,oA L (em x)/\iY (em x) L)->oA (l.length*L) (fun c=>l.foldl (fun c x=>em x c) c)
 |[],_=>fun c _ h=>h
 |x:: l,h=>fun c hl hc=>by
  obtain⟨a,b⟩:=h x (by simp);simp only[LQ,Nu]at hl;have b':=(b c).2;exact A4 em L l (fun y hy=>h y (by simp[hy])) (em x c) (by omega) (a c (by omega) hc)
theorem rp(names:List aU)(s:aU):∀n,-1<=gA names s n/\gA names s n<=n
 |0=>by simp[gA]
 |n+1=>by
  have:=rp names s n
  unfold gA;split<;>omega
def yA(vars:List bM)(s:aU):-1<=iW vars s/\iW vars s<=vars.length:=by
 unfold iW;rcases pn (fun f:bM=>f.1== s) vars 0 with h|h<;>omega
def DW{vars:List bM}(hv:vars.length<=1000000){e:Exp}(h8:e.args.length<=8)(hn:e.op=16->0<=e.n/\e.n<=8):-9223372036854775808<=(bU vars e).a/\(bU vars e).a<=9223372036854775807:=by
 have hvb:=yA vars e.s;unfold bU
 repeat' split
 all_goals simp only[aD];omega
set_option maxHeartbeats 4000000 in
theorem wx{vars:List bM}(hv:vars.length<=1000000):∀(n:Nat)(e:Exp),bo n e=true->∀names:List aU,names.length+n<=1000000->oA (fw n) (aN vars n e names)
 |0,e,h,names,_=>by simp[bo]at h
 | n+1,e,h,names,hn=>by
  have hs:di e=true:=by rw[cQ,LD]at h;exact h.1
  have hcs:=dC hs;have h8:=xC hs;have hleaf:dI e=true:=by
   have:=hs
   simp only[di,LD]at this;exact this.2
  have hvb:=yA vars e.s;have hlb:=rp names e.s names.length;have ih:=fun(x:Exp) (hx:bo n x=true)=>wx hv n x hx names (by omega);have il:=fun(x:Exp) (hx:bo n x=true)=>bQ vars n x hx names;have htr:∀t:Int,(t=0\/t=1)->1<=n->oA 1 (aN vars n (fe t) names)/\iY (aN vars n (fe t) names) 1:=fun t ht h1=>by
   obtain⟨m,rfl⟩:∃m,n=m+1:=⟨n-1,by omega⟩;refine⟨fun c _ hc=>?_,fun c=>?_⟩
   ·rw[fT];exact iE (i:=aD 1 t) (by show _<=t/\t<=_;omega) hc
   ·rw[fT,bS];omega
  intro c hl hc;simp only[fw]at hl;unfold aN;split
  ·rename_i o;unfold dI at hleaf;rw[LC o]at hleaf;simp only[LD,LB]at hleaf;exact iE (i:=aD 0 e.n) (by show _<=e.n/\e.n<=_;omega) hc
  split
  ·exact iE (i:=aD 1 e.n) (by show _<=e.n/\e.n<=_;omega) hc
  split
  ·exact iE (i:=aD 2 (jy names e.s)) (by show _<=jy names e.s/\jy names e.s<=_;unfold jy;omega) hc
  split
  ·exact iE (i:=aD 16 (iW vars e.s)) (by show _<=iW vars e.s/\iW vars e.s<=_;omega) hc
  split
  ·have hle:e.args.length=2:=by omega
   have r0:=bq h (k:=0) (by omega);have r1:=bq h (k:=1) (by omega);obtain⟨m,rfl⟩:=cu r0;have b:=(il _ r0 c).2;exact oO (em:=fun x=>aN vars (m+1) x names) (ih _ r1) (htr 0 (.inl rfl) (by omega)).1 (il _ r1) (htr 0 (.inl rfl) (by omega)).2 _ (by simp only[fw]at hl b |-;omega) (ih _ r0 c (by omega) hc)
  split
  ·have hle:e.args.length=2:=by omega
   have r0:=bq h (k:=0) (by omega);have r1:=bq h (k:=1) (by omega);obtain⟨m,rfl⟩:=cu r0;have b:=(il _ r0 c).2;exact oO (em:=fun x=>aN vars (m+1) x names) (htr 1 (.inr rfl) (by omega)).1 (ih _ r1) (htr 1 (.inr rfl) (by omega)).2 (il _ r1) _ (by simp only[fw]at hl b |-;omega) (ih _ r0 c (by omega) hc)
  split
  ·have hle:e.args.length=3:=by omega
   have r0:=bq h (k:=0) (by omega);have r1:=bq h (k:=1) (by omega);have r2:=bq h (k:=2) (by omega);have b:=(il _ r0 c).2;exact oO (em:=fun x=>aN vars n x names) (ih _ r1) (ih _ r2) (il _ r1) (il _ r2) _ (by omega) (ih _ r0 c (by omega) hc)
  split
  ·have hle:e.args.length=2:=by omega
   have r0:=bq h (k:=0) (by omega);have r1:=bq h (k:=1) (by omega);have b:=(il _ r0 c).2;have e1:=bS (aD 3 names.length) (aN vars n e.args[0]! names c);exact wx hv n _ r1 (names++[e.s]) (by rw[L4,MP];omega) ((bF (aD 3 names.length) (aN vars n e.args[0]! names c)).1,max (bF (aD 3 names.length) (aN vars n e.args[0]! names c)).2 (names.length+1)) (by dsimp only;omega) (iE (i:=aD 3 names.length) (by show _<=(names.length:Int)/\(names.length:Int)<=_;omega) (ih _ r0 c (by omega) hc))
  ·have hm:e.args.length*fw n<=8*fw n:=L0 _ h8;refine iE ?_ (A4 (fun x=>aN vars n x names) (fw n) e.args (fun x hx=>⟨ih x (dh h hx),il x (dh h hx)⟩) c (by omega) hc);exact DW hv h8 (fun h=>by omega)
def Loc(B:Int)(em:dP->dP):Prop:=∀c:dP,c.2<=B->(em c).2<=B
theorem oX(vars:List bM):∀(n:Nat)(e:Exp)(names:List aU)(B:Int),(names.length:Int)+n<=B->Loc B (aN vars n e names)
 |0,_,_,_,_=>fun c h=>h
 | n+1,e,names,B,hB=>fun c hc=>by
  have ih:=fun(x:Exp)=>oX vars n x names B (by omega);have ch:∀yes no:Exp,Loc B (cT (fun x=>aN vars n x names) yes no):=fun yes no c hc=>by
   unfold cT;exact ih no _ (ih yes _ hc)
  have fo:∀l:List Exp,Loc B (fun c=>l.foldl (fun c x=>aN vars n x names c) c):=by
   intro l
   induction l with
   |nil=>exact fun c h=>h
   |cons x l ihl=>exact fun c h=>ihl _ (ih x c h)
  unfold aN;split
  ·exact hc
  split
  ·exact hc
  split
  ·exact hc
  split
  ·exact hc
  split
  ·exact ch _ _ _ (ih _ c hc)
  split
  ·exact ch _ _ _ (ih _ c hc)
  split
  ·exact ch _ _ _ (ih _ c hc)
  split
  ·have h0:=ih e.args[0]! c hc;have h3:(bF (aD 3 names.length) (aN vars n e.args[0]! names c)).2=(aN vars n e.args[0]! names c).2:=rfl;exact oX vars n _ (names++[e.s]) B (by simp;omega) _ (by simp only[h3];omega)
  ·exact fo e.args c hc
theorem tN{vars:List bM}(hv:vars.length<=1000000){f:Fun}(F:FunOk f)(hc:d5 14 f.body<=60):CodLim 181 1000000 (bh vars f):=by
 have p6:=F.plen;have hcap:fw 12<=99000000000:=by simp[fw]
 have hA:=wx hv 12 f.body F.body (f.params.map (·.1)) (by simp;omega) ([],f.params.length) (by simp only[Mb];omega) (fun i hi=>by cases hi);have hB:=iE (i:=aD 18 0) (by decide) hA;have hL:=oX vars 12 f.body (f.params.map (·.1)) 1000 (by simp;omega) ([],f.params.length) (by simp only;omega);have hM:=kA vars 12 f.body (f.params.map (·.1)) ([],f.params.length);have hloc:(bh vars f).locals=(aN vars 12 f.body (f.params.map (·.1)) ([],f.params.length)).2:=rfl;refine⟨AH F.body hc,⟨by rw[hloc];simp only at hM;omega,by rw[hloc];omega⟩,fun i hi=>⟨(AJ F).2 i hi,hB i hi⟩⟩
def tJ{m:Mod}{fs:List Face}(h:(jf m fs).2=0):gB m=true/\∀f∈m.funcs,CB m.vars 12 (f.params.map (·.1)) f.body:=by
 unfold jf at h;split at h
 ·rename_i hr;rw[LD]at hr;refine⟨hr.2,fun f hf=>?_⟩;have K:=sR hr.2;have hz:=xK h (f.name,zP (d6 m (c7 [] fs)) f) (NK _ (M8 _ (Mu.2 ⟨f,hf,rfl⟩)));simp only at hz;unfold zP at hz;cases ht:bT (d6 m (c7 [] fs)) 12 f.params f.body 0 with
  |ok t n=>exact vC (c:=d6 m (c7 [] fs)) 12 f.body (K.fns f hf).body f.params 0 t n ht
  |er b n=>
   rw[ht]at hz;simp only at hz;exact absurd hz (gI _ 12 f.params f.body _ _ _ ht)
 ·simp at h
def tK{m:Mod}{fs:List Face}(h:gB m=false):jf m fs=([],1):=by
 unfold jf;rw[h,N4,if_neg (by simp)]
end Go.Av.Ap
