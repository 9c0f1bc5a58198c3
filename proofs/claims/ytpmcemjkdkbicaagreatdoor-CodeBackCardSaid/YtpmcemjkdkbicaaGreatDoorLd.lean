/- The abstract evaluator of the model and plain laws, part 4: its soundness holds for every program whose table of types is the evaluator's. No further condition. -/
import Derived.Test.YtpmcemjkdkbicaaGreatDoorLc
set_option linter.defProp false
set_option linter.unusedSimpArgs false
set_option linter.unusedVariables false
namespace Go.Av.Ap
open Go Go.Av
def dI(op:Int):Bool:=decide (op=4)||decide (op=5)||decide (op=6)||decide (op=7)||decide (op=8)||decide (op=9)||decide (op=18)||decide (op=19)
def aP(len locals:Int)(i:Ins):Bool:=
 if i.op=0 then i.s== []&&i.m== []&&i.names== []
 else if i.op=1 then(i.a== 0||i.a== 1)&&i.s== []&&i.m== []&&i.names== []
 else if i.op=2\/i.op=3 then(decide (0<=i.a)&&decide (i.a<locals))&&i.s== []&&i.m== []&&i.names== []
 else if i.op=10\/i.op=11 then(decide (0<=i.a)&&decide (i.a<len))&&i.s== []&&i.m== []&&i.names== []
 else if i.op=16\/i.op=17 then(decide (0<=i.a)&&decide (i.a<8))&&i.s== []&&i.m== []&&i.names== []
 else if i.op=15 then(i.a== 1||i.a== 2||i.a== 4||i.a== 8)&&i.s== []&&i.m== []&&i.names== []
 else if i.op=13 then bD i.s&&i.a== 0&&i.m== []&&i.names== []
 else if i.op=14 then(decide (0<=i.a)&&decide (i.a<=6))&&bD i.s&&(i.m== []||bD i.m)&&i.names== []
 else if i.op=12 then dB i.names&&i.a== 0&&i.s== []&&i.m== []
 else dI i.op&&i.a== 0&&i.s== []&&i.m== []&&i.names== []
def cS:List aS->aS
 |[]=>[]
 |[a]=>a
 |a:: b:: l=>a++32:: cS (b:: l)
theorem iy:∀(l:List aS),l≠[]->(∀a∈l,(32:UInt8) ∉ a)->cu 32 0 (cS l)=l
 |[],h,_=>absurd rfl h
 |[a],_,h=>eN (h a (by simp))
 |a:: b:: l,_,h=>by
  show cu 32 0 (a++32:: cS (b:: l))=_;rw[A0 _ (h a (by simp)),iy (b:: l) (by simp) (fun x hx=>h x (by simp[hx]))]
theorem og{c:UInt8}(hc:c≠32):∀(l:List aS),(∀a∈l,c ∉ a)->c ∉ cS l
 |[],_=>by simp[cS]
 |[a],h=>h a (by simp)
 |a:: b:: l,h=>by
  show c ∉ a++32:: cS (b:: l);have h1:=h a (by simp);have h2:=og hc (b:: l) (fun x hx=>h x (by simp[hx]));simp only[Di,De,not_or];exact⟨h1,hc,h2⟩
def cL(op:Int):aS:=bj[op.toNat]!
def fp(i:Ins):List aS:=
 if i.op=13 then[cL i.op,i.s]
 else if i.op=14 then[cL i.op,if i.m=[]then[46]else i.m,i.s,bA i.a]
 else if i.op=12 then cL i.op:: i.names
 else if dI i.op=true then[cL i.op]
 else[cL i.op,bA i.a]
def dK(i:Ins):aS:=cS (fp i)++[10]
def fo(c:Cod):List aS:=[[102,117,110,99],c.func,bA c.params,bA c.locals]
def iB(c:Cod):List aS:=(cS (fo c)++[10]):: c.code.map dK
def fq(l:List Cod):aS:=(l.flatMap iB).flatten
def dx(s:aS):Int:=match Lib.atoiAll s with
 |.ok n=>n
 |.range=>Lib.atoiSat s
 |_=>0
def jh(s:aS):aS:=if s.head? = some 46 then s.tail else s
def cZ(w:List aS):Ins:=
 let op:=dJ (fun x=>x== w.headD []) bj 0;let r:=w.tail
 if op=12 then⟨op,0,[],[],r⟩
 else if op=13/\r.length=1 then⟨op,0,r.headD [],[],[]⟩
 else if op=14/\r.length=3 then⟨op,dx (r.getD 2 []),r.getD 1 [],jh (r.headD []),[]⟩
 else if r.length=1 then⟨op,dx (r.headD []),[],[],[]⟩
 else⟨op,0,[],[],[]⟩
def dN(s:aS):aS:=if s.getLast? = some 10 then s.dropLast else s
def addI(acc:List Cod)(i:Ins):List Cod:=acc.dropLast++(match acc.getLast? with|some c=>[{ c with code:=c.code++[i] }]|none=>[])
def bz:List aS->List Cod->Option (List Cod)
 |[],acc=>some acc
 | s:: l,acc=>
  if s=[]then bz l acc
  else
   let w:=cu 32 0 (dN s)
   if w.headD []=[102,117,110,99]/\w.length=4 then bz l (acc++[⟨w.getD 1 [],dx (w.getD 2 []),dx (w.getD 3 []),[]⟩])
   else if acc=[]then none else bz l (addI acc (cZ w))
def sn{s:aS}(h:bD s=true):∀x∈s,dR x=true:=by
 unfold bD ji at h;simp only[CX,EM]at h;have hl:=h.1.2;have ht:s.takeWhile dR=s:=(List.takeWhile_prefix dR).eq_of_length hl;have ha:(s.takeWhile dR).all dR=true:=List.all_takeWhile;rw[ht,C6]at ha;exact ha
def b9{s:aS}(h:bD s=true):s.length<=20:=by
 unfold bD at h;rw[CX]at h;exact nH h.1
def iU{s:aS}(h:bD s=true)(c:UInt8)(hc:dR c=false):c ∉ s:=fun hm=>by
 rw[sn h c hm]at hc;cases hc
def lB(n:Int):∀x∈bA n,x=45\/(48<=x.toNat/\x.toNat<=57):=by
 intro x hx;unfold bA at hx;cases hn:decide (n<0)with
 |true=>
  rw[hn]at hx;rcases De.1 hx with rfl|hx
  ·exact .inl rfl
  ·exact .inr (iD 20 _ x hx)
 |false=>rw[hn]at hx;exact .inr (iD 20 _ x hx)
def jx(n:Int):(32:UInt8) ∉ bA n:=fun h=>by
 rcases lB n 32 h with h|h
 ·exact absurd h (by decide)
 ·exact absurd h.1 (by decide)
def jw(n:Int):(10:UInt8) ∉ bA n:=fun h=>by
 rcases lB n 10 h with h|h
 ·exact absurd h (by decide)
 ·exact absurd h.1 (by decide)
def lR{n:Int}(h0:-9223372036854775808<=n)(h1:n<=9223372036854775807):dx (bA n)=n:=by
 unfold dx;rw[qB n h0 h1]
def vJ:∀w∈bj,(32:UInt8) ∉ w/\(10:UInt8) ∉ w/\w≠[]/\w≠[102,117,110,99]:=by decide
def nG{op:Int}(h0:0<=op)(h1:op<20):(32:UInt8) ∉ cL op/\(10:UInt8) ∉ cL op/\cL op≠[]/\cL op≠[102,117,110,99]:=by
 refine vJ _ ?_;unfold cL;rw[Dl bj op.toNat (by show op.toNat<20;omega)];exact DT _
def uA{op:Int}(h0:0<=op)(h1:op<20):dJ (fun x=>x== cL op) bj 0=op:=by
 have key:∀k:Fin 20,dJ (fun x=>x== cL (k.1:Int)) bj 0=(k.1:Int):=by decide
 have:=key ⟨op.toNat,by omega⟩
 rwa [show ((op.toNat:Nat):Int)=op by omega]at this
def fJ{len locals:Int}{i:Ins}(h:aP len locals i=true):0<=i.op/\i.op<20:=by
 unfold aP dI at h
 repeat' split at h
 all_goals first|omega|skip
 simp only[CX,DY,CU]at h;omega
def lE{len locals:Int}{i:Ins}(h:aP len locals i=true)(c:UInt8)(hc:c=32\/c=10):∀w∈fp i,c ∉ w:=by
 obtain⟨h0,h1⟩:=fJ h;obtain⟨w1,w2,_⟩:=nG h0 h1;have hw:c ∉ cL i.op:=by rcases hc with rfl|rfl<;>assumption
 have hi:c ∉ bA i.a:=by
  rcases hc with rfl|rfl
  ·exact jx _
  ·exact jw _
 have ha:dR c=false:=by rcases hc with rfl|rfl<;>decide
 unfold fp;split
 ·rename_i ho;have hs:bD i.s=true:=by
   simp[aP,ho]at h;exact h.1.1.1
  intro w hw';simp only[De,D2,Ev]at hw';rcases hw' with rfl|rfl
  ·exact hw
  ·exact iU hs c ha
 split
 ·rename_i ho;simp[aP,ho]at h;obtain⟨⟨⟨_,hs⟩,hm⟩,_⟩:=h;intro w hw';simp only[De,D2,Ev]at hw';rcases hw' with rfl|rfl|rfl|rfl
  ·exact hw
  ·split
   ·rcases hc with rfl|rfl<;>decide
   ·rename_i hne;exact iU (hm.resolve_left hne) c ha
  ·exact iU hs c ha
  ·exact hi
 split
 ·rename_i ho;have hn:dB i.names=true:=by
   simp[aP,ho]at h;exact h.1.1.1
  simp only[dB,CX,C6]at hn;intro w hw';rcases De.1 hw' with rfl|hw'
  ·exact hw
  ·exact iU (hn.1.1 w hw') c ha
 split
 ·intro w hw';rw[Dp]at hw';subst hw';exact hw
 ·intro w hw';simp only[De,D2,Ev]at hw';rcases hw' with rfl|rfl
  ·exact hw
  ·exact hi
def tH{s:aS}(h:bD s=true):jh s=s:=by
 unfold jh;rw[if_neg];intro e;cases s with
 |nil=>cases e
 |cons x s=>
  simp only[List.head?_cons,CS]at e
  have:=sn h x (by simp)
  rw[e]at this;exact absurd this (by decide)
def q3{len locals:Int}{i:Ins}(h:aP len locals i=true)(hb:-9223372036854775808<=i.a/\i.a<=9223372036854775807):cZ (fp i)=i:=by
 obtain⟨h0,h1⟩:=fJ h;have hx:=uA h0 h1;have hn:=lR hb.1 hb.2;have hop:i.op=0\/i.op=1\/i.op=2\/i.op=3\/i.op=4\/i.op=5\/i.op=6\/i.op=7\/i.op=8\/i.op=9\/i.op=10\/i.op=11\/i.op=12\/i.op=13\/i.op=14\/i.op=15\/i.op=16\/i.op=17\/i.op=18\/i.op=19:=by omega
 obtain⟨op,a,s,m,names⟩:=i;simp only at *;rcases hop with rfl|rfl|rfl|rfl|rfl|rfl|rfl|rfl|rfl|rfl|rfl|rfl|rfl|rfl|rfl|rfl|rfl|rfl|rfl|rfl <;>
  simp[aP,dI]at h<;>simp[cZ,fp,dI,hx,hn,h]
 by_cases hm:m=[]
 ·simp[hm,jh]
 ·simp[hm,tH (h.1.2.resolve_left hm)]
structure CodOk (c:Cod):Prop where
 name:bD c.func=true
 par:-9223372036854775808<=c.params/\c.params<=9223372036854775807
 loc:-9223372036854775808<=c.locals/\c.locals<=9223372036854775807
 ins:∀i∈c.code,aP c.code.length c.locals i=true/\-9223372036854775808<=i.a/\i.a<=9223372036854775807
def nE(s:aS):dN (s++[10])=s:=by simp[dN]
def uJ(i:Ins):fp i≠[]:=by
 unfold fp
 repeat' split
 all_goals simp
def q9(i:Ins):(fp i).headD []=cL i.op:=by
 unfold fp
 repeat' split
 all_goals rfl
def lp{c:Cod}(h:bD c.func=true)(x:UInt8)(hx:x=32\/x=10):∀w∈fo c,x ∉ w:=by
 have ha:dR x=false:=by rcases hx with rfl|rfl<;>decide
 intro w hw;simp only[fo,De,D2,Ev]at hw;rcases hw with rfl|rfl|rfl|rfl
 ·rcases hx with rfl|rfl<;>decide
 ·exact iU h x ha
 ·rcases hx with rfl|rfl
  ·exact jx _
  ·exact jw _
 ·rcases hx with rfl|rfl
  ·exact jx _
  ·exact jw _
def jX{c:Cod}(K:CodOk c):∀t∈iB c,∃u,t=u++[10]/\(10:UInt8) ∉ u:=by
 intro t ht;rcases De.1 ht with rfl|ht
 ·exact⟨_,rfl,og (by decide) _ (lp K.name 10 (.inr rfl))⟩
 ·obtain⟨i,hi,rfl⟩:=Eg.1 ht;exact⟨_,rfl,og (by decide) _ (lE (K.ins i hi).1 10 (.inr rfl))⟩
theorem gR:∀ts:List aS,(∀t∈ts,∃u,t=u++[10]/\(10:UInt8) ∉ u)->cu 10 1 ts.flatten=ts++[[]]
 |[],_=>eN (by simp)
 |t:: ts,h=>by
  obtain⟨u,rfl,hu⟩:=h t (by simp);have ih:=gR ts (fun x hx=>h x (by simp[hx]));rw[Fx,show (u++[10])++ts.flatten=u++10:: ts.flatten by simp,A1 _ hu,ih];rfl
def vo{len locals:Int}{i:Ins}(h:aP len locals i=true)(hb:-9223372036854775808<=i.a/\i.a<=9223372036854775807)(rest:List aS)(acc:List Cod)(c:Cod):
  bz (dK i:: rest) (acc++[c])=bz rest (acc++[{ c with code:=c.code++[i] }]):=by
 have hne:dK i≠[]:=by simp[dK]
 have hs:cu 32 0 (dN (dK i))=fp i:=by
  unfold dK;rw[nE,iy _ (uJ i) (lE h 32 (.inl rfl))]
 obtain⟨h0,h1⟩:=fJ h;have hw:=(nG h0 h1).2.2.2;have hl:=q9 i;have he:addI (acc++[c]) i=acc++[{ c with code:=c.code++[i] }]:=by simp[addI]
 rw[bz,if_neg hne];simp only[hs,hl];rw[if_neg (fun e=>hw e.1),if_neg (by simp),q3 h hb,he]
def nu{len locals:Int}:∀(is:List Ins)(rest:List aS)(acc:List Cod)(c:Cod),(∀i∈is,aP len locals i=true/\-9223372036854775808<=i.a/\i.a<=9223372036854775807)->
  bz (is.map dK++rest) (acc++[c])=bz rest (acc++[{ c with code:=c.code++is }])
 |[],rest,acc,c,_=>by simp
 |i:: is,rest,acc,c,h=>by
  have hi:=h i (by simp);rw[DC,DK,vo hi.1 hi.2,nu is rest acc _ (fun j hj=>h j (by simp[hj]))];simp
def vj{c:Cod}(K:CodOk c)(rest:List aS)(acc:List Cod):bz (iB c++rest) acc=bz rest (acc++[c]):=by
 have hs:cu 32 0 (dN (cS (fo c)++[10]))=fo c:=by
  rw[nE,iy _ (by simp[fo]) (lp K.name 32 (.inl rfl))]
 have hp:=lR K.par.1 K.par.2;have hl:=lR K.loc.1 K.loc.2;show bz ((cS (fo c)++[10]):: (c.code.map dK++rest)) acc=_;rw[bz,if_neg (by simp)];simp only[hs];rw[CW ⟨rfl,rfl⟩];show bz _ (acc++[⟨c.func,dx (bA c.params),dx (bA c.locals),[]⟩])=_;rw[hp,hl,nu c.code rest acc _ K.ins];rfl
theorem nv:∀(l:List Cod)(rest:List aS)(acc:List Cod),(∀c∈l,CodOk c)->bz (l.flatMap iB++rest) acc=bz rest (acc++l)
 |[],rest,acc,_=>by simp
 |c:: l,rest,acc,h=>by
  rw[Ej,Ei,vj (h c (by simp)),nv l rest _ (fun x hx=>h x (by simp[hx]))];simp
def rp{l:List Cod}(h:∀c∈l,CodOk c):bz (cu 10 1 (fq l)) []=some l:=by
 unfold fq;rw[gR _ (fun t ht=>by
  obtain⟨c,hc,ht⟩:=Eu.1 ht;exact jX (h c hc) t ht),nv l _ _ h]
 rfl
theorem fe:(a:aS)->a7 a a=false
 |[]=>rfl
 |x:: a=>by simp[a7,fe a]
theorem hY:(a b c:aS)->a7 a b=true->a7 b c=true->a7 a c=true
 |_,[],c,h,_=>by cases ‹aS› <;> simp[a7]at h
 |_,_:: _,[],_,h=>by simp[a7]at h
 |[],_:: _,_:: _,_,_=>by simp[a7]
 | x:: a,y:: b,z:: c,h1,h2=>by
  simp only[a7,DY,CX,CU,EM,UInt8.lt_iff_toNat_lt]at h1 h2 |-;rcases h1 with h1|⟨rfl,h1⟩
  ·rcases h2 with h2|⟨rfl,h2⟩
   ·exact .inl (by omega)
   ·exact .inl h1
  ·rcases h2 with h2|⟨rfl,h2⟩
   ·exact .inl h2
   ·exact .inr ⟨rfl,hY a b c h1 h2⟩
theorem hQ:(a b:aS)->a7 a b=false->a≠b->a7 b a=true
 |[],[],_,h=>absurd rfl h
 |[],_:: _,h,_=>by simp[a7]at h
 |_:: _,[],_,_=>by simp[a7]
 | x:: a,y:: b,h1,h2=>by
  simp only[a7,D5,Ee,DY,CX,CU,EM,UInt8.lt_iff_toNat_lt]at h1 |-;by_cases e:x=y
  ·subst e;refine .inr ⟨rfl,hQ a b ?_ fun e=>h2 (by rw[e])⟩;simpa using h1.2
  ·refine .inl ?_;have:x.toNat≠y.toNat:=fun e'=>e (UInt8.toNat_inj.1 e');omega
def qw(p f:aS):eQ p f=true↔a7 p f=true:=by
 unfold eQ;rw[DU,D5];constructor
 ·rintro⟨h1,h2⟩;exact hQ f p h1 (Ep.1 h2)
 ·intro h;refine⟨?_,?_⟩
  ·cases hc:a7 f p with
   |false=>rfl
   |true=>exact absurd (hY _ _ _ h hc) (by simp[fe])
  ·rw[Ep];rintro rfl;rw[fe]at h;cases h
def bo(i:Ins):Int×Int:=
 if i.op=0\/i.op=1\/i.op=2\/i.op=16 then(0,1)
 else if i.op=4\/i.op=5\/i.op=6\/i.op=7\/i.op=8 then(2,1)
 else if i.op=9\/i.op=13\/i.op=15\/i.op=17 then(1,1)
 else if i.op=12 then(i.names.length,1)
 else if i.op=14 then(i.a,1)
 else if i.op=10 then(0,0)
 else(1,0)
def eZ(i:Ins)(k:Int):List Int:=
 if i.op=18 then[]else if i.op=10 then[i.a]else if i.op=11 then[k+1,i.a]else[k+1]
def pU{len locals:Int}{i:Ins}(h:aP len locals i=true):0<=(bo i).1/\(bo i).1<=8/\0<=(bo i).2/\(bo i).2<=1:=by
 unfold bo;split
 ·simp
 split
 ·simp
 split
 ·simp
 split
 ·rename_i ho;have hn:dB i.names=true:=by
   simp[aP,ho]at h;exact h.1.1.1
  simp only[dB,CX,CU]at hn;simp only;omega
 split
 ·rename_i ho;simp[aP,ho]at h;obtain⟨⟨⟨h1,_⟩,_⟩,_⟩:=h;simp only;omega
 split
 ·simp
 ·simp
def dM(n:Nat)(k:Nat)(nd gv:Int):List Int->List Int->List Int->Option (List Int×List Int)
 |[],hl,td=>some (hl,td)
 |v:: r,hl,td=>
  if v=n then none
  else if hl[v.toNat]! < 0 then dM n k nd gv r (hl.set v.toNat (hl[k]! - nd+gv)) (td++[v])
  else if hl[v.toNat]! ≠hl[k]! - nd+gv then none
  else dM n k nd gv r hl td
def mA(c:List Ins):Nat->List Int->List Int->Option (List Int)
 |0,_,_=>none
 |_+1,hl,[]=>some hl
 | f+1,hl,k:: td=>
  let i:=c[k.toNat]!
  if hl[k.toNat]! < (bo i).1\/(i.op=18/\hl[k.toNat]! ≠1)then none
  else match dM c.length k.toNat (bo i).1 (bo i).2 (eZ i k) hl td with
   |none=>none
   |some (hl',td')=>mA c f hl' td'
def ln(c:Cod):Bool:=bD c.func&&decide (0<=c.params)&&decide (c.params<=6)&&decide (c.params<=c.locals)&&decide (c.code≠[])
def cw(c:Cod):Option (List Int):=
 if ln c=true/\c.code.all (aP c.code.length c.locals)=true then mA c.code (2*c.code.length+2) (0:: List.replicate (c.code.length-1) (-1)) [0]else none
def lq{c:Cod}(h:(cw c).isSome=true)(hl:c.locals<=9223372036854775807)(hi:∀i∈c.code,-9223372036854775808<=i.a/\i.a<=9223372036854775807):CodOk c:=by
 unfold cw at h;split at h
 ·rename_i h1;obtain⟨h1,h2⟩:=h1;unfold ln at h1;simp only[CX,CU]at h1;rw[C6]at h2;obtain⟨⟨⟨⟨a1,a2⟩,a3⟩,a4⟩,_⟩:=h1;exact⟨a1,⟨by omega,by omega⟩,⟨by omega,hl⟩,fun i hx=>⟨h2 i hx,hi i hx⟩⟩
 ·cases h
def lQ(hl:List Int):Nat:=hl.countP fun x=>decide (x<0)
structure HInv (n:Nat) (hl:List Int):Prop where
 len:hl.length=n
 lo:∀j,j<n->-1<=hl[j]!
 hi:∀j,j<n->hl[j]! + lQ hl<=n
def pW{hl:List Int}{v:Nat}(hv:v<hl.length)(h:hl[v]! < 0){x:Int}(hx:0<=x):lQ (hl.set v x)+1=lQ hl:=by
 unfold lQ;rw[Dl hl v hv]at h;have hp:0<hl.countP (fun x=>decide (x<0)):=List.countP_pos_iff.2 ⟨hl[v],DT hv,by simpa using h⟩;have h1:decide (hl[v]<0)=true:=by simpa using h
 have h2:decide (x<0)=false:=by simpa using hx
 rw[List.countP_set hv];simp only[h1,h2,Dv,C2,Dk];omega
def iM{hl:List Int}{v j:Nat}(hv:v<hl.length)(hj:j<hl.length)(x:Int):(hl.set v x)[j]! = if v=j then x else hl[j]!:=by
 rw[Dl (hl.set v x) j (by simpa using hj),List.getElem_set,Dl hl j hj]
def HInv.set{n:Nat}{hl:List Int}(H:HInv n hl){v:Nat}(hv:v<n)(h:hl[v]! < 0){x:Int}(h0:0<=x)(h1:x+lQ hl<=n+1):HInv n (hl.set v x):=by
 have hv':v<hl.length:=by rw[H.len];exact hv
 have hn:=pW hv' h h0;refine⟨by simpa using H.len,fun j hj=>?_,fun j hj=>?_⟩
 ·rw[iM hv' (by rw[H.len];exact hj)];split
  ·omega
  ·exact H.lo j hj
 ·rw[iM hv' (by rw[H.len];exact hj)]
  have:=H.hi j hj
  split<;>omega
theorem mc{n k:Nat}{nd gv:Int}(hk:k<n)(h0:0<=nd)(g0:0<=gv)(g1:gv<=1):∀(nx hl td:List Int){hl' td':List Int},HInv n hl->nd<=hl[k]! ->(∀v∈nx,0<=v/\v<=n)->(∀v∈td,0<=v/\v<n)->dM n k nd gv nx hl td=some (hl',td')->
  HInv n hl'/\td'.length+2*lQ hl'<=td.length+2*lQ hl/\∀v∈td',0<=v/\v<n
 |[],hl,td,hl',td',H,_,_,ht,e=>by
  simp only[dM,CS,Dw]at e;obtain⟨rfl,rfl⟩:=e;exact⟨H,C0 _,ht⟩
 | v :: nx,hl,td,hl',td',H,hd,hx,ht,e=>by
  have hv:=hx v (by simp);simp only[dM]at e;split at e
  ·cases e
  ·rename_i hne;have hvn:v.toNat<n:=by omega
   have hvl:v.toNat<hl.length:=by rw[H.len];exact hvn
   have hkl:k<hl.length:=by rw[H.len];exact hk
   split at e
   ·rename_i hneg;have hkk:=H.hi k hk;have hI:=H.set hvn hneg (x:=hl[k]! - nd+gv) (by omega) (by omega);have hns:=pW hvl hneg (x:=hl[k]! - nd+gv) (by omega);have hkv:¬v.toNat=k:=fun e=>by rw[e]at hneg;omega
    have ih:=mc hk h0 g0 g1 nx _ _ hI (by rw[iM hvl hkl,if_neg hkv];exact hd) (fun x h=>hx x (by simp[h])) (fun x h=>by
     rcases Di.1 h with h|h
     ·exact ht x h
     ·rw[Dp]at h;subst h;omega) e
    refine⟨ih.1,?_,ih.2.2⟩
    have:=ih.2.1
    simp only[Dh,Ea]at this;omega
   ·split at e
    ·cases e
    ·exact mc hk h0 g0 g1 nx hl td H hd (fun x h=>hx x (by simp[h])) ht e
def jL(s:aS):-9223372036854775808<=dx s/\dx s<=9223372036854775807:=by
 unfold dx;split
 ·rename_i v h;unfold Lib.atoiAll at h;cases s with
  |nil=>cases h
  | cons c r=>
   simp only at h;split at h
   ·cases h
   ·cases h
   ·split at h
    ·cases h
    ·split at h
     ·cases h
     ·rename_i u _ h1 h2;injection h with h;subst h;split<;>rename_i hn<;>simp[hn]at h1 h2<;>omega
 ·unfold Lib.atoiSat;split<;>omega
 ·omega
theorem uc(c:UInt8):∀s:aS,c ∉ s\/∃a r,s=a++c:: r/\c ∉ a/\a.length+r.length+1=s.length
 |[]=>.inl (by simp)
 | x:: s=>by
  by_cases hx:c=x
  ·subst hx;exact .inr ⟨[],s,rfl,by simp,by simp⟩
  ·rcases uc c s with h|⟨a,r,h1,h2,h3⟩
   ·exact .inl (by simp[hx,h])
   ·exact .inr ⟨x:: a,r,by rw[h1];rfl,by simp[hx,h2],by simp;omega⟩
theorem fc(c:UInt8)(sv:Nat):∀(n:Nat)(s:aS),s.length<=n->cu c sv s≠[]/\(cu c sv s).length<=s.length+1/\∀w∈cu c sv s,w.length<=s.length
 |0,s,h=>by
  have:s=[]:=List.length_eq_zero_iff.1 (by omega);subst this;rw[eN (by simp)];simp
 | n+1,s,h=>by
  rcases uc c s with h1|⟨a,r,h1,h2,h3⟩
  ·rw[eN h1];simp
  ·have ih:=fc c sv n r (by omega);have e:=jO (sv:=sv) r h2;rw[<- h1]at e;rw[e];refine⟨by simp,by simp only[Dq];omega,fun w hw=>?_⟩;rcases De.1 hw with rfl|hw
   ·rw[D1];omega
   ·have:=ih.2.2 w hw;omega
def nD(s:aS):(dN s).length<=s.length:=by
 unfold dN;split
 ·simp
 ·exact C0 _
structure CodLim (n N:Nat) (c:Cod):Prop where
 len:c.code.length<=n
 loc:-9223372036854775808<=c.locals/\c.locals<=9223372036854775807
 ins:∀i∈c.code,i.names.length<=N/\-9223372036854775808<=i.a/\i.a<=9223372036854775807
def CodLim.le{n m N:Nat}{c:Cod}(h:CodLim n N c)(hm:n<=m):CodLim m N c:=⟨EI h.len hm,h.loc,h.ins⟩
def tg(w:List aS):(cZ w).names.length<=w.length/\-9223372036854775808<=(cZ w).a/\(cZ w).a<=9223372036854775807:=by
 unfold cZ;simp only
 repeat' split
 ·simp only[List.length_tail];omega
 ·simp
 ·have:=jL (w.tail.getD 2 []);simp only[Eb];omega
 ·have:=jL (w.tail.headD []);simp only[Eb];omega
 ·simp
def vT{acc:List Cod}(h:acc≠[])(i:Ins):∃q c,acc=q++[c]/\addI acc i=q++[{ c with code:=c.code++[i] }]:=by
 refine⟨acc.dropLast,acc.getLast h,(EK h).symm,?_⟩;unfold addI;rw[List.getLast?_eq_some_getLast h]
def tK{n N:Nat}{acc:List Cod}(h:acc≠[]){i:Ins}(ha:∀c∈acc,CodLim n N c)(hi:i.names.length<=N/\-9223372036854775808<=i.a/\i.a<=9223372036854775807):(∀c∈addI acc i,CodLim (n+1) N c)/\(addI acc i).length=acc.length:=by
 obtain⟨q,c,e1,e2⟩:=vT h i;rw[e2];subst e1;refine⟨fun x hx=>?_,by simp⟩;rcases Di.1 hx with hx|hx
 ·exact (ha x (by simp[hx])).le (by omega)
 ·rw[Dp]at hx;subst hx;have hc:=ha c (by simp);refine⟨by have:=hc.len;simp;omega,hc.loc,fun j hj=>?_⟩;rcases Di.1 hj with hj|hj
  ·exact hc.ins j hj
  ·rw[Dp]at hj;subst hj;exact hi
theorem fa{N:Nat}:∀(B:List aS)(acc l:List Cod)(n:Nat),bz B acc=some l->(∀t∈B,t.length+1<=N)->(∀c∈acc,CodLim n N c)->(∀c∈l,CodLim (n+B.length) N c)/\l.length<=acc.length+B.length
 |[],acc,l,n,h,_,ha=>by
  simp only[bz,CS]at h;subst h;exact⟨ha,C0 _⟩
 | s :: B,acc,l,n,h,hB,ha=>by
  have hs:=hB s (by simp);have hB':∀t∈B,t.length+1<=N:=fun t ht=>hB t (by simp[ht]);have up:∀ {c},CodLim (n+B.length) N c->CodLim (n+(s:: B).length) N c:=fun h=>h.le (by simp);rw[bz]at h;split at h
  ·have ih:=fa B acc l n h hB' ha;exact⟨fun c hc=>up (ih.1 c hc),by simp;omega⟩
  ·simp only at h;split at h
   ·have ih:=fa B _ l n h hB' (fun c hc=>by
     rcases Di.1 hc with hc|hc
     ·exact ha c hc
     ·rw[Dp]at hc;subst hc;exact⟨Ec _,jL _,fun i hi=>by cases hi⟩)
    refine⟨fun c hc=>up (ih.1 c hc),?_⟩
    have:=ih.2
    simp at this |-;omega
   ·split at h
    ·cases h
    ·rename_i hne;have hw:=(fc 32 0 _ (dN s) (C0 _)).2.1;have ht:=nD s;have hi:=tg (cu 32 0 (dN s));have hA:=tK (i:=cZ (cu 32 0 (dN s))) hne ha ⟨by omega,hi.2⟩;have ih:=fa B _ l (n+1) h hB' hA.1;refine⟨fun c hc=>(ih.1 c hc).le (by simp;omega),?_⟩
     have:=ih.2
     rw[hA.2]at this;simp;omega
def od(c:Cod):Bool:=(cw c).isSome
def gG(l:List Cod):aS:=if l.all od=true then fq l else[]
def fv(s:aS):List Cod×Int:=match bz (cu 10 1 s) []with
 |none=>([],2)
 |some l=>if gG l=s then(l,0)else([],2)
def tB{l:List Cod}(h:l.all od=true)(hl:∀c∈l,c.locals<=9223372036854775807/\∀i∈c.code,-9223372036854775808<=i.a/\i.a<=9223372036854775807):fv (gG l)=(l,0):=by
 have e:gG l=fq l:=CW h;unfold fv;rw[e,rp fun c hc=>lq (C6.1 h c hc) (hl c hc).1 (hl c hc).2];simp only;rw[CW e]
def rq{s:aS}{l:List Cod}(h:fv s=(l,0)):l.all od=true/\gG l=s:=by
 unfold fv at h;cases hg:bz (cu 10 1 s) []with
 |none=>rw[hg]at h;simp at h
 | some l'=>
  rw[hg]at h;simp only at h;split at h
  ·rename_i e;simp only[Dw,FC]at h;subst h;refine⟨?_,e⟩;cases ha:l'.all od with
   |true=>rfl
   |false=>
    have:s=[]:=by rw[<- e];unfold gG;rw[ha];rfl
    subst this;rw[eN (by simp)]at hg;simp[bz]at hg;subst hg;cases ha
  ·simp at h
def vl(s:aS):(fv s).2=0\/((fv s).2=2/\(fv s).1=[]):=by
 unfold fv;cases bz (cu 10 1 s) []with
 |none=>exact .inr ⟨rfl,rfl⟩
 |some l'=>
  simp only;split
  ·exact .inl rfl
  ·exact .inr ⟨rfl,rfl⟩
end Go.Av.Ap
