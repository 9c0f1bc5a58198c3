/- What the functions of the seat compute, part 4: the texts of the claim, one behind the other. Conditions: bounds, as each theorem names them. -/
import Derived.Test.YtpmcemjkdkbicaaGreatDoorTc
import Derived.Lib.SmallJoins
set_option linter.defProp false
set_option linter.unusedSimpArgs false
set_option linter.unusedVariables false
namespace Go.Proofs.YtpmcemjkdkbicaaGreatDoor
open Go Go.Av Go.Av.Ap
set_option maxRecDepth 100000
theorem BE(a:bz):ap T .eql 9 (.str a) (.str a)=some (.bool true):=by
 have h:ap T .eql 9 (.str a) (.str a)=some (.bool (a== a)):=rfl;rw[h,D5]
theorem Aw(a:bz):ap T .neq 9 (.str a) (.str a)=some (.bool false):=by
 have h:ap T .neq 9 (.str a) (.str a)=some (.bool (a != a)):=rfl;rw[h,bne_self_eq_false]
theorem vz(a:Int):ap T .neq 3 (.int .i64 a) (.int .i64 a)=some (.bool false):=by
 have h:ap T .neq 3 (.int .i64 a) (.int .i64 a)=some (.bool (a != a)):=rfl;rw[h,bne_self_eq_false]
theorem Bp(a:Int):ap T .eql 3 (.int .i64 a) (.int .i64 a)=some (.bool true):=by
 have h:ap T .eql 3 (.int .i64 a) (.int .i64 a)=some (.bool (a== a)):=rfl;rw[h,D5]
theorem Ci(s:bz):ah T 9 (.ip (ab (.str s)))=some (.str s):=rfl
theorem tO(l:List bz)(hb:l.length<=1000000):∀n k:Nat,l.length-k=n->k<=l.length->ai (L61_0 (aj pg) ai) [strs l,strs l,.int .i64 (k:Int)]=M.pure (.bool true)
 |0,k,hn,hk=>by
  have h1:¬((k:Int)<(l.length:Int)):=by omega
  rw[FL61_0];simp -implicitDefEqProofs only[L61_0,aS,be,iU,bn,ao,ay,CO,if_neg h1]
 |n+1,k,hn,hk=>by
  have h1:(k:Int)<(l.length:Int):=by omega
  have hix:=sF (l:=l) (n:=(k:Int)) (by omega) h1;have hw:IntKind.i64.wrap ((k:Int)+1)=((k+1:Nat):Int):=by rw[bF (by omega) (by omega)];omega
  have ih:=tO l hb n (k+1) (by omega) (by omega);rw[FL61_0];simp -implicitDefEqProofs only[L61_0,aS,be,iU,bn,ao,ay,CO,CJ h1,hix,Ci,Aw,C1,Dt,cB,hw,ih]
def t61(l:List bz)(hb:l.length<=1000000):aj pg 61 [strs l,strs l]=M.pure (.bool true):=by
 have h:=tO l hb l.length 0 rfl (C9 _);have h':ai (L61_0 (aj pg) ai) [strs l,strs l,.int .i64 0]=M.pure (.bool true):=h;have hcl:cl aC (strs l)=strs l:=by simp
 rw[C61,hcl];simp -implicitDefEqProofs only[S61,iU,ao,vz,ay,C1,Dt,h'];exact dt true
section
variable (i:Ins)
theorem fJ0:aa T 67 (.ip (ab i.av)) 0=some (.ip ((ab i.av).drop 0)):=rfl
theorem fJ1:aa T 67 (.ip (ab i.av)) 1=some (.ip ((ab i.av).drop 1)):=rfl
theorem fJ2:aa T 67 (.ip (ab i.av)) 2=some (.ip ((ab i.av).drop 2)):=rfl
theorem fJ3:aa T 67 (.ip (ab i.av)) 3=some (.ip ((ab i.av).drop 3)):=rfl
theorem fJ4:aa T 67 (.ip (ab i.av)) 4=some (.ip ((ab i.av).drop 4)):=rfl
theorem B8:ah T 3 (.ip ((ab i.av).drop 0))=some (.int .i64 i.op):=rfl
theorem B9:ah T 3 (.ip ((ab i.av).drop 1))=some (.int .i64 i.a):=rfl
theorem Ca:ah T 9 (.ip ((ab i.av).drop 2))=some (.str i.s):=rfl
theorem Cb:ah T 9 (.ip ((ab i.av).drop 3))=some (.str i.m):=rfl
theorem Cc:ah T 35 (.ip ((ab i.av).drop 4))=some (strs i.names):=rfl
theorem Cd:ah T 67 (.ip (ab i.av))=some i.av:=rfl
end
section
variable (c:Cod)
theorem fK0:aa T 28 (.ip (ab c.av)) 0=some (.ip ((ab c.av).drop 0)):=rfl
theorem fK1:aa T 28 (.ip (ab c.av)) 1=some (.ip ((ab c.av).drop 1)):=rfl
theorem fK2:aa T 28 (.ip (ab c.av)) 2=some (.ip ((ab c.av).drop 2)):=rfl
theorem fK3:aa T 28 (.ip (ab c.av)) 3=some (.ip ((ab c.av).drop 3)):=rfl
theorem Ce:ah T 9 (.ip ((ab c.av).drop 0))=some (.str c.func):=rfl
theorem Cf:ah T 3 (.ip ((ab c.av).drop 1))=some (.int .i64 c.params):=rfl
theorem Cg:ah T 3 (.ip ((ab c.av).drop 2))=some (.int .i64 c.locals):=rfl
theorem Bw:ah T 26 (.ip ((ab c.av).drop 3))=some (r9 c.code):=rfl
end
def Bt{l:List Cod}{n:Nat}(h:n<l.length):ak T 22 (eq l) (.int .i64 (n:Int))=some (.ip (ab (Cod.av l[n]!))):=
 cr (T:=T) (t:=22) (e:=28) (f:=Cod.av) rfl rfl rfl (fun _=>rfl) (by omega) (by omega)
def BZ{l:List Ins}{n:Nat}(h:n<l.length):ak T 26 (r9 l) (.int .i64 (n:Int))=some (.ip (ab (Ins.av l[n]!))):=
 cr (T:=T) (t:=26) (e:=67) (f:=Ins.av) rfl rfl rfl (fun _=>rfl) (by omega) (by omega)
theorem vF(l:List Cod):aM T 22 (eq l)=some (.int .i64 l.length):=by
 have h:aM T 22 (eq l)=some (.int .i64 (l.map Cod.av).length):=rfl;rw[h,DY]
theorem xY(l:List Ins):aM T 26 (r9 l)=some (.int .i64 l.length):=by
 have h:aM T 26 (r9 l)=some (.int .i64 (l.map Ins.av).length):=rfl;rw[h,DY]
theorem zS(y:AV):gv false false y=y:=rfl
theorem zT(y:AV):gv true true y=y:=rfl
def t30(i:Ins)(hb:i.names.length<=1000000):aj pg 30 [i.av,i.av]=M.pure (.bool true):=by
 have hcl:cl aC i.av=i.av:=by simp[Ins.av,Ins.cells,cl,da]
 rw[C30,hcl];simp -implicitDefEqProofs only[S30,fJ0,fJ1,fJ2,fJ3,fJ4,B8,B9,Ca,Cb,Cc,ao,Bp,BE,ck,dC,zT,aS,dR,t61 i.names hb,aL];exact dt true
def mH(l:List Cod):Prop:=l.length<=1000000/\∀c∈l,c.code.length<=1000000000000/\∀i∈c.code,i.names.length<=1000000
theorem q7(v3:List AV->M AV){l:List Cod}(H:mH l){k:Nat}(hk:k<l.length):∀n j:Nat,l[k].code.length-j=n->j<=l[k].code.length->
  ai (L11_0 (aj pg) ai v3) [eq l,eq l,.int .i64 (k:Int),.int .i64 (j:Int)]=v3 [eq l,eq l,.int .i64 ((k+1:Nat):Int)]
 |0,j,hn,hj=>by
  have hc:=H.2 l[k] (C3 hk);have h1:¬((j:Int)<(l[k].code.length:Int)):=by omega
  have hix:=Bt hk;have h0:=H.1;rw[Dc l k hk]at hix;have hw:IntKind.i64.wrap ((k:Int)+1)=((k+1:Nat):Int):=by rw[bF (by omega) (by omega)];omega
  rw[FL11_0];simp -implicitDefEqProofs only[L11_0,aS,be,hix,fK3,Bw,xY,bn,ao,ay,CO,if_neg h1,cB,hw]
 |n+1,j,hn,hj=>by
  have hc:=H.2 l[k] (C3 hk);have hj':j<l[k].code.length:=by omega
  have h1:(j:Int)<(l[k].code.length:Int):=by omega
  have hix:=Bt hk;rw[Dc l k hk]at hix;have hjx:=BZ hj';rw[Dc l[k].code j hj']at hjx;have hs:=t30 l[k].code[j] (hc.2 _ (C3 hj'));have hw:IntKind.i64.wrap ((j:Int)+1)=((j+1:Nat):Int):=by rw[bF (by omega) (by omega)];omega
  have ih:=q7 v3 H hk n (j+1) (by omega) (by omega);rw[FL11_0];simp -implicitDefEqProofs only[L11_0,aS,be,hix,fK3,Bw,xY,bn,ao,ay,CO,CJ h1,hjx,Cd,hs,g8,aL,tU,DV,C1,Dt,cB,hw,ih]
theorem q8{l:List Cod}(H:mH l):∀n k:Nat,l.length-k=n->k<=l.length->ai (L11_1 (aj pg) ai) [eq l,eq l,.int .i64 (k:Int)]=M.pure (.bool true)
 |0,k,hn,hk=>by
  have h1:¬((k:Int)<(l.length:Int)):=by omega
  rw[FL11_1];simp -implicitDefEqProofs only[L11_1,aS,be,vF,bn,ao,ay,CO,if_neg h1]
 |n+1,k,hn,hk=>by
  have h1:(k:Int)<(l.length:Int):=by omega
  have hk':k<l.length:=by omega
  have hix:=Bt hk';rw[Dc l k hk']at hix;have ih:=q8 H n (k+1) (by omega) (by omega);have hI:=q7 (ai (L11_1 (aj pg) ai)) H hk' l[k].code.length 0 rfl (C9 _);have hI':ai (L11_0 (aj pg) ai (ai (L11_1 (aj pg) ai))) [eq l,eq l,.int .i64 (k:Int),.int .i64 0]=_:=hI.trans ih;rw[FL11_1];simp -implicitDefEqProofs only[L11_1,aS,be,vF,bn,ao,ay,CO,CJ h1,hix,fK0,fK1,fK2,fK3,Ce,Cf,Cg,Bw,xY,Aw,vz,ck,dC,zS,aS,aL,gt,lk,Bool.or_false,Bool.false_or,C1,Dt,ay,hI']
def t11{l:List Cod}(H:mH l):aj pg 11 [eq l,eq l]=M.pure (.bool true):=by
 have h:=q8 H l.length 0 rfl (C9 _);have h':ai (L11_1 (aj pg) ai) [eq l,eq l,.int .i64 0]=M.pure (.bool true):=h;have hci:∀(g:Nat->Nat->Nat->Nat->Bool->AV)(i:Ins),cl g i.av=i.av:=fun g i=>by simp[Ins.av,Ins.cells,cl,da]
 have hcc:∀(g:Nat->Nat->Nat->Nat->Bool->AV)(c:Cod),cl g c.av=c.av:=fun g c=>by simp[Cod.av,r9,cl,da,cD g Ins.av (hci g)]
 have hcl:cl aC (eq l)=eq l:=by simp[eq,cl,cD aC Cod.av (hcc aC)]
 rw[C11,hcl];simp -implicitDefEqProofs only[S11,vF,ao,vz,ay,C1,Dt,h'];exact dt true
end Go.Proofs.YtpmcemjkdkbicaaGreatDoor
namespace Go.Proofs.YtpmcemjkdkbicaaGreatDoor
open Go Go.Av Go.Av.Ap
set_option maxRecDepth 100000
def p8{F:(List AV->M AV)->List AV->M AV}(hF:∀vs,ai F vs=F (ai F) vs)(st:Nat->List AV)(n:Nat)(hend:∃b,F (ai F) (st n)=M.pure (.bool b))(hstep:∀k,k<n->(∃b,F (ai F) (st k)=M.pure (.bool b))\/F (ai F) (st k)=ai F (st (k+1))):
  ∀k,k<=n->∃b,ai F (st k)=M.pure (.bool b):=by
 have key:∀r k,n-k=r->k<=n->∃b,ai F (st k)=M.pure (.bool b):=by
  intro r
  induction r with
  |zero=>
   intro k hr hk;obtain rfl:k=n:=by omega
   rw[hF];exact hend
  | succ r ih=>
   intro k hr hk;rw[hF];rcases hstep k (by omega)with h|h
   ·exact h
   ·rw[h];exact ih (k+1) (by omega) (by omega)
 exact fun k hk=>key (n-k) k rfl hk
theorem zN:∀(d:Nat),d<=6->∀(t:Ty),t.Lim->∀most:Int,0<=most->most<=1000->∃r:Int,aj pg 62 [t.av,.int .i64 most,.int .i64 d]=M.pure (.int .i64 r)/\1<=r/\r<=most+1
 |0,_,t,ht,most,h0,h1=>by
  have w1:IntKind.i64.wrap (most+1)=most+1:=bF (by omega) (by omega);refine⟨most+1,?_,by omega,by omega⟩;rw[C62];simp[S62,w1]
 | d + 1,hd,t,ht,most,h0,h1=>by
  have hlen:=ht.len;have hd1:IntKind.i64.wrap (((d+1:Nat):Int)-1)=(d:Int):=gG (by omega);have hl:∀(k i:Nat),t.fields.length-i=k->i<=t.fields.length->∀m:Int,1<=m->m<=most+1->∃r:Int,ai (L62_0 (aj pg) ai) [.int .i64 most,.int .i64 ((d+1:Nat):Int),.ip (ab t.av),.int .i64 m,.int .i64 i]=M.pure (.int .i64 r)/\1<=r/\r<=most+1:=by
   intro k
   induction k with
   |zero=>
    intro i hk hi m hm1 hm2;rw[FL62_0];have h1:¬((i:Int)<(t.fields.length:Int)):=by omega
    exact⟨m,by simp[L62_0,h1],hm1,hm2⟩
   | succ k ihk=>
    intro i hk hi m hm1 hm2;rw[FL62_0];have hlt:i<t.fields.length:=by omega
    have h1':(i:Int)<(t.fields.length:Int):=by omega
    by_cases hm:m<=most
    ·have hix:=pr (l:=t.fields) (n:=(i:Int)) (by omega) h1';rw[C0,Dc t.fields i hlt]at hix;have hm':=C3 hlt;generalize t.fields[i]=f at hix hm';obtain⟨r,e1,e2,e3⟩:=zN d (by omega) f.2 (ht.kid hm') (most-m) (by omega) (by omega);obtain⟨r2,g1,g2,g3⟩:=ihk (i+1) (by omega) (by omega) (m+r) (by omega) (by omega);have w1:IntKind.i64.wrap (most-m)=most-m:=bF (by omega) (by omega);have w2:IntKind.i64.wrap (m+r)=m+r:=bF (by omega) (by omega);have w3:IntKind.i64.wrap ((i:Int)+1)=((i+1:Nat):Int):=bT (by omega);refine⟨r2,?_,g2,g3⟩;rw[<- g1];simp only[L62_0,aS,be,iW,FA55_1,ao,Ed,DD,LD36,mJ,bn,hQ,h1',hm,D6,ck,aL,dR,ay,Du,hix,df,FA95_1,LD55,Dj,Dk,C2,Nat.reduceAdd,CN,DK,DT,j0,jY,w1,hd1,e1,cB,w2,w3]
    ·exact⟨m,by simp[L62_0,h1',hm],hm1,hm2⟩
  obtain⟨r,e1,e2,e3⟩:=hl t.fields.length 0 rfl (by omega) 1 (by omega) (by omega);refine⟨r,?_,e2,e3⟩;rw[C62];have e1':ai (L62_0 (aj pg) ai) [.int .i64 most,.int .i64 ((d+1:Nat):Int),.ip (ab t.av),.int .i64 1,.int .i64 0]=M.pure (.int .i64 r):=e1;have hge:¬((((d+1:Nat):Int))<1):=by omega
  simp only[S62,sZ,sX,bn,ao,hge,EZ,ay,C1,Dt,e1',tD]
def zL(t:Ty)(ht:t.Lim):∃b,aj pg 32 [t.av]=M.pure (.bool b):=by
 obtain⟨r,e1,e2,e3⟩:=zN 6 (by omega) t ht 40 (by omega) (by omega);have e1':aj pg 62 [t.av,.int .i64 40,.int .i64 6]=M.pure (.int .i64 r):=e1;rw[C32];exact⟨decide (r<=40),by simp[S32,e1']⟩
theorem zO:∀(d:Nat),d<=14->∀(e:Exp),e.Lim->∀most:Int,0<=most->most<=1000->∃r:Int,aj pg 63 [e.av,.int .i64 most,.int .i64 d]=M.pure (.int .i64 r)/\1<=r/\r<=most+1
 |0,_,e,he,most,h0,h1=>by
  have w1:IntKind.i64.wrap (most+1)=most+1:=bF (by omega) (by omega);refine⟨most+1,?_,by omega,by omega⟩;rw[C63];simp[S63,w1]
 | d + 1,hd,e,he,most,h0,h1=>by
  have hlen:=he.len;have hd1:IntKind.i64.wrap (((d+1:Nat):Int)-1)=(d:Int):=gG (by omega);have hl:∀(k i:Nat),e.args.length-i=k->i<=e.args.length->∀m:Int,1<=m->m<=most+1->∃r:Int,ai (L63_0 (aj pg) ai) [.int .i64 most,.int .i64 ((d+1:Nat):Int),.ip (ab e.av),.int .i64 m,.int .i64 i]=M.pure (.int .i64 r)/\1<=r/\r<=most+1:=by
   intro k
   induction k with
   |zero=>
    intro i hk hi m hm1 hm2;rw[FL63_0];have h1:¬((i:Int)<(e.args.length:Int)):=by omega
    exact⟨m,by simp[L63_0,h1],hm1,hm2⟩
   | succ k ihk=>
    intro i hk hi m hm1 hm2;rw[FL63_0];have hlt:i<e.args.length:=by omega
    have h1':(i:Int)<(e.args.length:Int):=by omega
    by_cases hm:m<=most
    ·have hix:=nH (l:=e.args) (n:=(i:Int)) (by omega) h1';rw[C0,Dc e.args i hlt]at hix;have hm':=C3 hlt;generalize e.args[i]=f at hix hm';obtain⟨r,e1,e2,e3⟩:=zO d (by omega) f (he.kid hm') (most-m) (by omega) (by omega);obtain⟨r2,g1,g2,g3⟩:=ihk (i+1) (by omega) (by omega) (m+r) (by omega) (by omega);have w1:IntKind.i64.wrap (most-m)=most-m:=bF (by omega) (by omega);have w2:IntKind.i64.wrap (m+r)=m+r:=bF (by omega) (by omega);have w3:IntKind.i64.wrap ((i:Int)+1)=((i+1:Nat):Int):=bT (by omega);refine⟨r2,?_,g2,g3⟩;rw[<- g1];simp only[L63_0,aS,be,bj,FA57_5,ao,Ed,DD,LD37,sG,bn,hQ,h1',hm,D6,ck,aL,dR,ay,Du,hix,LD57,Dj,Dk,C2,Nat.reduceAdd,CN,DK,DT,dB,jY,w1,hd1,e1,cB,w2,w3]
    ·exact⟨m,by simp[L63_0,h1',hm],hm1,hm2⟩
  have hge:¬((((d+1:Nat):Int))<1):=by omega
  have hge':¬((d:Int)+1<1):=by omega
  have w1:IntKind.i64.wrap (most+1)=most+1:=bF (by omega) (by omega);by_cases h10:10<(e.names.length:Int)
  ·refine⟨most+1,?_,by omega,by omega⟩;have h10':10<e.names.length:=by omega
   rw[C63];simp[S63,hge',h10,h10',w1]
  ·obtain⟨r,e1,e2,e3⟩:=hl e.args.length 0 rfl (by omega) 1 (by omega) (by omega);refine⟨r,?_,e2,e3⟩;have h10':¬10<e.names.length:=by omega
   have e1':ai (L63_0 (aj pg) ai) [.int .i64 most,.int .i64 ((d:Int)+1),.ip [.int .i64 e.op,.int .i64 e.n,.str e.s,.str e.m,strs e.names,bD e.args],.int .i64 1,.int .i64 0]=M.pure (.int .i64 r):=by
    simp only[bj]at e1;exact e1
   rw[C63];simp[S63,hge',h10,h10',e1']
def zM(e:Exp)(he:e.Lim):∃b,aj pg 33 [e.av]=M.pure (.bool b):=by
 obtain⟨r,e1,e2,e3⟩:=zO 14 (by omega) e he 60 (by omega) (by omega);have e1':aj pg 63 [e.av,.int .i64 60,.int .i64 14]=M.pure (.int .i64 r):=e1;rw[C33];exact⟨decide (r<=60),by simp[S33,e1']⟩
def xQ(l:List c6)(hb:l.length<=140737488355328)(ht:∀f∈l,f.2.Lim):∃b,aj pg 31 [a8 l]=M.pure (.bool b):=by
 obtain⟨b,hb⟩:=p8 (FL31_0 (aj pg)) (fun k=>[a8 l,.int .i64 (k:Int)]) l.length ⟨decide ((l.length:Int)<=8),by simp[L31_0]⟩ (fun k hk=>by
  have h1:(k:Int)<(l.length:Int):=by omega
  have hix:=pr (l:=l) (n:=(k:Int)) (by omega) h1;rw[C0,Dc l k hk]at hix;have hm':=C3 hk;generalize l[k]=f at hix hm';have w3:IntKind.i64.wrap ((k:Int)+1)=(k:Int)+1:=by rw[bT (by omega)];simp
  obtain⟨b,hb⟩:=zL f.2 (ht f hm');by_cases h9:(k:Int)<9
  ·have h9':k<9:=by omega
   cases b with
   |false=>exact .inl ⟨false,by simp[L31_0,h1,hk,hix,hb,h9,h9']⟩
   |true=>exact .inr (by simp[L31_0,h1,hk,hix,hb,h9,h9',w3])
  ·have h9':¬k<9:=by omega
   exact .inl ⟨decide ((l.length:Int)<=8),by simp[L31_0,h1,hk,h9,h9']⟩) 0 (C9 _)
 refine⟨b,?_⟩;rw[C31];have hb':ai (L31_0 (aj pg) ai) [a8 l,.int .i64 0]=M.pure (.bool b):=hb;simp only[S31,mS,hb',dt]
def xR(l:List Exp)(hb:l.length<=140737488355328)(ht:∀f∈l,f.Lim):∃b,aj pg 34 [bD l]=M.pure (.bool b):=by
 obtain⟨b,hb⟩:=p8 (FL34_0 (aj pg)) (fun k=>[bD l,.int .i64 (k:Int)]) l.length ⟨decide ((l.length:Int)<=8),by simp[L34_0]⟩ (fun k hk=>by
  have h1:(k:Int)<(l.length:Int):=by omega
  have hix:=nH (l:=l) (n:=(k:Int)) (by omega) h1;rw[C0,Dc l k hk]at hix;have hm':=C3 hk;generalize l[k]=f at hix hm';have w3:IntKind.i64.wrap ((k:Int)+1)=(k:Int)+1:=by rw[bT (by omega)];simp
  obtain⟨b,hb⟩:=zM f (ht f hm');by_cases h9:(k:Int)<9
  ·have h9':k<9:=by omega
   cases b with
   |false=>exact .inl ⟨false,by simp[L34_0,h1,hk,hix,hb,h9,h9']⟩
   |true=>exact .inr (by simp[L34_0,h1,hk,hix,hb,h9,h9',w3])
  ·have h9':¬k<9:=by omega
   exact .inl ⟨decide ((l.length:Int)<=8),by simp[L34_0,h1,hk,h9,h9']⟩) 0 (C9 _)
 refine⟨b,?_⟩;rw[C34];have hb':ai (L34_0 (aj pg) ai) [bD l,.int .i64 0]=M.pure (.bool b):=hb;simp only[S34,uY,hb',dt]
def Bn(m:Ap.Mod)(hm:m.Lim):∃b,aj pg 12 [m.av]=M.pure (.bool b):=by
 have f1:=hm.funcs;obtain⟨b1,e1⟩:=xQ m.vars hm.vars hm.vty;obtain⟨b2,e2⟩:=xR m.init hm.init hm.ies;obtain⟨b3,e3⟩:=xQ m.old hm.old hm.oty;obtain⟨b4,e4⟩:=xR m.forward hm.forward hm.fes;obtain⟨b5,e5⟩:=xR m.back hm.back hm.bes
 have base:∃b,L12_0 (aj pg) ai (ai (L12_0 (aj pg) ai)) [.ip (ab m.av),.int .i64 (m.funcs.length:Int)]=M.pure (.bool b):=by
  cases hq:(decide ((m.funcs.length:Int)<=6)&&decide ((m.uses.length:Int)<=6))with
  |false=>exact⟨false,by simp[L12_0];rw[hq];simp⟩
  | true=>cases b1 with
   |false=>exact⟨false,by simp[L12_0];rw[hq];simp[e1]⟩
   | true=>cases b2 with
    |false=>exact⟨false,by simp[L12_0];rw[hq];simp[e1,e2]⟩
    | true=>cases b3 with
     |false=>exact⟨false,by simp[L12_0];rw[hq];simp[e1,e2,e3]⟩
     |true=>cases b4 with
      |false=>exact⟨false,by simp[L12_0];rw[hq];simp[e1,e2,e3,e4]⟩
      |true=>exact⟨b5,by simp[L12_0];rw[hq];simp[e1,e2,e3,e4,e5]⟩
 obtain⟨b0,hb0⟩:=base;obtain⟨b,hb⟩:=p8 (FL12_0 (aj pg)) (fun k=>[.ip (ab m.av),.int .i64 (k:Int)]) m.funcs.length ⟨b0,hb0⟩ (fun k hk=>by
  have h1:(k:Int)<(m.funcs.length:Int):=by omega
  have hix:=xg (l:=m.funcs) (n:=(k:Int)) (by omega) h1;rw[C0,Dc m.funcs k hk]at hix;have hm':=C3 hk;generalize m.funcs[k]=f at hix hm';have hf:=hm.fns f hm';have w3:IntKind.i64.wrap ((k:Int)+1)=(k:Int)+1:=by rw[bT (by omega)];simp
  obtain⟨c1,g1⟩:=xQ f.params hf.params hf.pty;obtain⟨c2,g2⟩:=zL f.result hf.result;obtain⟨c3,g3⟩:=zM f.body hf.body;by_cases h12:k<7
  ·have h12':(k:Int)<7:=by omega
   cases c1 with
   |false=>exact .inl ⟨false,by simp[L12_0,h1,hk,hix,h12,h12',g1]⟩
   | true=>cases c2 with
    |false=>exact .inl ⟨false,by simp[L12_0,h1,hk,hix,h12,h12',g1,g2]⟩
    |true=>cases c3 with
     |false=>exact .inl ⟨false,by simp[L12_0,h1,hk,hix,h12,h12',g1,g2,g3]⟩
     |true=>exact .inr (by simp[L12_0,h1,hk,hix,h12,h12',g1,g2,g3,w3])
  ·have h12':¬(k:Int)<7:=by omega
   refine .inl ⟨b0,?_⟩;rw[<- hb0];simp[L12_0,h1,hk,h12,h12']) 0 (C9 _)
 refine⟨b,?_⟩;rw[C12];have hb':ai (L12_0 (aj pg) ai) [.ip (ab m.av),.int .i64 0]=M.pure (.bool b):=hb;simp only[S12,kq,hb',dt]
end Go.Proofs.YtpmcemjkdkbicaaGreatDoor
namespace Go.Proofs.YtpmcemjkdkbicaaGreatDoor
open Go Go.Av
set_option maxRecDepth 1000000
def qv:ca pg 80 6 [] []= .ok (.bool true) []:=by kernel_rfl
def mE:aj pg 6 []=M.pure (.bool true):=by
 funext h;have h1:=sU aU qv (by simp);have e:∀h,aj pg 6 [] h=aV (b9 (pg.cx (aj pg) Tryz.f6.ntmps xq) ai Tryz.f6 (pg.own 6) (da aC [])) h:=fun h=>congrFun (aG aU rfl rfl rfl []) h;rw[e]at h1 |-;unfold aV at h1 |-;generalize b9 (pg.cx (aj pg) Tryz.f6.ntmps xq) ai Tryz.f6 (pg.own 6) (da aC []) []=r at h1 |-;cases r with
 |ok v h'=>
  simp only[R.ok.injEq]at h1;show R.ok (hM 6 h' v) h=_;rw[h1.1];rfl
 |pan v h'=>cases h1
 |fail=>cases h1
end Go.Proofs.YtpmcemjkdkbicaaGreatDoor
namespace Go.Proofs.YtpmcemjkdkbicaaGreatDoor
open Go Go.Av Go.Av.Ap
set_option maxRecDepth 100000
theorem fM3(m:Ap.Mod):aa T 42 (.ip (ab m.av)) 3=some (.ip ((ab m.av).drop 3)):=rfl
theorem Ch(m:Ap.Mod):ah T 37 (.ip ((ab m.av).drop 3))=some (bD m.init):=rfl
def gB:bz:=[97,108,111,110,101]
def rD{m:Ap.Mod}(hm:m.Lim){f:Fun}(hf:f∈m.funcs)(nm:bz):(di m f nm).Lim:=
 ⟨by simp[di],hm.vars,hm.vty,hm.init,hm.ies,by simp[di],(fun g hg=>by rw[show g=f from D1.1 hg];exact hm.fns f hf),by simp[di],(fun x hx=>by cases hx),by simp[di],(fun x hx=>by cases hx),by simp[di],(fun x hx=>by cases hx)⟩
def pp{α:Type}[Inhabited α]{l:List α}{i:Nat}(h:i<l.length):(l.take (i+1)).drop i=[l[i]]:=by
 rw[List.drop_take,show i+1-i=1 by omega,Dx h];rfl
theorem vW{m:Ap.Mod}(hm:m.Lim)(hr:dW m=true){i:Nat}(hi:i<m.funcs.length){nm:bz}(hn:bB nm=true):
  K4_0 (aj pg) ai [.ip (ab m.av),.bool true,eq (m.funcs.map (cL m.vars)),.int .i64 (i:Int),.str nm,strs [],a8 m.vars,bD m.init,ef [m.funcs[i]],.bool false,a8 [],bD [],bD []]=M.pure (.bool true):=by
 have hf:=C3 hi;have K:=tS hr;have hC:=t14 (di m m.funcs[i] nm) (rD hm hf nm);rw[nM hr hf hn,CJ rfl]at hC;have hC':aj pg 14 [.agg [.str nm,strs [],a8 m.vars,bD m.init,ef [m.funcs[i]],.bool false,a8 [],bD [],bD []]]=M.pure (eq [cL m.vars m.funcs[i]]):=hC;have hw:IntKind.i64.wrap ((i:Int)+1)=((i+1:Nat):Int):=by have:=hm.funcs;rw[bF (by omega) (by omega)];omega
 have hs:d4 T 22 (eq (m.funcs.map (cL m.vars))) (some (.int .i64 (i:Int))) (some (.int .i64 ((i+1:Nat):Int))) none=some (eq [cL m.vars m.funcs[i]]):=by
  have:=jS (T:=T) (t:=22) (e:=28) rfl rfl rfl ((m.funcs.map (cL m.vars)).map Cod.av) (bX (fun _=>rfl) _) (a:=(i:Int)) (b:=((i+1:Nat):Int)) (by omega) (by omega) (by simp;omega)
  have e:(((m.funcs.map (cL m.vars)).map Cod.av).take ((i+1:Nat):Int).toNat).drop (i:Int).toNat=[cL m.vars m.funcs[i]].map Cod.av:=by
   rw[C0,C0,pp (by simpa using hi)];simp
  rw[e]at this;exact this
 have hS:=t11 (l:=[cL m.vars m.funcs[i]]) ⟨by simp,fun c hc=>by rw[D1.1 hc];exact s8 (K.fns _ hf)⟩;have hl1:(([cL m.vars m.funcs[i]].length:Nat):Int)=1:=rfl;have hl2:(((m.funcs.map (cL m.vars)).length:Nat):Int)=m.funcs.length:=by simp
 simp -implicitDefEqProofs only[K4_0,aS,be,hC',aL,vF,ao,fM4,AK,kf,hl1,hl2,vz,ck,zS,zT,dC,gt,dR,ay,C1,Dt,cB,hw,hs,hS]
theorem t4(m:Ap.Mod)(a:Int)(s:bz)(hm:m.Lim):aj pg 4 [m.av,.int .i64 a,.str s]=M.pure (.bool true):=by
 obtain⟨r,hr⟩:=Bn m hm;have hR:=t13 m hm;have hC:=t14 m hm;have hN:=t15 s;have hcl:cl aC m.av=m.av:=by simp
 rw[C4,hcl,show cl aC (.int .i64 a)= .int .i64 a from rfl,show cl aC (.str s)= .str s from rfl];have key:S4 (aj pg) ai m.av (.int .i64 a) (.str s)=M.pure (.bool true):=by
  by_cases hg:((!r||decide ((m.funcs.length:Int)=0))||!dW m)=true
  ·simp -implicitDefEqProofs only[S4,mE,aL,AL,ao,hr,tU,fM4,AK,kf,vq,dC,aS,lk,hR,hg,ay,Du]
  ·rw[Bool.not_eq_true]at hg;obtain⟨h12,h3⟩:=D9.1 hg;obtain⟨_,h2⟩:=D9.1 h12;have hrt:dW m=true:=by simpa using h3
   have hpos:0<m.funcs.length:=by
    rw[Ef]at h2;omega
   rw[hrt,CJ rfl]at hC;obtain⟨i0,i1⟩:=sO a m.funcs.length hpos;obtain⟨i,hi⟩:∃i:Nat,(mP a 4611686018427387903).tmod (m.funcs.length:Int)=i:=⟨_,(Int.toNat_of_nonneg i0).symm⟩;rw[hi]at i1;have hil:i<m.funcs.length:=by omega
   have hand:ap T .and 3 (.int .i64 a) (.int .i64 4611686018427387903)=some (.int .i64 (mP a 4611686018427387903)):=rfl;have hrem:ap T .rem 3 (.int .i64 (mP a 4611686018427387903)) (.int .i64 (m.funcs.length:Int))=some (.int .i64 (i:Int)):=by
    have e:ap T .rem 3 (.int .i64 (mP a 4611686018427387903)) (.int .i64 (m.funcs.length:Int))=if(m.funcs.length:Int)=0 then none else some (.int .i64 ((mP a 4611686018427387903).tmod (m.funcs.length:Int))):=rfl;rw[e,if_neg (by omega),hi]
   have hw:IntKind.i64.wrap ((i:Int)+1)=((i+1:Nat):Int):=by have:=hm.funcs;rw[bF (by omega) (by omega)];omega
   have hs:d4 T 38 (ef m.funcs) (some (.int .i64 (i:Int))) (some (.int .i64 ((i+1:Nat):Int))) none=some (ef [m.funcs[i]]):=by
    have:=jS (T:=T) (t:=38) (e:=59) rfl rfl rfl (m.funcs.map Fun.av) (bX gn _) (a:=(i:Int)) (b:=((i+1:Nat):Int)) (by omega) (by omega) (by simp;omega)
    have e:((m.funcs.map Fun.av).take ((i+1:Nat):Int).toNat).drop (i:Int).toNat=[m.funcs[i]].map Fun.av:=by
     rw[C0,C0,pp (by simpa using hil)];simp
    rw[e]at this;exact this
   have hb:aZ T false 42 [(0,.str [97,108,111,110,101]),(2,a8 m.vars),(3,bD m.init),(4,ef [m.funcs[i]])]=some (di m m.funcs[i] gB).av:=rfl;have hcn:aA 9 [] (di m m.funcs[i] gB).av=M.pure (di m m.funcs[i] gB).av:=rfl;have hac:ab (di m m.funcs[i] gB).av=[.str gB,strs [],a8 m.vars,bD m.init,ef [m.funcs[i]],.bool false,a8 [],bD [],bD []]:=rfl;have hc1:cC (.str s)=M.pure (.str s):=rfl;have k1:=vW hm hrt hil (nm:=gB) (by decide);have k2:bB s=true->_:=fun h=>vW hm hrt hil (nm:=s) h;simp -implicitDefEqProofs only[S4,mE,aL,AL,ao,hr,tU,fM2,BS,fM3,Ch,fM4,AK,kf,vq,dC,aS,lk,hR,hg,ay,C1,Dt,hC,hand,hrem,cB,hw,hs,hb,hcn,hac,be,jn,hN,hc1];cases hns:bB s with
   |true=>rw[CJ rfl];exact k2 hns
   |false=>rw[if_neg (by simp)];exact k1
 rw[key];exact dt true
end Go.Proofs.YtpmcemjkdkbicaaGreatDoor
namespace Go.Proofs.YtpmcemjkdkbicaaGreatDoor.codeAlone
open Go Go.Av Go.Av.Ap Go.ChangeShapes Go.WideShapes Go.ChangeAt Go.RowKit Go.Joins Go.Deep
set_option maxRecDepth 1000000
def kids:Kids Tryz.prog (· < Tryz.prog.types.size):=kids_rows (by kernel_rfl) (by kernel_rfl)
def pi:∀t e,t<Tryz.prog.types.size->Tryz.prog.underlying t=some (.slice e)->0<Tryz.prog.cellsOf e:=slices_full_of Tryz.prog (by kernel_rfl)
def s9(H:Type)(enc:TypeId×Value->H)(W:World)(base:Nat)(args:Array Value)(ds gs:List (DataW H))(before:List MemPlace)(hval:∀(j:Nat) t v,Tryz.f4.params[j]? = some t->args[j]? = some v->Value.okWide Tryz.prog W .any base t v)(hW:DataW.Whole enc Tryz.prog Tryz.f4.params.toList Rows.codeAloneSpec.vars false W args.toList ds gs before)(hz:(DataW.weightsEach Tryz.prog (Tryz.f4.params.toList++Rows.codeAloneSpec.plain.varTypes Tryz.prog) (ds++gs)).all (· <=reachBytes)=true)(hL:laidMetH Tryz.prog Rows.codeAloneRow.laid W)(hS:W.ShapedOpen Tryz.prog):
  Calls Tryz.prog 4 args W fun e W'=>∃v,e= .returned v/\Rows.codeAloneSpec.post enc Tryz.prog Tryz.f4 false true false false W args v W':=by
 have hW':=hW;obtain⟨p,q,hA0,hV,rfl,hfz,hnd⟩:=hW;have hA:DataW.TrodAll enc Tryz.prog W 0 (fun _=>true) true Tryz.f4.params.toList args.toList ds p:=hA0;have hA1:=hA;rw[Tryz.params4]at hA hval hz;obtain⟨v0,vs0,d0,ds0,p0,q0,ha0,rfl,rfl,h0,r0⟩:=trodAll_cons hA;obtain⟨v1,vs1,d1,ds1,p1,q1,ha1,rfl,rfl,h1,r1⟩:=trodAll_cons r0;obtain⟨v2,vs2,d2,ds2,p2,q2,ha2,rfl,rfl,h2,r2⟩:=trodAll_cons r1;obtain⟨hnil,rfl,rfl⟩:=trodAll_nil r2;subst hnil;subst ha2;subst ha1;obtain rfl:args= #[v0,v1,v2]:=by cases args;simp_all
 obtain⟨rfl,rfl⟩:=trodVars_none hV;obtain⟨x0,k0,o0⟩:=px (fun N=>(yk N).le (ET N)) (fun a=>rfl) Tryz.underlying42 (hval 0 42 v0 rfl rfl) h0 (gW hz (j:=0) rfl rfl);obtain⟨x1,k1,o1⟩:=uH (fun N=>lp Tryz.underlying3) Tryz.underlying3 (hval 1 3 v1 rfl rfl) h1 (gW hz (j:=1) rfl rfl);obtain⟨x2,k2,o2⟩:=uI (fun N=>hG Tryz.underlying9) Tryz.underlying9 (hval 2 9 v2 rfl rfl) h2 (gW hz (j:=2) rfl rfl);clear hA0;simp only[EN]at hW' hA1;have hlt:=hW'.lt;have hv:aJ (ga W) [] [x0.av,.int .i64 x1,.str x2] [v0,v1,v2]:=by
  simp only[aJ];exact⟨_,_,rfl,k0,_,_,rfl,k1,_,_,rfl,k2,rfl⟩
 refine (sc Bo aU (xT hL hS) hv (by rw[t4 x0 x1 x2 o0];rfl)).mono fun e W' ⟨he,hb⟩=>?_;subst he;exact⟨_,rfl,lS (pv:=[]) hW' (fun _ _ _=>trodAll_cons_mk (shut_bool Tryz.underlying4 _) trodAll_mk0) (fun sp hsp=>
   py kids pi (by rw[Tryz.params4];decide +kernel) hA1 hlt hb sp hsp) (fun _ _=>rfl) (by simp)
  hb (ok_one (by kernel_rfl) rfl (okWide_bool_mk Tryz.underlying4 _))⟩
def reads(os:Os){H:Type}(enc:TypeId×Value->H):∃ds places,DataW.whole enc Tryz.prog ((jg os).forCall (fun _ _=>0) ⟨#[],#[.agg #[.string ⟨#[]⟩,.slice none 0 0,.slice none 0 0,.slice none 0 0,.slice none 0 0,.bool false,.slice none 0 0,.slice none 0 0,.slice none 0 0],.int .i64 0,.string ⟨#[]⟩],[]⟩).memory Tryz.f4.params.toList Rows.codeAloneSpec.vars false #[.agg #[.string ⟨#[]⟩,.slice none 0 0,.slice none 0 0,.slice none 0 0,.slice none 0 0,.bool false,.slice none 0 0,.slice none 0 0,.slice none 0 0],.int .i64 0,.string ⟨#[]⟩].toList 8=some (ds,[],places):=
 ⟨[.agg [.lit (.string []),.nil,.nil,.nil,.nil,.lit (.bool false),.agg [.nil,.nil,.nil]],.lit (.int .i64 0),.lit (.string [])],[],by kernel_rfl⟩
def lifted(os:Os)(started:os.Started)(H:Type)(enc:TypeId×Value->H)(F:Stop.Interp):
  ReturnsInHanded {} Tryz.checked os 4 .any ((OpenSpec.ofChange Rows.codeAloneSpec).preRow enc Tryz.prog Tryz.f4 Rows.codeAloneRow.domain false Rows.codeAloneRow.laid) (((OpenSpec.ofChange Rows.codeAloneSpec).at F).post enc Tryz.prog Tryz.f4 false true false false):=by
 obtain⟨ds,places,hx⟩:=reads os enc;refine returnsInHanded_of_row (C:=Tryz.checked) (s:=OpenSpec.ofChange Rows.codeAloneSpec) BB started (by kernel_rfl) Tryz.func4
  (witness_row_atRef (enc:=enc) (C:=Tryz.checked) false (jg os) #[.agg #[.string ⟨#[]⟩,.slice none 0 0,.slice none 0 0,.slice none 0 0,.slice none 0 0,.bool false,.slice none 0 0,.slice none 0 0,.slice none 0 0],.int .i64 0,.string ⟨#[]⟩] rfl (by kernel_rfl) (by kernel_rfl) (by kernel_rfl)
   (OpenSpec.preRow_of_cond 8 hx (by kernel_rfl) (fun k hk=>by cases hk) (by kernel_rfl) (tJ os _))) ?_
 intro W base args ds gs before hval hW _ _ hz hL hS _;exact s9 H enc W base args ds gs before hval hW hz hL hS
end Go.Proofs.YtpmcemjkdkbicaaGreatDoor.codeAlone
