/- What the functions of the seat compute, part 5: the texts of the claim, one behind the other. Conditions: bounds, as each theorem names them. -/
import Derived.Test.YteemeakjlfnapaaGreatDoorTd
set_option linter.defProp false
set_option linter.unusedSimpArgs false
set_option linter.unusedVariables false
namespace Go.Proofs.YteemeakjlfnapaaGreatDoor
open Go Go.Av Go.Av.Ap
set_option maxRecDepth 100000
def bG{m:M AV}{v r:AV}{h':Hp}(e:m []= .ok v h')(f:gy 6 h' v=r):aD m=M.pure r:=by
 funext hp;unfold aD;rw[e];show R.ok (gy 6 h' v) hp=R.ok r hp;rw[f]
def t231(t:Ty)(k:Int):ah pg 231 [t.av,.ip [.int .i64 k]]=M.pure (.bool (t.kind != k)):=by
 rw[C231];simp[S231,cl,dy]
def t230(k:Int)(l:List Ty)(hl:l.length<=1000000):ah pg 230 [.int .i64 k,.ip [dM l]]=M.pure (.bool (gx k l)):=by
 have h:=t148 (.fn (.func 231) [] [.ip [.int .i64 k]]) (fun t=>t.kind != k) l (by omega) (fun g=>by simp[cl,dy]) (fun t _=>t231 t k);rw[C230];have e:(!l.any fun t=>t.kind != k)=gx k l:=by
  unfold gx;rw[Km];congr 1;funext t;simp[bne]
 simp[S230,cl,dy,h,e]
theorem B1(f:AV->M AV):ae (newH [.int .i64 0,.hn]) f []=f (.hp 0 0) [[.int .i64 0,.hn]]:=rfl
theorem B2(f:AV->M AV)(k:Int)(fs:List AV)(c1 c2:AV):ae (bI T 27 (.hp 0 0) (.agg [.int .i64 k,.sl fs])) f [[c1,c2]]=f (.tup []) [[.int .i64 k,.sl fs]]:=rfl
theorem tc(f:AV->M AV)(k:Int)(c1 c2:AV):ae (bI T 27 (.hp 0 0) (.agg [.int .i64 k,.hn])) f [[c1,c2]]=f (.tup []) [[.int .i64 k,.hn]]:=rfl
theorem B3(f:AV->M AV)(k:Int)(c1 c2:AV):ae (bI T 3 (.hp 0 0) (.int .i64 k)) f [[c1,c2]]=f (.tup []) [[.int .i64 k,c2]]:=rfl
theorem B4(f:AV->M AV)(c1 c2:AV):ae (bz T 27 (.hp 0 0)) f [[c1,c2]]=f (.agg [c1,c2]) [[c1,c2]]:=rfl
theorem fa0:ab T 27 (.hp 0 0) 0=some (.hp 0 0):=rfl
theorem fa1:ab T 27 (.hp 0 0) 1=some (.hp 0 1):=rfl
theorem td:aU T true 27 []=some (.agg [.int .i64 0,.hn]):=rfl
theorem uO:aU T false 27 []=some ty0.av:=rfl
def tf(k:Int):ap 2 [] (.agg [.int .i64 k,.hn])=M.pure (.agg [.int .i64 k,.hn]):=aS rfl
def tg(k:Int)(fs:List AV):ap 2 [] (.agg [.int .i64 k,.sl fs])=M.pure (.agg [.int .i64 k,.sl fs]):=aS rfl
def G4(k:Int)(l n:Nat):ap 2 [] (.agg [.int .i64 k,.hs l 0 n 3 true])=M.pure (.agg [.int .i64 k,.hs l 0 n 3 true]):=aS rfl
theorem BS(n:Int):bE (.int .i64 n)=M.pure (.int .i64 n):=rfl
theorem Aa:ty0.av= .agg [.int .i64 0,.sl []]:=rfl
def Ee(f:AV->M AV)(t:Ty)(c1 c2:AV):ae (bI T 27 (.hp 0 0) t.av) f [[c1,c2]]=f (.tup []) [[.int .i64 t.kind,az t.fields]]:=by
 rw[<- bW];rfl
def cnt(t:Ty):ap 2 [] (.agg [.int .i64 t.kind,az t.fields])=M.pure (.agg [.int .i64 t.kind,az t.fields]):=aS rfl
def An(h:Hp)(acc:List bi):Prop:=(acc=[]/\h[0]? = some [.int .i64 2,.hn])\/(acc≠[]/\∃q,q≠0/\h[0]? = some [.int .i64 2,.hs q 0 acc.length 3 true]/\h[q]? = some (rowOf aZ acc))
theorem Ci:(l:List bi)->(rowOf aZ l).all aX=true
 |[]=>rfl
 |f:: l=>by
  rw[ic,List.all_append,Ci l,Jv,cF];rfl
def xv{h:Hp}{acc:List bi}(A:An h acc)(hl:acc.length<=1000000)(f:bi):∃sv rv h1 h2,bz T 25 (.hp 0 1) h= .ok sv h/\appH T 25 false sv (az [f]) h= .ok rv h1/\bI T 25 (.hp 0 1) rv h1= .ok (.tup []) h2/\An h2 (acc++[f]):=by
 have hfl:az [f]= .sl [aZ f]:=by rw[iM];rfl
 have h0l:0<h.length:=by
  rcases A with⟨_,h0⟩|⟨_,q,_,h0,_⟩
  ·exact (HN.1 h0).1
  ·exact (HN.1 h0).1
 rcases A with⟨rfl,h0⟩|⟨hne,q,hq0,h0,hq⟩
 ·have e1:bz T 25 (.hp 0 1) h= .ok .hn h:=jM rfl rfl h0 rfl;have e2:=EH (T:=T) (t:=25) (e:=76) rfl rfl rfl (x:=aZ f) (gb f) (by decide) (by decide) (by decide) h;rw[<- hfl]at e2;have h0':(h++[aa (aZ f)])[0]? = some [.int .i64 2,.hn]:=by rw[HC h0l];exact h0
  have e3:=qN (T:=T) (t:=25) rfl (k:=1) (v:=.hs h.length 0 1 3 true) h0' rfl (by decide) (by decide);refine⟨_,_,_,_,e1,e2,e3,.inr ⟨by simp,h.length,by omega,?_,?_⟩⟩
  ·rw[IC (by simp)];rfl
  ·rw[IM (by omega),HL (Hu _),Jj];simp[rowOf]
 ·have e1:bz T 25 (.hp 0 1) h= .ok (.hs q 0 acc.length 3 true) h:=jM rfl rfl h0 rfl;have hln:=ff (f:=aZ) BZ acc;have hpos:0<acc.length:=Ja.2 hne;have e2:=EI (T:=T) (t:=25) (e:=76) rfl rfl rfl (x:=aZ f) (gb f) (by decide) (by decide) hq (Ci acc) hln hpos (show (acc.length+1)*48<=_ by omega);rw[<- hfl]at e2;have hql:q<h.length:=(HN.1 hq).1;have h0':((h.set q [])++[rowOf aZ acc++aa (aZ f)])[0]? = some [.int .i64 2,.hs q 0 acc.length 3 true]:=by
   rw[HC (by simpa using h0l),IM (by omega)];exact h0
  have e3:=qN (T:=T) (t:=25) rfl (k:=1) (v:=.hs h.length 0 (acc.length+1) 3 true) h0' rfl (show 1+1<=2 by omega) (by decide);refine⟨_,_,_,_,e1,e2,e3,.inr ⟨by simp,h.length,by omega,?_,?_⟩⟩
  ·rw[IC (by simp),HZ];rfl
  ·rw[IM (by omega),HL (by simp),I1,Jj];simp[rowOf]
theorem xu{h:Hp}{acc:List bi}(A:An h acc):∃v,bz T 27 (.hp 0 0) h= .ok v h/\ap 2 [] v=M.pure v/\(∃c1 c2,v= .agg [c1,c2])/\gy 6 h (.tup [v,.int .i64 0])= .tup [(Ty.mk 2 acc).av,.int .i64 0]:=by
 have e:(Ty.mk 2 acc).av= .agg [.int .i64 2,az acc]:=rfl;rcases A with⟨rfl,h0⟩|⟨hne,q,hq0,h0,hq⟩
 ·exact⟨.agg [.int .i64 2,.hn],zp (T:=T) (t:=27) rfl rfl h0 (show 0+2<=2 by omega),tf 2,⟨_,_,rfl⟩,rfl⟩
 ·refine⟨.agg [.int .i64 2,.hs q 0 acc.length 3 true],zp (T:=T) (t:=27) rfl rfl h0 (show 0+2<=2 by omega),G4 2 q acc.length,⟨_,_,rfl⟩,?_⟩;have hfr:=lh (f:=aZ) BZ (fun x=>by rw[cF,f7]) (fun x g=>yH g x) (by decide) hq 5;rw[e,iM,<- hfr];rfl
def A9(e:Exp)(l:List Ty)(x1 x2:AV)(hlen:l.length<=1000000)(hn:e.names.length=l.length):∀(n i:Nat)(h:Hp),l.length-i=n->i<=l.length->An h ((e.names.zip l).take i)->
  ∃v h',aj (L185_0 (ah pg) aj (K185_0 (ah pg) aj)) [.ip (aa e.av),.hp 0 0,.bool true,dM l,.int .i64 l.length,.int .i64 i,x1,x2] h= .ok v h'/\gy 6 h' v= .tup [(Ty.mk 2 (e.names.zip l)).av,.int .i64 0]:=by
 intro n
 induction n with
 |zero=>
  intro i h hi hle A;have h1:¬((i:Int)<(l.length:Int)):=by omega
  have h2:(e.names.zip l).take i=e.names.zip l:=IQ (by rw[JX];omega);rw[h2]at A;obtain⟨v,e1,e2,⟨c1,c2,rfl⟩,e3⟩:=xu A;refine⟨_,h,?_,e3⟩;rw[FL185_0];simp only[L185_0,K185_0,a7,bc,bJ,aG,h1,Ji,aY,HT,Iu,il,IL];rw[aF e1];simp only[e2,aV,mC,a7,bc];rfl
 | succ n ih=>
  intro i h hi hle A;have hlt:i<l.length:=by omega
  have hlt2:i<e.names.length:=by omega
  have h1:(i:Int)<(l.length:Int):=by omega
  have hw:IntKind.i64.wrap ((i:Int)+1)=(i:Int)+1:=be (by omega);have hix:=mz (l:=l) (n:=(i:Int)) (by omega) h1;rw[HH,HP l i hlt]at hix;have hix2:=xk (l:=e.names) (n:=(i:Int)) (by omega) (by omega);rw[HH,HP e.names i hlt2]at hix2;have ht:(e.names.zip l).take (i+1)=(e.names.zip l).take i++[(e.names[i],l[i])]:=by
   rw[List.take_succ_eq_append_getElem (by rw[JX];omega),List.getElem_zip]
  obtain⟨sv,rv,h2,h3,e1,e2,e3,A3⟩:=xv A (by rw[Ix,JX];omega) (e.names[i],l[i]);rw[<- ht]at A3;obtain⟨v,h',e4,e5⟩:=ih (i+1) h3 (by omega) (by omega) A3;refine⟨v,h',?_,e5⟩;have e4':aj (L185_0 (ah pg) aj (K185_0 (ah pg) aj)) [.ip (aa e.av),.hp 0 0,.bool true,dM l,.int .i64 l.length,.int .i64 ((i:Int)+1),x1,x2] h3= .ok v h':=e4;rw[<- e4'];generalize hcode:aj (L185_0 (ah pg) aj (K185_0 (ah pg) aj)) [.ip (aa e.av),.hp 0 0,.bool true,dM l,.int .i64 l.length,.int .i64 i,x1,x2] h=code;rw[FL185_0]at hcode;simp -implicitDefEqProofs only[L185_0,a7,bc,bJ,aG,h1,Iq,aY,H7,hix,bm,LD27,HG,HM,HJ,Nat.reduceAdd,Hu,HY,H9,bW,Av.dA,aV,fa1]at hcode;rw[aF e1]at hcode;simp -implicitDefEqProofs only[bp,FA47_4,aG,Iw,Ia,LD35,hix2,eS,LD9,LD27,HG,HM,HJ,Nat.reduceAdd,Hu,H7,HY,H9,bW,qo,FX]at hcode;rw[aF e2]at hcode;rw[aF e3]at hcode;simp -implicitDefEqProofs only[d7,aG,hw]at hcode;rw[<- hcode,bp]
theorem eb(l:List Ty):aa (dM l)=[dM l]:=rfl
def t185(e:Exp)(l:List Ty)(hl:∀t∈l,dl t)(hlen:l.length<=1000000)(h11:e.op=11->l.length=3)(h14:e.op=14->l.length=1)(h13:e.op=13->e.names.length=l.length):ah pg 185 [e.av,dM l]=M.pure (match bD e l with|some t=>.tup [t.av,.int .i64 0]|none=>.tup [ty0.av,.int .i64 13]):=by
 have h0:=t230 0 l hlen;have h1:=t230 1 l hlen;rw[C185,qc,yK];have fin:∀k:Int,gy 6 [[.int .i64 k,.hn]] (.tup [.agg [.int .i64 k,.hn],.int .i64 0])= .tup [(Ty.mk k []).av,.int .i64 0]:=fun k=>rfl;have fin0:∀h:Hp,gy 6 h (.tup [ty0.av,.int .i64 13])= .tup [ty0.av,.int .i64 13]:=fun h=>rfl;have fins:∀(h:Hp)(t:Ty),gy 6 h (.tup [.agg [.int .i64 t.kind,az t.fields],.int .i64 0])= .tup [t.av,.int .i64 0]:=fun h t=>by
  have hc:Ap.Clean (AV.tup [t.av,.int .i64 0]):=fun g=>by simp[cl,dy]
  rw[bW];exact hc.frz 6 h
 by_cases o3:e.op=3\/e.op=4\/e.op=5\/e.op=16
 ·have ep:bD e l=if gx 0 l=true then some (.mk 0 [])else none:=by unfold bD;rw[Ht o3]
  rw[ep];cases hb:gx 0 l with
  |true=>
   rw[hb]at h0;refine bG (v:=.tup [.agg [.int .i64 0,.hn],.int .i64 0]) (h':=[[.int .i64 0,.hn]]) ?_ (fin 0);rcases o3 with hop|hop|hop|hop<;>simp[S185,K185_0,K185_1,K185_2,td,uO,B1,B2,tc,B3,B4,fa0,hop,tf,tg,bF,eb,h0,h1]<;>rfl
  |false=>
   rw[hb]at h0;refine bG (v:=.tup [ty0.av,.int .i64 13]) (h':=[[.int .i64 0,.hn]]) ?_ (fin0 _);rcases o3 with hop|hop|hop|hop<;>simp[S185,K185_0,K185_1,K185_2,td,uO,B1,B2,tc,B3,B4,fa0,hop,tf,tg,bF,eb,h0,h1]<;>rfl
 ·by_cases hop:e.op=1
  ·have ep:bD e l=some (.mk 1 []):=by unfold bD;rw[if_neg o3,Ht hop]
   rw[ep];refine bG (v:=.tup [.agg [.int .i64 1,.hn],.int .i64 0]) (h':=[[.int .i64 1,.hn]]) ?_ (fin 1);simp[S185,K185_0,K185_1,K185_2,td,uO,B1,B2,tc,B3,B4,fa0,hop,tf,tg,bF,eb,h0,h1,BS];rfl
  ·by_cases hop6:e.op=6
   ·have hop:=hop6;have ep:bD e l=if gx 0 l=true then some (.mk 1 [])else none:=by unfold bD;rw[if_neg o3,if_neg (by omega),Ht hop6]
    rw[ep];cases hb:gx 0 l with
    |true=>
     rw[hb]at h0;refine bG (v:=.tup [.agg [.int .i64 1,.hn],.int .i64 0]) (h':=[[.int .i64 1,.hn]]) ?_ (fin 1);simp[S185,K185_0,K185_1,K185_2,td,uO,B1,B2,tc,B3,B4,fa0,hop,tf,tg,bF,eb,h0,h1,BS];rfl
    |false=>
     rw[hb]at h0;refine bG (v:=.tup [ty0.av,.int .i64 13]) (h':=[[.int .i64 1,.hn]]) ?_ (fin0 _);simp[S185,K185_0,K185_1,K185_2,td,uO,B1,B2,tc,B3,B4,fa0,hop,tf,tg,bF,eb,h0,h1,BS];rfl
   ·by_cases hop7:e.op=7
    ·have hop:=hop7;have ep:bD e l=if(gx 0 l||gx 1 l)=true then some (.mk 1 [])else none:=by unfold bD;rw[if_neg o3,if_neg (by omega),if_neg hop6,Ht hop7]
     rw[ep];cases hb:gx 0 l<;>cases hb1:gx 1 l<;>rw[hb]at h0<;>rw[hb1]at h1
     ·refine bG (v:=.tup [ty0.av,.int .i64 13]) (h':=[[.int .i64 1,.hn]]) ?_ (fin0 _);simp[S185,K185_0,K185_1,K185_2,td,uO,B1,B2,tc,B3,B4,fa0,hop,tf,tg,bF,eb,h0,h1,BS];rfl
     all_goals
      refine bG (v:=.tup [.agg [.int .i64 1,.hn],.int .i64 0]) (h':=[[.int .i64 1,.hn]]) ?_ (fin 1);simp[S185,K185_0,K185_1,K185_2,td,uO,B1,B2,tc,B3,B4,fa0,hop,tf,tg,bF,eb,h0,h1,BS];rfl
    ·by_cases o8:e.op=8\/e.op=9\/e.op=10
     ·have ep:bD e l=if gx 1 l=true then some (.mk 1 [])else none:=by unfold bD;rw[if_neg o3,if_neg (by omega),if_neg hop6,if_neg hop7,Ht o8]
      rw[ep];cases hb:gx 1 l with
      |true=>
       rw[hb]at h1;refine bG (v:=.tup [.agg [.int .i64 1,.hn],.int .i64 0]) (h':=[[.int .i64 1,.hn]]) ?_ (fin 1);rcases o8 with hop|hop|hop<;>simp[S185,K185_0,K185_1,K185_2,td,uO,B1,B2,tc,B3,B4,fa0,hop,tf,tg,bF,eb,h0,h1,BS]<;>rfl
      |false=>
       rw[hb]at h1;refine bG (v:=.tup [ty0.av,.int .i64 13]) (h':=[[.int .i64 1,.hn]]) ?_ (fin0 _);rcases o8 with hop|hop|hop<;>simp[S185,K185_0,K185_1,K185_2,td,uO,B1,B2,tc,B3,B4,fa0,hop,tf,tg,bF,eb,h0,h1,BS]<;>rfl
     ·by_cases hop11:e.op=11
      ·have hop:=hop11;have ep:bD e l=(match ml l[1]! l[2]! with|some t=>if l[0]!.kind=1 then some t else none|none=>none):=by unfold bD;rw[if_neg o3,if_neg (by omega),if_neg hop6,if_neg hop7,if_neg o8,Ht hop11];rfl
       rw[ep];obtain⟨a,b,c,rfl⟩:∃a b c,l=[a,b,c]:=by
        have:=h11 hop
        match l,this with
        |[a,b,c],_=>exact⟨a,b,c,rfl⟩
       have i0:ak T 54 (dM [a,b,c]) (.int .i64 0)=some (.ip (aa a.av)):=mz (l:=[a,b,c]) (n:=0) (by omega) (by simp);have i1:ak T 54 (dM [a,b,c]) (.int .i64 1)=some (.ip (aa b.av)):=mz (l:=[a,b,c]) (n:=1) (by omega) (by simp);have i2:ak T 54 (dM [a,b,c]) (.int .i64 2)=some (.ip (aa c.av)):=mz (l:=[a,b,c]) (n:=2) (by omega) (by simp);have hu:=t232 b c (hl b (by simp)) (hl c (by simp));show aD _=M.pure (match (match ml b c with|some t=>if a.kind=1 then some t else none|none=>none)with|some t=>.tup [t.av,.int .i64 0]|none=>.tup [ty0.av,.int .i64 13]);cases hub:ml b c with
       |none=>
        rw[hub]at hu;refine bG (v:=.tup [ty0.av,.int .i64 13]) (h':=[[.int .i64 0,.sl []]]) ?_ (fin0 _);simp[S185,K185_0,K185_1,K185_2,td,uO,B1,B2,tc,B3,B4,fa0,hop,tf,tg,bF,eb,h0,h1,i0,i1,i2,hu,hub,Ee,Aa];rfl
       | some u=>
        rw[hub]at hu;by_cases hk:a.kind=1
        ·dsimp only;rw[Ht hk];have hk':(a.kind== 1)=true:=HX.2 hk;refine bG (v:=.tup [.agg [.int .i64 u.kind,az u.fields],.int .i64 0]) (h':=[[.int .i64 u.kind,az u.fields]]) ?_ (fins _ u);simp[S185,K185_0,K185_1,K185_2,td,uO,B1,B2,tc,B3,B4,fa0,hop,tf,tg,bF,eb,h0,h1,i0,i1,i2,hu,hub,Ee,hk',cnt];rfl
        ·dsimp only;rw[if_neg hk];have hk':(a.kind== 1)=false:=HB.2 hk;refine bG (v:=.tup [ty0.av,.int .i64 13]) (h':=[[.int .i64 u.kind,az u.fields]]) ?_ (fin0 _);simp[S185,K185_0,K185_1,K185_2,td,uO,B1,B2,tc,B3,B4,fa0,hop,tf,tg,bF,eb,h0,h1,i0,i1,i2,hu,hub,Ee,hk'];rfl
      ·by_cases hop13:e.op=13
       ·have hop:=hop13;have ep:bD e l=some (.mk 2 (e.names.zip l)):=by unfold bD;rw[if_neg o3,if_neg (by omega),if_neg hop6,if_neg hop7,if_neg o8,if_neg hop11,Ht hop13]
        rw[ep];obtain⟨v,h',e1,e2⟩:=A9 e l (.int .i64 0) (.sl []) hlen (h13 hop) l.length 0 [[.int .i64 2,.hn]] rfl (H5 _) (.inl ⟨rfl,rfl⟩);refine bG (v:=v) (h':=h') ?_ e2;have e1':aj (L185_0 (ah pg) aj (K185_0 (ah pg) aj)) [.ip (aa e.av),.hp 0 0,.bool true,dM l,.int .i64 l.length,.int .i64 0,.int .i64 0,.sl []] [[.int .i64 2,.hn]]= .ok v h':=e1;rw[bp,hop]at e1';simp[S185,K185_1,K185_2,td,B1,tc,B3,fa0,hop,eb,BS];exact e1'
       ·by_cases hop14:e.op=14
        ·have hop:=hop14;have ep:bD e l=(match aJ (fun z=>z.1== e.s) l[0]!.fields with|some z=>some z.2|none=>none):=by unfold bD;rw[if_neg o3,if_neg (by omega),if_neg hop6,if_neg hop7,if_neg o8,if_neg hop11,if_neg hop13,Ht hop14];rfl
         rw[ep];obtain⟨a,rfl⟩:∃a,l=[a]:=by
          have:=h14 hop
          match l,this with
          |[a],_=>exact⟨a,rfl⟩
         have i0:ak T 54 (dM [a]) (.int .i64 0)=some (.ip (aa a.av)):=mz (l:=[a]) (n:=0) (by omega) (by simp);have hk:=t181 a.fields (hl a (by simp)).len e.s;show aD _=M.pure (match (match aJ (fun z=>z.1== e.s) a.fields with|some z=>some z.2|none=>none)with|some t=>.tup [t.av,.int .i64 0]|none=>.tup [ty0.av,.int .i64 13]);cases hz:aJ (fun z:bi=>z.1== e.s) a.fields with
         |none=>
          rw[hz]at hk;refine bG (v:=.tup [ty0.av,.int .i64 13]) (h':=[[.int .i64 0,.sl []]]) ?_ (fin0 _);simp[S185,K185_0,K185_1,K185_2,td,uO,B1,B2,tc,B3,B4,fa0,hop,tf,tg,bF,eb,h0,h1,i0,hk,Ee,Aa];rfl
         |some z=>
          rw[hz]at hk;refine bG (v:=.tup [.agg [.int .i64 z.2.kind,az z.2.fields],.int .i64 0]) (h':=[[.int .i64 z.2.kind,az z.2.fields]]) ?_ (fins _ z.2);simp[S185,K185_0,K185_1,K185_2,td,uO,B1,B2,tc,B3,B4,fa0,hop,tf,tg,bF,eb,h0,h1,i0,hk,Ee,cnt];rfl
        ·have ep:bD e l=some (.mk 0 []):=by unfold bD;rw[if_neg o3,if_neg (by omega),if_neg hop6,if_neg hop7,if_neg o8,if_neg hop11,if_neg hop13,if_neg hop14]
         rw[ep];refine bG (v:=.tup [.agg [.int .i64 0,.hn],.int .i64 0]) (h':=[[.int .i64 0,.hn]]) ?_ (fin 0);have n3:(e.op== 3)=false:=HB.2 (by omega);have n4:(e.op== 4)=false:=HB.2 (by omega);have n5:(e.op== 5)=false:=HB.2 (by omega);have n16:(e.op== 16)=false:=HB.2 (by omega);have n1:(e.op== 1)=false:=HB.2 (by omega);have n6:(e.op== 6)=false:=HB.2 (by omega);have n7:(e.op== 7)=false:=HB.2 (by omega);have n8:(e.op== 8)=false:=HB.2 (by omega);have n9:(e.op== 9)=false:=HB.2 (by omega);have n10:(e.op== 10)=false:=HB.2 (by omega);have n11:(e.op== 11)=false:=HB.2 (by omega);have n13:(e.op== 13)=false:=HB.2 (by omega);have n14:(e.op== 14)=false:=HB.2 (by omega);simp[S185,K185_0,K185_1,K185_2,td,B1,tc,B4,tf,n3,n4,n5,n16,n1,n6,n7,n8,n9,n10,n11,n13,n14];rfl
def zJ(f:AV)(F:Fun->Bool)(l:List Fun)(hb:l.length<=4611686018427387904)(hf:∀x∈l,bF (ah pg) f [Fun.av x]=M.pure (.bool (F x))):∀(n:Nat)(i:Int),l.length-i.toNat=n->0<=i->i<=l.length->
  aj (L253_0 (ah pg) aj) [iz l,f,.int .i64 l.length,.int .i64 i]=M.pure (.int .i64 (bT F (l.drop i.toNat) i)):=by
 intro n
 induction n with
 |zero=>
  intro i hn hi hl;rw[FL253_0];simp only[L253_0];have h1:¬(i<(l.length:Int)):=by omega
  have h2:l.drop i.toNat=[]:=HQ (by omega);simp[h1,h2,bT]
 |succ n ih=>
  intro i hn hi hl;have h1:i<(l.length:Int):=by omega
  have hlt:i.toNat<l.length:=by omega
  have h2:bT F (l.drop i.toNat) i=if F l[i.toNat]=true then i else bT F (l.drop (i.toNat+1)) (i+1):=by rw[HK hlt];rfl
  have h3:=hf l[i.toNat] (HD hlt);have h4:=ih (i+1) (by omega) (by omega) (by omega);rw[show (i+1).toNat=i.toNat+1 by omega]at h4;rw[FL253_0];simp only[L253_0];simp (disch:=omega) [h1,dF,Cm,h3,h2];cases F l[i.toNat]
  ·simpa using h4
  ·simp
def GJ(f:AV)(F:Fun->Bool)(l:List Fun)(hb:l.length<=4611686018427387904)(hc:∀g,cl g f=f)(hf:∀x∈l,bF (ah pg) f [Fun.av x]=M.pure (.bool (F x))):ah pg 253 [iz l,f]=M.pure (.int .i64 (bT F l 0)):=by
 rw[C253];simp[S253,hc,zJ f F l hb hf l.length 0 rfl (by omega) (by omega)]
def zI(s:bA)(l:List bA)(hb:l.length<=4611686018427387904):∀(n:Nat)(i:Int),l.length-i.toNat=n->0<=i->i<=l.length->
  aj (L238_0 (ah pg) aj) [strs l,.str s,.int .i64 l.length,.int .i64 i]=M.pure (.int .i64 (bT (fun x=>s== x) (l.drop i.toNat) i)):=by
 intro n
 induction n with
 |zero=>
  intro i hn hi hl;rw[FL238_0];simp only[L238_0];have h1:¬(i<(l.length:Int)):=by omega
  have h2:l.drop i.toNat=[]:=HQ (by omega);simp[h1,h2,bT]
 | succ n ih=>
  intro i hn hi hl;have h1:i<(l.length:Int):=by omega
  have hlt:i.toNat<l.length:=by omega
  have h2:bT (fun x=>s== x) (l.drop i.toNat) i=if(s== l[i.toNat])=true then i else bT (fun x=>s== x) (l.drop (i.toNat+1)) (i+1):=by rw[HK hlt];rfl
  have h4:=ih (i+1) (by omega) (by omega) (by omega);rw[show (i+1).toNat=i.toNat+1 by omega]at h4;rw[FL238_0,h2];simp only[L238_0];have hix:=xk (l:=l) (n:=i) hi h1;rw[HP l i.toNat hlt]at hix;generalize l[i.toNat]=x at hix |-;cases hx:s== x
  ·have hw:IntKind.i64.wrap (i+1)=i+1:=dF (by omega) (by omega);simp only[a7,bc,bJ,aG,h1,Iq,aY,H7,hix,eS,LD9,vR,hx,HT,Iu,d7,hw,h4]
  ·simp only[a7,bc,bJ,aG,h1,Iq,aY,H7,hix,eS,LD9,vR,hx]
def GI(s:bA)(l:List bA)(hb:l.length<=4611686018427387904):ah pg 238 [strs l,.str s]=M.pure (.int .i64 (bT (fun x=>s== x) l 0)):=by
 have h:=zI s l hb l.length 0 rfl (by omega) (by omega);rw[C238];have h':aj (L238_0 (ah pg) aj) [strs l,.str s,.int .i64 l.length,.int .i64 0]=M.pure (.int .i64 (bT (fun x=>s== x) l 0)):=h;simp only[S238,uS,mR,xo,aG,h',r9]
def GM(s:bA)(l:List bA)(hb:l.length<=4611686018427387904):ah pg 256 [strs l,.str s]=M.pure (.bool (l.contains s)):=by
 rw[C256];have e:l.any (fun x=>s== x)=l.contains s:=by rw[List.contains_eq_any_beq]
 simp only[S256,uS,mR,GI s l hb,aV,p8,aG,lj,e,jd]
def bh(m:Ap.Mod)(mp:AV)(n:Int):List AV:=[.str m.name,strs m.uses,az m.vars,cm m.init,iz m.funcs,.bool m.moves,az m.old,cm m.forward,cm m.back,mp,.int .i64 n]
def bQ(fs:List Face):List AV:=fs.map fun f=>.tup [.str f.module,f.av]
def GT(h:Hp)(mp:AV)(fs:List Face):Prop:=(mp= .nilm/\fs=[])\/∃l,mp= .mp l/\h[l]? = some [.tup (bQ fs)]
structure JR (h:Hp) (q:Nat) (m:Ap.Mod) (mp:AV) (fs:List Face) (n:Int):Prop where
 row:h[q]? = some (bh m mp n)
 map:GT h mp fs
 ne:mp≠.mp q
def JR.set{h:Hp}{q:Nat}{m:Ap.Mod}{mp:AV}{fs:List Face}{n:Int}(R:JR h q m mp fs n)(n':Int):JR (h.set q (bh m mp n')) q m mp fs n':=by
 have hl:=(HN.1 R.row).1;refine⟨IC hl,?_,R.ne⟩;rcases R.map with h1|⟨l,h1,h2⟩
 ·exact .inl h1
 ·refine .inr ⟨l,h1,?_⟩;rw[IM (fun e=>R.ne (by rw[h1,e]))];exact h2
def JR.same{h:Hp}{q:Nat}{m:Ap.Mod}{mp:AV}{fs:List Face}{n:Int}(R:JR h q m mp fs n):h.set q (bh m mp n)=h:=by
 obtain⟨hl,e⟩:=HN.1 R.row;rw[<- e];exact Jq hl
def Hb{h:Hp}{q:Nat}{m:Ap.Mod}{mp:AV}(a b:Int):(h.set q (bh m mp a)).set q (bh m mp b)=h.set q (bh m mp b):=List.set_set ..
def JR.vars{h:Hp}{q:Nat}{m:Ap.Mod}{mp:AV}{fs:List Face}{n:Int}(R:JR h q m mp fs n):bz T 25 (.hp q 2) h= .ok (az m.vars) h:=jM rfl rfl R.row rfl
def JR.funcs{h:Hp}{q:Nat}{m:Ap.Mod}{mp:AV}{fs:List Face}{n:Int}(R:JR h q m mp fs n):bz T 37 (.hp q 4) h= .ok (iz m.funcs) h:=jM rfl rfl R.row rfl
def JR.uses{h:Hp}{q:Nat}{m:Ap.Mod}{mp:AV}{fs:List Face}{n:Int}(R:JR h q m mp fs n):bz T 35 (.hp q 1) h= .ok (strs m.uses) h:=jM rfl rfl R.row rfl
def JR.mp{h:Hp}{q:Nat}{m:Ap.Mod}{mp:AV}{fs:List Face}{n:Int}(R:JR h q m mp fs n):bz T 139 (.hp q 9) h= .ok mp h:=jM rfl rfl R.row rfl
def JR.eff{h:Hp}{q:Nat}{m:Ap.Mod}{mp:AV}{fs:List Face}{n:Int}(R:JR h q m mp fs n):bz T 3 (.hp q 10) h= .ok (.int .i64 n) h:=jM rfl rfl R.row rfl
def JR.put{h:Hp}{q:Nat}{m:Ap.Mod}{mp:AV}{fs:List Face}{n:Int}(R:JR h q m mp fs n)(n':Int):bI T 3 (.hp q 10) (.int .i64 n') h= .ok (.tup []) (h.set q (bh m mp n')):=
 qN (T:=T) (t:=3) rfl (v:=.int .i64 n') R.row rfl (show 10+1<=11 by omega) (by decide)
theorem G5(a b:bA):wx T 20 9 (.str a) (.str b)=some (a== b):=rfl
theorem m6(s:bA):(fs:List Face)->(i:Nat)->(fs.find? (fun f=>f.module== s)=none/\dW T 9 (.str s) (bQ fs) i=some none)\/∃f j k,fs.find? (fun f=>f.module== s)=some f/\dW T 9 (.str s) (bQ fs) i=some (some (j,k,f.av))
 |[],i=>.inl ⟨rfl,rfl⟩
 |x:: fs,i=>by
  show (_/\dW T 9 (.str s) (.tup [.str x.module,x.av]:: bQ fs) i=_)\/∃f j k,_/\dW T 9 (.str s) (.tup [.str x.module,x.av]:: bQ fs) i=_;unfold dW;rw[G5,Ks];have hc:(s== x.module)=(x.module== s):=IJ.2 ⟨fun h=>HX.2 (HX.1 h).symm,fun h=>HX.2 (HX.1 h).symm⟩;rw[hc];cases hx:x.module== s with
  |true=>exact .inr ⟨x,i,.str x.module,rfl,rfl⟩
  |false=>exact m6 s fs (i+1)
def pr{h:Hp}{mp:AV}{fs:List Face}(M:GT h mp fs)(s:bA):ey T 139 mp (.str s) true h= .ok (.tup [((fs.find? fun f=>f.module== s).getD lQ).av,.bool (fs.find? fun f=>f.module== s).isSome]) h:=by
 have e:∀es:List AV,l5 T 139 es (.str s) true=(match dW T 9 (.str s) es 0 with
   |some (some (_,_,v))=>some (.tup [v,.bool true])
   |some none=>some (.tup [lQ.av,.bool false])
   |none=>none):=fun es=>rfl
 rcases M with⟨rfl,rfl⟩|⟨l,rfl,hl⟩
 ·unfold ey iK;simp only;rw[e];rfl
 ·unfold ey iK;simp only[hl];rw[e];rcases m6 s fs 0 with⟨h1,h2⟩|⟨f,j,k,h1,h2⟩
  ·rw[h1,h2];rfl
  ·rw[h1,h2];rfl
def GK(f:Fun)(e:Exp):ah pg 254 [f.av,.ip (aa e.av)]=M.pure (.bool (f.name== e.s)):=by
 rw[C254];simp[S254,cl,dy]
def GL(f:Sig)(e:Exp):ah pg 255 [f.av,.ip (aa e.av)]=M.pure (.bool (f.name== e.s)):=by
 rw[C255];simp[S255,cl,dy]
structure CxOk (m:Ap.Mod) (fs:List Face):Prop where
 vlen:m.vars.length<=1000000
 vars:∀z∈m.vars,aH z.2=true
 flen:m.funcs.length<=1000000
 ulen:m.uses.length<=1000000
 plen:∀f∈m.funcs,f.params.length<=1000000
 pars:∀f∈m.funcs,∀z∈f.params,aH z.2=true
 res:∀f∈m.funcs,aH f.result=true
 slen:∀f∈fs,f.funcs.length<=140737488355328
 splen:∀f∈fs,∀s∈f.funcs,s.params.length<=140737488355328
 spars:∀f∈fs,∀s∈f.funcs,∀t∈s.params,aH t=true
 sres:∀f∈fs,∀s∈f.funcs,aH s.result=true
def xa:Sig:=⟨[],[],ty0,0⟩
def oE(l:List bi)(hl:l.length<=1000000)(x3 x4 x5 x6 x7:AV)(k:Int)(fs:List bi)(e:Int):∀(n i:Nat)(acc:List Ty),l.length-i=n->i<=l.length->acc.length<=i->
  aj (L229_0 (ah pg) aj) [az l,.int .i64 l.length,.int .i64 i,x3,x4,x5,x6,x7,.str [],dM acc,.int .i64 k,az fs,.int .i64 e]=M.pure (.tup [(Sig.mk [] (acc++(l.drop i).map (·.2)) (.mk k fs) e).av,.bool true]):=by
 intro n
 induction n with
 |zero=>
  intro i acc hn hi ha;have h1:¬((i:Int)<(l.length:Int)):=by omega
  have h2:l.drop i=[]:=HQ (by omega);have h3:ap 5 [] (.agg [.str [],dM acc,.int .i64 k,az fs,.int .i64 e])=M.pure (.agg [.str [],dM acc,.int .i64 k,az fs,.int .i64 e]):=aS rfl;rw[FL229_0,h2];simp[L229_0,h1,h3];rfl
 |succ n ih=>
  intro i acc hn hi ha;have hlt:i<l.length:=by omega
  have h1:(i:Int)<(l.length:Int):=by omega
  have h2:l.drop i=l[i]:: l.drop (i+1):=HK hlt;have hw:IntKind.i64.wrap ((i:Int)+1)=(i:Int)+1:=be (by omega);have hix:=pR (l:=l) (n:=(i:Int)) (by omega) h1;rw[HH,HP l i hlt]at hix;have ih2:∀acc:List Ty,acc.length<=i+1->aj (L229_0 (ah pg) aj) [az l,.int .i64 l.length,.int .i64 ((i:Int)+1),x3,x4,x5,x6,x7,.str [],dM acc,.int .i64 k,az fs,.int .i64 e]=M.pure (.tup [(Sig.mk [] (acc++(l.drop (i+1)).map (·.2)) (.mk k fs) e).av,.bool true]):=fun acc ha=>ih (i+1) acc (by omega) (by omega) ha;have ih':=ih2 (acc++[l[i].2]) (by simp;omega);have hap:=Ed (a:=acc) (b:=[l[i].2]) (by simp;omega);rw[FL229_0,h2];generalize l[i]=f at hix hap ih' |-;have hsl:aL T 54 1 [(0,f.2.av)]=some (dM [f.2]):=by cases f.2;rfl
  have hc1:∀l:List Ty,bE (dM l)=M.pure (dM l):=fun l=>rfl;simp[L229_0,h1,hix,hsl,hap,hc1,hw,ih']
theorem GH{h:Hp}{q:Nat}{m:Ap.Mod}{mp:AV}{fs:List Face}{n:Int}(R:JR h q m mp fs n)(K:CxOk m fs)(e:Exp):∃r,ah pg 229 [.hp q 0,e.av] h= .ok r h/\(match bS (dG m fs) e with
  |none=>r= .tup [xa.av,.bool false]
  |some s=>∃nm,r= .tup [(Sig.mk nm s.1 s.2.1 s.2.2).av,.bool true]):=by
 have bs0:aU T false 56 []=some xa.av:=rfl;have bs1:∀(k:Int)(x:List bi)(f:Int),aU T true 56 [(2,(Ty.mk k x).av),(3,.int .i64 f)]=some (.agg [.str [],.hn,.int .i64 k,az x,.int .i64 f]):=fun k x f=>rfl;have bs2:∀(k:Int)(x:List bi)(f:Int),ap 5 [1] (.agg [.str [],.hn,.int .i64 k,az x,.int .i64 f])=M.pure (.agg [.str [],.hn,.int .i64 k,az x,.int .i64 f]):=fun k x f=>rfl;have nc:cI (.hp q 0)=some (.hp q 0):=rfl;rw[C229];by_cases hm:e.m=[]
 ·have hm':(e.m== [])=true:=HX.2 hm;have h1:=GJ (.fn (.func 254) [] [.ip (aa e.av)]) (fun f=>f.name== e.s) m.funcs (by have:=K.flen;omega) (fun g=>by simp[cl,dy]) (fun f _=>GK f e);simp only[bp]at h1;have l1:∀f:AV->M AV,ae (bz T 37 (.hp q 4)) f h=f (iz m.funcs) h:=fun f=>aF R.funcs f;unfold bS;rw[Ht hm];simp only[dG];rcases g7 (fun f:Fun=>f.name== e.s) m.funcs 0 with⟨h2,h3⟩|⟨k,f,h2,h3,h4⟩
  ·rw[h3]at h1;rw[h2];refine⟨_,?_,rfl⟩;simp[S229,hm',l1,h1,bs0];rfl
  ·rw[Int.zero_add]at h4;rw[h4]at h1;rw[h2];have hk:=(HN.1 h3).1;have hix:=Cm (l:=m.funcs) (n:=(k:Int)) (by omega) (by omega);rw[HH,IX,h3,Kf]at hix;have hneg:¬((k:Int)<0):=by omega
   have hmem:=IB h3;have hlp:=oE f.params (K.plen f hmem) (.str []) (.sl []) (.int .i64 0) (.sl []) (.int .i64 0) f.result.kind f.result.fields f.effects f.params.length 0 [] rfl (H5 _) (H5 _);have hlp':aj (L229_0 (ah pg) aj) [az f.params,.int .i64 f.params.length,.int .i64 0,.str [],.sl [],.int .i64 0,.sl [],.int .i64 0,.str [],.sl [],.int .i64 f.result.kind,az f.result.fields,.int .i64 f.effects]=M.pure (.tup [(Sig.mk [] (f.params.map (·.2)) f.result f.effects).av,.bool true]):=by
    rw[Ty.eta]at hlp;exact hlp
   have bs1':aU T true 56 [(2,f.result.av),(3,.int .i64 f.effects)]=some (.agg [.str [],.hn,.int .i64 f.result.kind,az f.result.fields,.int .i64 f.effects]):=by
    rw[<- Ty.eta f.result];rfl
   refine⟨_,?_,[],rfl⟩;simp[S229,hm',l1,h1,hneg,hix,bs1',bs2,hlp'];rfl
 ·have hm':(e.m== [])=false:=HB.2 hm;have l1:∀f:AV->M AV,ae (bz T 139 (.hp q 9)) f h=f mp h:=fun f=>aF R.mp f;have l2:∀f:AV->M AV,ae (ey T 139 mp (.str e.m) true) f h=f (.tup [((fs.find? fun f=>f.module== e.m).getD lQ).av,.bool (fs.find? fun f=>f.module== e.m).isSome]) h:=fun f=>aF (pr R.map e.m) f;have l4:∀(g:AV->M (List AV))(f:List AV->M AV),ae (ae (bz T 35 (.hp q 1)) g) f h=ae (g (strs m.uses)) f h:=fun g f=>by simp only[ae,R.uses]
  have cmf:∀f:Face,aE 2 f.av=M.pure f.av:=fun f=>by rw[bN (ly f),fu,pd]
  have hct:=GM e.m m.uses (by have:=K.ulen;omega);cases hf:fs.find? (fun f=>f.module== e.m)with
  | none=>
   rw[hf]at l2;have hix:=t101 (.fn (.func 255) [] [.ip (aa e.av)]) (fun f=>f.name== e.s) lQ.funcs (by simp[lQ]) (fun g=>by simp[cl,dy]) (fun f hf=>by cases hf);have hix':ah pg 101 [sigs lQ.funcs,.fn (.func 255) [] [.ip [.int .i64 e.op,.int .i64 e.n,.str e.s,.str e.m,strs e.names,cm e.args]]]=M.pure (.int .i64 (-1)):=by
    have:=hix
    simp only[bp]at this;exact this
   have z1:aE 2 lQ.av=M.pure (.agg [.str [],.sl []]):=rfl;have ec:bS (dG m fs) e=none:=by simp[bS,dG,hm,hf]
   rw[ec];refine⟨_,?_,rfl⟩;simp[S229,hm',l1,l2,z1,hix',bs0];rfl
  | some f=>
   rw[hf]at l2;have hfm:=I5 hf;have h1:=t101 (.fn (.func 255) [] [.ip (aa e.av)]) (fun f=>f.name== e.s) f.funcs (by have:=K.slen f hfm;omega) (fun g=>by simp[cl,dy]) (fun f _=>GL f e);simp only[bp]at h1;rcases g7 (fun f:Sig=>f.name== e.s) f.funcs 0 with⟨h2,h3⟩|⟨k,s,h2,h3,h4⟩
   ·rw[h3]at h1;have ec:bS (dG m fs) e=none:=by simp[bS,dG,hm,hf,h2]
    rw[ec];refine⟨_,?_,rfl⟩;simp[S229,hm',l1,l2,cmf,h1,bs0];rfl
   ·rw[Int.zero_add]at h4;rw[h4]at h1;have hk:=(HN.1 h3).1;have hix:=Ao (l:=f.funcs) (n:=(k:Int)) (by omega) (by omega);rw[HH,IX,h3,Kf]at hix;have hneg:¬((k:Int)<0):=by omega
    by_cases hu:e.m∈m.uses
    case neg=>
     have hu':m.uses.contains e.m=false:=by rw[<- JM,Js];exact hu
     rw[hu']at hct;have ec:bS (dG m fs) e=none:=by simp[bS,dG,hm,hf,h2,hu]
     rw[ec];refine⟨_,?_,rfl⟩;simp[S229,hm',l1,l2,l4,cmf,h1,hneg,hct,bs0];rfl
    case pos=>
     rw[Js.2 hu]at hct;have ec:bS (dG m fs) e=some (s.params,s.result,s.effects):=by simp[bS,dG,hm,hf,h2,hu]
     rw[ec];have tg:ap 5 [] s.av=M.pure s.av:=gW s;refine⟨_,?_,s.name,rfl⟩;simp[S229,hm',l1,l2,l4,cmf,h1,hneg,hct,hix,tg];rfl
theorem yY(k:Int)(es:List Exp):aU T false 47 [(0,.int .i64 k),(5,cm es)]=some (Exp.mk k 0 [] [] [] es).av:=rfl
def qf(e:Exp):aE 6 e.av=M.pure e.av:=by rw[bN (iT _),bp,dX]
def yN(e:Exp):ap 6 [] e.av=M.pure e.av:=by rw[aS (iT _),bp,dX]
def f6(o n:Int)(s m:bA)(ns:List bA)(es:List Exp):AV.agg [.int .i64 o,.int .i64 n,.str s,.str m,strs ns,cm es]=(Exp.mk o n s m ns es).av:=dX (Exp.mk o n s m ns es)
def GV(o n:Int)(s m:bA)(es:List Exp):AV.agg [.int .i64 o,.int .i64 n,.str s,.str m,.sl [],cm es]=(Exp.mk o n s m [] es).av:=dX (Exp.mk o n s m [] es)
def uZ(e:Exp)(n:Int):aD (M.pure (.tup [e.av,.int .i64 n]))=M.pure (.tup [e.av,.int .i64 n]):=cr fun g=>by simp[cl,dy]
def bM(o n:Int)(s m:bA)(ns:List bA)(es:List Exp):aa (Exp.mk o n s m ns es).av=[.int .i64 o,.int .i64 n,.str s,.str m,strs ns,cm es]:=bp _
def t226(e:Exp):ah pg 226 [e.av]=M.pure (.tup [(eC e).1.av,.int .i64 (eC e).2]):=by
 have hc1:∀n:Int,bE (.int .i64 n)=M.pure (.int .i64 n):=fun n=>rfl;have hc2:∀s:bA,bE (.str s)=M.pure (.str s):=fun s=>rfl;have hc3:∀s:List bA,bE (strs s)=M.pure (strs s):=fun s=>rfl;rw[C226];obtain⟨o,n,s,m,ns,es⟩:=e;have ho:o=0\/o=1\/o=2\/o=17\/o=18\/o=14\/o=16\/o=10\/o=12\/o=11\/o=13\/o=15\/(o≠0/\o≠1/\o≠2/\o≠17/\o≠18/\o≠14/\o≠16/\o≠10/\o≠12/\o≠11/\o≠13/\o≠15):=by omega
 rcases ho with rfl|rfl|rfl|rfl|rfl|rfl|rfl|rfl|rfl|rfl|rfl|rfl|⟨h0,h1,h2,h17,h18,h14,h16,h10,h12,h11,h13,h15⟩
 all_goals first
  | (simp[S226,K226_0,K226_1,K226_2,yY,yN,bM,f6,GV,hc1,hc2,hc3,eC,Exp.op,Exp.n,Exp.s,Exp.m,Exp.names,Exp.args]
     exact uZ _ _)
  | (simp[S226,K226_0,K226_1,K226_2,yY,yN,bM,f6,GV,hc1,hc2,hc3,eC,Exp.op,Exp.n,Exp.s,Exp.m,Exp.names,Exp.args,h0,h1,h2,h17,h18,h14,h16,h10,h12,h11,h13,h15]
     exact uZ _ _)
theorem zv(e:Exp)(he:e.Lim):aj (L227_0 (ah pg) aj) [.ip (aa e.av),strs e.names,.int .i64 e.names.length,.int .i64 0]=M.pure (.bool (qA e.names)):=by
 have hlen:=he.names
 have hloop:∀(m i:Nat),e.names.length-i=m->i<=e.names.length->aj (L227_0 (ah pg) aj) [.ip (aa e.av),strs e.names,.int .i64 e.names.length,.int .i64 i]=M.pure (.bool ((List.range' i (e.names.length-i)).all (fun k=>bY e.names[k]! && (decide (k=0)||di e.names[k-1]! e.names[k]!))&&decide (e.names.length<=8))):=by
  intro m
  induction m with
  |zero=>
   intro i hm hi;rw[FL227_0,hm];have h1:¬((i:Int)<(e.names.length:Int)):=by omega
   have h2:decide ((e.names.length:Int)<=8)=decide (e.names.length<=8):=by rw[IK];omega
   simp[L227_0,h1,h2]
  | succ m ih=>
   intro i hm hi;have hlt:i<e.names.length:=by omega
   have h1:(i:Int)<(e.names.length:Int):=by omega
   have ih':=ih (i+1) (by omega) (by omega);have er:List.range' i (e.names.length-i)=i:: List.range' (i+1) (e.names.length-(i+1)):=by
    rw[show e.names.length-i=(e.names.length-(i+1))+1 by omega,JL]
   have hix:=xk (l:=e.names) (n:=(i:Int)) (by omega) h1;rw[HH]at hix;have hw:IntKind.i64.wrap ((i:Int)+1)=((i+1:Nat):Int):=be (by omega);have h2:=t76 e.names[i]!;rw[FL227_0,er,Ip];generalize e.names[i]! = s at hix h2 |-;cases hn:bY s with
   |false=>
    rw[hn]at h2;simp[L227_0,h1,hix,h2]
   | true=>
    rw[hn]at h2;rcases Il i with hk0|hk0
    ·subst hk0;have hix0:ak T 35 (strs e.names) (.int .i64 0)=some (.ip (aa (.str s))):=hix;have hw0:IntKind.i64.wrap 1=1:=rfl;have hlt':0<e.names.length:=hlt;simpa [L227_0,h1,hlt',hix0,h2,hw0]using ih'
    ·have hp:IntKind.i64.wrap ((i:Int)-1)=((i-1:Nat):Int):=by
      rw[dF (by omega) (by omega)];omega
     have h4:((i-1:Nat):Int)<(e.names.length:Int):=by omega
     have hix2:=xk (l:=e.names) (n:=((i-1:Nat):Int)) (by omega) h4;rw[HH]at hix2;generalize e.names[i-1]! = g at hix2 |-;have hk2:0<(i:Int):=by omega
     have hk3:¬i=0:=by omega
     have hle:ao T .leq 9 (.str s) (.str g)=some (.bool (!(di g s))):=by
      have:ao T .leq 9 (.str s) (.str g)=some (.bool (aR s g||s== g)):=rfl;rw[this];simp[di]
     cases hs:di g s with
     |false=>
      rw[hs]at hle;simp[L227_0,h1,hix,h2,hp,hix2,hk0,hk2,hk3,hle,-vS]
     |true=>
      rw[hs]at hle;simpa [L227_0,h1,hix,h2,hp,hix2,hk0,hk2,hk3,hle,hw,-vS]using ih'
 have h:=hloop e.names.length 0 rfl (H5 _);rw[JV,uL]at h;exact h
theorem t227(e:Exp)(he:e.Lim):ah pg 227 [e.av]=M.pure (.bool (ew e)):=by
 rw[C227];have hs:=t76 e.s;have hm:=t76 e.m;have hbn:=zv e he;obtain⟨o,n,s,m,ns,es⟩:=e;simp only[bM,Exp.names]at hbn;simp only[Exp.s,Exp.m]at hs hm;have ho:o=0\/o=1\/o=2\/o=17\/o=18\/o=14\/o=16\/o=12\/o=13\/o=15\/(o≠0/\o≠1/\o≠2/\o≠17/\o≠18/\o≠14/\o≠16/\o≠12/\o≠13/\o≠15):=by omega
 rcases ho with rfl|rfl|rfl|rfl|rfl|rfl|rfl|rfl|rfl|rfl|⟨h0,h1,h2,h17,h18,h14,h16,h12,h13,h15⟩
 ·simp[S227,K227_0,bM,ew,Exp.op,Exp.n,Exp.s,Exp.m,Exp.names,Exp.args];rfl
 ·simp[S227,K227_0,bM,ew,Exp.op,Exp.n,Exp.s,Exp.m,Exp.names,Exp.args]
 ·simp[S227,K227_0,bM,ew,Exp.op,Exp.n,Exp.s,Exp.m,Exp.names,Exp.args,hs]
 ·simp[S227,K227_0,bM,ew,Exp.op,Exp.n,Exp.s,Exp.m,Exp.names,Exp.args,hs]
 ·simp[S227,K227_0,bM,ew,Exp.op,Exp.n,Exp.s,Exp.m,Exp.names,Exp.args,hs]
 ·simp[S227,K227_0,bM,ew,Exp.op,Exp.n,Exp.s,Exp.m,Exp.names,Exp.args,hs]
 ·simp[S227,K227_0,bM,ew,Exp.op,Exp.n,Exp.s,Exp.m,Exp.names,Exp.args]
 ·simp[S227,K227_0,bM,ew,Exp.op,Exp.n,Exp.s,Exp.m,Exp.names,Exp.args,hs]
 ·simp[S227,K227_0,bM,ew,Exp.op,Exp.n,Exp.s,Exp.m,Exp.names,Exp.args,hbn]
 ·have e6:ao T .leq 3 (.int .i64 es.length) (.int .i64 6)=some (.bool (decide (es.length<=6))):=by
   have:ao T .leq 3 (.int .i64 es.length) (.int .i64 6)=some (.bool (decide ((es.length:Int)<=6))):=rfl;rw[this];exact Hs (fun b=>some (AV.bool b)) (IK.2 (by omega))
  cases ha:bY s with
  |false=>rw[ha]at hs;simp[S227,K227_0,bM,ew,Exp.op,Exp.n,Exp.s,Exp.m,Exp.names,Exp.args,hs,ha]
  | true=>
   rw[ha]at hs;by_cases hme:m=[]
   ·simp[S227,K227_0,bM,ew,Exp.op,Exp.n,Exp.s,Exp.m,Exp.names,Exp.args,hs,ha,hme,e6,-jZ];try rfl
   ·cases hb:bY m with
    |false=>rw[hb]at hm;simp[S227,K227_0,bM,ew,Exp.op,Exp.n,Exp.s,Exp.m,Exp.names,Exp.args,hs,hm,ha,hb,hme,e6,-jZ];try rfl
    |true=>rw[hb]at hm;simp[S227,K227_0,bM,ew,Exp.op,Exp.n,Exp.s,Exp.m,Exp.names,Exp.args,hs,hm,ha,hb,hme,e6,-jZ];try rfl
 ·simp[S227,K227_0,bM,ew,Exp.op,Exp.n,Exp.s,Exp.m,Exp.names,Exp.args,h0,h1,h2,h17,h18,h14,h16,h12,h13,h15]
theorem t178:∀(d:Nat),d<=100->∀(e:Exp),e.Lim->ah pg 178 [e.av,.int .i64 d]=M.pure (.bool (cM d e))
 |0,_,e,_=>by
  rw[C178];simp[S178,cM]
 | d+1,hd,e,he=>by
  have hlen:=he.len;have hd1:IntKind.i64.wrap (((d+1:Nat):Int)-1)=(d:Int):=jl (by omega);have hloop:∀(m i:Nat),e.args.length-i=m->i<=e.args.length->aj (L178_0 (ah pg) aj) [.int .i64 ((d+1:Nat):Int),cm e.args,.int .i64 e.args.length,.int .i64 i]=M.pure (.bool ((e.args.drop i).all (cM d))):=by
   intro m
   induction m with
   |zero=>
    intro i hm hi;have h1:¬((i:Int)<(e.args.length:Int)):=by omega
    have h2:e.args.drop i=[]:=HQ (by omega);rw[FL178_0,h2];simp[L178_0,h1]
   |succ m ih=>
    intro i hm hi;have hlt:i<e.args.length:=by omega
    have h1:(i:Int)<(e.args.length:Int):=by omega
    have h2:e.args.drop i=e.args[i]:: e.args.drop (i+1):=HK hlt;have hix:=qY (l:=e.args) (n:=(i:Int)) (by omega) h1;rw[HH,HP e.args i hlt]at hix;have hw:IntKind.i64.wrap ((i:Int)+1)=((i+1:Nat):Int):=be (by omega);have hb:=t178 d (by omega) e.args[i] (he.kid (HD hlt));have ih':=ih (i+1) (by omega) (by omega);rw[h2,Ip,FL178_0];generalize e.args[i]=x at hix hb |-;cases hr:cM d x<;>rw[hr]at hb <;>
    simp only[L178_0,a7,bc,bJ,aG,h1,Iq,aY,H7,hix,bp,LD47,HG,HM,HJ,Nat.reduceAdd,Hu,HY,H9,dX,qf,aV,qa,hd1,hb,il,JF,IL,HT,Iu,d7,hw,ih',J0,IA]
  have hx':aj (L178_0 (ah pg) aj) [.int .i64 ((d:Int)+1),cm e.args,.int .i64 e.args.length,.int .i64 0]=M.pure (.bool (e.args.all (cM d))):=hloop e.args.length 0 rfl (H5 _);have hc:=t226 e;have hl:=t227 e he;rw[C178,gt];unfold iW;generalize (eC e).1=c at hc |-;generalize (eC e).2=n at hc |-;have g1:(((d:Int)+1)== 0)=false:=by rw[HB];omega
  have x0:aB (.tup [c.av,.int .i64 n]) 0=some c.av:=rfl;have x1:aB (.tup [c.av,.int .i64 n]) 1=some (.int .i64 n):=rfl;have e1:ao T .neq 3 (.int .i64 c.n) (.int .i64 e.n)=some (.bool (!(c.n== e.n))):=rfl;have e2:ao T .neq 9 (.str c.s) (.str e.s)=some (.bool (!(c.s== e.s))):=rfl;have e3:ao T .neq 9 (.str c.m) (.str e.m)=some (.bool (!(c.m== e.m))):=rfl;have e4:ao T .neq 3 (.int .i64 c.names.length) (.int .i64 e.names.length)=some (.bool (!((c.names.length:Int)== (e.names.length:Int)))):=rfl;have e5:ao T .neq 3 (.int .i64 n) (.int .i64 e.args.length)=some (.bool (!(n== (e.args.length:Int)))):=rfl;have e6:ao T .geq 3 (.int .i64 n) (.int .i64 0)=some (.bool (!(decide (n<0)))):=by
   have:ao T .geq 3 (.int .i64 n) (.int .i64 0)=some (.bool (decide (0<=n))):=rfl;rw[this,<- decide_not];exact Hs (fun b=>some (AV.bool b)) (IK.2 (by omega))
  have e7:ao T .lss 3 (.int .i64 e.op) (.int .i64 0)=some (.bool (!(decide (0<=e.op)))):=by
   have:ao T .lss 3 (.int .i64 e.op) (.int .i64 0)=some (.bool (decide (e.op<0))):=rfl;rw[this,<- decide_not];exact Hs (fun b=>some (AV.bool b)) (IK.2 (by omega))
  have e8:ao T .geq 3 (.int .i64 e.op) (.int .i64 19)=some (.bool (!(decide (e.op<19)))):=by
   have:ao T .geq 3 (.int .i64 e.op) (.int .i64 19)=some (.bool (decide (19<=e.op))):=rfl;rw[this,<- decide_not];exact Hs (fun b=>some (AV.bool b)) (IK.2 (by omega))
  generalize (c.n== e.n)=b1 at e1 |-;generalize (c.s== e.s)=b2 at e2 |-;generalize (c.m== e.m)=b3 at e3 |-;generalize ((c.names.length:Int)== (e.names.length:Int))=b4 at e4 |-;generalize (n== (e.args.length:Int))=b5 at e5 |-;generalize decide (n<0)=b6 at e6 |-;generalize decide (0<=e.op)=b7 at e7 |-;generalize decide (e.op<19)=b8 at e8 |-;generalize ew e=bl at hl |-;generalize e.args.all (cM d)=bx at hx' |-;cases b7 with
  |false=>simp[S178,g1,e7,-bJ]
  | true=>
   cases b8 with
   |false=>simp[S178,g1,e7,e8,-bJ,-p8]
   |true=>
    cases b6<;>cases b5<;>cases b1<;>cases b2<;>cases b3<;>cases b4<;>cases bl<;>simp[S178,g1,hc,x0,x1,qf,hl,hx',e1,e2,e3,e4,e5,e6,e7,e8,-bJ,-p8,-p9]
def t118(e:Exp)(he:e.Lim):ah pg 118 [e.av]=M.pure (.bool (qW e)):=by
 have hb':ah pg 178 [e.av,.int .i64 12]=M.pure (.bool (cM 12 e)):=t178 12 (by omega) e he;rw[C118];simp[S118,hb']
def FJ(q:Nat)(m:Ap.Mod)(mp:AV)(h:Hp):Tr Ty->Av.R AV
 |.ok t n=>.ok (.tup [t.av,.int .i64 0]) (h.set q (bh m mp n))
 |.er b n=>.ok (.tup [ty0.av,.int .i64 b]) (h.set q (bh m mp n))
def G3(q:Nat)(m:Ap.Mod)(mp:AV)(h:Hp)(acc:List Ty):Tr (List Ty)->Av.R AV
 |.ok ts n=>.ok (.tup [dM (acc++ts),.int .i64 0]) (h.set q (bh m mp n))
 |.er b n=>.ok (.tup [.sl [],.int .i64 b]) (h.set q (bh m mp n))
def jv(q:Nat)(m:Ap.Mod)(mp:AV)(fs:List Face)(d:Nat):Prop:=∀(ls:List bi)(e:Exp)(n:Int)(h:Hp),cM d e=true->e.Lim->(∀z∈ls,dl z.2)->ls.length+d<=1000000->JR h q m mp fs n->
 ah pg 124 [.hp q 0,az ls,e.av] h=FJ q m mp h (a6 (dG m fs) d ls e n)/\∀t n',a6 (dG m fs) d ls e n= .ok t n'->dl t
def zH{q:Nat}{m:Ap.Mod}{mp:AV}{fs:List Face}{d:Nat}(P:jv q m mp fs d)(ls:List bi)(hls:∀z∈ls,dl z.2)(hll:ls.length+d<=1000000)(es:List Exp)(hes:es.length<=140737488355328)(he:∀e∈es,cM d e=true/\e.Lim):∀(k i:Nat)(acc:List Ty)(n:Int)(h:Hp),es.length-i=k->i<=es.length->acc.length<=i->es.length<=1000000->JR h q m mp fs n->
  aj (L184_0 (ah pg) aj) [.hp q 0,az ls,dM acc,cm es,.int .i64 es.length,.int .i64 i] h=G3 q m mp h acc (bU (a6 (dG m fs) d ls) (es.drop i) n)/\∀ts n',bU (a6 (dG m fs) d ls) (es.drop i) n= .ok ts n'->ts.length=es.length-i/\∀t∈ts,dl t:=by
 intro k
 induction k with
 | zero=>
  intro i acc n h hk hi ha hs R;have h1:¬((i:Int)<(es.length:Int)):=by omega
  have h2:es.drop i=[]:=HQ (by omega);rw[h2];refine⟨?_,fun ts n' ht=>?_⟩
  ·rw[FL184_0];show _=Av.R.ok (AV.tup [dM (acc++[]),.int .i64 0]) (h.set q (bh m mp n));rw[R.same,Kr];simp[L184_0,h1];rfl
  ·cases ht;exact⟨by simp;omega,fun t ht=>by cases ht⟩
 | succ k ih=>
  intro i acc n h hk hi ha hs R;have hlt:i<es.length:=by omega
  have h1:(i:Int)<(es.length:Int):=by omega
  have h2:es.drop i=es[i]:: es.drop (i+1):=HK hlt;have hw:IntKind.i64.wrap ((i:Int)+1)=(i:Int)+1:=be (by omega);have hix:=qY (l:=es) (n:=(i:Int)) (by omega) h1;rw[HH,HP es i hlt]at hix;obtain⟨hr,hl⟩:=he es[i] (HD hlt);obtain⟨p1,p2⟩:=P ls es[i] n h hr hl hls hll R;rw[h2];have hne:=gq (dG m fs) d ls es[i] n;generalize es[i]=e at hix hr hl p1 p2 hne |-;generalize hcode:aj (L184_0 (ah pg) aj) [.hp q 0,az ls,dM acc,cm es,.int .i64 es.length,.int .i64 i] h=code;rw[FL184_0]at hcode;simp -implicitDefEqProofs only[L184_0,a7,bc,bJ,aG,h1,Iq,aY,H7,hix,bp,LD47,HG,HM,HJ,Nat.reduceAdd,Hu,HY,H9,dX,qf,aV]at hcode;cases ht:a6 (dG m fs) d ls e n with
  | er b n'=>
   rw[ht]at p1;have hb:(b != 0)=true:=JY.2 (hne b n' ht);have hz:aE 2 ty0.av=M.pure ty0.av:=Av.dA ty0;rw[aF p1]at hcode;simp -implicitDefEqProofs only[ke,HS,Jc,aG,hz,aV,p9,hb,aY,H7]at hcode;have e1:bU (a6 (dG m fs) d ls) (e:: es.drop (i+1)) n= .er b n':=by
    simp only[bU,df.bind,ht]
   rw[e1];exact⟨hcode.symm,fun ts n'' h3=>by cases h3⟩
  | ok t n'=>
   rw[ht]at p1;rw[aF p1]at hcode;have R':=R.set n';obtain⟨i1,i2⟩:=ih (i+1) (acc++[t]) n' (h.set q (bh m mp n')) (by omega) (by omega) (by simp;omega) hs R';have hap:=Ed (a:=acc) (b:=[t]) (by simp;omega);have hsl:aL T 54 1 [(0,t.av)]=some (dM [t]):=by cases t;rfl
   have i1':aj (L184_0 (ah pg) aj) [.hp q 0,az ls,dM (acc++[t]),cm es,.int .i64 es.length,.int .i64 ((i:Int)+1)] (h.set q (bh m mp n'))=_:=i1;simp -implicitDefEqProofs only[ke,HS,Jc,aG,Av.dA,aV,p9,bne_self_eq_false,aY,HT,Iu,bm,LD27,HG,HM,HJ,Nat.reduceAdd,Hu,H7,HY,H9,bW,hsl,hap,d7,hw,i1']at hcode;have e1:bU (a6 (dG m fs) d ls) (e:: es.drop (i+1)) n=(match bU (a6 (dG m fs) d ls) (es.drop (i+1)) n' with|.ok ts n''=>.ok (t:: ts) n''|.er b n''=>.er b n''):=by
    simp only[bU,df.bind,ht];cases bU (a6 (dG m fs) d ls) (es.drop (i+1)) n'<;>rfl
   rw[e1];cases hL:bU (a6 (dG m fs) d ls) (es.drop (i+1)) n' with
   |er b n''=>
    rw[hL]at hcode;refine⟨?_,fun ts n'' h3=>by cases h3⟩;rw[<- hcode];show Av.R.ok _ _=Av.R.ok _ _;rw[Hb]
   | ok ts n''=>
    rw[hL]at hcode;obtain⟨j1,j2⟩:=i2 ts n'' hL;refine⟨?_,fun us n3 h3=>?_⟩
    ·rw[<- hcode];show Av.R.ok _ _=Av.R.ok _ _;rw[Hb,ID];rfl
    ·cases h3;refine⟨by simp only[HG];omega,fun u hu=>?_⟩;rcases HO.1 hu with rfl|hu
     ·exact p2 _ _ ht
     ·exact j2 u hu
def Fy{q:Nat}{m:Ap.Mod}{mp:AV}{fs:List Face}{d:Nat}(P:jv q m mp fs d)(ls:List bi)(hls:∀z∈ls,dl z.2)(hll:ls.length+d<=1000000)(es:List Exp)(hes:es.length<=1000000)(he:∀e∈es,cM d e=true/\e.Lim)(n:Int)(h:Hp)(R:JR h q m mp fs n):
  ah pg 184 [.hp q 0,az ls,cm es] h=G3 q m mp h [] (bU (a6 (dG m fs) d ls) es n)/\∀ts n',bU (a6 (dG m fs) d ls) es n= .ok ts n'->ts.length=es.length/\∀t∈ts,dl t:=by
 obtain⟨h1,h2⟩:=zH P ls hls hll es (by omega) he es.length 0 [] n h rfl (H5 _) (H5 _) hes R;rw[Ia]at h1 h2;refine⟨?_,fun ts n' ht=>h2 ts n' ht⟩;rw[<- h1,C184];simp only[S184,xp,aG];rfl
theorem oo:aU T false 27 []=some ty0.av:=rfl
def mL{u t:Ty}(hu:dl u)(ht:aH t=true):ah pg 125 [u.av,t.av]=M.pure (.bool (aO u t)):=t125 4 t u (hu 4) (eg ht 4) ht
def GF{q:Nat}{m:Ap.Mod}{mp:AV}{fs:List Face}{d:Nat}(P:jv q m mp fs d)(K:CxOk m fs)(ls:List bi)(hls:∀z∈ls,dl z.2)(hll:ls.length+d<=1000000)(e:Exp)(hop:e.op=17\/e.op=18)(ha:e.op=18->∃x,e.args=[x]/\cM d x=true/\x.Lim)(n:Int)(h:Hp)(R:JR h q m mp fs n):
  ah pg 182 [.hp q 0,az ls,e.av] h=FJ q m mp h (cw (dG m fs) (a6 (dG m fs) d) ls e n)/\∀t n',cw (dG m fs) (a6 (dG m fs) d) ls e n= .ok t n'->dl t:=by
 have l1:∀f:AV->M AV,ae (bz T 25 (.hp q 2)) f h=f (az m.vars) h:=fun f=>aF R.vars f;have hk:=t181 m.vars (by have:=K.vlen;omega) e.s;rw[ie hop,C182];show S182 (ah pg) aj (.hp q 0) (az ls) e.av h=FJ q m mp h ((match aJ (fun z=>z.1== e.s) m.vars with
  |none=>df.er 12
  |some z=>if e.op=18 then df.bind (a6 (dG m fs) d ls e.args[0]!) fun u=>if aO u z.2=true then df.ok z.2 else df.er 13 else df.ok z.2:df Ty) n)/\∀t n',(match aJ (fun z=>z.1== e.s) m.vars with
  |none=>df.er 12
  |some z=>if e.op=18 then df.bind (a6 (dG m fs) d ls e.args[0]!) fun u=>if aO u z.2=true then df.ok z.2 else df.er 13 else df.ok z.2:df Ty) n= .ok t n'->dl t
 cases hz:aJ (fun z:bi=>z.1== e.s) m.vars with
 |none=>
  rw[hz]at hk;refine⟨?_,fun t n' h3=>by cases h3⟩;show _=Av.R.ok (AV.tup [ty0.av,.int .i64 12]) (h.set q (bh m mp n));rw[R.same];simp[S182,l1,hk,oo];rfl
 | some z=>
  rw[hz]at hk;dsimp only;have hzr:=K.vars z (fR hz).1;rcases hop with hop|hop
  ·rw[if_neg (show ¬e.op=18 by omega)];refine⟨?_,fun t n' h3=>by cases h3;exact eg hzr⟩;show _=Av.R.ok (AV.tup [z.2.av,.int .i64 0]) (h.set q (bh m mp n));rw[R.same];simp[S182,K182_0,l1,hk,hop];rfl
  ·rw[Ht hop];obtain⟨x,hx,hr,hl⟩:=ha hop;have hx0:e.args[0]! = x:=by rw[hx];rfl
   obtain⟨p1,p2⟩:=P ls x n h hr hl hls hll R;have hix:ak T 36 (cm e.args) (.int .i64 0)=some (.ip (aa x.av)):=by
    have:=qY (l:=e.args) (n:=0) (by omega) (by rw[hx];simp)
    rw[this,hx];rfl
   rw[hx0];have hne:=gq (dG m fs) d ls x n;cases ht:a6 (dG m fs) d ls x n with
   |er b n'=>
    rw[ht]at p1;have hb:(b != 0)=true:=JY.2 (hne b n' ht);have k1:∀f:AV->M AV,ae (ah pg 124 [.hp q 0,az ls,x.av]) f h=f (.tup [ty0.av,.int .i64 b]) (h.set q (bh m mp n')):=fun f=>aF p1 f;have e1:df.bind (a6 (dG m fs) d ls x) (fun u=>if aO u z.2=true then df.ok z.2 else df.er 13) n= .er b n':=by simp only[df.bind,ht]
    rw[e1];refine⟨?_,fun t n' h3=>by cases h3⟩;show _=Av.R.ok (AV.tup [ty0.av,.int .i64 b]) (h.set q (bh m mp n'));simp[S182,K182_0,l1,hk,hop,hix,k1,hb,oo];rfl
   | ok u n'=>
    rw[ht]at p1;have hus:=p2 u n' ht;have k1:∀f:AV->M AV,ae (ah pg 124 [.hp q 0,az ls,x.av]) f h=f (.tup [u.av,.int .i64 0]) (h.set q (bh m mp n')):=fun f=>aF p1 f;have hbl:=mL hus hzr;cases hb:aO u z.2 with
    |true=>
     rw[hb]at hbl;have e1:df.bind (a6 (dG m fs) d ls x) (fun u=>if aO u z.2=true then df.ok z.2 else df.er 13) n= .ok z.2 n':=by simp only[df.bind,ht,hb,H7];rfl
     rw[e1];refine⟨?_,fun t n' h3=>by cases h3;exact eg hzr⟩;show _=Av.R.ok (AV.tup [z.2.av,.int .i64 0]) (h.set q (bh m mp n'));simp[S182,K182_0,l1,hk,hop,hix,k1,hbl];rfl
    |false=>
     rw[hb]at hbl;have e1:df.bind (a6 (dG m fs) d ls x) (fun u=>if aO u z.2=true then df.ok z.2 else df.er 13) n= .er 13 n':=by simp only[df.bind,ht,hb,HT,Iu];rfl
     rw[e1];refine⟨?_,fun t n' h3=>by cases h3⟩;show _=Av.R.ok (AV.tup [ty0.av,.int .i64 13]) (h.set q (bh m mp n'));simp[S182,K182_0,l1,hk,hop,hix,k1,hbl,oo];rfl
theorem zG{q:Nat}{m:Ap.Mod}{mp:AV}{fs:List Face}{n:Int}{h:Hp}(R:JR h q m mp fs n)(s:Sig)(l:List Ty)(hl:∀t∈l,dl t)(hps:∀t∈s.params,aH t=true)(hlen:l.length=s.params.length)(hb:l.length<=1000000)(x y:AV):∀(k i:Nat),l.length-i=k->i<=l.length->
  aj (L183_0 (ah pg) aj) [.hp q 0,.ip (aa s.av),dM l,.int .i64 l.length,.int .i64 i,x,y] h=(if cd aO (l.drop i) (s.params.drop i)=true then .ok (.tup [s.result.av,.int .i64 0]) (h.set q (bh m mp (lz n s.effects)))else .ok (.tup [ty0.av,.int .i64 13]) h):=by
 intro k
 induction k with
 |zero=>
  intro i hk hi;have h1:¬((i:Int)<(l.length:Int)):=by omega
  have h2:l.drop i=[]:=HQ (by omega);have h3:s.params.drop i=[]:=HQ (by omega);rw[h2,h3,Ht (show cd aO [] []=true from rfl)];have l1:∀f:AV->M AV,ae (bz T 3 (.hp q 10)) f h=f (.int .i64 n) h:=fun f=>aF R.eff f;have l2:∀f:AV->M AV,ae (bI T 3 (.hp q 10) (.int .i64 (lz n s.effects))) f h=f (.tup []) (h.set q (bh m mp (lz n s.effects))):=fun f=>aF (R.put _) f;have hor:ao T .or 3 (.int .i64 n) (.int .i64 s.effects)=some (.int .i64 (lz n s.effects)):=rfl;rw[FL183_0];simp[L183_0,h1,l1,hor,l2];rfl
 | succ k ih=>
  intro i hk hi;have hlt:i<l.length:=by omega
  have hlt2:i<s.params.length:=by omega
  have h1:(i:Int)<(l.length:Int):=by omega
  have h2:l.drop i=l[i]:: l.drop (i+1):=HK hlt;have h3:s.params.drop i=s.params[i]:: s.params.drop (i+1):=HK hlt2;have hw:IntKind.i64.wrap ((i:Int)+1)=(i:Int)+1:=be (by omega);have hix:=mz (l:=l) (n:=(i:Int)) (by omega) h1;rw[HH,HP l i hlt]at hix;have hix2:=mz (l:=s.params) (n:=(i:Int)) (by omega) (by omega);rw[HH,HP s.params i hlt2]at hix2;have hbl:=mL (hl _ (HD hlt)) (hps _ (HD hlt2));have ih':aj (L183_0 (ah pg) aj) [.hp q 0,.ip (aa s.av),dM l,.int .i64 l.length,.int .i64 ((i:Int)+1),x,y] h=_:=ih (i+1) (by omega) (by omega);rw[h2,h3];generalize l[i]=u at hix hbl |-;generalize s.params[i]=t at hix2 hbl |-;have ea:cd aO (u:: l.drop (i+1)) (t:: s.params.drop (i+1))=(aO u t&&cd aO (l.drop (i+1)) (s.params.drop (i+1))):=rfl;rw[ea];generalize hcode:aj (L183_0 (ah pg) aj) [.hp q 0,.ip (aa s.av),dM l,.int .i64 l.length,.int .i64 i,x,y] h=code;rw[FL183_0]at hcode;cases hb2:aO u t with
  |true=>
   rw[hb2]at hbl;rw[IA,<- ih'];simp -implicitDefEqProofs only[L183_0,a7,bc,bJ,aG,h1,Iq,aY,H7,hix,bm,LD27,HG,HM,HJ,Nat.reduceAdd,Hu,HY,H9,bW,Av.dA,aV,ee,FA56_1,Iw,Ia,LD54,hix2,hbl,e9,il,IL,HT,Iu,d7,hw]at hcode;rw[<- hcode,ee]
  |false=>
   rw[hb2]at hbl;rw[J0,if_neg (by decide)];have hz:ap 2 [] ty0.av=M.pure ty0.av:=iG ty0;have ha:aa ty0.av=[.int .i64 0,.sl []]:=rfl;simp -implicitDefEqProofs only[L183_0,a7,bc,bJ,aG,h1,Iq,aY,H7,hix,bm,LD27,HG,HM,HJ,Nat.reduceAdd,Hu,HY,H9,bW,Av.dA,aV,ee,FA56_1,Iw,Ia,LD54,hix2,hbl,e9,il,JF,oo,hz]at hcode;rw[<- hcode];rfl
def GG{q:Nat}{m:Ap.Mod}{mp:AV}{fs:List Face}{d:Nat}(P:jv q m mp fs d)(K:CxOk m fs)(ls:List bi)(hls:∀z∈ls,dl z.2)(hll:ls.length+d<=1000000)(e:Exp)(hop:e.op=15)(hlen:e.args.length<=1000000)(ha:∀x∈e.args,cM d x=true/\x.Lim)(n:Int)(h:Hp)(R:JR h q m mp fs n):
  ah pg 183 [.hp q 0,az ls,e.av] h=FJ q m mp h (cw (dG m fs) (a6 (dG m fs) d) ls e n)/\∀t n',cw (dG m fs) (a6 (dG m fs) d) ls e n= .ok t n'->dl t:=by
 obtain⟨r,c1,c2⟩:=GH R K e;have k1:∀f:AV->M AV,ae (ah pg 229 [.hp q 0,e.av]) f h=f r h:=fun f=>aF c1 f;rw[gu hop,C183]
 have hpar:∀s,bS (dG m fs) e=some s->(∀t∈s.1,aH t=true)/\aH s.2.1=true:=by
  intro s hs;unfold bS at hs;split at hs
  ·split at hs
   ·rename_i f hf;cases hs;have hm:=I5 hf;exact⟨fun t ht=>by obtain⟨z,hz,rfl⟩:=IH.1 ht;exact K.pars f hm z hz,K.res f hm⟩
   ·cases hs
  ·split at hs
   ·cases hs
   ·rename_i f hf;split at hs
    ·cases hs
    ·rename_i s' hs';split at hs
     ·cases hs;have hm:=I5 (show fs.find? _=some f from hf);have hm2:=I5 hs';exact⟨K.spars f hm s' hm2,K.sres f hm s' hm2⟩
     ·cases hs
 cases hc:bS (dG m fs) e with
 |none=>
  rw[hc]at c2;subst c2;refine⟨?_,fun t n' h3=>by cases h3⟩;show _=Av.R.ok (AV.tup [ty0.av,.int .i64 12]) (h.set q (bh m mp n));rw[R.same];have k2:∀f:AV->M AV,ae (ah pg 229 [.hp q 0,e.av]) f h=f (.tup [xa.av,.bool false]) h:=k1;have z1:aE 5 xa.av=M.pure xa.av:=jG xa;simp[S183,k2,z1,oo];rfl
 | some s=>
  rw[hc]at c2;obtain⟨nm,rfl⟩:=c2;obtain⟨hp1,hp2⟩:=hpar s hc;obtain⟨ps,res,eff⟩:=s;have z1:aE 5 (Sig.mk nm ps res eff).av=M.pure (Sig.mk nm ps res eff).av:=jG _;dsimp only;by_cases hl:ps.length=e.args.length
  ·rw[Ht hl];have hl':((ps.length:Int) != (e.args.length:Int))=false:=by simp[hl]
   obtain⟨g1,g2⟩:=Fy P ls hls hll e.args hlen ha n h R;cases ht:bU (a6 (dG m fs) d ls) e.args n with
   |er b n'=>
    rw[ht]at g1;have hb:(b != 0)=true:=JY.2 (ku (gq (dG m fs) d ls) _ n b n' ht);have k2:∀f:AV->M AV,ae (ah pg 184 [.hp q 0,az ls,cm e.args]) f h=f (.tup [.sl [],.int .i64 b]) (h.set q (bh m mp n')):=fun f=>aF g1 f;have e1:df.bind (bU (a6 (dG m fs) d ls) e.args) (fun l=>if cd aO l ps=true then fun n=>Tr.ok res (lz n eff)else df.er 13) n= .er b n':=by simp only[df.bind,ht]
    rw[e1];refine⟨?_,fun t n' h3=>by cases h3⟩;show _=Av.R.ok (AV.tup [ty0.av,.int .i64 b]) (h.set q (bh m mp n'));simp[S183,k1,z1,hl,k2,hb,oo];rfl
   | ok l n'=>
    rw[ht]at g1;obtain⟨g3,g4⟩:=g2 l n' ht;have k2:∀f:AV->M AV,ae (ah pg 184 [.hp q 0,az ls,cm e.args]) f h=f (.tup [dM l,.int .i64 0]) (h.set q (bh m mp n')):=fun f=>aF g1 f;have hlp:=zG (R.set n') (Sig.mk nm ps res eff) l g4 hp1 (by rw[g3];exact hl.symm) (by omega) (.int .i64 0) (.sl []) l.length 0 rfl (H5 _);have hlp':aj (L183_0 (ah pg) aj) [.hp q 0,.ip [.str nm,dM ps,.int .i64 res.kind,az res.fields,.int .i64 eff],dM l,.int .i64 l.length,.int .i64 0,.int .i64 0,.sl []] (h.set q (bh m mp n'))=(if cd aO l ps=true then .ok (.tup [res.av,.int .i64 0]) ((h.set q (bh m mp n')).set q (bh m mp (lz n' eff)))else .ok (.tup [ty0.av,.int .i64 13]) (h.set q (bh m mp n'))):=hlp;have e1:df.bind (bU (a6 (dG m fs) d ls) e.args) (fun l=>if cd aO l ps=true then fun n=>Tr.ok res (lz n eff)else df.er 13) n=if cd aO l ps=true then .ok res (lz n' eff)else .er 13 n':=by
     simp only[df.bind,ht];split<;>rfl
    rw[e1];constructor
    ·simp[S183,k1,z1,hl,k2];rw[hlp',Hb];split<;>rfl
    ·intro t n'' h3;split at h3
     ·cases h3;exact eg hp2
     ·cases h3
  ·rw[if_neg hl];refine⟨?_,fun t n' h3=>by cases h3⟩;show _=Av.R.ok (AV.tup [ty0.av,.int .i64 13]) (h.set q (bh m mp n));rw[R.same];simp[S183,k1,z1,hl,oo];rfl
def yv{e:Exp}(h:iW e=true):(e.op=11->e.args.length=3)/\(e.op=12->e.args.length=2)/\(e.op=14->e.args.length=1)/\(e.op=18->e.args.length=1)/\(e.op=13->e.names.length=e.args.length)/\e.args.length<=1000000:=by
 unfold iW at h;simp only[Hq]at h;obtain⟨⟨⟨⟨⟨⟨⟨h1,h2⟩,h3⟩,h4⟩,h5⟩,h6⟩,h7⟩,h8⟩:=h;simp only[Hy]at h1 h2;have ho:e.op=0\/e.op=1\/e.op=2\/e.op=3\/e.op=4\/e.op=5\/e.op=6\/e.op=7\/e.op=8\/e.op=9\/e.op=10\/e.op=11\/e.op=12\/e.op=13\/e.op=14\/e.op=15\/e.op=16\/e.op=17\/e.op=18:=by omega
 by_cases o15:e.op=15
 ·have:e.args.length<=6:=by
   simp[ew,o15]at h8;exact h8.2
  exact⟨fun h=>by omega,fun h=>by omega,fun h=>by omega,fun h=>by omega,fun h=>by omega,by omega⟩
 ·by_cases o13:e.op=13
  ·have hn:e.names.length<=8:=by
    simp[ew,o13,qA]at h8;exact h8.2
   have he:e.names.length=e.args.length:=by
    simp[eC,o13]at h3;omega
   exact⟨fun h=>by omega,fun h=>by omega,fun h=>by omega,fun h=>by omega,fun _=>he,by omega⟩
  ·have key:e.args.length<=3/\(e.op=11->e.args.length=3)/\(e.op=12->e.args.length=2)/\(e.op=14->e.args.length=1)/\(e.op=18->e.args.length=1):=by
    rcases ho with o|o|o|o|o|o|o|o|o|o|o|o|o|o|o|o|o|o|o<;>simp[eC,o]at h3 o13 o15 |- <;> omega
   exact⟨key.2.1,key.2.2.1,key.2.2.2.1,key.2.2.2.2,fun h=>absurd h o13,by omega⟩
def zT{ns:List bA}{l:List Ty}(h:∀t∈l,dl t)(hl:l.length<=1000000):dl (.mk 2 (ns.zip l)):=qM (by rw[JX];omega) fun f hf=>h f.2 (List.of_mem_zip (show (f.1,f.2)∈ns.zip l from hf)).2
theorem pK(b:List bi):(fs:List bi)->(∀f∈fs,∀t u:Ty,ml f.2 t=some u->dl u)->∀f∈eQ fs b,dl f.2
 |[],_,f,hf=>by simp[eQ]at hf
 | g :: fs,h,f,hf=>by
  rw[lE,HV]at hf;rcases hf with hf|hf
  ·rw[lD]at hf;cases hz:aJ (fun z:bi=>z.1== g.1) b with
   |none=>rw[hz]at hf;cases hf
   | some z=>
    rw[hz]at hf;dsimp only at hf;cases hu:ml g.2 z.2 with
    |none=>rw[hu]at hf;cases hf
    |some u=>
     rw[hu]at hf;simp only[Im]at hf;subst hf;exact h g Ic z.2 u hu
  ·exact pK b fs (fun f hf=>h f (Ij _ hf)) f hf
def vP(a b u:Ty)(ha:dl a)(h:ml a b=some u):dl u:=by
 have e1:ml a b=if a.kind=b.kind then some (.mk a.kind (eQ a.fields b.fields))else none:=by
  cases a;cases b;simp only[ml,Ty.kind,Ty.fields];rfl
 rw[e1]at h;split at h
 ·cases h;refine qM (Jm (s7 _ _) ha.len) (pK _ _ fun f hf t u hu=>?_)
  have:=uX hf
  exact vP f.2 t u (ha.kid hf) hu
 ·cases h
termination_by SizeOf.sizeOf a
def fT(k:Int):dl (.mk k []):=qM (by simp) (by simp)
def uz{e:Exp}{l:List Ty}(hl:∀t∈l,dl t)(hlen:l.length<=1000000)(h11:e.op=11->l.length=3)(h14:e.op=14->l.length=1){t:Ty}(h:bD e l=some t):dl t:=by
 unfold bD at h;split at h
 ·split at h<;>cases h;exact fT _
 ·split at h
  ·cases h;exact fT _
  ·split at h
   ·split at h<;>cases h;exact fT _
   ·split at h
    ·split at h<;>cases h;exact fT _
    ·split at h
     ·split at h<;>cases h;exact fT _
     ·split at h
      ·rename_i o;split at h
       ·rename_i u hu;split at h<;>cases h;refine vP _ _ _ ?_ hu
        have:=h11 o
        rw[HP l 1 (by omega)];exact hl _ (HD _)
       ·cases h
      ·split at h
       ·cases h;exact zT hl hlen
       ·split at h
        ·rename_i o;split at h
         ·rename_i z hz;cases h
          have:=h14 o
          have h0:dl l[0]!:=by rw[HP l 0 (by omega)];exact hl _ (HD _)
          exact h0.kid (fR hz).1
         ·cases h
        ·cases h;exact fT _
def GD(l:List bi)(h:l.length<=1000000):ah pg 163 [az l]=M.pure (az l):=by
 have e0:ah pg 163 [az l]=gX T 25 (ah pg) [az l]:=eq hOther rfl _;have e1:=Am (a:=[]) (b:=l) (by simp;omega);rw[e0];show af (dV T 25 (.sl []) (az l))=_;have e2:dV T 25 (.sl []) (az l)=some (az l):=e1;rw[e2];rfl
theorem wB{q:Nat}{m:Ap.Mod}{mp:AV}{fs:List Face}(K:CxOk m fs){d:Nat}(P:jv q m mp fs d):jv q m mp fs (d+1):=by
 intro ls e n h hr he hls hll R;rw[gt,Hq,Hx]at hr;obtain⟨hsh,har⟩:=hr;obtain⟨a11,a12,a14,a18,a13,alen⟩:=yv hsh;have ha:∀x∈e.args,cM d x=true/\x.Lim:=fun x hx=>⟨har x hx,he.kid hx⟩;have hll':ls.length+d<=1000000:=by omega
 show ah pg 124 [.hp q 0,az ls,e.av] h=FJ q m mp h (cw (dG m fs) (a6 (dG m fs) d) ls e n)/\∀t n',cw (dG m fs) (a6 (dG m fs) d) ls e n= .ok t n'->dl t;by_cases o2:e.op=2
 ·have hk:=t181 ls (by omega) e.s;rw[ij o2,C124];cases hz:aJ (fun z:bi=>z.1== e.s) ls with
  |none=>
   rw[hz]at hk;refine⟨?_,fun t n' h3=>by cases h3⟩;show _=Av.R.ok (AV.tup [ty0.av,.int .i64 12]) (h.set q (bh m mp n));rw[R.same];simp[S124,o2,hk,oo];rfl
  |some z=>
   rw[hz]at hk;refine⟨?_,fun t n' h3=>by cases h3;exact hls z (fR hz).1⟩;show _=Av.R.ok (AV.tup [z.2.av,.int .i64 0]) (h.set q (bh m mp n));rw[R.same];simp[S124,o2,hk];rfl
 ·by_cases o12:e.op=12
  ·obtain⟨x,y,hxy⟩:∃x y,e.args=[x,y]:=by
    have:=a12 o12
    match e.args,this with
    |[x,y],_=>exact⟨x,y,rfl⟩
   have hx0:e.args[0]! = x:=by rw[hxy];rfl
   have hx1:e.args[1]! = y:=by rw[hxy];rfl
   have i0:ak T 36 (cm e.args) (.int .i64 0)=some (.ip (aa x.av)):=by
    have:=qY (l:=e.args) (n:=0) (by omega) (by rw[hxy];simp)
    rw[this,hxy];rfl
   have i1:ak T 36 (cm e.args) (.int .i64 1)=some (.ip (aa y.av)):=by
    have:=qY (l:=e.args) (n:=1) (by omega) (by rw[hxy];simp)
    rw[this,hxy];rfl
   obtain⟨xr,xl⟩:=ha x (by rw[hxy];simp);obtain⟨yr,yl⟩:=ha y (by rw[hxy];simp);obtain⟨p1,p2⟩:=P ls x n h xr xl hls hll' R;rw[ig o12,hx0,hx1,C124];have hne:=gq (dG m fs) d ls x n;cases ht:a6 (dG m fs) d ls x n with
   |er b n'=>
    rw[ht]at p1;have hb:(b != 0)=true:=JY.2 (hne b n' ht);have k1:∀f:AV->M AV,ae (ah pg 124 [.hp q 0,az ls,x.av]) f h=f (.tup [ty0.av,.int .i64 b]) (h.set q (bh m mp n')):=fun f=>aF p1 f;have e1:df.bind (a6 (dG m fs) d ls x) (fun t=>a6 (dG m fs) d (ls++[(e.s,t)]) y) n= .er b n':=by simp only[df.bind,ht]
    rw[e1];refine⟨?_,fun t n' h3=>by cases h3⟩;show _=Av.R.ok (AV.tup [ty0.av,.int .i64 b]) (h.set q (bh m mp n'));simp[S124,o12,i0,k1,hb,oo];rfl
   | ok u n'=>
    rw[ht]at p1;have hus:=p2 u n' ht;have k1:∀f:AV->M AV,ae (ah pg 124 [.hp q 0,az ls,x.av]) f h=f (.tup [u.av,.int .i64 0]) (h.set q (bh m mp n')):=fun f=>aF p1 f;obtain⟨p3,p4⟩:=P (ls++[(e.s,u)]) y n' (h.set q (bh m mp n')) yr yl (fun z hz=>by
     rcases HV.1 hz with hz|hz
     ·exact hls z hz
     ·rw[Im]at hz;subst hz;exact hus) (by rw[HZ];simp;omega) (R.set n')
    have e1:df.bind (a6 (dG m fs) d ls x) (fun t=>a6 (dG m fs) d (ls++[(e.s,t)]) y) n=a6 (dG m fs) d (ls++[(e.s,u)]) y n':=by simp only[df.bind,ht]
    rw[e1];refine⟨?_,fun t n'' h3=>p4 t n'' h3⟩;have hap:=Am (a:=ls) (b:=[(e.s,u)]) (by simp;omega);have hcl:=GD ls (by omega);cases ht2:a6 (dG m fs) d (ls++[(e.s,u)]) y n' with
    |er b n''=>
     rw[ht2]at p3;have k2:∀f:AV->M AV,ae (ah pg 124 [.hp q 0,az (ls++[(e.s,u)]),y.av]) f (h.set q (bh m mp n'))=f (.tup [ty0.av,.int .i64 b]) ((h.set q (bh m mp n')).set q (bh m mp n'')):=fun f=>aF p3 f;show _=Av.R.ok (AV.tup [ty0.av,.int .i64 b]) (h.set q (bh m mp n''));simp[S124,o12,i0,i1,k1,qo,FX,hcl,hap,k2];rfl
    |ok t n''=>
     rw[ht2]at p3;have k2:∀f:AV->M AV,ae (ah pg 124 [.hp q 0,az (ls++[(e.s,u)]),y.av]) f (h.set q (bh m mp n'))=f (.tup [t.av,.int .i64 0]) ((h.set q (bh m mp n')).set q (bh m mp n'')):=fun f=>aF p3 f;show _=Av.R.ok (AV.tup [t.av,.int .i64 0]) (h.set q (bh m mp n''));simp[S124,o12,i0,i1,k1,qo,FX,hcl,hap,k2];rfl
  ·have b2:(e.op== 2)=false:=HB.2 o2;have b12:(e.op== 12)=false:=HB.2 o12;by_cases o17:e.op=17\/e.op=18
   ·obtain⟨v1,v2⟩:=GF P K ls hls hll' e o17 (fun o=>by
     have:=a18 o
     match hx:e.args,this with
     |[x],_=>exact⟨x,rfl,ha x (by rw[hx];simp)⟩) n h R
    refine⟨?_,v2⟩;rw[<- v1,C124];generalize hcode:ah pg 182 [.hp q 0,az ls,e.av] h=code at v1;cases hs:cw (dG m fs) (a6 (dG m fs) d) ls e n with
    | er b n'=>
     rw[hs]at v1;rw[v1]at hcode;have k1:∀f:AV->M AV,ae (ah pg 182 [.hp q 0,az ls,e.av]) f h=f (.tup [ty0.av,.int .i64 b]) (h.set q (bh m mp n')):=fun f=>aF hcode f;rw[v1];show _=Av.R.ok (AV.tup [ty0.av,.int .i64 b]) (h.set q (bh m mp n'));rcases o17 with o|o
     ·have c17:(e.op== 17)=true:=HX.2 o;simp[S124,K124_1,b2,b12,c17,k1];rfl
     ·have c17:(e.op== 17)=false:=HB.2 (by omega);have c18:(e.op== 18)=true:=HX.2 o;simp[S124,K124_1,b2,b12,c17,c18,k1];rfl
    | ok t n'=>
     rw[hs]at v1;rw[v1]at hcode;have k1:∀f:AV->M AV,ae (ah pg 182 [.hp q 0,az ls,e.av]) f h=f (.tup [t.av,.int .i64 0]) (h.set q (bh m mp n')):=fun f=>aF hcode f;rw[v1];show _=Av.R.ok (AV.tup [t.av,.int .i64 0]) (h.set q (bh m mp n'));rcases o17 with o|o
     ·have c17:(e.op== 17)=true:=HX.2 o;simp[S124,K124_1,b2,b12,c17,k1];rfl
     ·have c17:(e.op== 17)=false:=HB.2 (by omega);have c18:(e.op== 18)=true:=HX.2 o;simp[S124,K124_1,b2,b12,c17,c18,k1];rfl
   ·have b17:(e.op== 17)=false:=HB.2 (by omega);have b18:(e.op== 18)=false:=HB.2 (by omega);by_cases o15:e.op=15
    ·obtain⟨v1,v2⟩:=GG P K ls hls hll' e o15 alen ha n h R;refine⟨?_,v2⟩;have b15:(e.op== 15)=true:=HX.2 o15;rw[C124];cases hs:cw (dG m fs) (a6 (dG m fs) d) ls e n with
     |er b n'=>
      rw[hs]at v1;have k1:∀f:AV->M AV,ae (ah pg 183 [.hp q 0,az ls,e.av]) f h=f (.tup [ty0.av,.int .i64 b]) (h.set q (bh m mp n')):=fun f=>aF v1 f;show _=Av.R.ok (AV.tup [ty0.av,.int .i64 b]) (h.set q (bh m mp n'));simp[S124,K124_1,b2,b12,b17,b18,b15,k1];rfl
     |ok t n'=>
      rw[hs]at v1;have k1:∀f:AV->M AV,ae (ah pg 183 [.hp q 0,az ls,e.av]) f h=f (.tup [t.av,.int .i64 0]) (h.set q (bh m mp n')):=fun f=>aF v1 f;show _=Av.R.ok (AV.tup [t.av,.int .i64 0]) (h.set q (bh m mp n'));simp[S124,K124_1,b2,b12,b17,b18,b15,k1];rfl
    ·have b15:(e.op== 15)=false:=HB.2 o15;obtain⟨g1,g2⟩:=Fy P ls hls hll' e.args alen ha n h R;rw[gw o2 o12 o17 o15,C124];cases ht:bU (a6 (dG m fs) d ls) e.args n with
     |er b n'=>
      rw[ht]at g1;have hb:(b != 0)=true:=JY.2 (ku (gq (dG m fs) d ls) _ n b n' ht);have k1:∀f:AV->M AV,ae (ah pg 184 [.hp q 0,az ls,cm e.args]) f h=f (.tup [.sl [],.int .i64 b]) (h.set q (bh m mp n')):=fun f=>aF g1 f;have e1:df.bind (bU (a6 (dG m fs) d ls) e.args) (md e) n= .er b n':=by simp only[df.bind,ht]
      rw[e1];refine⟨?_,fun t n' h3=>by cases h3⟩;show _=Av.R.ok (AV.tup [ty0.av,.int .i64 b]) (h.set q (bh m mp n'));simp[S124,K124_1,b2,b12,b17,b18,b15,k1,hb,oo];rfl
     | ok l n'=>
      rw[ht]at g1;obtain⟨g3,g4⟩:=g2 l n' ht;have k1:∀f:AV->M AV,ae (ah pg 184 [.hp q 0,az ls,cm e.args]) f h=f (.tup [dM l,.int .i64 0]) (h.set q (bh m mp n')):=fun f=>aF g1 f;have hp:=t185 e l g4 (by omega) (fun o=>by rw[g3];exact a11 o) (fun o=>by rw[g3];exact a14 o) (fun o=>by rw[g3];exact a13 o);have R':=R.set n';have hor:ao T .or 3 (.int .i64 n') (.int .i64 e.n)=some (.int .i64 (lz n' e.n)):=rfl;have l1:∀f:AV->M AV,ae (bz T 3 (.hp q 10)) f (h.set q (bh m mp n'))=f (.int .i64 n') (h.set q (bh m mp n')):=fun f=>aF R'.eff f;have l2:∀f:AV->M AV,ae (bI T 3 (.hp q 10) (.int .i64 (lz n' e.n))) f (h.set q (bh m mp n'))=f (.tup []) (h.set q (bh m mp (lz n' e.n))):=fun f=>by
       rw[aF (R'.put (lz n' e.n)) f,Hb]
      have e1:df.bind (bU (a6 (dG m fs) d ls) e.args) (md e) n=md e l n':=by simp only[df.bind,ht]
      rw[e1];have hsl:=fun t=>uz (e:=e) (l:=l) g4 (by omega) (fun o=>by rw[g3];exact a11 o) (fun o=>by rw[g3];exact a14 o) (t:=t);by_cases o16:e.op=16
      ·have b16:(e.op== 16)=true:=HX.2 o16;cases hpl:bD e l with
       |none=>
        rw[hpl]at hp;rw[ge hpl,Ht o16];refine⟨?_,fun t n' h3=>by cases h3⟩;show _=Av.R.ok (AV.tup [ty0.av,.int .i64 13]) (h.set q (bh m mp (lz n' e.n)));simp[S124,K124_1,K124_0,b2,b12,b17,b18,b15,b16,k1,l1,hor,l2,hp];rfl
       |some t=>
        rw[hpl]at hp;rw[fc hpl,Ht o16];refine⟨?_,fun t' n' h3=>by cases h3;exact hsl t hpl⟩;show _=Av.R.ok (AV.tup [t.av,.int .i64 0]) (h.set q (bh m mp (lz n' e.n)));simp[S124,K124_1,K124_0,b2,b12,b17,b18,b15,b16,k1,l1,hor,l2,hp];rfl
      ·have b16:(e.op== 16)=false:=HB.2 o16;cases hpl:bD e l with
       |none=>
        rw[hpl]at hp;rw[ge hpl,if_neg o16];refine⟨?_,fun t n' h3=>by cases h3⟩;show _=Av.R.ok (AV.tup [ty0.av,.int .i64 13]) (h.set q (bh m mp n'));simp[S124,K124_1,K124_0,b2,b12,b17,b18,b15,b16,k1,hp];rfl
       |some t=>
        rw[hpl]at hp;rw[fc hpl,if_neg o16];refine⟨?_,fun t' n' h3=>by cases h3;exact hsl t hpl⟩;show _=Av.R.ok (AV.tup [t.av,.int .i64 0]) (h.set q (bh m mp n'));simp[S124,K124_1,K124_0,b2,b12,b17,b18,b15,b16,k1,hp];rfl
theorem Fx{q:Nat}{m:Ap.Mod}{mp:AV}{fs:List Face}(K:CxOk m fs):∀d,jv q m mp fs d
 |0=>fun ls e n h hr=>by cases hr
 |d+1=>wB K (Fx K d)
theorem oY:(fs acc:List Face)->∀f∈dt acc fs,f∈acc\/f∈fs
 |[],acc,f,h=>.inl h
 | g:: fs,acc,f,h=>by
  rw[dt]at h;rcases oY fs _ f h with h|h
  ·split at h
   ·exact .inl h
   ·rcases HV.1 h with h|h
    ·exact .inl h
    ·rw[Im]at h;subst h;exact .inr Ic
  ·exact .inr (Ij _ h)
def sR(s:Sig):Bool:=aH s.result&&s.params.all aH
theorem wA(f:Face):dT f=f.funcs.all sR:=rfl
def GE(t:Ty)(ht:t.Lim):ah pg 179 [t.av]=M.pure (.bool (!(aH t))):=by
 rw[C179];simp[S179,t73 t ht]
theorem zE{h:Hp}{l:Nat}{fs:List Face}(hl:h[l]? = some [.tup (bQ fs)])(f:Face)(hn:fs.find? (fun g=>g.module== f.module)=none):kE T 139 (.mp l) (.str f.module) f.av h= .ok (.tup []) (h.set l [.tup (bQ (fs++[f]))]):=by
 have e:kE T 139 (.mp l) (.str f.module) f.av h=(match h[l]? with
   |some [.tup es]=>(match sD T 9 es (.str f.module) f.av with
    |some es'=>.ok (.tup []) (h.set l [.tup es'])
    |none=>.fail)
   |_=>.fail):=rfl
 rw[e,hl];simp only;unfold sD;rcases m6 f.module fs 0 with⟨h1,h2⟩|⟨g,j,k,h1,h2⟩
 ·rw[h2];simp[bQ]
 ·rw[hn]at h1;cases h1
def qg(f:Face):aE 2 f.av=M.pure f.av:=by rw[bN (ly f),fu,pd]
def Bj(V:List AV->M AV){h:Hp}{q l:Nat}{m:Ap.Mod}{acc:List Face}(R:JR h q m (.mp l) acc 0)(hl:h[l]? = some [.tup (bQ acc)])(fs:List Face)(i:Nat)(f:Face)(hf:f.Lim):∀(k j:Nat),f.funcs.length-j=k->j<=f.funcs.length->
  aj (L122_0 (ah pg) aj V) [.hp q 0,.ip (aa f.av),faces fs,.int .i64 fs.length,.int .i64 i,sigs f.funcs,.int .i64 f.funcs.length,.int .i64 j] h=(if(f.funcs.drop j).all sR=true then V [.hp q 0,faces fs,.int .i64 fs.length,.int .i64 (IntKind.i64.wrap ((i:Int)+1))] (if(acc.find? fun g=>g.module== f.module).isSome=true then h else h.set l [.tup (bQ (acc++[f]))])else .ok (.tup [.nilp,.bool false]) h):=by
 intro k;have hlen:=hf.len
 induction k with
 | zero=>
  intro j hk hj;have h1:¬((j:Int)<(f.funcs.length:Int)):=by omega
  have h2:f.funcs.drop j=[]:=HQ (by omega);rw[h2,Ht (show[].all sR=true from rfl)];have l1:∀g:AV->M AV,ae (bz T 139 (.hp q 9)) g h=g (.mp l) h:=fun g=>aF R.mp g;have l2:∀g:AV->M AV,ae (ey T 139 (.mp l) (.str f.module) true) g h=g (.tup [((acc.find? fun g=>g.module== f.module).getD lQ).av,.bool (acc.find? fun g=>g.module== f.module).isSome]) h:=fun g=>aF (pr R.map f.module) g;rw[FL122_0];cases hc:acc.find? (fun g=>g.module== f.module)with
  |none=>
   rw[hc]at l2;have l3:∀g:AV->M AV,ae (kE T 139 (.mp l) (.str f.module) f.av) g h=g (.tup []) (h.set l [.tup (bQ (acc++[f]))]):=fun g=>aF (zE hl f hc) g;simp[L122_0,h1,l1,l2,qg,l3]
  |some g=>
   rw[hc]at l2;simp[L122_0,h1,l1,l2,qg]
 | succ k ih=>
  intro j hk hj;have hlt:j<f.funcs.length:=by omega
  have h1:(j:Int)<(f.funcs.length:Int):=by omega
  have h2:f.funcs.drop j=f.funcs[j]:: f.funcs.drop (j+1):=HK hlt;have hw:IntKind.i64.wrap ((j:Int)+1)=(j:Int)+1:=be (by omega);have hix:=Ao (l:=f.funcs) (n:=(j:Int)) (by omega) h1;rw[HH,HP f.funcs j hlt]at hix;have hs:=hf.sigs _ (HD hlt);have ih':aj (L122_0 (ah pg) aj V) [.hp q 0,.ip (aa f.av),faces fs,.int .i64 fs.length,.int .i64 i,sigs f.funcs,.int .i64 f.funcs.length,.int .i64 ((j:Int)+1)] h=_:=ih (j+1) (by omega) (by omega);rw[h2,Ip];generalize f.funcs[j]=s at hix hs |-;have r1:=t73 s.result hs.result;have r2:=t148 (.fn (.func 179) [] []) (fun t=>!(aH t)) s.params (by have:=hs.plen;omega) (fun g=>by simp[cl,dy]) (fun t ht=>GE t (hs.ptys t ht));have r3:(s.params.any fun t=>!(aH t))= !(s.params.all aH):=by
   rw[List.any_eq_not_all_not];simp
  rw[r3]at r2;rw[FL122_0];simp only[fu]at ih' |-;unfold sR;cases b1:aH s.result with
  |false=>
   rw[b1]at r1;simp[L122_0,h1,hix,r1];rfl
  | true=>
   rw[b1]at r1;cases b2:s.params.all aH with
   |false=>
    rw[b2]at r2;simp[L122_0,h1,hix,r1,r2];rfl
   |true=>
    rw[b2]at r2;simp[L122_0,h1,hix,r1,r2,hw,ih',sR]
theorem Bl{q l:Nat}{m:Ap.Mod}(hq:l≠q)(fs:List Face)(hfs:∀f∈fs,f.Lim)(hlen:fs.length<=140737488355328):∀(k i:Nat)(acc:List Face)(h:Hp),fs.length-i=k->i<=fs.length->JR h q m (.mp l) acc 0->h[l]? = some [.tup (bQ acc)]->
  ((fs.drop i).all dT=true->aj (L122_1 (ah pg) aj) [.hp q 0,faces fs,.int .i64 fs.length,.int .i64 i] h= .ok (.tup [.hp q 0,.bool true]) (h.set l [.tup (bQ (dt acc (fs.drop i)))]))/\((fs.drop i).all dT=false->∃h',aj (L122_1 (ah pg) aj) [.hp q 0,faces fs,.int .i64 fs.length,.int .i64 i] h= .ok (.tup [.nilp,.bool false]) h'):=by
 intro k
 induction k with
 | zero=>
  intro i acc h hk hi R hl;have h1:¬((i:Int)<(fs.length:Int)):=by omega
  have h2:fs.drop i=[]:=HQ (by omega);rw[h2];refine⟨fun _=>?_,fun hc=>by cases hc⟩;have e:h.set l [.tup (bQ (dt acc []))]=h:=by
   obtain⟨hll,e⟩:=HN.1 hl;show h.set l [.tup (bQ acc)]=h;rw[<- e];exact Jq hll
  rw[e,FL122_1];simp[L122_1,h1];rfl
 | succ k ih=>
  intro i acc h hk hi R hl;have hlt:i<fs.length:=by omega
  have h1:(i:Int)<(fs.length:Int):=by omega
  have h2:fs.drop i=fs[i]:: fs.drop (i+1):=HK hlt;have hw:IntKind.i64.wrap ((i:Int)+1)=((i+1:Nat):Int):=be (by omega);have hix:=F6 (l:=fs) (n:=(i:Int)) (by omega) h1;rw[HH,HP fs i hlt]at hix;have hf:=hfs _ (HD hlt);rw[h2,Ip];generalize fs[i]=f at hix hf |-;have hin:=Bj (aj (L122_1 (ah pg) aj)) R hl fs i f hf f.funcs.length 0 rfl (H5 _);rw[Ia,hw]at hin;have hrun:aj (L122_1 (ah pg) aj) [.hp q 0,faces fs,.int .i64 fs.length,.int .i64 i] h=aj (L122_0 (ah pg) aj (aj (L122_1 (ah pg) aj))) [.hp q 0,.ip (aa f.av),faces fs,.int .i64 fs.length,.int .i64 i,sigs f.funcs,.int .i64 f.funcs.length,.int .i64 ((0:Nat):Int)] h:=by
   rw[FL122_1];simp[L122_1,h1,hix,qg]
  rw[hrun,hin,<- wA];cases hfo:dT f with
  |false=>
   refine⟨fun hc=>by simp at hc,fun _=>⟨h,by simp⟩⟩
  | true=>
   simp only[H7,IA];have hd:dt acc (f:: fs.drop (i+1))=dt (if(acc.find? fun g=>g.module== f.module).isSome=true then acc else acc++[f]) (fs.drop (i+1)):=rfl;rw[hd];have hll:=(HN.1 hl).1;by_cases hc:(acc.find? fun g=>g.module== f.module).isSome=true
   ·rw[Ht hc,Ht hc];exact ih (i+1) acc h (by omega) (by omega) R hl
   ·rw[if_neg hc,if_neg hc];have hl':(h.set l [.tup (bQ (acc++[f]))])[l]? = some [.tup (bQ (acc++[f]))]:=IC hll;have R':JR (h.set l [.tup (bQ (acc++[f]))]) q m (.mp l) (acc++[f]) 0:=⟨by rw[IM hq];exact R.row,.inr ⟨l,rfl,hl'⟩,R.ne⟩;obtain⟨i1,i2⟩:=ih (i+1) (acc++[f]) _ (by omega) (by omega) R' hl';refine⟨fun ha=>?_,i2⟩;rw[i1 ha,List.set_set]
theorem GC(m:Ap.Mod)(fs:List Face)(hfs:∀f∈fs,f.Lim)(hlen:fs.length<=140737488355328)(h:Hp):
  (fs.all dT=true->ah pg 122 [m.av,faces fs] h= .ok (.tup [.hp (h.length+1) 0,.bool true]) (h++[[.tup (bQ (dt [] fs))],bh m (.mp h.length) 0]))/\(fs.all dT=false->∃h',ah pg 122 [m.av,faces fs] h= .ok (.tup [.nilp,.bool false]) h'):=by
 have R:JR (h++[[AV.tup []],bh m (.mp h.length) 0]) (h.length+1) m (.mp h.length) [] 0:=⟨by simp,.inr ⟨h.length,rfl,by simp[bQ]⟩,by simp⟩;obtain⟨h1,h2⟩:=Bl (q:=h.length+1) (l:=h.length) (m:=m) (by omega) fs hfs hlen fs.length 0 [] _ rfl (H5 _) R (by simp[bQ]);rw[Ia]at h1 h2;have hrun:ah pg 122 [m.av,faces fs] h=aj (L122_1 (ah pg) aj) [.hp (h.length+1) 0,faces fs,.int .i64 fs.length,.int .i64 ((0:Nat):Int)] (h++[[AV.tup []],bh m (.mp h.length) 0]):=by
  rw[C122];have b1:aU T true 141 [(0,m.av),(1,.mp h.length)]=some (.agg (bh m (.mp h.length) 0)):=rfl;have n1:∀f:AV->M AV,ae eE f h=f (.mp h.length) (h++[[AV.tup []]]):=fun f=>rfl;have n2:∀f:AV->M AV,ae (newH (bh m (.mp h.length) 0)) f (h++[[AV.tup []]])=f (.hp (h.length+1) 0) (h++[[AV.tup []],bh m (.mp h.length) 0]):=fun f=>by
   have:newH (bh m (.mp h.length) 0) (h++[[AV.tup []]])= .ok (.hp (h++[[AV.tup []]]).length 0) ((h++[[AV.tup []]])++[bh m (.mp h.length) 0]):=rfl;rw[aF this];simp
  have lm:ai T 41 (.ip (aa m.av))=some m.av:=rfl;simp only[S122,lm,aG,n1,b1,mC,n2,Cp];rfl
 rw[hrun];refine⟨fun ha=>?_,h2⟩;rw[h1 ha];simp
def setRow(ns:List bA):List AV:=ns.map fun s=>.tup [.str s,.bool true]
theorem C3(a b:bA):wx T 20 9 (.str a) (.str b)=some (a== b):=rfl
theorem kZ(s:bA):(ns:List bA)->(i:Nat)->(ns.contains s=false/\dW T 9 (.str s) (setRow ns) i=some none)\/(ns.contains s=true/\∃(j:Nat)(k:AV),dW T 9 (.str s) (setRow ns) i=some (some (j,k,.bool true)))
 |[],i=>.inl ⟨rfl,rfl⟩
 | x:: ns,i=>by
  show (_/\dW T 9 (.str s) (.tup [.str x,.bool true]:: setRow ns) i=_)\/(_/\∃(j:Nat)(k:AV),dW T 9 (.str s) (.tup [.str x,.bool true]:: setRow ns) i=_);unfold dW;rw[C3,List.contains_cons];cases h:s== x with
  |true=>exact .inr ⟨rfl,i,.str x,rfl⟩
  |false=>
   rcases kZ s ns (i+1)with⟨h1,h2⟩|⟨h1,j,k,h2⟩
   ·exact .inl ⟨by rw[h1];rfl,h2⟩
   ·exact .inr ⟨by rw[h1];rfl,j,k,h2⟩
theorem nB{h:Hp}{l:Nat}{ns:List bA}(hl:h[l]? = some [.tup (setRow ns)])(s:bA):ey T 130 (.mp l) (.str s) false h= .ok (.bool (ns.contains s)) h:=by
 have e:l5 T 130 (setRow ns) (.str s) false=(match dW T 9 (.str s) (setRow ns) 0 with
   |some (some (_,_,v))=>some v
   |some none=>some (.bool false)
   |none=>none):=rfl
 unfold ey iK;simp only[hl];rw[e];rcases kZ s ns 0 with⟨h1,h2⟩|⟨h1,j,k,h2⟩
 ·rw[h2,h1]
 ·rw[h2,h1]
theorem qF{h:Hp}{l:Nat}{ns:List bA}(hl:h[l]? = some [.tup (setRow ns)])(s:bA)(hs:ns.contains s=false):kE T 130 (.mp l) (.str s) (.bool true) h= .ok (.tup []) (h.set l [.tup (setRow (ns++[s]))]):=by
 have e:kE T 130 (.mp l) (.str s) (.bool true) h=(match h[l]? with
   |some [.tup es]=>(match sD T 9 es (.str s) (.bool true)with
    |some es'=>.ok (.tup []) (h.set l [.tup es'])
    |none=>.fail)
   |_=>.fail):=rfl
 rw[e,hl];simp only;unfold sD;rcases kZ s ns 0 with⟨h1,h2⟩|⟨h1,j,k,h2⟩
 ·rw[h2];simp[setRow]
 ·rw[h1]at hs;cases hs
theorem A8(l:List bi)(hb:l.length<=140737488355328)(ht:∀f∈l,f.2.Lim)(most:Int)(q:Nat):∀(n i:Nat),l.length-i=n->i<=l.length->∀(seen:List bA)(h:Hp),h[q]? = some [.tup (setRow seen)]->
  ∃h',aj (L117_0 (ah pg) aj) [az l,.int .i64 most,.mp q,az l,.int .i64 l.length,.int .i64 i] h= .ok (.bool (sy seen (l.drop i)&&decide ((l.length:Int)<=most))) h':=by
 intro n
 induction n with
 |zero=>
  intro i hn hi seen h hq;rw[FL117_0];have h1:¬((i:Int)<(l.length:Int)):=by omega
  have h2:l.drop i=[]:=HQ (by omega);rw[h2];exact⟨h,by simp[L117_0,h1,sy,M.pure]⟩
 | succ n ih=>
  intro i hn hi seen h hq;have hlt:i<l.length:=by omega
  have h1:(i:Int)<(l.length:Int):=by omega
  have h2:l.drop i=l[i]:: l.drop (i+1):=HK hlt;have hw:IntKind.i64.wrap ((i:Int)+1)=((i+1:Nat):Int):=be (by omega);have hix:=pR (l:=l) (n:=(i:Int)) (by omega) h1;rw[HH,HP l i hlt]at hix;have hfl:=ht _ (HD hlt);have ih':=fun s=>ih (i+1) (by omega) (by omega) (seen++[s]) (h.set q [.tup (setRow (seen++[s]))]);have hql:q<h.length:=(HN.1 hq).1;rw[h2];generalize l[i]=f at hix hfl |-;have hlk:=nB hq f.1;have hnm:=t76 f.1;have hty:=t47 f.2 hfl;have hcf:aE 3 (aZ f)=M.pure (aZ f):=by rw[bN (gb f),cF,f7]
  generalize hcode:aj (L117_0 (ah pg) aj) [az l,.int .i64 most,.mp q,az l,.int .i64 l.length,.int .i64 i] h=code;rw[FL117_0]at hcode;simp -implicitDefEqProofs only[L117_0,a7,bc,bJ,aG,h1,Iq,aY,H7,hix,cF,LD76,HG,HM,HJ,Nat.reduceAdd,Hu,HY,H9,f7,hcf,aV,FA76_0,FA76_1,Ia,Iw,LD9]at hcode;rw[aF hlk]at hcode;have eo:sy seen (f:: l.drop (i+1))=(!(seen.contains f.1)&&bY f.1&&aH f.2&&sy (seen++[f.1]) (l.drop (i+1))):=rfl;rw[eo];cases hc:seen.contains f.1 with
  |true=>
   rw[hc]at hcode;refine⟨h,?_⟩;rw[<- hcode];simp[M.pure]
  | false=>
   rw[hc]at hcode;cases hn2:bY f.1 with
   |false=>
    rw[hn2]at hnm;refine⟨h,?_⟩;rw[<- hcode];simp[hnm,M.pure]
   | true=>
    rw[hn2]at hnm;cases hr:aH f.2 with
    |false=>
     rw[hr]at hty;refine⟨h,?_⟩;rw[<- hcode];simp[hnm,hty,M.pure]
    |true=>
     rw[hr]at hty;obtain⟨h',e'⟩:=ih' f.1 (by rw[IC hql]);refine⟨h',?_⟩;have hp:=qF hq f.1 hc;rw[<- hcode];simp -implicitDefEqProofs only[hnm,hty,aV,eD,il,IL,JF,a7,sB,aY,HT,Iu,LD27,HG,HM,HJ,Nat.reduceAdd,Hu,H7,HY,H9,bW,aG];rw[aF hp];simp only[d7,aG,hw,e',IA]
theorem t117(l:List bi)(hb:l.length<=140737488355328)(ht:∀f∈l,f.2.Lim)(most:Int):ah pg 117 [az l,.int .i64 most]=M.pure (.bool (eM l most)):=by
 obtain⟨h',e⟩:=A8 l hb ht most 0 l.length 0 rfl (H5 _) [] ([]++[[.tup []]]) rfl;rw[Ia]at e;rw[C117];funext hp;have key:S117 (ah pg) aj (cl au (az l)) (cl au (.int .i64 most)) []= .ok (.bool (eM l most)) h':=by
  rw[j0,yJ];have hn:eE []= .ok (.mp 0) ([]++[[.tup []]]):=rfl;simp -implicitDefEqProofs only[S117];rw[aF hn];simp only[xn,aG];exact e
 show aD _ hp=R.ok (.bool (eM l most)) hp;unfold aD;rw[key];rfl
def t119(l:List Exp)(hb:l.length<=140737488355328)(ht:∀e∈l,e.Lim)(n:Int):ah pg 119 [cm l,.int .i64 n]=M.pure (.bool (l.all qW&&((l.length:Int)== n))):=by
 have hloop:∀(m i:Nat),l.length-i=m->i<=l.length->aj (L119_0 (ah pg) aj) [cm l,.int .i64 n,cm l,.int .i64 l.length,.int .i64 i]=M.pure (.bool ((l.drop i).all qW&&((l.length:Int)== n))):=by
  intro m
  induction m with
  |zero=>
   intro i hm hi;rw[FL119_0];have h1:¬((i:Int)<(l.length:Int)):=by omega
   have h2:l.drop i=[]:=HQ (by omega);simp[L119_0,h1,h2]
  |succ m ih=>
   intro i hm hi;have hlt:i<l.length:=by omega
   have h1:(i:Int)<(l.length:Int):=by omega
   have h2:l.drop i=l[i]:: l.drop (i+1):=HK hlt;have hw:IntKind.i64.wrap ((i:Int)+1)=((i+1:Nat):Int):=be (by omega);have hix:=qY (l:=l) (n:=(i:Int)) (by omega) h1;rw[HH,HP l i hlt]at hix;have hr:=t118 l[i] (ht _ (HD hlt));have ih':=ih (i+1) (by omega) (by omega);rw[h2,Ip,FL119_0];generalize l[i]=e at hix hr |-;cases hb2:qW e<;>rw[hb2]at hr <;>
   simp only[L119_0,a7,bc,bJ,aG,h1,Iq,aY,H7,hix,bp,LD47,HG,HM,HJ,Nat.reduceAdd,Hu,HY,H9,dX,qf,aV,hr,il,IL,JF,HT,Iu,d7,hw,ih',IA,J0]
 have h:=hloop l.length 0 rfl (H5 _);rw[Ia]at h;have h':aj (L119_0 (ah pg) aj) [cm l,.int .i64 n,cm l,.int .i64 l.length,.int .i64 0]=M.pure (.bool (l.all qW&&((l.length:Int)== n))):=h;rw[C119];simp[S119,h']
end Go.Proofs.YteemeakjlfnapaaGreatDoor
