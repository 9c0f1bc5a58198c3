/- What the functions of the seat compute, part 5: the texts of the claim, one behind the other. Conditions: bounds, as each theorem names them. -/
import Derived.Test.YteemeakjlfnapaaGreatDoorTd
set_option linter.defProp false
set_option linter.unusedSimpArgs false
set_option linter.unusedVariables false
namespace Go.Proofs.YteemeakjlfnapaaGreatDoor
open Go Go.Av Go.Av.Ap
set_option maxRecDepth 100000
def bC{m:M AV}{v r:AV}{h':Hp}(e:m []= .ok v h')(f:fU 6 h' v=r):aH m=M.pure r:=by
 funext hp;unfold aH;rw[e];show R.ok (fU 6 h' v) hp=R.ok r hp;rw[f]
def t231(t:Ty)(k:Int):ai pg 231 [t.av,.ip [.int .i64 k]]=M.pure (.bool (t.kind != k)):=by
 rw[C231];simp[S231,cl,c5]
def t230(k:Int)(l:List Ty)(hl:l.length<=1000000):ai pg 230 [.int .i64 k,.ip [dS l]]=M.pure (.bool (gY k l)):=by
 have h:=t148 (.fn (.func 231) [] [.ip [.int .i64 k]]) (fun t=>t.kind != k) l (by omega) (fun g=>by simp[cl,c5]) (fun t _=>t231 t k);rw[C230];have e:(!l.any fun t=>t.kind != k)=gY k l:=by
  unfold gY;rw[JD];congr 1;funext t;simp[bne]
 simp[S230,cl,c5,h,e]
theorem B1(f:AV->M AV):ae (newH [.int .i64 0,.hn]) f []=f (.hp 0 0) [[.int .i64 0,.hn]]:=rfl
theorem B2(f:AV->M AV)(k:Int)(fs:List AV)(c1 c2:AV):ae (bI T 27 (.hp 0 0) (.agg [.int .i64 k,.sl fs])) f [[c1,c2]]=f (.tup []) [[.int .i64 k,.sl fs]]:=rfl
theorem r9(f:AV->M AV)(k:Int)(c1 c2:AV):ae (bI T 27 (.hp 0 0) (.agg [.int .i64 k,.hn])) f [[c1,c2]]=f (.tup []) [[.int .i64 k,.hn]]:=rfl
theorem B3(f:AV->M AV)(k:Int)(c1 c2:AV):ae (bI T 3 (.hp 0 0) (.int .i64 k)) f [[c1,c2]]=f (.tup []) [[.int .i64 k,c2]]:=rfl
theorem B4(f:AV->M AV)(c1 c2:AV):ae (bi T 27 (.hp 0 0)) f [[c1,c2]]=f (.agg [c1,c2]) [[c1,c2]]:=rfl
theorem fa0:aa T 27 (.hp 0 0) 0=some (.hp 0 0):=rfl
theorem fa1:aa T 27 (.hp 0 0) 1=some (.hp 0 1):=rfl
theorem sb:aN T true 27 []=some (.agg [.int .i64 0,.hn]):=rfl
theorem tN:aN T false 27 []=some ty0.av:=rfl
def sc(k:Int):ao 2 [] (.agg [.int .i64 k,.hn])=M.pure (.agg [.int .i64 k,.hn]):=aM rfl
def sd(k:Int)(fs:List AV):ao 2 [] (.agg [.int .i64 k,.sl fs])=M.pure (.agg [.int .i64 k,.sl fs]):=aM rfl
def Gt(k:Int)(l n:Nat):ao 2 [] (.agg [.int .i64 k,.hs l 0 n 3 true])=M.pure (.agg [.int .i64 k,.hs l 0 n 3 true]):=aM rfl
theorem AQ(n:Int):bK (.int .i64 n)=M.pure (.int .i64 n):=rfl
theorem yO:ty0.av= .agg [.int .i64 0,.sl []]:=rfl
def Dm(f:AV->M AV)(t:Ty)(c1 c2:AV):ae (bI T 27 (.hp 0 0) t.av) f [[c1,c2]]=f (.tup []) [[.int .i64 t.kind,aB t.fields]]:=by
 rw[<- cb];rfl
def cnt(t:Ty):ao 2 [] (.agg [.int .i64 t.kind,aB t.fields])=M.pure (.agg [.int .i64 t.kind,aB t.fields]):=aM rfl
def yZ(h:Hp)(acc:List bN):Prop:=(acc=[]/\h[0]? = some [.int .i64 2,.hn])\/(acc≠[]/\∃q,q≠0/\h[0]? = some [.int .i64 2,.hs q 0 acc.length 3 true]/\h[q]? = some (rowOf a7 acc))
theorem Bb:(l:List bN)->(rowOf a7 l).all bc=true
 |[]=>rfl
 |f:: l=>by
  rw[gO,List.all_append,Bb l,IU,cg];rfl
def wa{h:Hp}{acc:List bN}(A:yZ h acc)(hl:acc.length<=1000000)(f:bN):∃sv rv h1 h2,bi T 25 (.hp 0 1) h= .ok sv h/\appH T 25 false sv (aB [f]) h= .ok rv h1/\bI T 25 (.hp 0 1) rv h1= .ok (.tup []) h2/\yZ h2 (acc++[f]):=by
 have hfl:aB [f]= .sl [a7 f]:=by rw[im];rfl
 have h0l:0<h.length:=by
  rcases A with⟨_,h0⟩|⟨_,q,_,h0,_⟩
  ·exact (Hc.1 h0).1
  ·exact (Hc.1 h0).1
 rcases A with⟨rfl,h0⟩|⟨hne,q,hq0,h0,hq⟩
 ·have e1:bi T 25 (.hp 0 1) h= .ok .hn h:=jk rfl rfl h0 rfl;have e2:=DO (T:=T) (t:=25) (e:=76) rfl rfl rfl (x:=a7 f) (fl f) (by decide) (by decide) (by decide) h;rw[<- hfl]at e2;have h0':(h++[ab (a7 f)])[0]? = some [.int .i64 2,.hn]:=by rw[G9 h0l];exact h0
  have e3:=qg (T:=T) (t:=25) rfl (k:=1) (v:=.hs h.length 0 1 3 true) h0' rfl (by decide) (by decide);refine⟨_,_,_,_,e1,e2,e3,.inr ⟨by simp,h.length,by omega,?_,?_⟩⟩
  ·rw[H6 (by simp)];rfl
  ·rw[Io (by omega),Hf (GQ _),IC];simp[rowOf]
 ·have e1:bi T 25 (.hp 0 1) h= .ok (.hs q 0 acc.length 3 true) h:=jk rfl rfl h0 rfl;have hln:=eV (f:=a7) AY acc;have hpos:0<acc.length:=It.2 hne;have e2:=DR (T:=T) (t:=25) (e:=76) rfl rfl rfl (x:=a7 f) (fl f) (by decide) (by decide) hq (Bb acc) hln hpos (show (acc.length+1)*48<=_ by omega);rw[<- hfl]at e2;have hql:q<h.length:=(Hc.1 hq).1;have h0':((h.set q [])++[rowOf a7 acc++ab (a7 f)])[0]? = some [.int .i64 2,.hs q 0 acc.length 3 true]:=by
   rw[G9 (by simpa using h0l),Io (by omega)];exact h0
  have e3:=qg (T:=T) (t:=25) rfl (k:=1) (v:=.hs h.length 0 (acc.length+1) 3 true) h0' rfl (show 1+1<=2 by omega) (by decide);refine⟨_,_,_,_,e1,e2,e3,.inr ⟨by simp,h.length,by omega,?_,?_⟩⟩
  ·rw[H6 (by simp),Hu];rfl
  ·rw[Io (by omega),Hf (by simp),Ii,IC];simp[rowOf]
theorem vZ{h:Hp}{acc:List bN}(A:yZ h acc):∃v,bi T 27 (.hp 0 0) h= .ok v h/\ao 2 [] v=M.pure v/\(∃c1 c2,v= .agg [c1,c2])/\fU 6 h (.tup [v,.int .i64 0])= .tup [(Ty.mk 2 acc).av,.int .i64 0]:=by
 have e:(Ty.mk 2 acc).av= .agg [.int .i64 2,aB acc]:=rfl;rcases A with⟨rfl,h0⟩|⟨hne,q,hq0,h0,hq⟩
 ·exact⟨.agg [.int .i64 2,.hn],ya (T:=T) (t:=27) rfl rfl h0 (show 0+2<=2 by omega),sc 2,⟨_,_,rfl⟩,rfl⟩
 ·refine⟨.agg [.int .i64 2,.hs q 0 acc.length 3 true],ya (T:=T) (t:=27) rfl rfl h0 (show 0+2<=2 by omega),Gt 2 q acc.length,⟨_,_,rfl⟩,?_⟩;have hfr:=kI (f:=a7) AY (fun x=>by rw[cg,ew]) (fun x g=>xq g x) (by decide) hq 5;rw[e,im,<- hfr];rfl
def zS(e:Exp)(l:List Ty)(x1 x2:AV)(hlen:l.length<=1000000)(hn:e.names.length=l.length):∀(n i:Nat)(h:Hp),l.length-i=n->i<=l.length->yZ h ((e.names.zip l).take i)->
  ∃v h',aj (L185_0 (ai pg) aj (K185_0 (ai pg) aj)) [.ip (ab e.av),.hp 0 0,.bool true,dS l,.int .i64 l.length,.int .i64 i,x1,x2] h= .ok v h'/\fU 6 h' v= .tup [(Ty.mk 2 (e.names.zip l)).av,.int .i64 0]:=by
 intro n
 induction n with
 |zero=>
  intro i h hi hle A;have h1:¬((i:Int)<(l.length:Int)):=by omega
  have h2:(e.names.zip l).take i=e.names.zip l:=Ix (by rw[Iw];omega);rw[h2]at A;obtain⟨v,e1,e2,⟨c1,c2,rfl⟩,e3⟩:=vZ A;refine⟨_,h,?_,e3⟩;rw[FL185_0];simp only[L185_0,K185_0,aZ,be,bF,aF,h1,IB,aR,Hl,HL,gP,H8];rw[aE e1];simp only[e2,aK,md,aZ,be];rfl
 | succ n ih=>
  intro i h hi hle A;have hlt:i<l.length:=by omega
  have hlt2:i<e.names.length:=by omega
  have h1:(i:Int)<(l.length:Int):=by omega
  have hw:IntKind.i64.wrap ((i:Int)+1)=(i:Int)+1:=aS (by omega);have hix:=lV (l:=l) (n:=(i:Int)) (by omega) h1;rw[GZ,Hd l i hlt]at hix;have hix2:=uD (l:=e.names) (n:=(i:Int)) (by omega) (by omega);rw[GZ,Hd e.names i hlt2]at hix2;have ht:(e.names.zip l).take (i+1)=(e.names.zip l).take i++[(e.names[i],l[i])]:=by
   rw[List.take_succ_eq_append_getElem (by rw[Iw];omega),List.getElem_zip]
  obtain⟨sv,rv,h2,h3,e1,e2,e3,A3⟩:=wa A (by rw[HZ,Iw];omega) (e.names[i],l[i]);rw[<- ht]at A3;obtain⟨v,h',e4,e5⟩:=ih (i+1) h3 (by omega) (by omega) A3;refine⟨v,h',?_,e5⟩;have e4':aj (L185_0 (ai pg) aj (K185_0 (ai pg) aj)) [.ip (ab e.av),.hp 0 0,.bool true,dS l,.int .i64 l.length,.int .i64 ((i:Int)+1),x1,x2] h3= .ok v h':=e4;rw[<- e4'];generalize hcode:aj (L185_0 (ai pg) aj (K185_0 (ai pg) aj)) [.ip (ab e.av),.hp 0 0,.bool true,dS l,.int .i64 l.length,.int .i64 i,x1,x2] h=code;rw[FL185_0]at hcode;simp -implicitDefEqProofs only[L185_0,aZ,be,bF,aF,h1,HF,aR,Hn,hix,bw,LD27,G4,G8,G5,Nat.reduceAdd,GQ,He,Hq,cb,Av.dG,aK,fa1]at hcode;rw[aE e1]at hcode;simp -implicitDefEqProofs only[bA,FA47_4,aF,HK,Hk,LD35,hix2,eI,LD9,LD27,G4,G8,G5,Nat.reduceAdd,GQ,Hn,He,Hq,cb,pN,Fe]at hcode;rw[aE e2]at hcode;rw[aE e3]at hcode;simp -implicitDefEqProofs only[dF,aF,hw]at hcode;rw[<- hcode,bA]
theorem dX(l:List Ty):ab (dS l)=[dS l]:=rfl
def t185(e:Exp)(l:List Ty)(hl:∀t∈l,dm t)(hlen:l.length<=1000000)(h11:e.op=11->l.length=3)(h14:e.op=14->l.length=1)(h13:e.op=13->e.names.length=l.length):ai pg 185 [e.av,dS l]=M.pure (match bZ e l with|some t=>.tup [t.av,.int .i64 0]|none=>.tup [ty0.av,.int .i64 13]):=by
 have h0:=t230 0 l hlen;have h1:=t230 1 l hlen;rw[C185,xo,sH];have fin:∀k:Int,fU 6 [[.int .i64 k,.hn]] (.tup [.agg [.int .i64 k,.hn],.int .i64 0])= .tup [(Ty.mk k []).av,.int .i64 0]:=fun k=>rfl;have fin0:∀h:Hp,fU 6 h (.tup [ty0.av,.int .i64 13])= .tup [ty0.av,.int .i64 13]:=fun h=>rfl;have fins:∀(h:Hp)(t:Ty),fU 6 h (.tup [.agg [.int .i64 t.kind,aB t.fields],.int .i64 0])= .tup [t.av,.int .i64 0]:=fun h t=>by
  have hc:Ap.Clean (AV.tup [t.av,.int .i64 0]):=fun g=>by simp[cl,c5]
  rw[cb];exact hc.frz 6 h
 by_cases o3:e.op=3\/e.op=4\/e.op=5\/e.op=16
 ·have ep:bZ e l=if gY 0 l=true then some (.mk 0 [])else none:=by unfold bZ;rw[GR o3]
  rw[ep];cases hb:gY 0 l with
  |true=>
   rw[hb]at h0;refine bC (v:=.tup [.agg [.int .i64 0,.hn],.int .i64 0]) (h':=[[.int .i64 0,.hn]]) ?_ (fin 0);rcases o3 with hop|hop|hop|hop<;>simp[S185,K185_0,K185_1,K185_2,sb,tN,B1,B2,r9,B3,B4,fa0,hop,sc,sd,bJ,dX,h0,h1]<;>rfl
  |false=>
   rw[hb]at h0;refine bC (v:=.tup [ty0.av,.int .i64 13]) (h':=[[.int .i64 0,.hn]]) ?_ (fin0 _);rcases o3 with hop|hop|hop|hop<;>simp[S185,K185_0,K185_1,K185_2,sb,tN,B1,B2,r9,B3,B4,fa0,hop,sc,sd,bJ,dX,h0,h1]<;>rfl
 ·by_cases hop:e.op=1
  ·have ep:bZ e l=some (.mk 1 []):=by unfold bZ;rw[if_neg o3,GR hop]
   rw[ep];refine bC (v:=.tup [.agg [.int .i64 1,.hn],.int .i64 0]) (h':=[[.int .i64 1,.hn]]) ?_ (fin 1);simp[S185,K185_0,K185_1,K185_2,sb,tN,B1,B2,r9,B3,B4,fa0,hop,sc,sd,bJ,dX,h0,h1,AQ];rfl
  ·by_cases hop6:e.op=6
   ·have hop:=hop6;have ep:bZ e l=if gY 0 l=true then some (.mk 1 [])else none:=by unfold bZ;rw[if_neg o3,if_neg (by omega),GR hop6]
    rw[ep];cases hb:gY 0 l with
    |true=>
     rw[hb]at h0;refine bC (v:=.tup [.agg [.int .i64 1,.hn],.int .i64 0]) (h':=[[.int .i64 1,.hn]]) ?_ (fin 1);simp[S185,K185_0,K185_1,K185_2,sb,tN,B1,B2,r9,B3,B4,fa0,hop,sc,sd,bJ,dX,h0,h1,AQ];rfl
    |false=>
     rw[hb]at h0;refine bC (v:=.tup [ty0.av,.int .i64 13]) (h':=[[.int .i64 1,.hn]]) ?_ (fin0 _);simp[S185,K185_0,K185_1,K185_2,sb,tN,B1,B2,r9,B3,B4,fa0,hop,sc,sd,bJ,dX,h0,h1,AQ];rfl
   ·by_cases hop7:e.op=7
    ·have hop:=hop7;have ep:bZ e l=if(gY 0 l||gY 1 l)=true then some (.mk 1 [])else none:=by unfold bZ;rw[if_neg o3,if_neg (by omega),if_neg hop6,GR hop7]
     rw[ep];cases hb:gY 0 l<;>cases hb1:gY 1 l<;>rw[hb]at h0<;>rw[hb1]at h1
     ·refine bC (v:=.tup [ty0.av,.int .i64 13]) (h':=[[.int .i64 1,.hn]]) ?_ (fin0 _);simp[S185,K185_0,K185_1,K185_2,sb,tN,B1,B2,r9,B3,B4,fa0,hop,sc,sd,bJ,dX,h0,h1,AQ];rfl
     all_goals
      refine bC (v:=.tup [.agg [.int .i64 1,.hn],.int .i64 0]) (h':=[[.int .i64 1,.hn]]) ?_ (fin 1);simp[S185,K185_0,K185_1,K185_2,sb,tN,B1,B2,r9,B3,B4,fa0,hop,sc,sd,bJ,dX,h0,h1,AQ];rfl
    ·by_cases o8:e.op=8\/e.op=9\/e.op=10
     ·have ep:bZ e l=if gY 1 l=true then some (.mk 1 [])else none:=by unfold bZ;rw[if_neg o3,if_neg (by omega),if_neg hop6,if_neg hop7,GR o8]
      rw[ep];cases hb:gY 1 l with
      |true=>
       rw[hb]at h1;refine bC (v:=.tup [.agg [.int .i64 1,.hn],.int .i64 0]) (h':=[[.int .i64 1,.hn]]) ?_ (fin 1);rcases o8 with hop|hop|hop<;>simp[S185,K185_0,K185_1,K185_2,sb,tN,B1,B2,r9,B3,B4,fa0,hop,sc,sd,bJ,dX,h0,h1,AQ]<;>rfl
      |false=>
       rw[hb]at h1;refine bC (v:=.tup [ty0.av,.int .i64 13]) (h':=[[.int .i64 1,.hn]]) ?_ (fin0 _);rcases o8 with hop|hop|hop<;>simp[S185,K185_0,K185_1,K185_2,sb,tN,B1,B2,r9,B3,B4,fa0,hop,sc,sd,bJ,dX,h0,h1,AQ]<;>rfl
     ·by_cases hop11:e.op=11
      ·have hop:=hop11;have ep:bZ e l=(match qu l[1]! l[2]! with|some t=>if l[0]!.kind=1 then some t else none|none=>none):=by unfold bZ;rw[if_neg o3,if_neg (by omega),if_neg hop6,if_neg hop7,if_neg o8,GR hop11];rfl
       rw[ep];obtain⟨a,b,c,rfl⟩:∃a b c,l=[a,b,c]:=by
        have:=h11 hop
        match l,this with
        |[a,b,c],_=>exact⟨a,b,c,rfl⟩
       have i0:ak T 54 (dS [a,b,c]) (.int .i64 0)=some (.ip (ab a.av)):=lV (l:=[a,b,c]) (n:=0) (by omega) (by simp);have i1:ak T 54 (dS [a,b,c]) (.int .i64 1)=some (.ip (ab b.av)):=lV (l:=[a,b,c]) (n:=1) (by omega) (by simp);have i2:ak T 54 (dS [a,b,c]) (.int .i64 2)=some (.ip (ab c.av)):=lV (l:=[a,b,c]) (n:=2) (by omega) (by simp);have hu:=t232 b c (hl b (by simp)) (hl c (by simp));show aH _=M.pure (match (match qu b c with|some t=>if a.kind=1 then some t else none|none=>none)with|some t=>.tup [t.av,.int .i64 0]|none=>.tup [ty0.av,.int .i64 13]);cases hub:qu b c with
       |none=>
        rw[hub]at hu;refine bC (v:=.tup [ty0.av,.int .i64 13]) (h':=[[.int .i64 0,.sl []]]) ?_ (fin0 _);simp[S185,K185_0,K185_1,K185_2,sb,tN,B1,B2,r9,B3,B4,fa0,hop,sc,sd,bJ,dX,h0,h1,i0,i1,i2,hu,hub,Dm,yO];rfl
       | some u=>
        rw[hub]at hu;by_cases hk:a.kind=1
        ·dsimp only;rw[GR hk];have hk':(a.kind== 1)=true:=Hy.2 hk;refine bC (v:=.tup [.agg [.int .i64 u.kind,aB u.fields],.int .i64 0]) (h':=[[.int .i64 u.kind,aB u.fields]]) ?_ (fins _ u);simp[S185,K185_0,K185_1,K185_2,sb,tN,B1,B2,r9,B3,B4,fa0,hop,sc,sd,bJ,dX,h0,h1,i0,i1,i2,hu,hub,Dm,hk',cnt];rfl
        ·dsimp only;rw[if_neg hk];have hk':(a.kind== 1)=false:=GX.2 hk;refine bC (v:=.tup [ty0.av,.int .i64 13]) (h':=[[.int .i64 u.kind,aB u.fields]]) ?_ (fin0 _);simp[S185,K185_0,K185_1,K185_2,sb,tN,B1,B2,r9,B3,B4,fa0,hop,sc,sd,bJ,dX,h0,h1,i0,i1,i2,hu,hub,Dm,hk'];rfl
      ·by_cases hop13:e.op=13
       ·have hop:=hop13;have ep:bZ e l=some (.mk 2 (e.names.zip l)):=by unfold bZ;rw[if_neg o3,if_neg (by omega),if_neg hop6,if_neg hop7,if_neg o8,if_neg hop11,GR hop13]
        rw[ep];obtain⟨v,h',e1,e2⟩:=zS e l (.int .i64 0) (.sl []) hlen (h13 hop) l.length 0 [[.int .i64 2,.hn]] rfl (Hi _) (.inl ⟨rfl,rfl⟩);refine bC (v:=v) (h':=h') ?_ e2;have e1':aj (L185_0 (ai pg) aj (K185_0 (ai pg) aj)) [.ip (ab e.av),.hp 0 0,.bool true,dS l,.int .i64 l.length,.int .i64 0,.int .i64 0,.sl []] [[.int .i64 2,.hn]]= .ok v h':=e1;rw[bA,hop]at e1';simp[S185,K185_1,K185_2,sb,B1,r9,B3,fa0,hop,dX,AQ];exact e1'
       ·by_cases hop14:e.op=14
        ·have hop:=hop14;have ep:bZ e l=(match bz (fun z=>z.1== e.s) l[0]!.fields with|some z=>some z.2|none=>none):=by unfold bZ;rw[if_neg o3,if_neg (by omega),if_neg hop6,if_neg hop7,if_neg o8,if_neg hop11,if_neg hop13,GR hop14];rfl
         rw[ep];obtain⟨a,rfl⟩:∃a,l=[a]:=by
          have:=h14 hop
          match l,this with
          |[a],_=>exact⟨a,rfl⟩
         have i0:ak T 54 (dS [a]) (.int .i64 0)=some (.ip (ab a.av)):=lV (l:=[a]) (n:=0) (by omega) (by simp);have hk:=t181 a.fields (hl a (by simp)).len e.s;show aH _=M.pure (match (match bz (fun z=>z.1== e.s) a.fields with|some z=>some z.2|none=>none)with|some t=>.tup [t.av,.int .i64 0]|none=>.tup [ty0.av,.int .i64 13]);cases hz:bz (fun z:bN=>z.1== e.s) a.fields with
         |none=>
          rw[hz]at hk;refine bC (v:=.tup [ty0.av,.int .i64 13]) (h':=[[.int .i64 0,.sl []]]) ?_ (fin0 _);simp[S185,K185_0,K185_1,K185_2,sb,tN,B1,B2,r9,B3,B4,fa0,hop,sc,sd,bJ,dX,h0,h1,i0,hk,Dm,yO];rfl
         |some z=>
          rw[hz]at hk;refine bC (v:=.tup [.agg [.int .i64 z.2.kind,aB z.2.fields],.int .i64 0]) (h':=[[.int .i64 z.2.kind,aB z.2.fields]]) ?_ (fins _ z.2);simp[S185,K185_0,K185_1,K185_2,sb,tN,B1,B2,r9,B3,B4,fa0,hop,sc,sd,bJ,dX,h0,h1,i0,hk,Dm,cnt];rfl
        ·have ep:bZ e l=some (.mk 0 []):=by unfold bZ;rw[if_neg o3,if_neg (by omega),if_neg hop6,if_neg hop7,if_neg o8,if_neg hop11,if_neg hop13,if_neg hop14]
         rw[ep];refine bC (v:=.tup [.agg [.int .i64 0,.hn],.int .i64 0]) (h':=[[.int .i64 0,.hn]]) ?_ (fin 0);have n3:(e.op== 3)=false:=GX.2 (by omega);have n4:(e.op== 4)=false:=GX.2 (by omega);have n5:(e.op== 5)=false:=GX.2 (by omega);have n16:(e.op== 16)=false:=GX.2 (by omega);have n1:(e.op== 1)=false:=GX.2 (by omega);have n6:(e.op== 6)=false:=GX.2 (by omega);have n7:(e.op== 7)=false:=GX.2 (by omega);have n8:(e.op== 8)=false:=GX.2 (by omega);have n9:(e.op== 9)=false:=GX.2 (by omega);have n10:(e.op== 10)=false:=GX.2 (by omega);have n11:(e.op== 11)=false:=GX.2 (by omega);have n13:(e.op== 13)=false:=GX.2 (by omega);have n14:(e.op== 14)=false:=GX.2 (by omega);simp[S185,K185_0,K185_1,K185_2,sb,B1,r9,B4,sc,n3,n4,n5,n16,n1,n6,n7,n8,n9,n10,n11,n13,n14];rfl
def yv(f:AV)(F:Fun->Bool)(l:List Fun)(hb:l.length<=4611686018427387904)(hf:∀x∈l,bJ (ai pg) f [Fun.av x]=M.pure (.bool (F x))):∀(n:Nat)(i:Int),l.length-i.toNat=n->0<=i->i<=l.length->
  aj (L253_0 (ai pg) aj) [fV l,f,.int .i64 l.length,.int .i64 i]=M.pure (.int .i64 (bY F (l.drop i.toNat) i)):=by
 intro n
 induction n with
 |zero=>
  intro i hn hi hl;rw[FL253_0];simp only[L253_0];have h1:¬(i<(l.length:Int)):=by omega
  have h2:l.drop i.toNat=[]:=G6 (by omega);simp[h1,h2,bY]
 |succ n ih=>
  intro i hn hi hl;have h1:i<(l.length:Int):=by omega
  have hlt:i.toNat<l.length:=by omega
  have h2:bY F (l.drop i.toNat) i=if F l[i.toNat]=true then i else bY F (l.drop (i.toNat+1)) (i+1):=by rw[G2 hlt];rfl
  have h3:=hf l[i.toNat] (GY hlt);have h4:=ih (i+1) (by omega) (by omega) (by omega);rw[show (i+1).toNat=i.toNat+1 by omega]at h4;rw[FL253_0];simp only[L253_0];simp (disch:=omega) [h1,ff,y6,h3,h2];cases F l[i.toNat]
  ·simpa using h4
  ·simp
def Gc(f:AV)(F:Fun->Bool)(l:List Fun)(hb:l.length<=4611686018427387904)(hc:∀g,cl g f=f)(hf:∀x∈l,bJ (ai pg) f [Fun.av x]=M.pure (.bool (F x))):ai pg 253 [fV l,f]=M.pure (.int .i64 (bY F l 0)):=by
 rw[C253];simp[S253,hc,yv f F l hb hf l.length 0 rfl (by omega) (by omega)]
def yu(s:bn)(l:List bn)(hb:l.length<=4611686018427387904):∀(n:Nat)(i:Int),l.length-i.toNat=n->0<=i->i<=l.length->
  aj (L238_0 (ai pg) aj) [strs l,.str s,.int .i64 l.length,.int .i64 i]=M.pure (.int .i64 (bY (fun x=>s== x) (l.drop i.toNat) i)):=by
 intro n
 induction n with
 |zero=>
  intro i hn hi hl;rw[FL238_0];simp only[L238_0];have h1:¬(i<(l.length:Int)):=by omega
  have h2:l.drop i.toNat=[]:=G6 (by omega);simp[h1,h2,bY]
 | succ n ih=>
  intro i hn hi hl;have h1:i<(l.length:Int):=by omega
  have hlt:i.toNat<l.length:=by omega
  have h2:bY (fun x=>s== x) (l.drop i.toNat) i=if(s== l[i.toNat])=true then i else bY (fun x=>s== x) (l.drop (i.toNat+1)) (i+1):=by rw[G2 hlt];rfl
  have h4:=ih (i+1) (by omega) (by omega) (by omega);rw[show (i+1).toNat=i.toNat+1 by omega]at h4;rw[FL238_0,h2];simp only[L238_0];have hix:=uD (l:=l) (n:=i) hi h1;rw[Hd l i.toNat hlt]at hix;generalize l[i.toNat]=x at hix |-;cases hx:s== x
  ·have hw:IntKind.i64.wrap (i+1)=i+1:=ff (by omega) (by omega);simp only[aZ,be,bF,aF,h1,HF,aR,Hn,hix,eI,LD9,iT,hx,Hl,HL,dF,hw,h4]
  ·simp only[aZ,be,bF,aF,h1,HF,aR,Hn,hix,eI,LD9,iT,hx]
def Gb(s:bn)(l:List bn)(hb:l.length<=4611686018427387904):ai pg 238 [strs l,.str s]=M.pure (.int .i64 (bY (fun x=>s== x) l 0)):=by
 have h:=yu s l hb l.length 0 rfl (by omega) (by omega);rw[C238];have h':aj (L238_0 (ai pg) aj) [strs l,.str s,.int .i64 l.length,.int .i64 0]=M.pure (.int .i64 (bY (fun x=>s== x) l 0)):=h;simp only[S238,tS,mu,vX,aF,h',rq]
def Gf(s:bn)(l:List bn)(hb:l.length<=4611686018427387904):ai pg 256 [strs l,.str s]=M.pure (.bool (l.contains s)):=by
 rw[C256];have e:l.any (fun x=>s== x)=l.contains s:=by rw[List.contains_eq_any_beq]
 simp only[S256,tS,mu,Gb s l hb,aK,px,aF,kK,e,eQ]
def aT(m:Ap.Mod)(mp:AV)(n:Int):List AV:=[.str m.name,strs m.uses,aB m.vars,bO m.init,fV m.funcs,.bool m.moves,aB m.old,bO m.forward,bO m.back,mp,.int .i64 n]
def bM(fs:List Face):List AV:=fs.map fun f=>.tup [.str f.module,f.av]
def Gh(h:Hp)(mp:AV)(fs:List Face):Prop:=(mp= .nilm/\fs=[])\/∃l,mp= .mp l/\h[l]? = some [.tup (bM fs)]
structure JR (h:Hp) (q:Nat) (m:Ap.Mod) (mp:AV) (fs:List Face) (n:Int):Prop where
 row:h[q]? = some (aT m mp n)
 map:Gh h mp fs
 ne:mp≠.mp q
def JR.set{h:Hp}{q:Nat}{m:Ap.Mod}{mp:AV}{fs:List Face}{n:Int}(R:JR h q m mp fs n)(n':Int):JR (h.set q (aT m mp n')) q m mp fs n':=by
 have hl:=(Hc.1 R.row).1;refine⟨H6 hl,?_,R.ne⟩;rcases R.map with h1|⟨l,h1,h2⟩
 ·exact .inl h1
 ·refine .inr ⟨l,h1,?_⟩;rw[Io (fun e=>R.ne (by rw[h1,e]))];exact h2
def JR.same{h:Hp}{q:Nat}{m:Ap.Mod}{mp:AV}{fs:List Face}{n:Int}(R:JR h q m mp fs n):h.set q (aT m mp n)=h:=by
 obtain⟨hl,e⟩:=Hc.1 R.row;rw[<- e];exact IK hl
def GA{h:Hp}{q:Nat}{m:Ap.Mod}{mp:AV}(a b:Int):(h.set q (aT m mp a)).set q (aT m mp b)=h.set q (aT m mp b):=List.set_set ..
def JR.vars{h:Hp}{q:Nat}{m:Ap.Mod}{mp:AV}{fs:List Face}{n:Int}(R:JR h q m mp fs n):bi T 25 (.hp q 2) h= .ok (aB m.vars) h:=jk rfl rfl R.row rfl
def JR.funcs{h:Hp}{q:Nat}{m:Ap.Mod}{mp:AV}{fs:List Face}{n:Int}(R:JR h q m mp fs n):bi T 37 (.hp q 4) h= .ok (fV m.funcs) h:=jk rfl rfl R.row rfl
def JR.uses{h:Hp}{q:Nat}{m:Ap.Mod}{mp:AV}{fs:List Face}{n:Int}(R:JR h q m mp fs n):bi T 35 (.hp q 1) h= .ok (strs m.uses) h:=jk rfl rfl R.row rfl
def JR.mp{h:Hp}{q:Nat}{m:Ap.Mod}{mp:AV}{fs:List Face}{n:Int}(R:JR h q m mp fs n):bi T 139 (.hp q 9) h= .ok mp h:=jk rfl rfl R.row rfl
def JR.eff{h:Hp}{q:Nat}{m:Ap.Mod}{mp:AV}{fs:List Face}{n:Int}(R:JR h q m mp fs n):bi T 3 (.hp q 10) h= .ok (.int .i64 n) h:=jk rfl rfl R.row rfl
def JR.put{h:Hp}{q:Nat}{m:Ap.Mod}{mp:AV}{fs:List Face}{n:Int}(R:JR h q m mp fs n)(n':Int):bI T 3 (.hp q 10) (.int .i64 n') h= .ok (.tup []) (h.set q (aT m mp n')):=
 qg (T:=T) (t:=3) rfl (v:=.int .i64 n') R.row rfl (show 10+1<=11 by omega) (by decide)
theorem Gu(a b:bn):uY T 20 9 (.str a) (.str b)=some (a== b):=rfl
theorem mH(s:bn):(fs:List Face)->(i:Nat)->(fs.find? (fun f=>f.module== s)=none/\dU T 9 (.str s) (bM fs) i=some none)\/∃f j k,fs.find? (fun f=>f.module== s)=some f/\dU T 9 (.str s) (bM fs) i=some (some (j,k,f.av))
 |[],i=>.inl ⟨rfl,rfl⟩
 |x:: fs,i=>by
  show (_/\dU T 9 (.str s) (.tup [.str x.module,x.av]:: bM fs) i=_)\/∃f j k,_/\dU T 9 (.str s) (.tup [.str x.module,x.av]:: bM fs) i=_;unfold dU;rw[Gu,List.find?_cons];have hc:(s== x.module)=(x.module== s):=Ij.2 ⟨fun h=>Hy.2 (Hy.1 h).symm,fun h=>Hy.2 (Hy.1 h).symm⟩;rw[hc];cases hx:x.module== s with
  |true=>exact .inr ⟨x,i,.str x.module,rfl,rfl⟩
  |false=>exact mH s fs (i+1)
def kQ{h:Hp}{mp:AV}{fs:List Face}(M:Gh h mp fs)(s:bn):dN T 139 mp (.str s) true h= .ok (.tup [((fs.find? fun f=>f.module== s).getD jN).av,.bool (fs.find? fun f=>f.module== s).isSome]) h:=by
 have e:∀es:List AV,lE T 139 es (.str s) true=(match dU T 9 (.str s) es 0 with
   |some (some (_,_,v))=>some (.tup [v,.bool true])
   |some none=>some (.tup [jN.av,.bool false])
   |none=>none):=fun es=>rfl
 rcases M with⟨rfl,rfl⟩|⟨l,rfl,hl⟩
 ·unfold dN ij;simp only;rw[e];rfl
 ·unfold dN ij;simp only[hl];rw[e];rcases mH s fs 0 with⟨h1,h2⟩|⟨f,j,k,h1,h2⟩
  ·rw[h1,h2];rfl
  ·rw[h1,h2];rfl
def Gd(f:Fun)(e:Exp):ai pg 254 [f.av,.ip (ab e.av)]=M.pure (.bool (f.name== e.s)):=by
 rw[C254];simp[S254,cl,c5]
def Ge(f:Sig)(e:Exp):ai pg 255 [f.av,.ip (ab e.av)]=M.pure (.bool (f.name== e.s)):=by
 rw[C255];simp[S255,cl,c5]
structure CxOk (m:Ap.Mod) (fs:List Face):Prop where
 vlen:m.vars.length<=1000000
 vars:∀z∈m.vars,aX z.2=true
 flen:m.funcs.length<=1000000
 ulen:m.uses.length<=1000000
 plen:∀f∈m.funcs,f.params.length<=1000000
 pars:∀f∈m.funcs,∀z∈f.params,aX z.2=true
 res:∀f∈m.funcs,aX f.result=true
 slen:∀f∈fs,f.funcs.length<=140737488355328
 splen:∀f∈fs,∀s∈f.funcs,s.params.length<=140737488355328
 spars:∀f∈fs,∀s∈f.funcs,∀t∈s.params,aX t=true
 sres:∀f∈fs,∀s∈f.funcs,aX s.result=true
def vP:Sig:=⟨[],[],ty0,0⟩
def nU(l:List bN)(hl:l.length<=1000000)(x3 x4 x5 x6 x7:AV)(k:Int)(fs:List bN)(e:Int):∀(n i:Nat)(acc:List Ty),l.length-i=n->i<=l.length->acc.length<=i->
  aj (L229_0 (ai pg) aj) [aB l,.int .i64 l.length,.int .i64 i,x3,x4,x5,x6,x7,.str [],dS acc,.int .i64 k,aB fs,.int .i64 e]=M.pure (.tup [(Sig.mk [] (acc++(l.drop i).map (·.2)) (.mk k fs) e).av,.bool true]):=by
 intro n
 induction n with
 |zero=>
  intro i acc hn hi ha;have h1:¬((i:Int)<(l.length:Int)):=by omega
  have h2:l.drop i=[]:=G6 (by omega);have h3:ao 5 [] (.agg [.str [],dS acc,.int .i64 k,aB fs,.int .i64 e])=M.pure (.agg [.str [],dS acc,.int .i64 k,aB fs,.int .i64 e]):=aM rfl;rw[FL229_0,h2];simp[L229_0,h1,h3];rfl
 |succ n ih=>
  intro i acc hn hi ha;have hlt:i<l.length:=by omega
  have h1:(i:Int)<(l.length:Int):=by omega
  have h2:l.drop i=l[i]:: l.drop (i+1):=G2 hlt;have hw:IntKind.i64.wrap ((i:Int)+1)=(i:Int)+1:=aS (by omega);have hix:=lU (l:=l) (n:=(i:Int)) (by omega) h1;rw[GZ,Hd l i hlt]at hix;have ih2:∀acc:List Ty,acc.length<=i+1->aj (L229_0 (ai pg) aj) [aB l,.int .i64 l.length,.int .i64 ((i:Int)+1),x3,x4,x5,x6,x7,.str [],dS acc,.int .i64 k,aB fs,.int .i64 e]=M.pure (.tup [(Sig.mk [] (acc++(l.drop (i+1)).map (·.2)) (.mk k fs) e).av,.bool true]):=fun acc ha=>ih (i+1) acc (by omega) (by omega) ha;have ih':=ih2 (acc++[l[i].2]) (by simp;omega);have hap:=Dl (a:=acc) (b:=[l[i].2]) (by simp;omega);rw[FL229_0,h2];generalize l[i]=f at hix hap ih' |-;have hsl:aJ T 54 1 [(0,f.2.av)]=some (dS [f.2]):=by cases f.2;rfl
  have hc1:∀l:List Ty,bK (dS l)=M.pure (dS l):=fun l=>rfl;simp[L229_0,h1,hix,hsl,hap,hc1,hw,ih']
theorem Ga{h:Hp}{q:Nat}{m:Ap.Mod}{mp:AV}{fs:List Face}{n:Int}(R:JR h q m mp fs n)(K:CxOk m fs)(e:Exp):∃r,ai pg 229 [.hp q 0,e.av] h= .ok r h/\(match cO (c7 m fs) e with
  |none=>r= .tup [vP.av,.bool false]
  |some s=>∃nm,r= .tup [(Sig.mk nm s.1 s.2.1 s.2.2).av,.bool true]):=by
 have bs0:aN T false 56 []=some vP.av:=rfl;have bs1:∀(k:Int)(x:List bN)(f:Int),aN T true 56 [(2,(Ty.mk k x).av),(3,.int .i64 f)]=some (.agg [.str [],.hn,.int .i64 k,aB x,.int .i64 f]):=fun k x f=>rfl;have bs2:∀(k:Int)(x:List bN)(f:Int),ao 5 [1] (.agg [.str [],.hn,.int .i64 k,aB x,.int .i64 f])=M.pure (.agg [.str [],.hn,.int .i64 k,aB x,.int .i64 f]):=fun k x f=>rfl;have nc:ck (.hp q 0)=some (.hp q 0):=rfl;rw[C229];by_cases hm:e.m=[]
 ·have hm':(e.m== [])=true:=Hy.2 hm;have h1:=Gc (.fn (.func 254) [] [.ip (ab e.av)]) (fun f=>f.name== e.s) m.funcs (by have:=K.flen;omega) (fun g=>by simp[cl,c5]) (fun f _=>Gd f e);simp only[bA]at h1;have l1:∀f:AV->M AV,ae (bi T 37 (.hp q 4)) f h=f (fV m.funcs) h:=fun f=>aE R.funcs f;unfold cO;rw[GR hm];simp only[c7];rcases gE (fun f:Fun=>f.name== e.s) m.funcs 0 with⟨h2,h3⟩|⟨k,f,h2,h3,h4⟩
  ·rw[h3]at h1;rw[h2];refine⟨_,?_,rfl⟩;simp[S229,hm',l1,h1,bs0];rfl
  ·rw[Int.zero_add]at h4;rw[h4]at h1;rw[h2];have hk:=(Hc.1 h3).1;have hix:=y6 (l:=m.funcs) (n:=(k:Int)) (by omega) (by omega);rw[GZ,Ic,h3,Jv]at hix;have hneg:¬((k:Int)<0):=by omega
   have hmem:=HW h3;have hlp:=nU f.params (K.plen f hmem) (.str []) (.sl []) (.int .i64 0) (.sl []) (.int .i64 0) f.result.kind f.result.fields f.effects f.params.length 0 [] rfl (Hi _) (Hi _);have hlp':aj (L229_0 (ai pg) aj) [aB f.params,.int .i64 f.params.length,.int .i64 0,.str [],.sl [],.int .i64 0,.sl [],.int .i64 0,.str [],.sl [],.int .i64 f.result.kind,aB f.result.fields,.int .i64 f.effects]=M.pure (.tup [(Sig.mk [] (f.params.map (·.2)) f.result f.effects).av,.bool true]):=by
    rw[Ty.eta]at hlp;exact hlp
   have bs1':aN T true 56 [(2,f.result.av),(3,.int .i64 f.effects)]=some (.agg [.str [],.hn,.int .i64 f.result.kind,aB f.result.fields,.int .i64 f.effects]):=by
    rw[<- Ty.eta f.result];rfl
   refine⟨_,?_,[],rfl⟩;simp[S229,hm',l1,h1,hneg,hix,bs1',bs2,hlp'];rfl
 ·have hm':(e.m== [])=false:=GX.2 hm;have l1:∀f:AV->M AV,ae (bi T 139 (.hp q 9)) f h=f mp h:=fun f=>aE R.mp f;have l2:∀f:AV->M AV,ae (dN T 139 mp (.str e.m) true) f h=f (.tup [((fs.find? fun f=>f.module== e.m).getD jN).av,.bool (fs.find? fun f=>f.module== e.m).isSome]) h:=fun f=>aE (kQ R.map e.m) f;have l4:∀(g:AV->M (List AV))(f:List AV->M AV),ae (ae (bi T 35 (.hp q 1)) g) f h=ae (g (strs m.uses)) f h:=fun g f=>by simp only[ae,R.uses]
  have cmf:∀f:Face,aC 2 f.av=M.pure f.av:=fun f=>by rw[bG (kT f),cz,gg]
  have hct:=Gf e.m m.uses (by have:=K.ulen;omega);cases hf:fs.find? (fun f=>f.module== e.m)with
  | none=>
   rw[hf]at l2;have hix:=t101 (.fn (.func 255) [] [.ip (ab e.av)]) (fun f=>f.name== e.s) jN.funcs (by simp[jN]) (fun g=>by simp[cl,c5]) (fun f hf=>by cases hf);have hix':ai pg 101 [sigs jN.funcs,.fn (.func 255) [] [.ip [.int .i64 e.op,.int .i64 e.n,.str e.s,.str e.m,strs e.names,bO e.args]]]=M.pure (.int .i64 (-1)):=by
    have:=hix
    simp only[bA]at this;exact this
   have z1:aC 2 jN.av=M.pure (.agg [.str [],.sl []]):=rfl;have ec:cO (c7 m fs) e=none:=by simp[cO,c7,hm,hf]
   rw[ec];refine⟨_,?_,rfl⟩;simp[S229,hm',l1,l2,z1,hix',bs0];rfl
  | some f=>
   rw[hf]at l2;have hfm:=HH hf;have h1:=t101 (.fn (.func 255) [] [.ip (ab e.av)]) (fun f=>f.name== e.s) f.funcs (by have:=K.slen f hfm;omega) (fun g=>by simp[cl,c5]) (fun f _=>Ge f e);simp only[bA]at h1;rcases gE (fun f:Sig=>f.name== e.s) f.funcs 0 with⟨h2,h3⟩|⟨k,s,h2,h3,h4⟩
   ·rw[h3]at h1;have ec:cO (c7 m fs) e=none:=by simp[cO,c7,hm,hf,h2]
    rw[ec];refine⟨_,?_,rfl⟩;simp[S229,hm',l1,l2,cmf,h1,bs0];rfl
   ·rw[Int.zero_add]at h4;rw[h4]at h1;have hk:=(Hc.1 h3).1;have hix:=qw (l:=f.funcs) (n:=(k:Int)) (by omega) (by omega);rw[GZ,Ic,h3,Jv]at hix;have hneg:¬((k:Int)<0):=by omega
    by_cases hu:e.m∈m.uses
    case neg=>
     have hu':m.uses.contains e.m=false:=by rw[<- Is,IM];exact hu
     rw[hu']at hct;have ec:cO (c7 m fs) e=none:=by simp[cO,c7,hm,hf,h2,hu]
     rw[ec];refine⟨_,?_,rfl⟩;simp[S229,hm',l1,l2,l4,cmf,h1,hneg,hct,bs0];rfl
    case pos=>
     rw[IM.2 hu]at hct;have ec:cO (c7 m fs) e=some (s.params,s.result,s.effects):=by simp[cO,c7,hm,hf,h2,hu]
     rw[ec];have sd:ao 5 [] s.av=M.pure s.av:=gz s;refine⟨_,?_,s.name,rfl⟩;simp[S229,hm',l1,l2,l4,cmf,h1,hneg,hct,hix,sd];rfl
theorem xH(k:Int)(es:List Exp):aN T false 47 [(0,.int .i64 k),(5,bO es)]=some (Exp.mk k 0 [] [] [] es).av:=rfl
def pE(e:Exp):aC 6 e.av=M.pure e.av:=by rw[bG (fR _),bA,c8]
def xy(e:Exp):ao 6 [] e.av=M.pure e.av:=by rw[aM (fR _),bA,c8]
def f6(o n:Int)(s m:bn)(ns:List bn)(es:List Exp):AV.agg [.int .i64 o,.int .i64 n,.str s,.str m,strs ns,bO es]=(Exp.mk o n s m ns es).av:=c8 (Exp.mk o n s m ns es)
def Gi(o n:Int)(s m:bn)(es:List Exp):AV.agg [.int .i64 o,.int .i64 n,.str s,.str m,.sl [],bO es]=(Exp.mk o n s m [] es).av:=c8 (Exp.mk o n s m [] es)
def t7(e:Exp)(n:Int):aH (M.pure (.tup [e.av,.int .i64 n]))=M.pure (.tup [e.av,.int .i64 n]):=bH fun g=>by simp[cl,c5]
def bT(o n:Int)(s m:bn)(ns:List bn)(es:List Exp):ab (Exp.mk o n s m ns es).av=[.int .i64 o,.int .i64 n,.str s,.str m,strs ns,bO es]:=bA _
def t226(e:Exp):ai pg 226 [e.av]=M.pure (.tup [(dP e).1.av,.int .i64 (dP e).2]):=by
 have hc1:∀n:Int,bK (.int .i64 n)=M.pure (.int .i64 n):=fun n=>rfl;have hc2:∀s:bn,bK (.str s)=M.pure (.str s):=fun s=>rfl;have hc3:∀s:List bn,bK (strs s)=M.pure (strs s):=fun s=>rfl;rw[C226];obtain⟨o,n,s,m,ns,es⟩:=e;have ho:o=0\/o=1\/o=2\/o=17\/o=18\/o=14\/o=16\/o=10\/o=12\/o=11\/o=13\/o=15\/(o≠0/\o≠1/\o≠2/\o≠17/\o≠18/\o≠14/\o≠16/\o≠10/\o≠12/\o≠11/\o≠13/\o≠15):=by omega
 rcases ho with rfl|rfl|rfl|rfl|rfl|rfl|rfl|rfl|rfl|rfl|rfl|rfl|⟨h0,h1,h2,h17,h18,h14,h16,h10,h12,h11,h13,h15⟩
 all_goals first
  | (simp[S226,K226_0,K226_1,K226_2,xH,xy,bT,f6,Gi,hc1,hc2,hc3,dP,Exp.op,Exp.n,Exp.s,Exp.m,Exp.names,Exp.args]
     exact t7 _ _)
  | (simp[S226,K226_0,K226_1,K226_2,xH,xy,bT,f6,Gi,hc1,hc2,hc3,dP,Exp.op,Exp.n,Exp.s,Exp.m,Exp.names,Exp.args,h0,h1,h2,h17,h18,h14,h16,h10,h12,h11,h13,h15]
     exact t7 _ _)
theorem yf(e:Exp)(he:e.Lim):aj (L227_0 (ai pg) aj) [.ip (ab e.av),strs e.names,.int .i64 e.names.length,.int .i64 0]=M.pure (.bool (m8 e.names)):=by
 have hlen:=he.names
 have hloop:∀(m i:Nat),e.names.length-i=m->i<=e.names.length->aj (L227_0 (ai pg) aj) [.ip (ab e.av),strs e.names,.int .i64 e.names.length,.int .i64 i]=M.pure (.bool ((List.range' i (e.names.length-i)).all (fun k=>bE e.names[k]! && (decide (k=0)||df e.names[k-1]! e.names[k]!))&&decide (e.names.length<=8))):=by
  intro m
  induction m with
  |zero=>
   intro i hm hi;rw[FL227_0,hm];have h1:¬((i:Int)<(e.names.length:Int)):=by omega
   have h2:decide ((e.names.length:Int)<=8)=decide (e.names.length<=8):=by rw[H7];omega
   simp[L227_0,h1,h2]
  | succ m ih=>
   intro i hm hi;have hlt:i<e.names.length:=by omega
   have h1:(i:Int)<(e.names.length:Int):=by omega
   have ih':=ih (i+1) (by omega) (by omega);have er:List.range' i (e.names.length-i)=i:: List.range' (i+1) (e.names.length-(i+1)):=by
    rw[show e.names.length-i=(e.names.length-(i+1))+1 by omega,I7]
   have hix:=uD (l:=e.names) (n:=(i:Int)) (by omega) h1;rw[GZ]at hix;have hw:IntKind.i64.wrap ((i:Int)+1)=((i+1:Nat):Int):=aS (by omega);have h2:=t76 e.names[i]!;rw[FL227_0,er,HY];generalize e.names[i]! = s at hix h2 |-;cases hn:bE s with
   |false=>
    rw[hn]at h2;simp[L227_0,h1,hix,h2]
   | true=>
    rw[hn]at h2;rcases HD i with hk0|hk0
    ·subst hk0;have hix0:ak T 35 (strs e.names) (.int .i64 0)=some (.ip (ab (.str s))):=hix;have hw0:IntKind.i64.wrap 1=1:=rfl;have hlt':0<e.names.length:=hlt;simpa [L227_0,h1,hlt',hix0,h2,hw0]using ih'
    ·have hp:IntKind.i64.wrap ((i:Int)-1)=((i-1:Nat):Int):=by
      rw[ff (by omega) (by omega)];omega
     have h4:((i-1:Nat):Int)<(e.names.length:Int):=by omega
     have hix2:=uD (l:=e.names) (n:=((i-1:Nat):Int)) (by omega) h4;rw[GZ]at hix2;generalize e.names[i-1]! = g at hix2 |-;have hk2:0<(i:Int):=by omega
     have hk3:¬i=0:=by omega
     have hle:am T .leq 9 (.str s) (.str g)=some (.bool (!(df g s))):=by
      have:am T .leq 9 (.str s) (.str g)=some (.bool (aU s g||s== g)):=rfl;rw[this];simp[df]
     cases hs:df g s with
     |false=>
      rw[hs]at hle;simp[L227_0,h1,hix,h2,hp,hix2,hk0,hk2,hk3,hle,-uA]
     |true=>
      rw[hs]at hle;simpa [L227_0,h1,hix,h2,hp,hix2,hk0,hk2,hk3,hle,hw,-uA]using ih'
 have h:=hloop e.names.length 0 rfl (Hi _);rw[I1,pt]at h;exact h
theorem t227(e:Exp)(he:e.Lim):ai pg 227 [e.av]=M.pure (.bool (dV e)):=by
 rw[C227];have hs:=t76 e.s;have hm:=t76 e.m;have hbn:=yf e he;obtain⟨o,n,s,m,ns,es⟩:=e;simp only[bT,Exp.names]at hbn;simp only[Exp.s,Exp.m]at hs hm;have ho:o=0\/o=1\/o=2\/o=17\/o=18\/o=14\/o=16\/o=12\/o=13\/o=15\/(o≠0/\o≠1/\o≠2/\o≠17/\o≠18/\o≠14/\o≠16/\o≠12/\o≠13/\o≠15):=by omega
 rcases ho with rfl|rfl|rfl|rfl|rfl|rfl|rfl|rfl|rfl|rfl|⟨h0,h1,h2,h17,h18,h14,h16,h12,h13,h15⟩
 ·simp[S227,K227_0,bT,dV,Exp.op,Exp.n,Exp.s,Exp.m,Exp.names,Exp.args];rfl
 ·simp[S227,K227_0,bT,dV,Exp.op,Exp.n,Exp.s,Exp.m,Exp.names,Exp.args]
 ·simp[S227,K227_0,bT,dV,Exp.op,Exp.n,Exp.s,Exp.m,Exp.names,Exp.args,hs]
 ·simp[S227,K227_0,bT,dV,Exp.op,Exp.n,Exp.s,Exp.m,Exp.names,Exp.args,hs]
 ·simp[S227,K227_0,bT,dV,Exp.op,Exp.n,Exp.s,Exp.m,Exp.names,Exp.args,hs]
 ·simp[S227,K227_0,bT,dV,Exp.op,Exp.n,Exp.s,Exp.m,Exp.names,Exp.args,hs]
 ·simp[S227,K227_0,bT,dV,Exp.op,Exp.n,Exp.s,Exp.m,Exp.names,Exp.args]
 ·simp[S227,K227_0,bT,dV,Exp.op,Exp.n,Exp.s,Exp.m,Exp.names,Exp.args,hs]
 ·simp[S227,K227_0,bT,dV,Exp.op,Exp.n,Exp.s,Exp.m,Exp.names,Exp.args,hbn]
 ·have e6:am T .leq 3 (.int .i64 es.length) (.int .i64 6)=some (.bool (decide (es.length<=6))):=by
   have:am T .leq 3 (.int .i64 es.length) (.int .i64 6)=some (.bool (decide ((es.length:Int)<=6))):=rfl;rw[this];exact GW (fun b=>some (AV.bool b)) (H7.2 (by omega))
  cases ha:bE s with
  |false=>rw[ha]at hs;simp[S227,K227_0,bT,dV,Exp.op,Exp.n,Exp.s,Exp.m,Exp.names,Exp.args,hs,ha]
  | true=>
   rw[ha]at hs;by_cases hme:m=[]
   ·simp[S227,K227_0,bT,dV,Exp.op,Exp.n,Exp.s,Exp.m,Exp.names,Exp.args,hs,ha,hme,e6,-lZ];try rfl
   ·cases hb:bE m with
    |false=>rw[hb]at hm;simp[S227,K227_0,bT,dV,Exp.op,Exp.n,Exp.s,Exp.m,Exp.names,Exp.args,hs,hm,ha,hb,hme,e6,-lZ];try rfl
    |true=>rw[hb]at hm;simp[S227,K227_0,bT,dV,Exp.op,Exp.n,Exp.s,Exp.m,Exp.names,Exp.args,hs,hm,ha,hb,hme,e6,-lZ];try rfl
 ·simp[S227,K227_0,bT,dV,Exp.op,Exp.n,Exp.s,Exp.m,Exp.names,Exp.args,h0,h1,h2,h17,h18,h14,h16,h12,h13,h15]
theorem t178:∀(d:Nat),d<=100->∀(e:Exp),e.Lim->ai pg 178 [e.av,.int .i64 d]=M.pure (.bool (bQ d e))
 |0,_,e,_=>by
  rw[C178];simp[S178,bQ]
 | d+1,hd,e,he=>by
  have hlen:=he.len;have hd1:IntKind.i64.wrap (((d+1:Nat):Int)-1)=(d:Int):=pj (by omega);have hloop:∀(m i:Nat),e.args.length-i=m->i<=e.args.length->aj (L178_0 (ai pg) aj) [.int .i64 ((d+1:Nat):Int),bO e.args,.int .i64 e.args.length,.int .i64 i]=M.pure (.bool ((e.args.drop i).all (bQ d))):=by
   intro m
   induction m with
   |zero=>
    intro i hm hi;have h1:¬((i:Int)<(e.args.length:Int)):=by omega
    have h2:e.args.drop i=[]:=G6 (by omega);rw[FL178_0,h2];simp[L178_0,h1]
   |succ m ih=>
    intro i hm hi;have hlt:i<e.args.length:=by omega
    have h1:(i:Int)<(e.args.length:Int):=by omega
    have h2:e.args.drop i=e.args[i]:: e.args.drop (i+1):=G2 hlt;have hix:=pm (l:=e.args) (n:=(i:Int)) (by omega) h1;rw[GZ,Hd e.args i hlt]at hix;have hw:IntKind.i64.wrap ((i:Int)+1)=((i+1:Nat):Int):=aS (by omega);have hb:=t178 d (by omega) e.args[i] (he.kid (GY hlt));have ih':=ih (i+1) (by omega) (by omega);rw[h2,HY,FL178_0];generalize e.args[i]=x at hix hb |-;cases hr:bQ d x<;>rw[hr]at hb <;>
    simp only[L178_0,aZ,be,bF,aF,h1,HF,aR,Hn,hix,bA,LD47,G4,G8,G5,Nat.reduceAdd,GQ,He,Hq,c8,pE,aK,tO,hd1,hb,gP,I4,H8,Hl,HL,dF,hw,ih',I3,HM]
  have hx':aj (L178_0 (ai pg) aj) [.int .i64 ((d:Int)+1),bO e.args,.int .i64 e.args.length,.int .i64 0]=M.pure (.bool (e.args.all (bQ d))):=hloop e.args.length 0 rfl (Hi _);have hc:=t226 e;have hl:=t227 e he;rw[C178,dC];unfold jt;generalize (dP e).1=c at hc |-;generalize (dP e).2=n at hc |-;have g1:(((d:Int)+1)== 0)=false:=by rw[GX];omega
  have x0:ax (.tup [c.av,.int .i64 n]) 0=some c.av:=rfl;have x1:ax (.tup [c.av,.int .i64 n]) 1=some (.int .i64 n):=rfl;have e1:am T .neq 3 (.int .i64 c.n) (.int .i64 e.n)=some (.bool (!(c.n== e.n))):=rfl;have e2:am T .neq 9 (.str c.s) (.str e.s)=some (.bool (!(c.s== e.s))):=rfl;have e3:am T .neq 9 (.str c.m) (.str e.m)=some (.bool (!(c.m== e.m))):=rfl;have e4:am T .neq 3 (.int .i64 c.names.length) (.int .i64 e.names.length)=some (.bool (!((c.names.length:Int)== (e.names.length:Int)))):=rfl;have e5:am T .neq 3 (.int .i64 n) (.int .i64 e.args.length)=some (.bool (!(n== (e.args.length:Int)))):=rfl;have e6:am T .geq 3 (.int .i64 n) (.int .i64 0)=some (.bool (!(decide (n<0)))):=by
   have:am T .geq 3 (.int .i64 n) (.int .i64 0)=some (.bool (decide (0<=n))):=rfl;rw[this,<- decide_not];exact GW (fun b=>some (AV.bool b)) (H7.2 (by omega))
  have e7:am T .lss 3 (.int .i64 e.op) (.int .i64 0)=some (.bool (!(decide (0<=e.op)))):=by
   have:am T .lss 3 (.int .i64 e.op) (.int .i64 0)=some (.bool (decide (e.op<0))):=rfl;rw[this,<- decide_not];exact GW (fun b=>some (AV.bool b)) (H7.2 (by omega))
  have e8:am T .geq 3 (.int .i64 e.op) (.int .i64 19)=some (.bool (!(decide (e.op<19)))):=by
   have:am T .geq 3 (.int .i64 e.op) (.int .i64 19)=some (.bool (decide (19<=e.op))):=rfl;rw[this,<- decide_not];exact GW (fun b=>some (AV.bool b)) (H7.2 (by omega))
  generalize (c.n== e.n)=b1 at e1 |-;generalize (c.s== e.s)=b2 at e2 |-;generalize (c.m== e.m)=b3 at e3 |-;generalize ((c.names.length:Int)== (e.names.length:Int))=b4 at e4 |-;generalize (n== (e.args.length:Int))=b5 at e5 |-;generalize decide (n<0)=b6 at e6 |-;generalize decide (0<=e.op)=b7 at e7 |-;generalize decide (e.op<19)=b8 at e8 |-;generalize dV e=bl at hl |-;generalize e.args.all (bQ d)=bx at hx' |-;cases b7 with
  |false=>simp[S178,g1,e7,-bF]
  | true=>
   cases b8 with
   |false=>simp[S178,g1,e7,e8,-bF,-px]
   |true=>
    cases b6<;>cases b5<;>cases b1<;>cases b2<;>cases b3<;>cases b4<;>cases bl<;>simp[S178,g1,hc,x0,x1,pE,hl,hx',e1,e2,e3,e4,e5,e6,e7,e8,-bF,-px,-py]
def t118(e:Exp)(he:e.Lim):ai pg 118 [e.av]=M.pure (.bool (ut e)):=by
 have hb':ai pg 178 [e.av,.int .i64 12]=M.pure (.bool (bQ 12 e)):=t178 12 (by omega) e he;rw[C118];simp[S118,hb']
def ES(q:Nat)(m:Ap.Mod)(mp:AV)(h:Hp):Tr Ty->Av.R AV
 |.ok t n=>.ok (.tup [t.av,.int .i64 0]) (h.set q (aT m mp n))
 |.er b n=>.ok (.tup [ty0.av,.int .i64 b]) (h.set q (aT m mp n))
def Gr(q:Nat)(m:Ap.Mod)(mp:AV)(h:Hp)(acc:List Ty):Tr (List Ty)->Av.R AV
 |.ok ts n=>.ok (.tup [dS (acc++ts),.int .i64 0]) (h.set q (aT m mp n))
 |.er b n=>.ok (.tup [.sl [],.int .i64 b]) (h.set q (aT m mp n))
def i8(q:Nat)(m:Ap.Mod)(mp:AV)(fs:List Face)(d:Nat):Prop:=∀(ls:List bN)(e:Exp)(n:Int)(h:Hp),bQ d e=true->e.Lim->(∀z∈ls,dm z.2)->ls.length+d<=1000000->JR h q m mp fs n->
 ai pg 124 [.hp q 0,aB ls,e.av] h=ES q m mp h (bh (c7 m fs) d ls e n)/\∀t n',bh (c7 m fs) d ls e n= .ok t n'->dm t
def yt{q:Nat}{m:Ap.Mod}{mp:AV}{fs:List Face}{d:Nat}(P:i8 q m mp fs d)(ls:List bN)(hls:∀z∈ls,dm z.2)(hll:ls.length+d<=1000000)(es:List Exp)(hes:es.length<=140737488355328)(he:∀e∈es,bQ d e=true/\e.Lim):∀(k i:Nat)(acc:List Ty)(n:Int)(h:Hp),es.length-i=k->i<=es.length->acc.length<=i->es.length<=1000000->JR h q m mp fs n->
  aj (L184_0 (ai pg) aj) [.hp q 0,aB ls,dS acc,bO es,.int .i64 es.length,.int .i64 i] h=Gr q m mp h acc (cZ (bh (c7 m fs) d ls) (es.drop i) n)/\∀ts n',cZ (bh (c7 m fs) d ls) (es.drop i) n= .ok ts n'->ts.length=es.length-i/\∀t∈ts,dm t:=by
 intro k
 induction k with
 | zero=>
  intro i acc n h hk hi ha hs R;have h1:¬((i:Int)<(es.length:Int)):=by omega
  have h2:es.drop i=[]:=G6 (by omega);rw[h2];refine⟨?_,fun ts n' ht=>?_⟩
  ·rw[FL184_0];show _=Av.R.ok (AV.tup [dS (acc++[]),.int .i64 0]) (h.set q (aT m mp n));rw[R.same,I0];simp[L184_0,h1];rfl
  ·cases ht;exact⟨by simp;omega,fun t ht=>by cases ht⟩
 | succ k ih=>
  intro i acc n h hk hi ha hs R;have hlt:i<es.length:=by omega
  have h1:(i:Int)<(es.length:Int):=by omega
  have h2:es.drop i=es[i]:: es.drop (i+1):=G2 hlt;have hw:IntKind.i64.wrap ((i:Int)+1)=(i:Int)+1:=aS (by omega);have hix:=pm (l:=es) (n:=(i:Int)) (by omega) h1;rw[GZ,Hd es i hlt]at hix;obtain⟨hr,hl⟩:=he es[i] (GY hlt);obtain⟨p1,p2⟩:=P ls es[i] n h hr hl hls hll R;rw[h2];have hne:=fB (c7 m fs) d ls es[i] n;generalize es[i]=e at hix hr hl p1 p2 hne |-;generalize hcode:aj (L184_0 (ai pg) aj) [.hp q 0,aB ls,dS acc,bO es,.int .i64 es.length,.int .i64 i] h=code;rw[FL184_0]at hcode;simp -implicitDefEqProofs only[L184_0,aZ,be,bF,aF,h1,HF,aR,Hn,hix,bA,LD47,G4,G8,G5,Nat.reduceAdd,GQ,He,Hq,c8,pE,aK]at hcode;cases ht:bh (c7 m fs) d ls e n with
  | er b n'=>
   rw[ht]at p1;have hb:(b != 0)=true:=Ib.2 (hne b n' ht);have hz:aC 2 ty0.av=M.pure ty0.av:=Av.dG ty0;rw[aE p1]at hcode;simp -implicitDefEqProofs only[jM,Hh,Iv,aF,hz,aK,py,hb,aR,Hn]at hcode;have e1:cZ (bh (c7 m fs) d ls) (e:: es.drop (i+1)) n= .er b n':=by
    simp only[cZ,dE.bind,ht]
   rw[e1];exact⟨hcode.symm,fun ts n'' h3=>by cases h3⟩
  | ok t n'=>
   rw[ht]at p1;rw[aE p1]at hcode;have R':=R.set n';obtain⟨i1,i2⟩:=ih (i+1) (acc++[t]) n' (h.set q (aT m mp n')) (by omega) (by omega) (by simp;omega) hs R';have hap:=Dl (a:=acc) (b:=[t]) (by simp;omega);have hsl:aJ T 54 1 [(0,t.av)]=some (dS [t]):=by cases t;rfl
   have i1':aj (L184_0 (ai pg) aj) [.hp q 0,aB ls,dS (acc++[t]),bO es,.int .i64 es.length,.int .i64 ((i:Int)+1)] (h.set q (aT m mp n'))=_:=i1;simp -implicitDefEqProofs only[jM,Hh,Iv,aF,Av.dG,aK,py,bne_self_eq_false,aR,Hl,HL,bw,LD27,G4,G8,G5,Nat.reduceAdd,GQ,Hn,He,Hq,cb,hsl,hap,dF,hw,i1']at hcode;have e1:cZ (bh (c7 m fs) d ls) (e:: es.drop (i+1)) n=(match cZ (bh (c7 m fs) d ls) (es.drop (i+1)) n' with|.ok ts n''=>.ok (t:: ts) n''|.er b n''=>.er b n''):=by
    simp only[cZ,dE.bind,ht];cases cZ (bh (c7 m fs) d ls) (es.drop (i+1)) n'<;>rfl
   rw[e1];cases hL:cZ (bh (c7 m fs) d ls) (es.drop (i+1)) n' with
   |er b n''=>
    rw[hL]at hcode;refine⟨?_,fun ts n'' h3=>by cases h3⟩;rw[<- hcode];show Av.R.ok _ _=Av.R.ok _ _;rw[GA]
   | ok ts n''=>
    rw[hL]at hcode;obtain⟨j1,j2⟩:=i2 ts n'' hL;refine⟨?_,fun us n3 h3=>?_⟩
    ·rw[<- hcode];show Av.R.ok _ _=Av.R.ok _ _;rw[GA,HN];rfl
    ·cases h3;refine⟨by simp only[G4];omega,fun u hu=>?_⟩;rcases Hg.1 hu with rfl|hu
     ·exact p2 _ _ ht
     ·exact j2 u hu
def EH{q:Nat}{m:Ap.Mod}{mp:AV}{fs:List Face}{d:Nat}(P:i8 q m mp fs d)(ls:List bN)(hls:∀z∈ls,dm z.2)(hll:ls.length+d<=1000000)(es:List Exp)(hes:es.length<=1000000)(he:∀e∈es,bQ d e=true/\e.Lim)(n:Int)(h:Hp)(R:JR h q m mp fs n):
  ai pg 184 [.hp q 0,aB ls,bO es] h=Gr q m mp h [] (cZ (bh (c7 m fs) d ls) es n)/\∀ts n',cZ (bh (c7 m fs) d ls) es n= .ok ts n'->ts.length=es.length/\∀t∈ts,dm t:=by
 obtain⟨h1,h2⟩:=yt P ls hls hll es (by omega) he es.length 0 [] n h rfl (Hi _) (Hi _) hes R;rw[Hk]at h1 h2;refine⟨?_,fun ts n' ht=>h2 ts n' ht⟩;rw[<- h1,C184];simp only[S184,Bf,aF];rfl
theorem nJ:aN T false 27 []=some ty0.av:=rfl
def gw{u t:Ty}(hu:dm u)(ht:aX t=true):ai pg 125 [u.av,t.av]=M.pure (.bool (bu u t)):=t125 4 t u (hu 4) (dZ ht 4) ht
def F8{q:Nat}{m:Ap.Mod}{mp:AV}{fs:List Face}{d:Nat}(P:i8 q m mp fs d)(K:CxOk m fs)(ls:List bN)(hls:∀z∈ls,dm z.2)(hll:ls.length+d<=1000000)(e:Exp)(hop:e.op=17\/e.op=18)(ha:e.op=18->∃x,e.args=[x]/\bQ d x=true/\x.Lim)(n:Int)(h:Hp)(R:JR h q m mp fs n):
  ai pg 182 [.hp q 0,aB ls,e.av] h=ES q m mp h (cH (c7 m fs) (bh (c7 m fs) d) ls e n)/\∀t n',cH (c7 m fs) (bh (c7 m fs) d) ls e n= .ok t n'->dm t:=by
 have l1:∀f:AV->M AV,ae (bi T 25 (.hp q 2)) f h=f (aB m.vars) h:=fun f=>aE R.vars f;have hk:=t181 m.vars (by have:=K.vlen;omega) e.s;rw[tA hop,C182];show S182 (ai pg) aj (.hp q 0) (aB ls) e.av h=ES q m mp h ((match bz (fun z=>z.1== e.s) m.vars with
  |none=>dE.er 12
  |some z=>if e.op=18 then dE.bind (bh (c7 m fs) d ls e.args[0]!) fun u=>if bu u z.2=true then dE.ok z.2 else dE.er 13 else dE.ok z.2:dE Ty) n)/\∀t n',(match bz (fun z=>z.1== e.s) m.vars with
  |none=>dE.er 12
  |some z=>if e.op=18 then dE.bind (bh (c7 m fs) d ls e.args[0]!) fun u=>if bu u z.2=true then dE.ok z.2 else dE.er 13 else dE.ok z.2:dE Ty) n= .ok t n'->dm t
 cases hz:bz (fun z:bN=>z.1== e.s) m.vars with
 |none=>
  rw[hz]at hk;refine⟨?_,fun t n' h3=>by cases h3⟩;show _=Av.R.ok (AV.tup [ty0.av,.int .i64 12]) (h.set q (aT m mp n));rw[R.same];simp[S182,l1,hk,nJ];rfl
 | some z=>
  rw[hz]at hk;dsimp only;have hzr:=K.vars z (fG hz).1;rcases hop with hop|hop
  ·rw[if_neg (show ¬e.op=18 by omega)];refine⟨?_,fun t n' h3=>by cases h3;exact dZ hzr⟩;show _=Av.R.ok (AV.tup [z.2.av,.int .i64 0]) (h.set q (aT m mp n));rw[R.same];simp[S182,K182_0,l1,hk,hop];rfl
  ·rw[GR hop];obtain⟨x,hx,hr,hl⟩:=ha hop;have hx0:e.args[0]! = x:=by rw[hx];rfl
   obtain⟨p1,p2⟩:=P ls x n h hr hl hls hll R;have hix:ak T 36 (bO e.args) (.int .i64 0)=some (.ip (ab x.av)):=by
    have:=pm (l:=e.args) (n:=0) (by omega) (by rw[hx];simp)
    rw[this,hx];rfl
   rw[hx0];have hne:=fB (c7 m fs) d ls x n;cases ht:bh (c7 m fs) d ls x n with
   |er b n'=>
    rw[ht]at p1;have hb:(b != 0)=true:=Ib.2 (hne b n' ht);have k1:∀f:AV->M AV,ae (ai pg 124 [.hp q 0,aB ls,x.av]) f h=f (.tup [ty0.av,.int .i64 b]) (h.set q (aT m mp n')):=fun f=>aE p1 f;have e1:dE.bind (bh (c7 m fs) d ls x) (fun u=>if bu u z.2=true then dE.ok z.2 else dE.er 13) n= .er b n':=by simp only[dE.bind,ht]
    rw[e1];refine⟨?_,fun t n' h3=>by cases h3⟩;show _=Av.R.ok (AV.tup [ty0.av,.int .i64 b]) (h.set q (aT m mp n'));simp[S182,K182_0,l1,hk,hop,hix,k1,hb,nJ];rfl
   | ok u n'=>
    rw[ht]at p1;have hus:=p2 u n' ht;have k1:∀f:AV->M AV,ae (ai pg 124 [.hp q 0,aB ls,x.av]) f h=f (.tup [u.av,.int .i64 0]) (h.set q (aT m mp n')):=fun f=>aE p1 f;have hbl:=gw hus hzr;cases hb:bu u z.2 with
    |true=>
     rw[hb]at hbl;have e1:dE.bind (bh (c7 m fs) d ls x) (fun u=>if bu u z.2=true then dE.ok z.2 else dE.er 13) n= .ok z.2 n':=by simp only[dE.bind,ht,hb,Hn];rfl
     rw[e1];refine⟨?_,fun t n' h3=>by cases h3;exact dZ hzr⟩;show _=Av.R.ok (AV.tup [z.2.av,.int .i64 0]) (h.set q (aT m mp n'));simp[S182,K182_0,l1,hk,hop,hix,k1,hbl];rfl
    |false=>
     rw[hb]at hbl;have e1:dE.bind (bh (c7 m fs) d ls x) (fun u=>if bu u z.2=true then dE.ok z.2 else dE.er 13) n= .er 13 n':=by simp only[dE.bind,ht,hb,Hl,HL];rfl
     rw[e1];refine⟨?_,fun t n' h3=>by cases h3⟩;show _=Av.R.ok (AV.tup [ty0.av,.int .i64 13]) (h.set q (aT m mp n'));simp[S182,K182_0,l1,hk,hop,hix,k1,hbl,nJ];rfl
theorem yq{q:Nat}{m:Ap.Mod}{mp:AV}{fs:List Face}{n:Int}{h:Hp}(R:JR h q m mp fs n)(s:Sig)(l:List Ty)(hl:∀t∈l,dm t)(hps:∀t∈s.params,aX t=true)(hlen:l.length=s.params.length)(hb:l.length<=1000000)(x y:AV):∀(k i:Nat),l.length-i=k->i<=l.length->
  aj (L183_0 (ai pg) aj) [.hp q 0,.ip (ab s.av),dS l,.int .i64 l.length,.int .i64 i,x,y] h=(if fA bu (l.drop i) (s.params.drop i)=true then .ok (.tup [s.result.av,.int .i64 0]) (h.set q (aT m mp (kU n s.effects)))else .ok (.tup [ty0.av,.int .i64 13]) h):=by
 intro k
 induction k with
 |zero=>
  intro i hk hi;have h1:¬((i:Int)<(l.length:Int)):=by omega
  have h2:l.drop i=[]:=G6 (by omega);have h3:s.params.drop i=[]:=G6 (by omega);rw[h2,h3,GR (show fA bu [] []=true from rfl)];have l1:∀f:AV->M AV,ae (bi T 3 (.hp q 10)) f h=f (.int .i64 n) h:=fun f=>aE R.eff f;have l2:∀f:AV->M AV,ae (bI T 3 (.hp q 10) (.int .i64 (kU n s.effects))) f h=f (.tup []) (h.set q (aT m mp (kU n s.effects))):=fun f=>aE (R.put _) f;have hor:am T .or 3 (.int .i64 n) (.int .i64 s.effects)=some (.int .i64 (kU n s.effects)):=rfl;rw[FL183_0];simp[L183_0,h1,l1,hor,l2];rfl
 | succ k ih=>
  intro i hk hi;have hlt:i<l.length:=by omega
  have hlt2:i<s.params.length:=by omega
  have h1:(i:Int)<(l.length:Int):=by omega
  have h2:l.drop i=l[i]:: l.drop (i+1):=G2 hlt;have h3:s.params.drop i=s.params[i]:: s.params.drop (i+1):=G2 hlt2;have hw:IntKind.i64.wrap ((i:Int)+1)=(i:Int)+1:=aS (by omega);have hix:=lV (l:=l) (n:=(i:Int)) (by omega) h1;rw[GZ,Hd l i hlt]at hix;have hix2:=lV (l:=s.params) (n:=(i:Int)) (by omega) (by omega);rw[GZ,Hd s.params i hlt2]at hix2;have hbl:=gw (hl _ (GY hlt)) (hps _ (GY hlt2));have ih':aj (L183_0 (ai pg) aj) [.hp q 0,.ip (ab s.av),dS l,.int .i64 l.length,.int .i64 ((i:Int)+1),x,y] h=_:=ih (i+1) (by omega) (by omega);rw[h2,h3];generalize l[i]=u at hix hbl |-;generalize s.params[i]=t at hix2 hbl |-;have ea:fA bu (u:: l.drop (i+1)) (t:: s.params.drop (i+1))=(bu u t&&fA bu (l.drop (i+1)) (s.params.drop (i+1))):=rfl;rw[ea];generalize hcode:aj (L183_0 (ai pg) aj) [.hp q 0,.ip (ab s.av),dS l,.int .i64 l.length,.int .i64 i,x,y] h=code;rw[FL183_0]at hcode;cases hb2:bu u t with
  |true=>
   rw[hb2]at hbl;rw[HM,<- ih'];simp -implicitDefEqProofs only[L183_0,aZ,be,bF,aF,h1,HF,aR,Hn,hix,bw,LD27,G4,G8,G5,Nat.reduceAdd,GQ,He,Hq,cb,Av.dG,aK,cV,FA56_1,HK,Hk,LD54,hix2,hbl,dB,gP,H8,Hl,HL,dF,hw]at hcode;rw[<- hcode,cV]
  |false=>
   rw[hb2]at hbl;rw[I3,if_neg (by decide)];have hz:ao 2 [] ty0.av=M.pure ty0.av:=hM ty0;have ha:ab ty0.av=[.int .i64 0,.sl []]:=rfl;simp -implicitDefEqProofs only[L183_0,aZ,be,bF,aF,h1,HF,aR,Hn,hix,bw,LD27,G4,G8,G5,Nat.reduceAdd,GQ,He,Hq,cb,Av.dG,aK,cV,FA56_1,HK,Hk,LD54,hix2,hbl,dB,gP,I4,nJ,hz]at hcode;rw[<- hcode];rfl
def F9{q:Nat}{m:Ap.Mod}{mp:AV}{fs:List Face}{d:Nat}(P:i8 q m mp fs d)(K:CxOk m fs)(ls:List bN)(hls:∀z∈ls,dm z.2)(hll:ls.length+d<=1000000)(e:Exp)(hop:e.op=15)(hlen:e.args.length<=1000000)(ha:∀x∈e.args,bQ d x=true/\x.Lim)(n:Int)(h:Hp)(R:JR h q m mp fs n):
  ai pg 183 [.hp q 0,aB ls,e.av] h=ES q m mp h (cH (c7 m fs) (bh (c7 m fs) d) ls e n)/\∀t n',cH (c7 m fs) (bh (c7 m fs) d) ls e n= .ok t n'->dm t:=by
 obtain⟨r,c1,c2⟩:=Ga R K e;have k1:∀f:AV->M AV,ae (ai pg 229 [.hp q 0,e.av]) f h=f r h:=fun f=>aE c1 f;rw[lN hop,C183]
 have hpar:∀s,cO (c7 m fs) e=some s->(∀t∈s.1,aX t=true)/\aX s.2.1=true:=by
  intro s hs;unfold cO at hs;split at hs
  ·split at hs
   ·rename_i f hf;cases hs;have hm:=HH hf;exact⟨fun t ht=>by obtain⟨z,hz,rfl⟩:=HV.1 ht;exact K.pars f hm z hz,K.res f hm⟩
   ·cases hs
  ·split at hs
   ·cases hs
   ·rename_i f hf;split at hs
    ·cases hs
    ·rename_i s' hs';split at hs
     ·cases hs;have hm:=HH (show fs.find? _=some f from hf);have hm2:=HH hs';exact⟨K.spars f hm s' hm2,K.sres f hm s' hm2⟩
     ·cases hs
 cases hc:cO (c7 m fs) e with
 |none=>
  rw[hc]at c2;subst c2;refine⟨?_,fun t n' h3=>by cases h3⟩;show _=Av.R.ok (AV.tup [ty0.av,.int .i64 12]) (h.set q (aT m mp n));rw[R.same];have k2:∀f:AV->M AV,ae (ai pg 229 [.hp q 0,e.av]) f h=f (.tup [vP.av,.bool false]) h:=k1;have z1:aC 5 vP.av=M.pure vP.av:=jf vP;simp[S183,k2,z1,nJ];rfl
 | some s=>
  rw[hc]at c2;obtain⟨nm,rfl⟩:=c2;obtain⟨hp1,hp2⟩:=hpar s hc;obtain⟨ps,res,eff⟩:=s;have z1:aC 5 (Sig.mk nm ps res eff).av=M.pure (Sig.mk nm ps res eff).av:=jf _;dsimp only;by_cases hl:ps.length=e.args.length
  ·rw[GR hl];have hl':((ps.length:Int) != (e.args.length:Int))=false:=by simp[hl]
   obtain⟨g1,g2⟩:=EH P ls hls hll e.args hlen ha n h R;cases ht:cZ (bh (c7 m fs) d ls) e.args n with
   |er b n'=>
    rw[ht]at g1;have hb:(b != 0)=true:=Ib.2 (jY (fB (c7 m fs) d ls) _ n b n' ht);have k2:∀f:AV->M AV,ae (ai pg 184 [.hp q 0,aB ls,bO e.args]) f h=f (.tup [.sl [],.int .i64 b]) (h.set q (aT m mp n')):=fun f=>aE g1 f;have e1:dE.bind (cZ (bh (c7 m fs) d ls) e.args) (fun l=>if fA bu l ps=true then fun n=>Tr.ok res (kU n eff)else dE.er 13) n= .er b n':=by simp only[dE.bind,ht]
    rw[e1];refine⟨?_,fun t n' h3=>by cases h3⟩;show _=Av.R.ok (AV.tup [ty0.av,.int .i64 b]) (h.set q (aT m mp n'));simp[S183,k1,z1,hl,k2,hb,nJ];rfl
   | ok l n'=>
    rw[ht]at g1;obtain⟨g3,g4⟩:=g2 l n' ht;have k2:∀f:AV->M AV,ae (ai pg 184 [.hp q 0,aB ls,bO e.args]) f h=f (.tup [dS l,.int .i64 0]) (h.set q (aT m mp n')):=fun f=>aE g1 f;have hlp:=yq (R.set n') (Sig.mk nm ps res eff) l g4 hp1 (by rw[g3];exact hl.symm) (by omega) (.int .i64 0) (.sl []) l.length 0 rfl (Hi _);have hlp':aj (L183_0 (ai pg) aj) [.hp q 0,.ip [.str nm,dS ps,.int .i64 res.kind,aB res.fields,.int .i64 eff],dS l,.int .i64 l.length,.int .i64 0,.int .i64 0,.sl []] (h.set q (aT m mp n'))=(if fA bu l ps=true then .ok (.tup [res.av,.int .i64 0]) ((h.set q (aT m mp n')).set q (aT m mp (kU n' eff)))else .ok (.tup [ty0.av,.int .i64 13]) (h.set q (aT m mp n'))):=hlp;have e1:dE.bind (cZ (bh (c7 m fs) d ls) e.args) (fun l=>if fA bu l ps=true then fun n=>Tr.ok res (kU n eff)else dE.er 13) n=if fA bu l ps=true then .ok res (kU n' eff)else .er 13 n':=by
     simp only[dE.bind,ht];split<;>rfl
    rw[e1];constructor
    ·simp[S183,k1,z1,hl,k2];rw[hlp',GA];split<;>rfl
    ·intro t n'' h3;split at h3
     ·cases h3;exact dZ hp2
     ·cases h3
  ·rw[if_neg hl];refine⟨?_,fun t n' h3=>by cases h3⟩;show _=Av.R.ok (AV.tup [ty0.av,.int .i64 13]) (h.set q (aT m mp n));rw[R.same];simp[S183,k1,z1,hl,nJ];rfl
def xb{e:Exp}(h:jt e=true):(e.op=11->e.args.length=3)/\(e.op=12->e.args.length=2)/\(e.op=14->e.args.length=1)/\(e.op=18->e.args.length=1)/\(e.op=13->e.names.length=e.args.length)/\e.args.length<=1000000:=by
 unfold jt at h;simp only[GO]at h;obtain⟨⟨⟨⟨⟨⟨⟨h1,h2⟩,h3⟩,h4⟩,h5⟩,h6⟩,h7⟩,h8⟩:=h;simp only[G0]at h1 h2;have ho:e.op=0\/e.op=1\/e.op=2\/e.op=3\/e.op=4\/e.op=5\/e.op=6\/e.op=7\/e.op=8\/e.op=9\/e.op=10\/e.op=11\/e.op=12\/e.op=13\/e.op=14\/e.op=15\/e.op=16\/e.op=17\/e.op=18:=by omega
 by_cases o15:e.op=15
 ·have:e.args.length<=6:=by
   simp[dV,o15]at h8;exact h8.2
  exact⟨fun h=>by omega,fun h=>by omega,fun h=>by omega,fun h=>by omega,fun h=>by omega,by omega⟩
 ·by_cases o13:e.op=13
  ·have hn:e.names.length<=8:=by
    simp[dV,o13,m8]at h8;exact h8.2
   have he:e.names.length=e.args.length:=by
    simp[dP,o13]at h3;omega
   exact⟨fun h=>by omega,fun h=>by omega,fun h=>by omega,fun h=>by omega,fun _=>he,by omega⟩
  ·have key:e.args.length<=3/\(e.op=11->e.args.length=3)/\(e.op=12->e.args.length=2)/\(e.op=14->e.args.length=1)/\(e.op=18->e.args.length=1):=by
    rcases ho with o|o|o|o|o|o|o|o|o|o|o|o|o|o|o|o|o|o|o<;>simp[dP,o]at h3 o13 o15 |- <;> omega
   exact⟨key.2.1,key.2.2.1,key.2.2.2.1,key.2.2.2.2,fun h=>absurd h o13,by omega⟩
def yF{ns:List bn}{l:List Ty}(h:∀t∈l,dm t)(hl:l.length<=1000000):dm (.mk 2 (ns.zip l)):=qf (by rw[Iw];omega) fun f hf=>h f.2 (List.of_mem_zip (show (f.1,f.2)∈ns.zip l from hf)).2
theorem pb(b:List bN):(fs:List bN)->(∀f∈fs,∀t u:Ty,qu f.2 t=some u->dm u)->∀f∈jw fs b,dm f.2
 |[],_,f,hf=>by simp[jw]at hf
 | g :: fs,h,f,hf=>by
  rw[lc,Hr]at hf;rcases hf with hf|hf
  ·rw[tJ]at hf;cases hz:bz (fun z:bN=>z.1== g.1) b with
   |none=>rw[hz]at hf;cases hf
   | some z=>
    rw[hz]at hf;dsimp only at hf;cases hu:qu g.2 z.2 with
    |none=>rw[hu]at hf;cases hf
    |some u=>
     rw[hu]at hf;simp only[HJ]at hf;subst hf;exact h g HG z.2 u hu
  ·exact pb b fs (fun f hf=>h f (HE _ hf)) f hf
def uy(a b u:Ty)(ha:dm a)(h:qu a b=some u):dm u:=by
 have e1:qu a b=if a.kind=b.kind then some (.mk a.kind (jw a.fields b.fields))else none:=by
  cases a;cases b;simp only[qu,Ty.kind,Ty.fields];rfl
 rw[e1]at h;split at h
 ·cases h;refine qf (IF (r6 _ _) ha.len) (pb _ _ fun f hf t u hu=>?_)
  have:=tY hf
  exact uy f.2 t u (ha.kid hf) hu
 ·cases h
termination_by SizeOf.sizeOf a
def fH(k:Int):dm (.mk k []):=qf (by simp) (by simp)
def tw{e:Exp}{l:List Ty}(hl:∀t∈l,dm t)(hlen:l.length<=1000000)(h11:e.op=11->l.length=3)(h14:e.op=14->l.length=1){t:Ty}(h:bZ e l=some t):dm t:=by
 unfold bZ at h;split at h
 ·split at h<;>cases h;exact fH _
 ·split at h
  ·cases h;exact fH _
  ·split at h
   ·split at h<;>cases h;exact fH _
   ·split at h
    ·split at h<;>cases h;exact fH _
    ·split at h
     ·split at h<;>cases h;exact fH _
     ·split at h
      ·rename_i o;split at h
       ·rename_i u hu;split at h<;>cases h;refine uy _ _ _ ?_ hu
        have:=h11 o
        rw[Hd l 1 (by omega)];exact hl _ (GY _)
       ·cases h
      ·split at h
       ·cases h;exact yF hl hlen
       ·split at h
        ·rename_i o;split at h
         ·rename_i z hz;cases h
          have:=h14 o
          have h0:dm l[0]!:=by rw[Hd l 0 (by omega)];exact hl _ (GY _)
          exact h0.kid (fG hz).1
         ·cases h
        ·cases h;exact fH _
def F6(l:List bN)(h:l.length<=1000000):ai pg 163 [aB l]=M.pure (aB l):=by
 have e0:ai pg 163 [aB l]=gB T 25 (ai pg) [aB l]:=eb hOther rfl _;have e1:=Bc (a:=[]) (b:=l) (by simp;omega);rw[e0];show af (dz T 25 (.sl []) (aB l))=_;have e2:dz T 25 (.sl []) (aB l)=some (aB l):=e1;rw[e2];rfl
theorem vg{q:Nat}{m:Ap.Mod}{mp:AV}{fs:List Face}(K:CxOk m fs){d:Nat}(P:i8 q m mp fs d):i8 q m mp fs (d+1):=by
 intro ls e n h hr he hls hll R;rw[dC,GO,GT]at hr;obtain⟨hsh,har⟩:=hr;obtain⟨a11,a12,a14,a18,a13,alen⟩:=xb hsh;have ha:∀x∈e.args,bQ d x=true/\x.Lim:=fun x hx=>⟨har x hx,he.kid hx⟩;have hll':ls.length+d<=1000000:=by omega
 show ai pg 124 [.hp q 0,aB ls,e.av] h=ES q m mp h (cH (c7 m fs) (bh (c7 m fs) d) ls e n)/\∀t n',cH (c7 m fs) (bh (c7 m fs) d) ls e n= .ok t n'->dm t;by_cases o2:e.op=2
 ·have hk:=t181 ls (by omega) e.s;rw[tC o2,C124];cases hz:bz (fun z:bN=>z.1== e.s) ls with
  |none=>
   rw[hz]at hk;refine⟨?_,fun t n' h3=>by cases h3⟩;show _=Av.R.ok (AV.tup [ty0.av,.int .i64 12]) (h.set q (aT m mp n));rw[R.same];simp[S124,o2,hk,nJ];rfl
  |some z=>
   rw[hz]at hk;refine⟨?_,fun t n' h3=>by cases h3;exact hls z (fG hz).1⟩;show _=Av.R.ok (AV.tup [z.2.av,.int .i64 0]) (h.set q (aT m mp n));rw[R.same];simp[S124,o2,hk];rfl
 ·by_cases o12:e.op=12
  ·obtain⟨x,y,hxy⟩:∃x y,e.args=[x,y]:=by
    have:=a12 o12
    match e.args,this with
    |[x,y],_=>exact⟨x,y,rfl⟩
   have hx0:e.args[0]! = x:=by rw[hxy];rfl
   have hx1:e.args[1]! = y:=by rw[hxy];rfl
   have i0:ak T 36 (bO e.args) (.int .i64 0)=some (.ip (ab x.av)):=by
    have:=pm (l:=e.args) (n:=0) (by omega) (by rw[hxy];simp)
    rw[this,hxy];rfl
   have i1:ak T 36 (bO e.args) (.int .i64 1)=some (.ip (ab y.av)):=by
    have:=pm (l:=e.args) (n:=1) (by omega) (by rw[hxy];simp)
    rw[this,hxy];rfl
   obtain⟨xr,xl⟩:=ha x (by rw[hxy];simp);obtain⟨yr,yl⟩:=ha y (by rw[hxy];simp);obtain⟨p1,p2⟩:=P ls x n h xr xl hls hll' R;rw[tB o12,hx0,hx1,C124];have hne:=fB (c7 m fs) d ls x n;cases ht:bh (c7 m fs) d ls x n with
   |er b n'=>
    rw[ht]at p1;have hb:(b != 0)=true:=Ib.2 (hne b n' ht);have k1:∀f:AV->M AV,ae (ai pg 124 [.hp q 0,aB ls,x.av]) f h=f (.tup [ty0.av,.int .i64 b]) (h.set q (aT m mp n')):=fun f=>aE p1 f;have e1:dE.bind (bh (c7 m fs) d ls x) (fun t=>bh (c7 m fs) d (ls++[(e.s,t)]) y) n= .er b n':=by simp only[dE.bind,ht]
    rw[e1];refine⟨?_,fun t n' h3=>by cases h3⟩;show _=Av.R.ok (AV.tup [ty0.av,.int .i64 b]) (h.set q (aT m mp n'));simp[S124,o12,i0,k1,hb,nJ];rfl
   | ok u n'=>
    rw[ht]at p1;have hus:=p2 u n' ht;have k1:∀f:AV->M AV,ae (ai pg 124 [.hp q 0,aB ls,x.av]) f h=f (.tup [u.av,.int .i64 0]) (h.set q (aT m mp n')):=fun f=>aE p1 f;obtain⟨p3,p4⟩:=P (ls++[(e.s,u)]) y n' (h.set q (aT m mp n')) yr yl (fun z hz=>by
     rcases Hr.1 hz with hz|hz
     ·exact hls z hz
     ·rw[HJ]at hz;subst hz;exact hus) (by rw[Hu];simp;omega) (R.set n')
    have e1:dE.bind (bh (c7 m fs) d ls x) (fun t=>bh (c7 m fs) d (ls++[(e.s,t)]) y) n=bh (c7 m fs) d (ls++[(e.s,u)]) y n':=by simp only[dE.bind,ht]
    rw[e1];refine⟨?_,fun t n'' h3=>p4 t n'' h3⟩;have hap:=Bc (a:=ls) (b:=[(e.s,u)]) (by simp;omega);have hcl:=F6 ls (by omega);cases ht2:bh (c7 m fs) d (ls++[(e.s,u)]) y n' with
    |er b n''=>
     rw[ht2]at p3;have k2:∀f:AV->M AV,ae (ai pg 124 [.hp q 0,aB (ls++[(e.s,u)]),y.av]) f (h.set q (aT m mp n'))=f (.tup [ty0.av,.int .i64 b]) ((h.set q (aT m mp n')).set q (aT m mp n'')):=fun f=>aE p3 f;show _=Av.R.ok (AV.tup [ty0.av,.int .i64 b]) (h.set q (aT m mp n''));simp[S124,o12,i0,i1,k1,pN,Fe,hcl,hap,k2];rfl
    |ok t n''=>
     rw[ht2]at p3;have k2:∀f:AV->M AV,ae (ai pg 124 [.hp q 0,aB (ls++[(e.s,u)]),y.av]) f (h.set q (aT m mp n'))=f (.tup [t.av,.int .i64 0]) ((h.set q (aT m mp n')).set q (aT m mp n'')):=fun f=>aE p3 f;show _=Av.R.ok (AV.tup [t.av,.int .i64 0]) (h.set q (aT m mp n''));simp[S124,o12,i0,i1,k1,pN,Fe,hcl,hap,k2];rfl
  ·have b2:(e.op== 2)=false:=GX.2 o2;have b12:(e.op== 12)=false:=GX.2 o12;by_cases o17:e.op=17\/e.op=18
   ·obtain⟨v1,v2⟩:=F8 P K ls hls hll' e o17 (fun o=>by
     have:=a18 o
     match hx:e.args,this with
     |[x],_=>exact⟨x,rfl,ha x (by rw[hx];simp)⟩) n h R
    refine⟨?_,v2⟩;rw[<- v1,C124];generalize hcode:ai pg 182 [.hp q 0,aB ls,e.av] h=code at v1;cases hs:cH (c7 m fs) (bh (c7 m fs) d) ls e n with
    | er b n'=>
     rw[hs]at v1;rw[v1]at hcode;have k1:∀f:AV->M AV,ae (ai pg 182 [.hp q 0,aB ls,e.av]) f h=f (.tup [ty0.av,.int .i64 b]) (h.set q (aT m mp n')):=fun f=>aE hcode f;rw[v1];show _=Av.R.ok (AV.tup [ty0.av,.int .i64 b]) (h.set q (aT m mp n'));rcases o17 with o|o
     ·have c17:(e.op== 17)=true:=Hy.2 o;simp[S124,K124_1,b2,b12,c17,k1];rfl
     ·have c17:(e.op== 17)=false:=GX.2 (by omega);have c18:(e.op== 18)=true:=Hy.2 o;simp[S124,K124_1,b2,b12,c17,c18,k1];rfl
    | ok t n'=>
     rw[hs]at v1;rw[v1]at hcode;have k1:∀f:AV->M AV,ae (ai pg 182 [.hp q 0,aB ls,e.av]) f h=f (.tup [t.av,.int .i64 0]) (h.set q (aT m mp n')):=fun f=>aE hcode f;rw[v1];show _=Av.R.ok (AV.tup [t.av,.int .i64 0]) (h.set q (aT m mp n'));rcases o17 with o|o
     ·have c17:(e.op== 17)=true:=Hy.2 o;simp[S124,K124_1,b2,b12,c17,k1];rfl
     ·have c17:(e.op== 17)=false:=GX.2 (by omega);have c18:(e.op== 18)=true:=Hy.2 o;simp[S124,K124_1,b2,b12,c17,c18,k1];rfl
   ·have b17:(e.op== 17)=false:=GX.2 (by omega);have b18:(e.op== 18)=false:=GX.2 (by omega);by_cases o15:e.op=15
    ·obtain⟨v1,v2⟩:=F9 P K ls hls hll' e o15 alen ha n h R;refine⟨?_,v2⟩;have b15:(e.op== 15)=true:=Hy.2 o15;rw[C124];cases hs:cH (c7 m fs) (bh (c7 m fs) d) ls e n with
     |er b n'=>
      rw[hs]at v1;have k1:∀f:AV->M AV,ae (ai pg 183 [.hp q 0,aB ls,e.av]) f h=f (.tup [ty0.av,.int .i64 b]) (h.set q (aT m mp n')):=fun f=>aE v1 f;show _=Av.R.ok (AV.tup [ty0.av,.int .i64 b]) (h.set q (aT m mp n'));simp[S124,K124_1,b2,b12,b17,b18,b15,k1];rfl
     |ok t n'=>
      rw[hs]at v1;have k1:∀f:AV->M AV,ae (ai pg 183 [.hp q 0,aB ls,e.av]) f h=f (.tup [t.av,.int .i64 0]) (h.set q (aT m mp n')):=fun f=>aE v1 f;show _=Av.R.ok (AV.tup [t.av,.int .i64 0]) (h.set q (aT m mp n'));simp[S124,K124_1,b2,b12,b17,b18,b15,k1];rfl
    ·have b15:(e.op== 15)=false:=GX.2 o15;obtain⟨g1,g2⟩:=EH P ls hls hll' e.args alen ha n h R;rw[lO o2 o12 o17 o15,C124];cases ht:cZ (bh (c7 m fs) d ls) e.args n with
     |er b n'=>
      rw[ht]at g1;have hb:(b != 0)=true:=Ib.2 (jY (fB (c7 m fs) d ls) _ n b n' ht);have k1:∀f:AV->M AV,ae (ai pg 184 [.hp q 0,aB ls,bO e.args]) f h=f (.tup [.sl [],.int .i64 b]) (h.set q (aT m mp n')):=fun f=>aE g1 f;have e1:dE.bind (cZ (bh (c7 m fs) d ls) e.args) (lL e) n= .er b n':=by simp only[dE.bind,ht]
      rw[e1];refine⟨?_,fun t n' h3=>by cases h3⟩;show _=Av.R.ok (AV.tup [ty0.av,.int .i64 b]) (h.set q (aT m mp n'));simp[S124,K124_1,b2,b12,b17,b18,b15,k1,hb,nJ];rfl
     | ok l n'=>
      rw[ht]at g1;obtain⟨g3,g4⟩:=g2 l n' ht;have k1:∀f:AV->M AV,ae (ai pg 184 [.hp q 0,aB ls,bO e.args]) f h=f (.tup [dS l,.int .i64 0]) (h.set q (aT m mp n')):=fun f=>aE g1 f;have hp:=t185 e l g4 (by omega) (fun o=>by rw[g3];exact a11 o) (fun o=>by rw[g3];exact a14 o) (fun o=>by rw[g3];exact a13 o);have R':=R.set n';have hor:am T .or 3 (.int .i64 n') (.int .i64 e.n)=some (.int .i64 (kU n' e.n)):=rfl;have l1:∀f:AV->M AV,ae (bi T 3 (.hp q 10)) f (h.set q (aT m mp n'))=f (.int .i64 n') (h.set q (aT m mp n')):=fun f=>aE R'.eff f;have l2:∀f:AV->M AV,ae (bI T 3 (.hp q 10) (.int .i64 (kU n' e.n))) f (h.set q (aT m mp n'))=f (.tup []) (h.set q (aT m mp (kU n' e.n))):=fun f=>by
       rw[aE (R'.put (kU n' e.n)) f,GA]
      have e1:dE.bind (cZ (bh (c7 m fs) d ls) e.args) (lL e) n=lL e l n':=by simp only[dE.bind,ht]
      rw[e1];have hsl:=fun t=>tw (e:=e) (l:=l) g4 (by omega) (fun o=>by rw[g3];exact a11 o) (fun o=>by rw[g3];exact a14 o) (t:=t);by_cases o16:e.op=16
      ·have b16:(e.op== 16)=true:=Hy.2 o16;cases hpl:bZ e l with
       |none=>
        rw[hpl]at hp;rw[nn hpl,GR o16];refine⟨?_,fun t n' h3=>by cases h3⟩;show _=Av.R.ok (AV.tup [ty0.av,.int .i64 13]) (h.set q (aT m mp (kU n' e.n)));simp[S124,K124_1,K124_0,b2,b12,b17,b18,b15,b16,k1,l1,hor,l2,hp];rfl
       |some t=>
        rw[hpl]at hp;rw[jq hpl,GR o16];refine⟨?_,fun t' n' h3=>by cases h3;exact hsl t hpl⟩;show _=Av.R.ok (AV.tup [t.av,.int .i64 0]) (h.set q (aT m mp (kU n' e.n)));simp[S124,K124_1,K124_0,b2,b12,b17,b18,b15,b16,k1,l1,hor,l2,hp];rfl
      ·have b16:(e.op== 16)=false:=GX.2 o16;cases hpl:bZ e l with
       |none=>
        rw[hpl]at hp;rw[nn hpl,if_neg o16];refine⟨?_,fun t n' h3=>by cases h3⟩;show _=Av.R.ok (AV.tup [ty0.av,.int .i64 13]) (h.set q (aT m mp n'));simp[S124,K124_1,K124_0,b2,b12,b17,b18,b15,b16,k1,hp];rfl
       |some t=>
        rw[hpl]at hp;rw[jq hpl,if_neg o16];refine⟨?_,fun t' n' h3=>by cases h3;exact hsl t hpl⟩;show _=Av.R.ok (AV.tup [t.av,.int .i64 0]) (h.set q (aT m mp n'));simp[S124,K124_1,K124_0,b2,b12,b17,b18,b15,b16,k1,hp];rfl
theorem CL{q:Nat}{m:Ap.Mod}{mp:AV}{fs:List Face}(K:CxOk m fs):∀d,i8 q m mp fs d
 |0=>fun ls e n h hr=>by cases hr
 |d+1=>vg K (CL K d)
theorem oz:(fs acc:List Face)->∀f∈cD acc fs,f∈acc\/f∈fs
 |[],acc,f,h=>.inl h
 | g:: fs,acc,f,h=>by
  rw[cD]at h;rcases oz fs _ f h with h|h
  ·split at h
   ·exact .inl h
   ·rcases Hr.1 h with h|h
    ·exact .inl h
    ·rw[HJ]at h;subst h;exact .inr HG
  ·exact .inr (HE _ h)
def rV(s:Sig):Bool:=aX s.result&&s.params.all aX
theorem ve(f:Face):eN f=f.funcs.all rV:=rfl
def F7(t:Ty)(ht:t.Lim):ai pg 179 [t.av]=M.pure (.bool (!(aX t))):=by
 rw[C179];simp[S179,t73 t ht]
theorem yo{h:Hp}{l:Nat}{fs:List Face}(hl:h[l]? = some [.tup (bM fs)])(f:Face)(hn:fs.find? (fun g=>g.module== f.module)=none):kg T 139 (.mp l) (.str f.module) f.av h= .ok (.tup []) (h.set l [.tup (bM (fs++[f]))]):=by
 have e:kg T 139 (.mp l) (.str f.module) f.av h=(match h[l]? with
   |some [.tup es]=>(match rI T 9 es (.str f.module) f.av with
    |some es'=>.ok (.tup []) (h.set l [.tup es'])
    |none=>.fail)
   |_=>.fail):=rfl
 rw[e,hl];simp only;unfold rI;rcases mH f.module fs 0 with⟨h1,h2⟩|⟨g,j,k,h1,h2⟩
 ·rw[h2];simp[bM]
 ·rw[hn]at h1;cases h1
def iK(f:Face):aC 2 f.av=M.pure f.av:=by rw[bG (kT f),cz,gg]
def z8(V:List AV->M AV){h:Hp}{q l:Nat}{m:Ap.Mod}{acc:List Face}(R:JR h q m (.mp l) acc 0)(hl:h[l]? = some [.tup (bM acc)])(fs:List Face)(i:Nat)(f:Face)(hf:f.Lim):∀(k j:Nat),f.funcs.length-j=k->j<=f.funcs.length->
  aj (L122_0 (ai pg) aj V) [.hp q 0,.ip (ab f.av),faces fs,.int .i64 fs.length,.int .i64 i,sigs f.funcs,.int .i64 f.funcs.length,.int .i64 j] h=(if(f.funcs.drop j).all rV=true then V [.hp q 0,faces fs,.int .i64 fs.length,.int .i64 (IntKind.i64.wrap ((i:Int)+1))] (if(acc.find? fun g=>g.module== f.module).isSome=true then h else h.set l [.tup (bM (acc++[f]))])else .ok (.tup [.nilp,.bool false]) h):=by
 intro k;have hlen:=hf.len
 induction k with
 | zero=>
  intro j hk hj;have h1:¬((j:Int)<(f.funcs.length:Int)):=by omega
  have h2:f.funcs.drop j=[]:=G6 (by omega);rw[h2,GR (show[].all rV=true from rfl)];have l1:∀g:AV->M AV,ae (bi T 139 (.hp q 9)) g h=g (.mp l) h:=fun g=>aE R.mp g;have l2:∀g:AV->M AV,ae (dN T 139 (.mp l) (.str f.module) true) g h=g (.tup [((acc.find? fun g=>g.module== f.module).getD jN).av,.bool (acc.find? fun g=>g.module== f.module).isSome]) h:=fun g=>aE (kQ R.map f.module) g;rw[FL122_0];cases hc:acc.find? (fun g=>g.module== f.module)with
  |none=>
   rw[hc]at l2;have l3:∀g:AV->M AV,ae (kg T 139 (.mp l) (.str f.module) f.av) g h=g (.tup []) (h.set l [.tup (bM (acc++[f]))]):=fun g=>aE (yo hl f hc) g;simp[L122_0,h1,l1,l2,iK,l3]
  |some g=>
   rw[hc]at l2;simp[L122_0,h1,l1,l2,iK]
 | succ k ih=>
  intro j hk hj;have hlt:j<f.funcs.length:=by omega
  have h1:(j:Int)<(f.funcs.length:Int):=by omega
  have h2:f.funcs.drop j=f.funcs[j]:: f.funcs.drop (j+1):=G2 hlt;have hw:IntKind.i64.wrap ((j:Int)+1)=(j:Int)+1:=aS (by omega);have hix:=qw (l:=f.funcs) (n:=(j:Int)) (by omega) h1;rw[GZ,Hd f.funcs j hlt]at hix;have hs:=hf.sigs _ (GY hlt);have ih':aj (L122_0 (ai pg) aj V) [.hp q 0,.ip (ab f.av),faces fs,.int .i64 fs.length,.int .i64 i,sigs f.funcs,.int .i64 f.funcs.length,.int .i64 ((j:Int)+1)] h=_:=ih (j+1) (by omega) (by omega);rw[h2,HY];generalize f.funcs[j]=s at hix hs |-;have r1:=t73 s.result hs.result;have r2:=t148 (.fn (.func 179) [] []) (fun t=>!(aX t)) s.params (by have:=hs.plen;omega) (fun g=>by simp[cl,c5]) (fun t ht=>F7 t (hs.ptys t ht));have r3:(s.params.any fun t=>!(aX t))= !(s.params.all aX):=by
   rw[List.any_eq_not_all_not];simp
  rw[r3]at r2;rw[FL122_0];simp only[cz]at ih' |-;unfold rV;cases b1:aX s.result with
  |false=>
   rw[b1]at r1;simp[L122_0,h1,hix,r1];rfl
  | true=>
   rw[b1]at r1;cases b2:s.params.all aX with
   |false=>
    rw[b2]at r2;simp[L122_0,h1,hix,r1,r2];rfl
   |true=>
    rw[b2]at r2;simp[L122_0,h1,hix,r1,r2,hw,ih',rV]
theorem Aa{q l:Nat}{m:Ap.Mod}(hq:l≠q)(fs:List Face)(hfs:∀f∈fs,f.Lim)(hlen:fs.length<=140737488355328):∀(k i:Nat)(acc:List Face)(h:Hp),fs.length-i=k->i<=fs.length->JR h q m (.mp l) acc 0->h[l]? = some [.tup (bM acc)]->
  ((fs.drop i).all eN=true->aj (L122_1 (ai pg) aj) [.hp q 0,faces fs,.int .i64 fs.length,.int .i64 i] h= .ok (.tup [.hp q 0,.bool true]) (h.set l [.tup (bM (cD acc (fs.drop i)))]))/\((fs.drop i).all eN=false->∃h',aj (L122_1 (ai pg) aj) [.hp q 0,faces fs,.int .i64 fs.length,.int .i64 i] h= .ok (.tup [.nilp,.bool false]) h'):=by
 intro k
 induction k with
 | zero=>
  intro i acc h hk hi R hl;have h1:¬((i:Int)<(fs.length:Int)):=by omega
  have h2:fs.drop i=[]:=G6 (by omega);rw[h2];refine⟨fun _=>?_,fun hc=>by cases hc⟩;have e:h.set l [.tup (bM (cD acc []))]=h:=by
   obtain⟨hll,e⟩:=Hc.1 hl;show h.set l [.tup (bM acc)]=h;rw[<- e];exact IK hll
  rw[e,FL122_1];simp[L122_1,h1];rfl
 | succ k ih=>
  intro i acc h hk hi R hl;have hlt:i<fs.length:=by omega
  have h1:(i:Int)<(fs.length:Int):=by omega
  have h2:fs.drop i=fs[i]:: fs.drop (i+1):=G2 hlt;have hw:IntKind.i64.wrap ((i:Int)+1)=((i+1:Nat):Int):=aS (by omega);have hix:=Fl (l:=fs) (n:=(i:Int)) (by omega) h1;rw[GZ,Hd fs i hlt]at hix;have hf:=hfs _ (GY hlt);rw[h2,HY];generalize fs[i]=f at hix hf |-;have hin:=z8 (aj (L122_1 (ai pg) aj)) R hl fs i f hf f.funcs.length 0 rfl (Hi _);rw[Hk,hw]at hin;have hrun:aj (L122_1 (ai pg) aj) [.hp q 0,faces fs,.int .i64 fs.length,.int .i64 i] h=aj (L122_0 (ai pg) aj (aj (L122_1 (ai pg) aj))) [.hp q 0,.ip (ab f.av),faces fs,.int .i64 fs.length,.int .i64 i,sigs f.funcs,.int .i64 f.funcs.length,.int .i64 ((0:Nat):Int)] h:=by
   rw[FL122_1];simp[L122_1,h1,hix,iK]
  rw[hrun,hin,<- ve];cases hfo:eN f with
  |false=>
   refine⟨fun hc=>by simp at hc,fun _=>⟨h,by simp⟩⟩
  | true=>
   simp only[Hn,HM];have hd:cD acc (f:: fs.drop (i+1))=cD (if(acc.find? fun g=>g.module== f.module).isSome=true then acc else acc++[f]) (fs.drop (i+1)):=rfl;rw[hd];have hll:=(Hc.1 hl).1;by_cases hc:(acc.find? fun g=>g.module== f.module).isSome=true
   ·rw[GR hc,GR hc];exact ih (i+1) acc h (by omega) (by omega) R hl
   ·rw[if_neg hc,if_neg hc];have hl':(h.set l [.tup (bM (acc++[f]))])[l]? = some [.tup (bM (acc++[f]))]:=H6 hll;have R':JR (h.set l [.tup (bM (acc++[f]))]) q m (.mp l) (acc++[f]) 0:=⟨by rw[Io hq];exact R.row,.inr ⟨l,rfl,hl'⟩,R.ne⟩;obtain⟨i1,i2⟩:=ih (i+1) (acc++[f]) _ (by omega) (by omega) R' hl';refine⟨fun ha=>?_,i2⟩;rw[i1 ha,List.set_set]
theorem F0(m:Ap.Mod)(fs:List Face)(hfs:∀f∈fs,f.Lim)(hlen:fs.length<=140737488355328)(h:Hp):
  (fs.all eN=true->ai pg 122 [m.av,faces fs] h= .ok (.tup [.hp (h.length+1) 0,.bool true]) (h++[[.tup (bM (cD [] fs))],aT m (.mp h.length) 0]))/\(fs.all eN=false->∃h',ai pg 122 [m.av,faces fs] h= .ok (.tup [.nilp,.bool false]) h'):=by
 have R:JR (h++[[AV.tup []],aT m (.mp h.length) 0]) (h.length+1) m (.mp h.length) [] 0:=⟨by simp,.inr ⟨h.length,rfl,by simp[bM]⟩,by simp⟩;obtain⟨h1,h2⟩:=Aa (q:=h.length+1) (l:=h.length) (m:=m) (by omega) fs hfs hlen fs.length 0 [] _ rfl (Hi _) R (by simp[bM]);rw[Hk]at h1 h2;have hrun:ai pg 122 [m.av,faces fs] h=aj (L122_1 (ai pg) aj) [.hp (h.length+1) 0,faces fs,.int .i64 fs.length,.int .i64 ((0:Nat):Int)] (h++[[AV.tup []],aT m (.mp h.length) 0]):=by
  rw[C122];have b1:aN T true 141 [(0,m.av),(1,.mp h.length)]=some (.agg (aT m (.mp h.length) 0)):=rfl;have n1:∀f:AV->M AV,ae ey f h=f (.mp h.length) (h++[[AV.tup []]]):=fun f=>rfl;have n2:∀f:AV->M AV,ae (newH (aT m (.mp h.length) 0)) f (h++[[AV.tup []]])=f (.hp (h.length+1) 0) (h++[[AV.tup []],aT m (.mp h.length) 0]):=fun f=>by
   have:newH (aT m (.mp h.length) 0) (h++[[AV.tup []]])= .ok (.hp (h++[[AV.tup []]]).length 0) ((h++[[AV.tup []]])++[aT m (.mp h.length) 0]):=rfl;rw[aE this];simp
  have lm:ah T 41 (.ip (ab m.av))=some m.av:=rfl;simp only[S122,lm,aF,n1,b1,md,n2,Bh];rfl
 rw[hrun];refine⟨fun ha=>?_,h2⟩;rw[h1 ha];simp
end Go.Proofs.YteemeakjlfnapaaGreatDoor
