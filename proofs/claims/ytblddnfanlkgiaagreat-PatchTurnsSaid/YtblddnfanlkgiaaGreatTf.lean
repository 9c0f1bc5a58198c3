/- What the functions of the seat compute, part 6: the texts of the claim, one behind the other. Conditions: bounds, as each theorem names them. -/
import Derived.Test.YtblddnfanlkgiaaGreatTe
set_option linter.defProp false
set_option linter.unusedSimpArgs false
set_option linter.unusedVariables false
namespace Go.Proofs.YtblddnfanlkgiaaGreat
open Go Go.Av Go.Av.Ap
set_option maxRecDepth 100000
def bV{m:M AV}{v r:AV}{h':Hp}(e:m []= .ok v h')(f:i4 6 h' v=r):aJ m=M.pure r:=by
 funext hp;unfold aJ;rw[e];show R.ok (i4 6 h' v) hp=R.ok r hp;rw[f]
def t100(t:Ty)(k:Int):af pg 100 [t.av,.ip [.int .i64 k]]=M.pure (.bool (t.kind != k)):=by
 rw[C100];simp[S100,cl,df]
def t99(k:Int)(l:List Ty)(hl:l.length<=1000000):af pg 99 [.int .i64 k,.ip [gy l]]=M.pure (.bool (jv k l)):=by
 have h:=t63 (.fn (.func 100) [] [.ip [.int .i64 k]]) (fun t=>t.kind != k) l (by omega) (fun g=>by simp[cl,df]) (fun t _=>t100 t k);rw[C99];have e:(!l.any fun t=>t.kind != k)=jv k l:=by
  unfold jv;rw[MH];congr 1;funext t;simp[bne]
 simp[S99,cl,df,h,e]
theorem B1(f:AV->M AV):ae (newH [.int .i64 0,.hn]) f []=f (.hp 0 0) [[.int .i64 0,.hn]]:=rfl
theorem B2(f:AV->M AV)(k:Int)(fs:List AV)(c1 c2:AV):ae (cC T 44 (.hp 0 0) (.agg [.int .i64 k,.sl fs])) f [[c1,c2]]=f (.tup []) [[.int .i64 k,.sl fs]]:=rfl
theorem uu(f:AV->M AV)(k:Int)(c1 c2:AV):ae (cC T 44 (.hp 0 0) (.agg [.int .i64 k,.hn])) f [[c1,c2]]=f (.tup []) [[.int .i64 k,.hn]]:=rfl
theorem B3(f:AV->M AV)(k:Int)(c1 c2:AV):ae (cC T 3 (.hp 0 0) (.int .i64 k)) f [[c1,c2]]=f (.tup []) [[.int .i64 k,c2]]:=rfl
theorem B4(f:AV->M AV)(c1 c2:AV):ae (bY T 44 (.hp 0 0)) f [[c1,c2]]=f (.agg [c1,c2]) [[c1,c2]]:=rfl
theorem fa0:aa T 44 (.hp 0 0) 0=some (.hp 0 0):=rfl
theorem fa1:aa T 44 (.hp 0 0) 1=some (.hp 0 1):=rfl
theorem uv:aY T true 44 []=some (.agg [.int .i64 0,.hn]):=rfl
theorem wx:aY T false 44 []=some ty0.av:=rfl
def uw(k:Int):aH 2 [] (.agg [.int .i64 k,.hn])=M.pure (.agg [.int .i64 k,.hn]):=bB rfl
def ux(k:Int)(fs:List AV):aH 2 [] (.agg [.int .i64 k,.sl fs])=M.pure (.agg [.int .i64 k,.sl fs]):=bB rfl
def Jh(k:Int)(l n:Nat):aH 2 [] (.agg [.int .i64 k,.hs l 0 n 3 true])=M.pure (.agg [.int .i64 k,.hs l 0 n 3 true]):=bB rfl
theorem Ec(n:Int):bR (.int .i64 n)=M.pure (.int .i64 n):=rfl
theorem AJ:ty0.av= .agg [.int .i64 0,.sl []]:=rfl
def Gi(f:AV->M AV)(t:Ty)(c1 c2:AV):ae (cC T 44 (.hp 0 0) t.av) f [[c1,c2]]=f (.tup []) [[.int .i64 t.kind,aN t.fields]]:=by
 rw[<- ff];rfl
def cnt(t:Ty):aH 2 [] (.agg [.int .i64 t.kind,aN t.fields])=M.pure (.agg [.int .i64 t.kind,aN t.fields]):=bB rfl
def AX(h:Hp)(acc:List bI):Prop:=(acc=[]/\h[0]? = some [.int .i64 2,.hn])\/(acc≠[]/\∃q,q≠0/\h[0]? = some [.int .i64 2,.hs q 0 acc.length 3 true]/\h[q]? = some (rowOf bi acc))
theorem En:(l:List bI)->(rowOf bi l).all bH=true
 |[]=>rfl
 |f:: l=>by
  rw[jh,List.all_append,En l,L0,eG];rfl
def yJ{h:Hp}{acc:List bI}(A:AX h acc)(hl:acc.length<=1000000)(f:bI):∃sv rv h1 h2,bY T 23 (.hp 0 1) h= .ok sv h/\appH T 23 false sv (aN [f]) h= .ok rv h1/\cC T 23 (.hp 0 1) rv h1= .ok (.tup []) h2/\AX h2 (acc++[f]):=by
 have hfl:aN [f]= .sl [bi f]:=by rw[tg];rfl
 have h0l:0<h.length:=by
  rcases A with⟨_,h0⟩|⟨_,q,_,h0,_⟩
  ·exact (Kn.1 h0).1
  ·exact (Kn.1 h0).1
 rcases A with⟨rfl,h0⟩|⟨hne,q,hq0,h0,hq⟩
 ·have e1:bY T 23 (.hp 0 1) h= .ok .hn h:=kP rfl rfl h0 rfl;have e2:=GF (T:=T) (t:=23) (e:=51) rfl rfl rfl (x:=bi f) (iF f) (by decide) (by decide) (by decide) h;rw[<- hfl]at e2;have h0':(h++[ab (bi f)])[0]? = some [.int .i64 2,.hn]:=by rw[Kb h0l];exact h0
  have e3:=sx (T:=T) (t:=23) rfl (k:=1) (v:=.hs h.length 0 1 3 true) h0' rfl (by decide) (by decide);refine⟨_,_,_,_,e1,e2,e3,.inr ⟨by simp,h.length,by omega,?_,?_⟩⟩
  ·rw[Lb (by simp)];rfl
  ·rw[Lz (by omega),Km (JO _),LH];simp[rowOf]
 ·have e1:bY T 23 (.hp 0 1) h= .ok (.hs q 0 acc.length 3 true) h:=kP rfl rfl h0 rfl;have hln:=mP (f:=bi) I3 acc;have hpos:0<acc.length:=LB.2 hne;have e2:=GG (T:=T) (t:=23) (e:=51) rfl rfl rfl (x:=bi f) (iF f) (by decide) (by decide) hq (En acc) hln hpos (show (acc.length+1)*48<=_ by omega);rw[<- hfl]at e2;have hql:q<h.length:=(Kn.1 hq).1;have h0':((h.set q [])++[rowOf bi acc++ab (bi f)])[0]? = some [.int .i64 2,.hs q 0 acc.length 3 true]:=by
   rw[Kb (by simpa using h0l),Lz (by omega)];exact h0
  have e3:=sx (T:=T) (t:=23) rfl (k:=1) (v:=.hs h.length 0 (acc.length+1) 3 true) h0' rfl (show 1+1<=2 by omega) (by decide);refine⟨_,_,_,_,e1,e2,e3,.inr ⟨by simp,h.length,by omega,?_,?_⟩⟩
  ·rw[Lb (by simp),JY];rfl
  ·rw[Lz (by omega),Km (by simp),LQ,LH];simp[rowOf]
theorem yI{h:Hp}{acc:List bI}(A:AX h acc):∃v,bY T 44 (.hp 0 0) h= .ok v h/\aH 2 [] v=M.pure v/\(∃c1 c2,v= .agg [c1,c2])/\i4 6 h (.tup [v,.int .i64 0])= .tup [(Ty.mk 2 acc).av,.int .i64 0]:=by
 have e:(Ty.mk 2 acc).av= .agg [.int .i64 2,aN acc]:=rfl;rcases A with⟨rfl,h0⟩|⟨hne,q,hq0,h0,hq⟩
 ·exact⟨.agg [.int .i64 2,.hn],zX (T:=T) (t:=44) rfl rfl h0 (show 0+2<=2 by omega),uw 2,⟨_,_,rfl⟩,rfl⟩
 ·refine⟨.agg [.int .i64 2,.hs q 0 acc.length 3 true],zX (T:=T) (t:=44) rfl rfl h0 (show 0+2<=2 by omega),Jh 2 q acc.length,⟨_,_,rfl⟩,?_⟩;have hfr:=xQ (f:=bi) I3 (fun x=>by rw[eG,jN]) (fun x g=>ED g x) (by decide) hq 5;rw[e,tg,<- hfr];rfl
def Fl(e:Exp)(l:List Ty)(x1 x2:AV)(hlen:l.length<=1000000)(hn:e.names.length=l.length):∀(n i:Nat)(h:Hp),l.length-i=n->i<=l.length->AX h ((e.names.zip l).take i)->
  ∃v h',aj (L71_0 (af pg) aj (K71_0 (af pg) aj)) [.ip (ab e.av),.hp 0 0,.bool true,gy l,.int .i64 l.length,.int .i64 i,x1,x2] h= .ok v h'/\i4 6 h' v= .tup [(Ty.mk 2 (e.names.zip l)).av,.int .i64 0]:=by
 intro n
 induction n with
 |zero=>
  intro i h hi hle A;have h1:¬((i:Int)<(l.length:Int)):=by omega
  have h2:(e.names.zip l).take i=e.names.zip l:=Lu (by rw[Lj];omega);rw[h2]at A;obtain⟨v,e1,e2,⟨c1,c2,rfl⟩,e3⟩:=yI A;refine⟨_,h,?_,e3⟩;rw[FL71_0];simp only[L71_0,K71_0,az,aB,aF,am,h1,Kv,ao,JL,JZ,cj,Kx];rw[aX e1];simp only[e2,aG,ol,az,aB];rfl
 | succ n ih=>
  intro i h hi hle A;have hlt:i<l.length:=by omega
  have hlt2:i<e.names.length:=by omega
  have h1:(i:Int)<(l.length:Int):=by omega
  have hw:IntKind.i64.wrap ((i:Int)+1)=(i:Int)+1:=aS (by omega);have hix:=rn (l:=l) (n:=(i:Int)) (by omega) h1;rw[JW,J1 l i hlt]at hix;have hix2:=nO (l:=e.names) (n:=(i:Int)) (by omega) (by omega);rw[JW,J1 e.names i hlt2]at hix2;have ht:(e.names.zip l).take (i+1)=(e.names.zip l).take i++[(e.names[i],l[i])]:=by
   rw[K8 (by rw[Lj];omega),MB]
  obtain⟨sv,rv,h2,h3,e1,e2,e3,A3⟩:=yJ A (by rw[KQ,Lj];omega) (e.names[i],l[i]);rw[<- ht]at A3;obtain⟨v,h',e4,e5⟩:=ih (i+1) h3 (by omega) (by omega) A3;refine⟨v,h',?_,e5⟩;have e4':aj (L71_0 (af pg) aj (K71_0 (af pg) aj)) [.ip (ab e.av),.hp 0 0,.bool true,gy l,.int .i64 l.length,.int .i64 ((i:Int)+1),x1,x2] h3= .ok v h':=e4;rw[<- e4'];generalize hcode:aj (L71_0 (af pg) aj (K71_0 (af pg) aj)) [.ip (ab e.av),.hp 0 0,.bool true,gy l,.int .i64 l.length,.int .i64 i,x1,x2] h=code;rw[FL71_0]at hcode;simp -implicitDefEqProofs only[L71_0,az,aB,aF,am,h1,Kf,ao,J0,hix,eQ,LD44,Ke,J8,Ko,Nat.reduceAdd,JO,KE,KM,ff,Av.iu,aG,fa1]at hcode;rw[aX e1]at hcode;simp -implicitDefEqProofs only[cn,FA46_4,am,Lk,KG,LD22,hix2,dD,LD9,LD44,Ke,J8,Ko,Nat.reduceAdd,JO,J0,KE,KM,ff,rL,HW]at hcode;rw[aX e2]at hcode;rw[aX e3]at hcode;simp -implicitDefEqProofs only[aU,am,hw]at hcode;rw[<- hcode,cn]
theorem eF(l:List Ty):ab (gy l)=[gy l]:=rfl
def t71(e:Exp)(l:List Ty)(hl:∀t∈l,dJ t)(hlen:l.length<=1000000)(h11:e.op=11->l.length=3)(h14:e.op=14->l.length=1)(h13:e.op=13->e.names.length=l.length):af pg 71 [e.av,gy l]=M.pure (match cG e l with|some t=>.tup [t.av,.int .i64 0]|none=>.tup [ty0.av,.int .i64 13]):=by
 have h0:=t99 0 l hlen;have h1:=t99 1 l hlen;rw[C71,zr,zu];have fin:∀k:Int,i4 6 [[.int .i64 k,.hn]] (.tup [.agg [.int .i64 k,.hn],.int .i64 0])= .tup [(Ty.mk k []).av,.int .i64 0]:=fun k=>rfl;have fin0:∀h:Hp,i4 6 h (.tup [ty0.av,.int .i64 13])= .tup [ty0.av,.int .i64 13]:=fun h=>rfl;have fins:∀(h:Hp)(t:Ty),i4 6 h (.tup [.agg [.int .i64 t.kind,aN t.fields],.int .i64 0])= .tup [t.av,.int .i64 0]:=fun h t=>by
  have hc:Ap.Clean (AV.tup [t.av,.int .i64 0]):=fun g=>by simp[cl,df]
  rw[ff];exact hc.frz 6 h
 by_cases o3:e.op=3\/e.op=4\/e.op=5\/e.op=16
 ·have ep:cG e l=if jv 0 l=true then some (.mk 0 [])else none:=by unfold cG;rw[JV o3]
  rw[ep];cases hb:jv 0 l with
  |true=>
   rw[hb]at h0;refine bV (v:=.tup [.agg [.int .i64 0,.hn],.int .i64 0]) (h':=[[.int .i64 0,.hn]]) ?_ (fin 0);rcases o3 with hop|hop|hop|hop<;>simp[S71,K71_0,K71_1,K71_2,uv,wx,B1,B2,uu,B3,B4,fa0,hop,uw,ux,aW,eF,h0,h1]<;>rfl
  |false=>
   rw[hb]at h0;refine bV (v:=.tup [ty0.av,.int .i64 13]) (h':=[[.int .i64 0,.hn]]) ?_ (fin0 _);rcases o3 with hop|hop|hop|hop<;>simp[S71,K71_0,K71_1,K71_2,uv,wx,B1,B2,uu,B3,B4,fa0,hop,uw,ux,aW,eF,h0,h1]<;>rfl
 ·by_cases hop:e.op=1
  ·have ep:cG e l=some (.mk 1 []):=by unfold cG;rw[if_neg o3,JV hop]
   rw[ep];refine bV (v:=.tup [.agg [.int .i64 1,.hn],.int .i64 0]) (h':=[[.int .i64 1,.hn]]) ?_ (fin 1);simp[S71,K71_0,K71_1,K71_2,uv,wx,B1,B2,uu,B3,B4,fa0,hop,uw,ux,aW,eF,h0,h1,Ec];rfl
  ·by_cases hop6:e.op=6
   ·have hop:=hop6;have ep:cG e l=if jv 0 l=true then some (.mk 1 [])else none:=by unfold cG;rw[if_neg o3,if_neg (by omega),JV hop6]
    rw[ep];cases hb:jv 0 l with
    |true=>
     rw[hb]at h0;refine bV (v:=.tup [.agg [.int .i64 1,.hn],.int .i64 0]) (h':=[[.int .i64 1,.hn]]) ?_ (fin 1);simp[S71,K71_0,K71_1,K71_2,uv,wx,B1,B2,uu,B3,B4,fa0,hop,uw,ux,aW,eF,h0,h1,Ec];rfl
    |false=>
     rw[hb]at h0;refine bV (v:=.tup [ty0.av,.int .i64 13]) (h':=[[.int .i64 1,.hn]]) ?_ (fin0 _);simp[S71,K71_0,K71_1,K71_2,uv,wx,B1,B2,uu,B3,B4,fa0,hop,uw,ux,aW,eF,h0,h1,Ec];rfl
   ·by_cases hop7:e.op=7
    ·have hop:=hop7;have ep:cG e l=if(jv 0 l||jv 1 l)=true then some (.mk 1 [])else none:=by unfold cG;rw[if_neg o3,if_neg (by omega),if_neg hop6,JV hop7]
     rw[ep];cases hb:jv 0 l<;>cases hb1:jv 1 l<;>rw[hb]at h0<;>rw[hb1]at h1
     ·refine bV (v:=.tup [ty0.av,.int .i64 13]) (h':=[[.int .i64 1,.hn]]) ?_ (fin0 _);simp[S71,K71_0,K71_1,K71_2,uv,wx,B1,B2,uu,B3,B4,fa0,hop,uw,ux,aW,eF,h0,h1,Ec];rfl
     all_goals
      refine bV (v:=.tup [.agg [.int .i64 1,.hn],.int .i64 0]) (h':=[[.int .i64 1,.hn]]) ?_ (fin 1);simp[S71,K71_0,K71_1,K71_2,uv,wx,B1,B2,uu,B3,B4,fa0,hop,uw,ux,aW,eF,h0,h1,Ec];rfl
    ·by_cases o8:e.op=8\/e.op=9\/e.op=10
     ·have ep:cG e l=if jv 1 l=true then some (.mk 1 [])else none:=by unfold cG;rw[if_neg o3,if_neg (by omega),if_neg hop6,if_neg hop7,JV o8]
      rw[ep];cases hb:jv 1 l with
      |true=>
       rw[hb]at h1;refine bV (v:=.tup [.agg [.int .i64 1,.hn],.int .i64 0]) (h':=[[.int .i64 1,.hn]]) ?_ (fin 1);rcases o8 with hop|hop|hop<;>simp[S71,K71_0,K71_1,K71_2,uv,wx,B1,B2,uu,B3,B4,fa0,hop,uw,ux,aW,eF,h0,h1,Ec]<;>rfl
      |false=>
       rw[hb]at h1;refine bV (v:=.tup [ty0.av,.int .i64 13]) (h':=[[.int .i64 1,.hn]]) ?_ (fin0 _);rcases o8 with hop|hop|hop<;>simp[S71,K71_0,K71_1,K71_2,uv,wx,B1,B2,uu,B3,B4,fa0,hop,uw,ux,aW,eF,h0,h1,Ec]<;>rfl
     ·by_cases hop11:e.op=11
      ·have hop:=hop11;have ep:cG e l=(match uz l[1]! l[2]! with|some t=>if l[0]!.kind=1 then some t else none|none=>none):=by unfold cG;rw[if_neg o3,if_neg (by omega),if_neg hop6,if_neg hop7,if_neg o8,JV hop11];rfl
       rw[ep];obtain⟨a,b,c,rfl⟩:∃a b c,l=[a,b,c]:=by
        have:=h11 hop
        match l,this with
        |[a,b,c],_=>exact⟨a,b,c,rfl⟩
       have i0:ak T 88 (gy [a,b,c]) (.int .i64 0)=some (.ip (ab a.av)):=rn (l:=[a,b,c]) (n:=0) (by omega) (by simp);have i1:ak T 88 (gy [a,b,c]) (.int .i64 1)=some (.ip (ab b.av)):=rn (l:=[a,b,c]) (n:=1) (by omega) (by simp);have i2:ak T 88 (gy [a,b,c]) (.int .i64 2)=some (.ip (ab c.av)):=rn (l:=[a,b,c]) (n:=2) (by omega) (by simp);have hu:=t101 b c (hl b (by simp)) (hl c (by simp));show aJ _=M.pure (match (match uz b c with|some t=>if a.kind=1 then some t else none|none=>none)with|some t=>.tup [t.av,.int .i64 0]|none=>.tup [ty0.av,.int .i64 13]);cases hub:uz b c with
       |none=>
        rw[hub]at hu;refine bV (v:=.tup [ty0.av,.int .i64 13]) (h':=[[.int .i64 0,.sl []]]) ?_ (fin0 _);simp[S71,K71_0,K71_1,K71_2,uv,wx,B1,B2,uu,B3,B4,fa0,hop,uw,ux,aW,eF,h0,h1,i0,i1,i2,hu,hub,Gi,AJ];rfl
       | some u=>
        rw[hub]at hu;by_cases hk:a.kind=1
        ·dsimp only;rw[JV hk];have hk':(a.kind== 1)=true:=Kw.2 hk;refine bV (v:=.tup [.agg [.int .i64 u.kind,aN u.fields],.int .i64 0]) (h':=[[.int .i64 u.kind,aN u.fields]]) ?_ (fins _ u);simp[S71,K71_0,K71_1,K71_2,uv,wx,B1,B2,uu,B3,B4,fa0,hop,uw,ux,aW,eF,h0,h1,i0,i1,i2,hu,hub,Gi,hk',cnt];rfl
        ·dsimp only;rw[if_neg hk];have hk':(a.kind== 1)=false:=J4.2 hk;refine bV (v:=.tup [ty0.av,.int .i64 13]) (h':=[[.int .i64 u.kind,aN u.fields]]) ?_ (fin0 _);simp[S71,K71_0,K71_1,K71_2,uv,wx,B1,B2,uu,B3,B4,fa0,hop,uw,ux,aW,eF,h0,h1,i0,i1,i2,hu,hub,Gi,hk'];rfl
      ·by_cases hop13:e.op=13
       ·have hop:=hop13;have ep:cG e l=some (.mk 2 (e.names.zip l)):=by unfold cG;rw[if_neg o3,if_neg (by omega),if_neg hop6,if_neg hop7,if_neg o8,if_neg hop11,JV hop13]
        rw[ep];obtain⟨v,h',e1,e2⟩:=Fl e l (.int .i64 0) (.sl []) hlen (h13 hop) l.length 0 [[.int .i64 2,.hn]] rfl (Ki _) (.inl ⟨rfl,rfl⟩);refine bV (v:=v) (h':=h') ?_ e2;have e1':aj (L71_0 (af pg) aj (K71_0 (af pg) aj)) [.ip (ab e.av),.hp 0 0,.bool true,gy l,.int .i64 l.length,.int .i64 0,.int .i64 0,.sl []] [[.int .i64 2,.hn]]= .ok v h':=e1;rw[cn,hop]at e1';simp[S71,K71_1,K71_2,uv,B1,uu,B3,fa0,hop,eF,Ec];exact e1'
       ·by_cases hop14:e.op=14
        ·have hop:=hop14;have ep:cG e l=(match bN (fun z=>z.1== e.s) l[0]!.fields with|some z=>some z.2|none=>none):=by unfold cG;rw[if_neg o3,if_neg (by omega),if_neg hop6,if_neg hop7,if_neg o8,if_neg hop11,if_neg hop13,JV hop14];rfl
         rw[ep];obtain⟨a,rfl⟩:∃a,l=[a]:=by
          have:=h14 hop
          match l,this with
          |[a],_=>exact⟨a,rfl⟩
         have i0:ak T 88 (gy [a]) (.int .i64 0)=some (.ip (ab a.av)):=rn (l:=[a]) (n:=0) (by omega) (by simp);have hk:=t66 a.fields (hl a (by simp)).len e.s;show aJ _=M.pure (match (match bN (fun z=>z.1== e.s) a.fields with|some z=>some z.2|none=>none)with|some t=>.tup [t.av,.int .i64 0]|none=>.tup [ty0.av,.int .i64 13]);cases hz:bN (fun z:bI=>z.1== e.s) a.fields with
         |none=>
          rw[hz]at hk;refine bV (v:=.tup [ty0.av,.int .i64 13]) (h':=[[.int .i64 0,.sl []]]) ?_ (fin0 _);simp[S71,K71_0,K71_1,K71_2,uv,wx,B1,B2,uu,B3,B4,fa0,hop,uw,ux,aW,eF,h0,h1,i0,hk,Gi,AJ];rfl
         |some z=>
          rw[hz]at hk;refine bV (v:=.tup [.agg [.int .i64 z.2.kind,aN z.2.fields],.int .i64 0]) (h':=[[.int .i64 z.2.kind,aN z.2.fields]]) ?_ (fins _ z.2);simp[S71,K71_0,K71_1,K71_2,uv,wx,B1,B2,uu,B3,B4,fa0,hop,uw,ux,aW,eF,h0,h1,i0,hk,Gi,cnt];rfl
        ·have ep:cG e l=some (.mk 0 []):=by unfold cG;rw[if_neg o3,if_neg (by omega),if_neg hop6,if_neg hop7,if_neg o8,if_neg hop11,if_neg hop13,if_neg hop14]
         rw[ep];refine bV (v:=.tup [.agg [.int .i64 0,.hn],.int .i64 0]) (h':=[[.int .i64 0,.hn]]) ?_ (fin 0);have n3:(e.op== 3)=false:=J4.2 (by omega);have n4:(e.op== 4)=false:=J4.2 (by omega);have n5:(e.op== 5)=false:=J4.2 (by omega);have n16:(e.op== 16)=false:=J4.2 (by omega);have n1:(e.op== 1)=false:=J4.2 (by omega);have n6:(e.op== 6)=false:=J4.2 (by omega);have n7:(e.op== 7)=false:=J4.2 (by omega);have n8:(e.op== 8)=false:=J4.2 (by omega);have n9:(e.op== 9)=false:=J4.2 (by omega);have n10:(e.op== 10)=false:=J4.2 (by omega);have n11:(e.op== 11)=false:=J4.2 (by omega);have n13:(e.op== 13)=false:=J4.2 (by omega);have n14:(e.op== 14)=false:=J4.2 (by omega);simp[S71,K71_0,K71_1,K71_2,uv,B1,uu,B4,uw,n3,n4,n5,n16,n1,n6,n7,n8,n9,n10,n11,n13,n14];rfl
def Al(f:AV)(F:Fun->Bool)(l:List Fun)(hb:l.length<=4611686018427387904)(hf:∀x∈l,aW (af pg) f [Fun.av x]=M.pure (.bool (F x))):∀(n:Nat)(i:Int),l.length-i.toNat=n->0<=i->i<=l.length->
  aj (L118_0 (af pg) aj) [dK l,f,.int .i64 l.length,.int .i64 i]=M.pure (.int .i64 (be F (l.drop i.toNat) i)):=by
 intro n
 induction n with
 |zero=>
  intro i hn hi hl;rw[FL118_0];simp only[L118_0];have h1:¬(i<(l.length:Int)):=by omega
  have h2:l.drop i.toNat=[]:=JQ (by omega);simp[h1,h2,be]
 |succ n ih=>
  intro i hn hi hl;have h1:i<(l.length:Int):=by omega
  have hlt:i.toNat<l.length:=by omega
  have h2:be F (l.drop i.toNat) i=if F l[i.toNat]=true then i else be F (l.drop (i.toNat+1)) (i+1):=by rw[JS hlt];rfl
  have h3:=hf l[i.toNat] (JP hlt);have h4:=ih (i+1) (by omega) (by omega) (by omega);rw[show (i+1).toNat=i.toNat+1 by omega]at h4;rw[FL118_0];simp only[L118_0];simp (disch:=omega) [h1,bE,p7,h3,h2];cases F l[i.toNat]
  ·simpa using h4
  ·simp
def IM(f:AV)(F:Fun->Bool)(l:List Fun)(hb:l.length<=4611686018427387904)(hc:∀g,cl g f=f)(hf:∀x∈l,aW (af pg) f [Fun.av x]=M.pure (.bool (F x))):af pg 118 [dK l,f]=M.pure (.int .i64 (be F l 0)):=by
 rw[C118];simp[S118,hc,Al f F l hb hf l.length 0 rfl (by omega) (by omega)]
def Ak(s:aT)(l:List aT)(hb:l.length<=4611686018427387904):∀(n:Nat)(i:Int),l.length-i.toNat=n->0<=i->i<=l.length->
  aj (L112_0 (af pg) aj) [strs l,.str s,.int .i64 l.length,.int .i64 i]=M.pure (.int .i64 (be (fun x=>s== x) (l.drop i.toNat) i)):=by
 intro n
 induction n with
 |zero=>
  intro i hn hi hl;rw[FL112_0];simp only[L112_0];have h1:¬(i<(l.length:Int)):=by omega
  have h2:l.drop i.toNat=[]:=JQ (by omega);simp[h1,h2,be]
 | succ n ih=>
  intro i hn hi hl;have h1:i<(l.length:Int):=by omega
  have hlt:i.toNat<l.length:=by omega
  have h2:be (fun x=>s== x) (l.drop i.toNat) i=if(s== l[i.toNat])=true then i else be (fun x=>s== x) (l.drop (i.toNat+1)) (i+1):=by rw[JS hlt];rfl
  have h4:=ih (i+1) (by omega) (by omega) (by omega);rw[show (i+1).toNat=i.toNat+1 by omega]at h4;rw[FL112_0,h2];simp only[L112_0];have hix:=nO (l:=l) (n:=i) hi h1;rw[J1 l i.toNat hlt]at hix;generalize l[i.toNat]=x at hix |-;cases hx:s== x
  ·have hw:IntKind.i64.wrap (i+1)=i+1:=bE (by omega) (by omega);simp only[az,aB,aF,am,h1,Kf,ao,J0,hix,dD,LD9,xg,hx,JL,JZ,aU,hw,h4]
  ·simp only[az,aB,aF,am,h1,Kf,ao,J0,hix,dD,LD9,xg,hx]
def IL(s:aT)(l:List aT)(hb:l.length<=4611686018427387904):af pg 112 [strs l,.str s]=M.pure (.int .i64 (be (fun x=>s== x) l 0)):=by
 have h:=Ak s l hb l.length 0 rfl (by omega) (by omega);rw[C112];have h':aj (L112_0 (af pg) aj) [strs l,.str s,.int .i64 l.length,.int .i64 0]=M.pure (.int .i64 (be (fun x=>s== x) l 0)):=h;simp only[S112,kf,uL,jy,am,h',lH]
def Hg(s:aT)(l:List aT)(hb:l.length<=4611686018427387904):af pg 83 [strs l,.str s]=M.pure (.bool (l.contains s)):=by
 rw[C83];have e:l.any (fun x=>s== x)=l.contains s:=by rw[List.contains_eq_any_beq]
 simp only[S83,kf,uL,IL s l hb,aG,rA,am,mA,e,fH]
def bg(m:Ap.Mod)(mp:AV)(n:Int):List AV:=[.str m.name,strs m.uses,aN m.vars,bp m.init,dK m.funcs,.bool m.moves,aN m.old,bp m.forward,bp m.back,mp,.int .i64 n]
def cg(fs:List Face):List AV:=fs.map fun f=>.tup [.str f.module,f.av]
def I2(h:Hp)(mp:AV)(fs:List Face):Prop:=(mp= .nilm/\fs=[])\/∃l,mp= .mp l/\h[l]? = some [.tup (cg fs)]
structure JR (h:Hp) (q:Nat) (m:Ap.Mod) (mp:AV) (fs:List Face) (n:Int):Prop where
 row:h[q]? = some (bg m mp n)
 map:I2 h mp fs
 ne:mp≠.mp q
def JR.set{h:Hp}{q:Nat}{m:Ap.Mod}{mp:AV}{fs:List Face}{n:Int}(R:JR h q m mp fs n)(n':Int):JR (h.set q (bg m mp n')) q m mp fs n':=by
 have hl:=(Kn.1 R.row).1;refine⟨Lb hl,?_,R.ne⟩;rcases R.map with h1|⟨l,h1,h2⟩
 ·exact .inl h1
 ·refine .inr ⟨l,h1,?_⟩;rw[Lz (fun e=>R.ne (by rw[h1,e]))];exact h2
def JR.same{h:Hp}{q:Nat}{m:Ap.Mod}{mp:AV}{fs:List Face}{n:Int}(R:JR h q m mp fs n):h.set q (bg m mp n)=h:=by
 obtain⟨hl,e⟩:=Kn.1 R.row;rw[<- e];exact List.set_getElem_self hl
def Jw{h:Hp}{q:Nat}{m:Ap.Mod}{mp:AV}(a b:Int):(h.set q (bg m mp a)).set q (bg m mp b)=h.set q (bg m mp b):=List.set_set ..
def JR.vars{h:Hp}{q:Nat}{m:Ap.Mod}{mp:AV}{fs:List Face}{n:Int}(R:JR h q m mp fs n):bY T 23 (.hp q 2) h= .ok (aN m.vars) h:=kP rfl rfl R.row rfl
def JR.funcs{h:Hp}{q:Nat}{m:Ap.Mod}{mp:AV}{fs:List Face}{n:Int}(R:JR h q m mp fs n):bY T 25 (.hp q 4) h= .ok (dK m.funcs) h:=kP rfl rfl R.row rfl
def JR.uses{h:Hp}{q:Nat}{m:Ap.Mod}{mp:AV}{fs:List Face}{n:Int}(R:JR h q m mp fs n):bY T 22 (.hp q 1) h= .ok (strs m.uses) h:=kP rfl rfl R.row rfl
def JR.mp{h:Hp}{q:Nat}{m:Ap.Mod}{mp:AV}{fs:List Face}{n:Int}(R:JR h q m mp fs n):bY T 63 (.hp q 9) h= .ok mp h:=kP rfl rfl R.row rfl
def JR.eff{h:Hp}{q:Nat}{m:Ap.Mod}{mp:AV}{fs:List Face}{n:Int}(R:JR h q m mp fs n):bY T 3 (.hp q 10) h= .ok (.int .i64 n) h:=kP rfl rfl R.row rfl
def JR.put{h:Hp}{q:Nat}{m:Ap.Mod}{mp:AV}{fs:List Face}{n:Int}(R:JR h q m mp fs n)(n':Int):cC T 3 (.hp q 10) (.int .i64 n') h= .ok (.tup []) (h.set q (bg m mp n')):=
 sx (T:=T) (t:=3) rfl (v:=.int .i64 n') R.row rfl (show 10+1<=11 by omega) (by decide)
theorem Ji(a b:aT):xJ T 20 9 (.str a) (.str b)=some (a== b):=rfl
theorem oL(s:aT):(fs:List Face)->(i:Nat)->(fs.find? (fun f=>f.module== s)=none/\eA T 9 (.str s) (cg fs) i=some none)\/∃f j k,fs.find? (fun f=>f.module== s)=some f/\eA T 9 (.str s) (cg fs) i=some (some (j,k,f.av))
 |[],i=>.inl ⟨rfl,rfl⟩
 |x:: fs,i=>by
  show (_/\eA T 9 (.str s) (.tup [.str x.module,x.av]:: cg fs) i=_)\/∃f j k,_/\eA T 9 (.str s) (.tup [.str x.module,x.av]:: cg fs) i=_;unfold eA;rw[Ji,List.find?_cons];have hc:(s== x.module)=(x.module== s):=KU.2 ⟨fun h=>Kw.2 (Kw.1 h).symm,fun h=>Kw.2 (Kw.1 h).symm⟩;rw[hc];cases hx:x.module== s with
  |true=>exact .inr ⟨x,i,.str x.module,rfl,rfl⟩
  |false=>exact oL s fs (i+1)
def mG{h:Hp}{mp:AV}{fs:List Face}(M:I2 h mp fs)(s:aT):eh T 63 mp (.str s) true h= .ok (.tup [((fs.find? fun f=>f.module== s).getD lx).av,.bool (fs.find? fun f=>f.module== s).isSome]) h:=by
 have e:∀es:List AV,nu T 63 es (.str s) true=(match eA T 9 (.str s) es 0 with
   |some (some (_,_,v))=>some (.tup [v,.bool true])
   |some none=>some (.tup [lx.av,.bool false])
   |none=>none):=fun es=>rfl
 rcases M with⟨rfl,rfl⟩|⟨l,rfl,hl⟩
 ·unfold eh jK;simp only;rw[e];rfl
 ·unfold eh jK;simp only[hl];rw[e];rcases oL s fs 0 with⟨h1,h2⟩|⟨f,j,k,h1,h2⟩
  ·rw[h1,h2];rfl
  ·rw[h1,h2];rfl
def IP(f:Fun)(e:Exp):af pg 124 [f.av,.ip (ab e.av)]=M.pure (.bool (f.name== e.s)):=by
 rw[C124];simp[S124,cl,df]
def IQ(f:Sig)(e:Exp):af pg 126 [f.av,.ip (ab e.av)]=M.pure (.bool (f.name== e.s)):=by
 rw[C126];simp[S126,cl,df]
structure CxOk (m:Ap.Mod) (fs:List Face):Prop where
 vlen:m.vars.length<=1000000
 vars:∀z∈m.vars,bX z.2=true
 flen:m.funcs.length<=1000000
 ulen:m.uses.length<=1000000
 plen:∀f∈m.funcs,f.params.length<=1000000
 pars:∀f∈m.funcs,∀z∈f.params,bX z.2=true
 res:∀f∈m.funcs,bX f.result=true
 slen:∀f∈fs,f.funcs.length<=140737488355328
 splen:∀f∈fs,∀s∈f.funcs,s.params.length<=140737488355328
 spars:∀f∈fs,∀s∈f.funcs,∀t∈s.params,bX t=true
 sres:∀f∈fs,∀s∈f.funcs,bX s.result=true
def yp:Sig:=⟨[],[],ty0,0⟩
def qm(l:List bI)(hl:l.length<=1000000)(x3 x4 x5 x6 x7:AV)(k:Int)(fs:List bI)(e:Int):∀(n i:Nat)(acc:List Ty),l.length-i=n->i<=l.length->acc.length<=i->
  aj (L98_0 (af pg) aj) [aN l,.int .i64 l.length,.int .i64 i,x3,x4,x5,x6,x7,.str [],gy acc,.int .i64 k,aN fs,.int .i64 e]=M.pure (.tup [(Sig.mk [] (acc++(l.drop i).map (·.2)) (.mk k fs) e).av,.bool true]):=by
 intro n
 induction n with
 |zero=>
  intro i acc hn hi ha;have h1:¬((i:Int)<(l.length:Int)):=by omega
  have h2:l.drop i=[]:=JQ (by omega);have h3:aH 5 [] (.agg [.str [],gy acc,.int .i64 k,aN fs,.int .i64 e])=M.pure (.agg [.str [],gy acc,.int .i64 k,aN fs,.int .i64 e]):=bB rfl;rw[FL98_0,h2];simp[L98_0,h1,h3];rfl
 |succ n ih=>
  intro i acc hn hi ha;have hlt:i<l.length:=by omega
  have h1:(i:Int)<(l.length:Int):=by omega
  have h2:l.drop i=l[i]:: l.drop (i+1):=JS hlt;have hw:IntKind.i64.wrap ((i:Int)+1)=(i:Int)+1:=aS (by omega);have hix:=iM (l:=l) (n:=(i:Int)) (by omega) h1;rw[JW,J1 l i hlt]at hix;have ih2:∀acc:List Ty,acc.length<=i+1->aj (L98_0 (af pg) aj) [aN l,.int .i64 l.length,.int .i64 ((i:Int)+1),x3,x4,x5,x6,x7,.str [],gy acc,.int .i64 k,aN fs,.int .i64 e]=M.pure (.tup [(Sig.mk [] (acc++(l.drop (i+1)).map (·.2)) (.mk k fs) e).av,.bool true]):=fun acc ha=>ih (i+1) acc (by omega) (by omega) ha;have ih':=ih2 (acc++[l[i].2]) (by simp;omega);have hap:=Gh (a:=acc) (b:=[l[i].2]) (by simp;omega);rw[FL98_0,h2];generalize l[i]=f at hix hap ih' |-;have hsl:aK T 88 1 [(0,f.2.av)]=some (gy [f.2]):=by cases f.2;rfl
  have hc1:∀l:List Ty,bR (gy l)=M.pure (gy l):=fun l=>rfl;simp[L98_0,h1,hix,hsl,hap,hc1,hw,ih']
theorem Js{h:Hp}{q:Nat}{m:Ap.Mod}{mp:AV}{fs:List Face}{n:Int}(R:JR h q m mp fs n)(K:CxOk m fs)(e:Exp):∃r,af pg 98 [.hp q 0,e.av] h= .ok r h/\(match db (dL m fs) e with
  |none=>r= .tup [yp.av,.bool false]
  |some s=>∃nm,r= .tup [(Sig.mk nm s.1 s.2.1 s.2.2).av,.bool true]):=by
 have bs0:aY T false 90 []=some yp.av:=rfl;have HO:∀(k:Int)(x:List bI)(f:Int),aY T true 90 [(2,(Ty.mk k x).av),(3,.int .i64 f)]=some (.agg [.str [],.hn,.int .i64 k,aN x,.int .i64 f]):=fun k x f=>rfl;have bs2:∀(k:Int)(x:List bI)(f:Int),aH 5 [1] (.agg [.str [],.hn,.int .i64 k,aN x,.int .i64 f])=M.pure (.agg [.str [],.hn,.int .i64 k,aN x,.int .i64 f]):=fun k x f=>rfl;have nc:cK (.hp q 0)=some (.hp q 0):=rfl;rw[C98];by_cases hm:e.m=[]
 ·have hm':(e.m== [])=true:=Kw.2 hm;have h1:=IM (.fn (.func 124) [] [.ip (ab e.av)]) (fun f=>f.name== e.s) m.funcs (by have:=K.flen;omega) (fun g=>by simp[cl,df]) (fun f _=>IP f e);simp only[cn]at h1;have l1:∀f:AV->M AV,ae (bY T 25 (.hp q 4)) f h=f (dK m.funcs) h:=fun f=>aX R.funcs f;unfold db;rw[JV hm];simp only[dL];rcases kN (fun f:Fun=>f.name== e.s) m.funcs 0 with⟨h2,h3⟩|⟨k,f,h2,h3,h4⟩
  ·rw[h3]at h1;rw[h2];refine⟨_,?_,rfl⟩;simp[S98,hm',l1,h1,bs0];rfl
  ·rw[LV]at h4;rw[h4]at h1;rw[h2];have hk:=(Kn.1 h3).1;have hix:=p7 (l:=m.funcs) (n:=(k:Int)) (by omega) (by omega);rw[JW,LG,h3,Mw]at hix;have hneg:¬((k:Int)<0):=by omega
   have hmem:=Lh h3;have hlp:=qm f.params (K.plen f hmem) (.str []) (.sl []) (.int .i64 0) (.sl []) (.int .i64 0) f.result.kind f.result.fields f.effects f.params.length 0 [] rfl (Ki _) (Ki _);have hlp':aj (L98_0 (af pg) aj) [aN f.params,.int .i64 f.params.length,.int .i64 0,.str [],.sl [],.int .i64 0,.sl [],.int .i64 0,.str [],.sl [],.int .i64 f.result.kind,aN f.result.fields,.int .i64 f.effects]=M.pure (.tup [(Sig.mk [] (f.params.map (·.2)) f.result f.effects).av,.bool true]):=by
    rw[Ty.eta]at hlp;exact hlp
   have bs1':aY T true 90 [(2,f.result.av),(3,.int .i64 f.effects)]=some (.agg [.str [],.hn,.int .i64 f.result.kind,aN f.result.fields,.int .i64 f.effects]):=by
    rw[<- Ty.eta f.result];rfl
   refine⟨_,?_,[],rfl⟩;simp[S98,hm',l1,h1,hneg,hix,bs1',bs2,hlp'];rfl
 ·have hm':(e.m== [])=false:=J4.2 hm;have l1:∀f:AV->M AV,ae (bY T 63 (.hp q 9)) f h=f mp h:=fun f=>aX R.mp f;have l2:∀f:AV->M AV,ae (eh T 63 mp (.str e.m) true) f h=f (.tup [((fs.find? fun f=>f.module== e.m).getD lx).av,.bool (fs.find? fun f=>f.module== e.m).isSome]) h:=fun f=>aX (mG R.map e.m) f;have l4:∀(g:AV->M (List AV))(f:List AV->M AV),ae (ae (bY T 22 (.hp q 1)) g) f h=ae (g (strs m.uses)) f h:=fun g f=>by simp only[ae,R.uses]
  have cmf:∀f:Face,aO 2 f.av=M.pure f.av:=fun f=>by rw[cf (mJ f),jE,qI]
  have hct:=Hg e.m m.uses (by have:=K.ulen;omega);cases hf:fs.find? (fun f=>f.module== e.m)with
  | none=>
   rw[hf]at l2;have hix:=t125 (.fn (.func 126) [] [.ip (ab e.av)]) (fun f=>f.name== e.s) lx.funcs (by simp[lx]) (fun g=>by simp[cl,df]) (fun f hf=>by cases hf);have hix':af pg 125 [sigs lx.funcs,.fn (.func 126) [] [.ip [.int .i64 e.op,.int .i64 e.n,.str e.s,.str e.m,strs e.names,bp e.args]]]=M.pure (.int .i64 (-1)):=by
    have:=hix
    simp only[cn]at this;exact this
   have z1:aO 2 lx.av=M.pure (.agg [.str [],.sl []]):=rfl;have ec:db (dL m fs) e=none:=by simp[db,dL,hm,hf]
   rw[ec];refine⟨_,?_,rfl⟩;simp[S98,hm',l1,l2,z1,hix',bs0];rfl
  | some f=>
   rw[hf]at l2;have hfm:=K3 hf;have h1:=t125 (.fn (.func 126) [] [.ip (ab e.av)]) (fun f=>f.name== e.s) f.funcs (by have:=K.slen f hfm;omega) (fun g=>by simp[cl,df]) (fun f _=>IQ f e);simp only[cn]at h1;rcases kN (fun f:Sig=>f.name== e.s) f.funcs 0 with⟨h2,h3⟩|⟨k,s,h2,h3,h4⟩
   ·rw[h3]at h1;have ec:db (dL m fs) e=none:=by simp[db,dL,hm,hf,h2]
    rw[ec];refine⟨_,?_,rfl⟩;simp[S98,hm',l1,l2,cmf,h1,bs0];rfl
   ·rw[LV]at h4;rw[h4]at h1;have hk:=(Kn.1 h3).1;have hix:=AY (l:=f.funcs) (n:=(k:Int)) (by omega) (by omega);rw[JW,LG,h3,Mw]at hix;have hneg:¬((k:Int)<0):=by omega
    by_cases hu:e.m∈m.uses
    case neg=>
     have hu':m.uses.contains e.m=false:=by rw[<- LK,KN];exact hu
     rw[hu']at hct;have ec:db (dL m fs) e=none:=by simp[db,dL,hm,hf,h2,hu]
     rw[ec];refine⟨_,?_,rfl⟩;simp[S98,hm',l1,l2,l4,cmf,h1,hneg,hct,bs0];rfl
    case pos=>
     rw[KN.2 hu]at hct;have ec:db (dL m fs) e=some (s.params,s.result,s.effects):=by simp[db,dL,hm,hf,h2,hu]
     rw[ec];have ux:aH 5 [] s.av=M.pure s.av:=rC s;refine⟨_,?_,s.name,rfl⟩;simp[S98,hm',l1,l2,l4,cmf,h1,hneg,hct,hix,ux];rfl
end Go.Proofs.YtblddnfanlkgiaaGreat
namespace Go.Av.Ap
abbrev Vr:=bI×Exp
def cD(v:Vr):AV:=.agg (ab (bi v.1)++v.2.cells)
structure Mig where
 old:List bI
 forward:List Exp
 back:List Exp
 deriving Inhabited
def bG(m:Mig):AV:=.agg [aN m.old,bp m.forward,bp m.back]
end Go.Av.Ap
namespace Go.Proofs.YtblddnfanlkgiaaGreat.Mg
open Go Go.Av Go.Av.Ap
set_option maxRecDepth 100000
def iY{f:FuncId}{args:List AV}{v:AV}(h:af pg f args=M.pure v):kz (af pg) f args=M.pure v:=by
 unfold kz;rw[h];cases pg.iso f<;>rfl
def nL(v:Vr):cD v= .agg [.str v.1.1,.int .i64 v.1.2.kind,aN v.1.2.fields,.int .i64 v.2.op,.int .i64 v.2.n,.str v.2.s,.str v.2.m,strs v.2.names,bp v.2.args]:=by simp[cD,Exp.cells_eq]
def okV(x:Vr):cz 9 (cD x)=true:=by rw[nL];rfl
def Ju(x:Vr):cT (cD x)=some 9:=by rw[nL];rfl
def HT(x:Vr):ah T 98 (.ip (ab (cD x)))=some (cD x):=by rw[nL];rfl
def Ix(x:Vr):aO 9 (cD x)=M.pure (cD x):=by rw[cf (okV x)];rfl
def GO(g:Nat->Nat->Nat->Nat->Bool->AV)(x:Vr):cl g (cD x)=cD x:=by rw[nL];simp[cl,df]
theorem HU(x:Mig):cz 3 (bG x)=true:=rfl
theorem Jt(x:Mig):cT (bG x)=some 3:=rfl
theorem Ja(x:Mig):ah T 27 (.ip (ab (bG x)))=some (bG x):=rfl
def Jg(x:Mig):aO 3 (bG x)=M.pure (bG x):=by rw[cf (HU x)];rfl
def Iu(g:Nat->Nat->Nat->Nat->Bool->AV)(x:Mig):cl g (bG x)=bG x:=by simp[bG,cl,df]
def E4(f:AV)(F:bI->bI->Bool)(a:List bI)(b:List bI)(hb:a.length<=4611686018427387904)(hab:a.length=b.length)(hf:∀x∈a,∀y∈b,aW (af pg) f [bi x,bi y]=M.pure (.bool (F x y))):∀(n:Nat)(i:Int),a.length-i.toNat=n->0<=i->i<=a.length->
  aj (L35_0 (af pg) aj) [aN b,f,aN a,.int .i64 a.length,.int .i64 i]=M.pure (.bool (bF F (a.drop i.toNat) (b.drop i.toNat))):=by
 intro n
 induction n with
 |zero=>
  intro i hn hi hl;rw[FL35_0];simp only[L35_0];have h1:¬(i<(a.length:Int)):=by omega
  have h2:a.drop i.toNat=[]:=JQ (by omega);have h3:b.drop i.toNat=[]:=JQ (by omega);simp[h1,h2,h3,bF]
 |succ n ih=>
  intro i hn hi hl;have h1:i<(a.length:Int):=by omega
  have h1':i<(b.length:Int):=by omega
  have hlt:i.toNat<a.length:=by omega
  have hlt':i.toNat<b.length:=by omega
  have h3:=hf a[i.toNat] (JP hlt) b[i.toNat] (JP hlt');have h4:=ih (i+1) (by omega) (by omega) (by omega);rw[show (i+1).toNat=i.toNat+1 by omega]at h4;rw[FL35_0,gD F a b i.toNat hlt hlt'];simp only[L35_0];simp (disch:=omega) [h1,bE,iM,iM,h4];rw[h3];cases F a[i.toNat] b[i.toNat]<;>simp
def t35(f:AV)(F:bI->bI->Bool)(a:List bI)(b:List bI)(hb:a.length<=4611686018427387904)(hc:∀g,cl g f=f)(hf:∀x∈a,∀y∈b,aW (af pg) f [bi x,bi y]=M.pure (.bool (F x y))):af pg 35 [aN a,aN b,f]=M.pure (.bool (bF F a b)):=by
 rw[C35];by_cases h:a.length=b.length
 ·have:=E4 f F a b hb h hf a.length 0 rfl (by omega) (by omega)
  simp[S35,h,hc]at this |-;simp[this]
 ·have h3:(a.length != b.length)=true:=by simp[h]
  simp[S35,h3,dX F a b h]
def Fb(f:AV)(F:Exp->Exp->Bool)(a:List Exp)(b:List Exp)(hb:a.length<=4611686018427387904)(hab:a.length=b.length)(hf:∀x∈a,∀y∈b,aW (af pg) f [Exp.av x,Exp.av y]=M.pure (.bool (F x y))):∀(n:Nat)(i:Int),a.length-i.toNat=n->0<=i->i<=a.length->
  aj (L40_0 (af pg) aj) [bp b,f,bp a,.int .i64 a.length,.int .i64 i]=M.pure (.bool (bF F (a.drop i.toNat) (b.drop i.toNat))):=by
 intro n
 induction n with
 |zero=>
  intro i hn hi hl;rw[FL40_0];simp only[L40_0];have h1:¬(i<(a.length:Int)):=by omega
  have h2:a.drop i.toNat=[]:=JQ (by omega);have h3:b.drop i.toNat=[]:=JQ (by omega);simp[h1,h2,h3,bF]
 |succ n ih=>
  intro i hn hi hl;have h1:i<(a.length:Int):=by omega
  have h1':i<(b.length:Int):=by omega
  have hlt:i.toNat<a.length:=by omega
  have hlt':i.toNat<b.length:=by omega
  have h3:=hf a[i.toNat] (JP hlt) b[i.toNat] (JP hlt');have h4:=ih (i+1) (by omega) (by omega) (by omega);rw[show (i+1).toNat=i.toNat+1 by omega]at h4;rw[FL40_0,gD F a b i.toNat hlt hlt'];simp only[L40_0];simp (disch:=omega) [h1,bE,jx,jx,h4];rw[h3];cases F a[i.toNat] b[i.toNat]<;>simp
def t40(f:AV)(F:Exp->Exp->Bool)(a:List Exp)(b:List Exp)(hb:a.length<=4611686018427387904)(hc:∀g,cl g f=f)(hf:∀x∈a,∀y∈b,aW (af pg) f [Exp.av x,Exp.av y]=M.pure (.bool (F x y))):af pg 40 [bp a,bp b,f]=M.pure (.bool (bF F a b)):=by
 rw[C40];by_cases h:a.length=b.length
 ·have:=Fb f F a b hb h hf a.length 0 rfl (by omega) (by omega)
  simp[S40,h,hc]at this |-;simp[this]
 ·have h3:(a.length != b.length)=true:=by simp[h]
  simp[S40,h3,dX F a b h]
def t37:∀(N:Nat)(a b:Ty),SizeOf.sizeOf a<=N->a.Lim->af pg 37 [a.av,b.av]=M.pure (.bool (gU a b)):=by
 intro N
 induction N with
 |zero=>intro a b h;cases a;simp at h
 | succ N ih=>
  intro a b hN hL;have hlen:=hL.len;have h1:=t35 (.fn (.func 36) [] []) (fun x y=>x.1== y.1&&gU x.2 y.2) a.fields b.fields (by omega) (fun _=>rfl) (fun x hx y _=>by
   have:=ih x.2 y.2 (by have:=Hx hx;omega) (hL.kid hx)
   show af pg 36 [bi x,bi y]=_;rw[C36];simp[S36,this])
  rw[C37,Ax];simp[S37,h1]
def t38:∀(N:Nat)(a b:Exp),SizeOf.sizeOf a<=N->a.Lim->af pg 38 [a.av,b.av]=M.pure (.bool (iI a b)):=by
 intro N
 induction N with
 |zero=>intro a b h;cases a;simp at h
 |succ N ih=>
  intro a b hN hL;have hlen:=hL.len;have hnm:=hL.names;have h1:=t40 (.fn (.func 38) [] []) iI a.args b.args (by omega) (fun _=>rfl) (fun x hx y _=>ih x y (by have:=EO hx;omega) (hL.kid hx));have h2:=t39 a.names b.names (by omega);rw[C38,Au];simp[S38,h1,h2]
def pJ(a b:List bI):Bool:=bF (fun x y=>x.1== y.1&&gU x.2 y.2) a b
def t81(a b:List bI)(hl:a.length<=140737488355328)(hL:∀x∈a,x.2.Lim):af pg 81 [aN a,aN b]=M.pure (.bool (pJ a b)):=by
 have h1:=t35 (.fn (.func 110) [] []) (fun x y=>x.1== y.1&&gU x.2 y.2) a b (by omega) (fun _=>rfl) (fun x hx y _=>by
  have:=t37 _ x.2 y.2 (JO _) (hL x hx)
  show af pg 110 [bi x,bi y]=_;rw[C110];simp[S110,this])
 rw[C81];simp[S81,h1,pJ]
def fO(a b:Fun):Bool:=a.name== b.name&&a.pub== b.pub&&pJ a.params b.params&&gU a.result b.result&&a.effects== b.effects&&iI a.body b.body
def t52(a b:Fun)(h:a.Lim):af pg 52 [a.av,b.av]=M.pure (.bool (fO a b)):=by
 have h1:=t81 a.params b.params h.params h.pty;have h2:=t37 _ a.result b.result (JO _) h.result;have h3:=t38 _ a.body b.body (JO _) h.body;have hb:∀x y:Bool,aw T .eql 4 (.bool x) (.bool y)=some (.bool (x== y)):=fun _ _=>rfl;rw[C52];simp[S52,h1,h2,h3,hb,fO]
def vQ(a b:List Exp):Bool:=bF iI a b
def wB(a b:List Exp)(hl:a.length<=140737488355328)(hL:∀x∈a,x.Lim):af pg 40 [bp a,bp b,.fn (.func 38) [] []]=M.pure (.bool (vQ a b)):=
 t40 (.fn (.func 38) [] []) iI a b (by omega) (fun _=>rfl) (fun x hx y _=>t38 _ x y (JO _) (hL x hx))
structure MigLim (m:Mig):Prop where
 old:m.old.length<=140737488355328
 oty:∀x∈m.old,x.2.Lim
 forward:m.forward.length<=140737488355328
 fes:∀e∈m.forward,e.Lim
 back:m.back.length<=140737488355328
 bes:∀e∈m.back,e.Lim
def eM(a b:Mig):Bool:=pJ a.old b.old&&vQ a.forward b.forward&&vQ a.back b.back
def t54(a b:Mig)(h:MigLim a):af pg 54 [bG a,bG b]=M.pure (.bool (eM a b)):=by
 have h1:=t81 a.old b.old h.old h.oty;have h2:=wB a.forward b.forward h.forward h.fes;have h3:=wB a.back b.back h.back h.bes;have e:∀m:Mig,ab (bG m)=[aN m.old,bp m.forward,bp m.back]:=fun _=>rfl;rw[C54,Iu,Iu];simp[S54,e,h1,h2,h3,eM]
def t47(x:aT):af pg 47 [.str x]=M.pure (.str x):=by
 rw[C47];rfl
def t48(x y:aT):af pg 48 [.str x,.str y]=M.pure (.bool (x== y)):=by
 have c:∀s:aT,cl ar (.str s)= .str s:=fun _=>rfl;rw[C48,c,c];have hb:∀x y:aT,aw T .eql 9 (.str x) (.str y)=some (.bool (x== y)):=fun _ _=>rfl;simp[S48,hb]
def lg(v:Vr):ab (cD v)=[.str v.1.1,.int .i64 v.1.2.kind,aN v.1.2.fields,.int .i64 v.2.op,.int .i64 v.2.n,.str v.2.s,.str v.2.m,strs v.2.names,bp v.2.args]:=by rw[nL];rfl
theorem FV0(cs:List AV):aa T 98 (.ip cs) 0=some (.ip (cs.drop 0)):=rfl
theorem FV1(cs:List AV):aa T 98 (.ip cs) 1=some (.ip (cs.drop 3)):=rfl
def kB(v:Vr):aT:=v.1.1
def gV(a b:Vr):Bool:=gU a.1.2 b.1.2&&iI a.2 b.2
def t49(v:Vr):af pg 49 [cD v]=M.pure (.str (kB v)):=by
 rw[C49,GO];simp[S49,lg,FV0,kB]
def t50(a b:Vr)(h1:a.1.2.Lim)(h2:a.2.Lim):af pg 50 [cD a,cD b]=M.pure (.bool (gV a b)):=by
 have e1:=t37 _ a.1.2 b.1.2 (JO _) h1;have e2:=t38 _ a.2 b.2 (JO _) h2;rw[C50,GO,GO];simp[S50,lg,FV0,FV1,e1,e2,gV]
def t51(f:Fun):af pg 51 [f.av]=M.pure (.str f.name):=by
 rw[C51];simp[S51]
def t53(m:Mig):af pg 53 [bG m]=M.pure (.str [109,111,118,101]):=by
 rw[C53];rfl
end Go.Proofs.YtblddnfanlkgiaaGreat.Mg
namespace Go.Proofs.YtblddnfanlkgiaaGreat.MgV
open Go Go.Av Go.Av.Ap
set_option maxRecDepth 100000
def sl(l:List Vr):AV:=.sl (l.map cD)
def ix{l:List Vr}{i:Nat}(h:i<l.length):ak T 112 (sl l) (.int .i64 (i:Int))=some (.ip (ab (cD l[i]))):=by
 have:=bU (T:=T) (t:=112) (e:=98) rfl rfl rfl (f:=cD) (l:=l) (n:=(i:Int)) (fun _=>by first|rfl|(simp;done)|exact Mg.Ju _|(simp;rfl)) (by omega) (by omega)
 rw[JW,J1 l i h]at this;exact this
def ap{a b:List Vr}(h:(a.length+b.length)*144<=140737488355328):ca T 112 (sl a) (sl b)=some (sl (a++b)):=by
 have:=fZ (T:=T) (t:=112) (e:=98) rfl rfl rfl (f:=cD) (fun _=>by first|rfl|(simp;done)|exact Mg.okV _|(simp;rfl)) (a:=a) (b:=b) h (by decide)
 simpa [sl]using this
def ln(l:List Vr):aP T 112 (sl l)=some (.int .i64 l.length):=by
 show some (AV.int .i64 (l.map cD).length)=_;rw[KI]
def FE(x:Vr):cz 9 (cD x)=true:=by first|rfl|(simp;done)|exact Mg.okV x|(simp;rfl)
def ld(x:Vr):ah T 98 (.ip (ab (cD x)))=some (cD x):=by first|rfl|(simp;done)|exact Mg.HT x
def cm(x:Vr):aO 9 (cD x)=M.pure (cD x):=by first|rfl|(simp;done)|exact Mg.Ix x
def zq(g:Nat->Nat->Nat->Nat->Bool->AV)(x:Vr):cl g (cD x)=cD x:=by first|rfl|(simp;done)|exact Mg.GO g x
def eY(g:Nat->Nat->Nat->Nat->Bool->AV)(l:List Vr):cl g (sl l)=sl l:=by
 show AV.sl (df g (l.map cD))=_;rw[dl g cD (zq g)];rfl
def Fv(f:AV)(F:Vr->Bool)(l:List Vr)(hb:l.length<=1000000)(hf:∀x∈l,aW (af pg) f [cD x]=M.pure (.bool (F x))):∀(n i:Nat),l.length-i=n->i<=l.length->
  aj (L94_0 (af pg) aj) [sl l,f,.int .i64 l.length,.int .i64 i]=M.pure (.int .i64 (be F (l.drop i) i)):=by
 intro n
 induction n with
 |zero=>
  intro i hn hl;obtain rfl:i=l.length:=by omega
  have h1:¬((l.length:Int)<(l.length:Int)):=by omega
  rw[FL94_0];simp -implicitDefEqProofs only[L94_0,az,aB,aF,am,ao,h1,Kv,JL,JZ,Lm,be]
 |succ n ih=>
  intro i hn hl;have hlt:i<l.length:=by omega
  have h1:(i:Int)<(l.length:Int):=by omega
  have hw:IntKind.i64.wrap ((i:Int)+1)=((i+1:Nat):Int):=aS (by omega);have h3:=hf l[i] (JP hlt);have h4:=ih (i+1) (by omega) (by omega);rw[FL94_0,JS hlt];simp -implicitDefEqProofs only[L94_0,az,aB,aF,am,ao,h1,Kf,J0,ix hlt,ld,cm,aG,h3,aU,hw,h4,be];cases F l[i]<;>rfl
def t94(f:AV)(F:Vr->Bool)(l:List Vr)(hb:l.length<=1000000)(hc:∀g,cl g f=f)(hf:∀x∈l,aW (af pg) f [cD x]=M.pure (.bool (F x))):af pg 94 [sl l,f]=M.pure (.int .i64 (be F l 0)):=by
 have h:=Fv f F l hb hf l.length 0 rfl (by omega);rw[C94,eY,hc];have e:S94 (af pg) aj (sl l) f=M.pure (.int .i64 (be F l 0)):=by
  simp -implicitDefEqProofs only[S94,ln,am];exact h
 rw[e];rfl
def P(a b:FuncId):AV:=.agg [.fn (.func a) [] [],.fn (.func b) [] []]
theorem t116{a b:FuncId}{nm:Vr->aT}{x:Vr}(h:af pg a [cD x]=M.pure (.str (nm x)))(s:aT):af pg 116 [cD x,.ip [.fn (.func a) [] [],.fn (.func b) [] []],.ip [.str s]]=M.pure (.bool (nm x== s)):=by
 have h2:aW (kz (af pg)) (.fn (.func a) [] []) [cD x]=M.pure (.str (nm x)):=Mg.iY h;have c1:cl ar (.ip [.fn (.func a) [] [],.fn (.func b) [] []])= .ip [.fn (.func a) [] [],.fn (.func b) [] []]:=rfl;have c2:cl ar (.ip [.str s])= .ip [.str s]:=rfl;have c3:aa T 102 (.ip [.fn (.func a) [] [],.fn (.func b) [] []]) 0=some (.ip [.fn (.func a) [] [],.fn (.func b) [] []]):=rfl;have c4:ah T 99 (.ip [.fn (.func a) [] [],.fn (.func b) [] []])=some (.fn (.func a) [] []):=rfl;have c5:ah T 9 (.ip [.str s])=some (.str s):=rfl;have c6:aw T .eql 9 (.str (nm x)) (.str s)=some (.bool (nm x== s)):=rfl;rw[C116,zq,c1,c2];simp -implicitDefEqProofs only[S116,c3,c4,c5,ld,am,h2,aG,c6];rfl
theorem t87{a b:FuncId}{nm:Vr->aT}(l:List Vr)(hb:l.length<=1000000)(h:∀x∈l,af pg a [cD x]=M.pure (.str (nm x)))(s:aT):af pg 87 [P a b,sl l,.str s]=M.pure (sl (aC nm l s)):=by
 have c1:cl ar (P a b)=P a b:=rfl;have c2:cl ar (.str s)= .str s:=rfl;have hi:=t94 (.fn (.func 116) [] [.ip [.fn (.func a) [] [],.fn (.func b) [] []],.ip [.str s]]) (fun x=>nm x== s) l hb (fun _=>rfl) (fun x hx=>t116 (h x hx) s);have ha:ab (P a b)=[.fn (.func a) [] [],.fn (.func b) [] []]:=rfl;have hs:ab (.str s)=[.str s]:=rfl;rw[C87,c1,eY,c2];have e:S87 (af pg) aj (P a b) (sl l) (.str s)=M.pure (sl (aC nm l s)):=by
  simp -implicitDefEqProofs only[S87,ha,hs,hi,aG,aF,am,ao];unfold aC;rcases ga (fun x=>nm x== s) l 0 (by omega)with⟨h1,h2⟩|⟨k,hk,h1,h2⟩
  ·rw[h1,h2];rfl
  ·have hn:¬((0:Int)+(k:Int)<0):=by omega
   have hw:IntKind.i64.wrap ((0:Int)+(k:Int)+1)=(k:Int)+1:=by rw[LV,bE (by omega) (by omega)]
   have hsl:d6 T 112 (sl l) (some (.int .i64 (0+(k:Int)))) (some (.int .i64 ((k:Int)+1))) none=some (sl [l[k]]):=by
    have hok:cO 9 (l.map cD)=true:=by
     simp only[cO,MC,J6];exact fun x _=>FE x
    have:=ic (T:=T) (t:=112) (e:=98) rfl rfl rfl (l.map cD) hok (a:=0+(k:Int)) (b:=(k:Int)+1) (by omega) (by omega) (by rw[KI];omega)
    rw[show ((k:Int)+1).toNat=k+1 by omega,show ((0:Int)+(k:Int)).toNat=k by omega]at this;refine this.trans ?_;rw[<- Me,<- Mf,K8 hk,Lq (by simp;omega),JQ (by simp;omega)];rfl
   simp -implicitDefEqProofs only[h1,h2,hn,Kv,JL,JZ,aU,am,hw,hsl];rfl
 rw[e];exact ba fun g=>eY g _
def Ft(f:AV)(F:Vr->Vr->Bool)(a b:List Vr)(hb:a.length<=1000000)(hab:a.length=b.length)(hf:∀x∈a,∀y∈b,aW (af pg) f [cD x,cD y]=M.pure (.bool (F x y))):∀(n i:Nat),a.length-i=n->i<=a.length->
  aj (L88_0 (af pg) aj) [sl b,f,sl a,.int .i64 a.length,.int .i64 i]=M.pure (.bool (bF F (a.drop i) (b.drop i))):=by
 intro n
 induction n with
 |zero=>
  intro i hn hl;obtain rfl:i=a.length:=by omega
  have h1:¬((a.length:Int)<(a.length:Int)):=by omega
  rw[FL88_0,Lm,JQ (by omega:b.length<=a.length)];simp -implicitDefEqProofs only[L88_0,az,aB,aF,am,ao,h1,Kv,JL,JZ,bF]
 |succ n ih=>
  intro i hn hl;have hlt:i<a.length:=by omega
  have hlt':i<b.length:=by omega
  have h1:(i:Int)<(a.length:Int):=by omega
  have hw:IntKind.i64.wrap ((i:Int)+1)=((i+1:Nat):Int):=aS (by omega);have h3:=hf a[i] (JP hlt) b[i] (JP hlt');have h4:=ih (i+1) (by omega) (by omega);rw[FL88_0,gD F a b i hlt hlt'];simp -implicitDefEqProofs only[L88_0,az,aB,aF,am,ao,h1,Kf,J0,ix hlt,ix hlt',ld,cm,aG,h3,cj,aU,hw,h4];cases F a[i] b[i]<;>rfl
def t88(f:AV)(F:Vr->Vr->Bool)(a b:List Vr)(hb:a.length<=1000000)(hc:∀g,cl g f=f)(hf:∀x∈a,∀y∈b,aW (af pg) f [cD x,cD y]=M.pure (.bool (F x y))):af pg 88 [sl a,sl b,f]=M.pure (.bool (bF F a b)):=by
 rw[C88,eY,eY,hc];have e:S88 (af pg) aj (sl a) (sl b) f=M.pure (.bool (bF F a b)):=by
  simp -implicitDefEqProofs only[S88,ln,am,iT,ao];by_cases h:a.length=b.length
  ·have h2:((a.length:Int) != (b.length:Int))=false:=by simp[h]
   have:=Ft f F a b hb h hf a.length 0 rfl (by omega)
   rw[h2];exact this
  ·have h2:((a.length:Int) != (b.length:Int))=true:=by simp;omega
   rw[h2,dX F a b h];rfl
 rw[e];rfl
def t115(n:Nat)(h:n<=1000000):af pg 115 [.hn,.int .i64 (n:Int)]=M.pure (sl []):=by
 have e0:af pg 115 [.hn,.int .i64 (n:Int)]=gM (af pg) [.hn,.int .i64 (n:Int)]:=dZ aI rfl _;rw[e0];have h1:(decide (0<=(n:Int))&&decide ((n:Int)<=1000000))=true:=by simp;omega
 simp only[gM,h1,JM];rfl
theorem t86(a b c:List Vr)(h:a.length+(b.length+c.length)<=1000000):af pg 86 [.sl [sl a,sl b,sl c]]=M.pure (sl (a++(b++c))):=by
 have i0:∀(x y z:List Vr),ak T 168 (.sl [sl x,sl y,sl z]) (.int .i64 0)=some (.ip [sl x]):=fun _ _ _=>rfl;have i1:∀(x y z:List Vr),ak T 168 (.sl [sl x,sl y,sl z]) (.int .i64 1)=some (.ip [sl y]):=fun _ _ _=>rfl;have i2:∀(x y z:List Vr),ak T 168 (.sl [sl x,sl y,sl z]) (.int .i64 2)=some (.ip [sl z]):=fun _ _ _=>rfl;have lL:aP T 168 (.sl [sl a,sl b,sl c])=some (.int .i64 3):=rfl;have lS:∀x:List Vr,ah T 112 (.ip [sl x])=some (sl x):=fun _=>rfl;have w0:IntKind.i64.wrap ((0:Int)+(a.length:Int))=(a.length:Int):=by rw[bE (by omega) (by omega)];omega
 have w1:IntKind.i64.wrap ((a.length:Int)+(b.length:Int))=((a.length+b.length:Nat):Int):=by rw[bE (by omega) (by omega)];omega
 have w2:IntKind.i64.wrap (((a.length+b.length:Nat):Int)+(c.length:Int))=((a.length+b.length+c.length:Nat):Int):=by rw[bE (by omega) (by omega)];omega
 have v0:IntKind.i64.wrap ((0:Int)+1)=1:=by decide
 have v1:IntKind.i64.wrap ((1:Int)+1)=2:=by decide
 have v2:IntKind.i64.wrap ((2:Int)+1)=3:=by decide
 have n0:∀n:Nat,decide ((n:Int)<0)=false:=fun n=>by simp
 have k0:decide ((0:Int)<3)=true:=rfl;have k1:decide ((1:Int)<3)=true:=rfl;have k2:decide ((2:Int)<3)=true:=rfl;have k3:decide ((3:Int)<3)=false:=rfl;have g:=t115 (a.length+b.length+c.length) (by omega);have a1:=ap (a:=[]) (b:=a) (by simp only[J8];omega);have a2:=ap (a:=a) (b:=b) (by omega);have a3:=ap (a:=a++b) (b:=c) (by rw[JY];omega);rw[Kt]at a1;have p0:∀x:AV,aj (L86_0 (af pg) aj) [sl [],.sl [sl a,sl b,sl c],.int .i64 3,.int .i64 0]=M.pure (sl (a++(b++c))):=by
  intro _;have q3:aj (L86_0 (af pg) aj) [sl (a++b++c),.sl [sl a,sl b,sl c],.int .i64 3,.int .i64 3]=M.pure (sl (a++(b++c))):=by
   rw[FL86_0];simp -implicitDefEqProofs only[L86_0,az,aB,aF,am,ao,k3,JL,JZ,KL]
  have q2:aj (L86_0 (af pg) aj) [sl (a++b),.sl [sl a,sl b,sl c],.int .i64 3,.int .i64 2]=M.pure (sl (a++(b++c))):=by
   rw[FL86_0];simp -implicitDefEqProofs only[L86_0,az,aB,aF,am,ao,k2,J0,i2,lS,a3,aU,v2];exact q3
  have q1:aj (L86_0 (af pg) aj) [sl a,.sl [sl a,sl b,sl c],.int .i64 3,.int .i64 1]=M.pure (sl (a++(b++c))):=by
   rw[FL86_0];simp -implicitDefEqProofs only[L86_0,az,aB,aF,am,ao,k1,J0,i1,lS,a2,aU,v1];exact q2
  rw[FL86_0];simp -implicitDefEqProofs only[L86_0,az,aB,aF,am,ao,k0,J0,i0,lS,a1,aU,v0];exact q1
 have s3:aj (L86_1 (af pg) aj) [.sl [sl a,sl b,sl c],.int .i64 ((a.length+b.length+c.length:Nat):Int),.sl [sl a,sl b,sl c],.int .i64 3,.int .i64 3]=M.pure (sl (a++(b++c))):=by
  rw[FL86_1];simp -implicitDefEqProofs only[L86_1,az,aB,aF,am,ao,k3,JL,JZ,g,aG,lL];exact p0 .any
 have s2:aj (L86_1 (af pg) aj) [.sl [sl a,sl b,sl c],.int .i64 ((a.length+b.length:Nat):Int),.sl [sl a,sl b,sl c],.int .i64 3,.int .i64 2]=M.pure (sl (a++(b++c))):=by
  rw[FL86_1];simp -implicitDefEqProofs only[L86_1,az,aB,aF,am,ao,k2,J0,i2,lS,ln,aU,w2,n0,JL,JZ,v2];exact s3
 have s1:aj (L86_1 (af pg) aj) [.sl [sl a,sl b,sl c],.int .i64 (a.length:Int),.sl [sl a,sl b,sl c],.int .i64 3,.int .i64 1]=M.pure (sl (a++(b++c))):=by
  rw[FL86_1];simp -implicitDefEqProofs only[L86_1,az,aB,aF,am,ao,k1,J0,i1,lS,ln,aU,w1,n0,JL,JZ,v1];exact s2
 have s0:aj (L86_1 (af pg) aj) [.sl [sl a,sl b,sl c],.int .i64 0,.sl [sl a,sl b,sl c],.int .i64 3,.int .i64 0]=M.pure (sl (a++(b++c))):=by
  rw[FL86_1];simp -implicitDefEqProofs only[L86_1,az,aB,aF,am,ao,k0,J0,i0,lS,ln,aU,w0,n0,JL,JZ,v0];exact s1
 have hcl:cl ar (.sl [sl a,sl b,sl c])= .sl [sl a,sl b,sl c]:=by
  show AV.sl [cl ar (sl a),cl ar (sl b),cl ar (sl c)]=_;rw[eY,eY,eY]
 rw[C86,hcl];have e:S86 (af pg) aj (.sl [sl a,sl b,sl c])=M.pure (sl (a++(b++c))):=by
  simp -implicitDefEqProofs only[S86,lL,am];exact s0
 rw[e];exact ba fun g=>eY g _
def kY(r:List Vr×aT×Bool):AV:=.tup [sl r.1,.str r.2.1,.bool r.2.2]
theorem Fh{a b:FuncId}{nm:Vr->aT}{same:Vr->Vr->Bool}(base mine theirs:List Vr)(hl:base.length+(mine.length+theirs.length)<=1000000)(hnm:∀x∈base++(mine++theirs),af pg a [cD x]=M.pure (.str (nm x)))(hsm:∀x∈base++(mine++theirs),∀y∈base++(mine++theirs),af pg b [cD x,cD y]=M.pure (.bool (same x y))):∀(n i:Nat)(out:List Vr)(done:List aT),(base++(mine++theirs)).length-i=n->i<=(base++(mine++theirs)).length->out.length<=i->done.length<=i->
  aj (L56_0 (af pg) aj) [sl base,sl mine,sl theirs,.ip (ab (P a b)),sl out,strs done,sl (base++(mine++theirs)),.int .i64 (base++(mine++theirs)).length,.int .i64 i]=M.pure (kY (bK nm same base mine theirs ((base++(mine++theirs)).drop i) out done)):=by
 have hL:(base++(mine++theirs)).length<=1000000:=by simp only[JY];omega
 have mb:∀s,∀x∈aC nm base s,x∈base++(mine++theirs):=fun s x h=>Kl _ (bZ nm h).1;have mm:∀s,∀x∈aC nm mine s,x∈base++(mine++theirs):=fun s x h=>J7 _ (Kl _ (bZ nm h).1);have mt:∀s,∀x∈aC nm theirs s,x∈base++(mine++theirs):=fun s x h=>J7 _ (J7 _ (bZ nm h).1);have fb:=fun s=>t87 (a:=a) (b:=b) (nm:=nm) base (by omega) (fun x hx=>hnm x (Kl _ hx)) s;have fm:=fun s=>t87 (a:=a) (b:=b) (nm:=nm) mine (by omega) (fun x hx=>hnm x (J7 _ (Kl _ hx))) s;have ft:=fun s=>t87 (a:=a) (b:=b) (nm:=nm) theirs (by omega) (fun x hx=>hnm x (J7 _ (J7 _ hx))) s;have hq:∀(l r:List Vr),l.length<=1000000->(∀x∈l,x∈base++(mine++theirs))->(∀x∈r,x∈base++(mine++theirs))->af pg 88 [sl l,sl r,.fn (.func b) [] []]=M.pure (.bool (bF same l r)):=fun l r h h1 h2=>
  t88 (.fn (.func b) [] []) same l r h (fun _=>rfl) (fun x hx y hy=>hsm x (h1 x hx) y (h2 y hy))
 have q1:=fun s=>hq (aC nm base s) (aC nm mine s) (KP (bJ nm base s) (by decide)) (mb s) (mm s);have q2:=fun s=>hq (aC nm base s) (aC nm theirs s) (KP (bJ nm base s) (by decide)) (mb s) (mt s);have q3:=fun s=>hq (aC nm mine s) (aC nm theirs s) (KP (bJ nm mine s) (by decide)) (mm s) (mt s);have c3:aa T 102 (.ip (ab (P a b))) 0=some (.ip [.fn (.func a) [] [],.fn (.func b) [] []]):=rfl;have c4:ah T 99 (.ip [.fn (.func a) [] [],.fn (.func b) [] []])=some (.fn (.func a) [] []):=rfl;have c5:aa T 102 (.ip (ab (P a b))) 1=some (.ip [.fn (.func b) [] []]):=rfl;have c6:ah T 100 (.ip [.fn (.func b) [] []])=some (.fn (.func b) [] []):=rfl;have c7:ah T 102 (.ip (ab (P a b)))=some (P a b):=rfl;have c8:∀s:aT,aK T 22 1 [(0,.str s)]=some (strs [s]):=fun _=>rfl;intro n
 induction n with
 |zero=>
  intro i out done hn hi ho hd;have h1:¬((i:Int)<((base++(mine++theirs)).length:Int)):=by omega
  rw[FL56_0,JQ (by omega)];simp -implicitDefEqProofs only[L56_0,az,aB,aF,am,ao,h1,Kv,JL,JZ,bK];rfl
 |succ n ih=>
  intro i out done hn hi ho hd;have hlt:i<(base++(mine++theirs)).length:=by omega
  have h1:(i:Int)<((base++(mine++theirs)).length:Int):=by omega
  have hw:IntKind.i64.wrap ((i:Int)+1)=((i+1:Nat):Int):=aS (by omega);have hix:=ix hlt;have hmem:=JP hlt;rw[JS hlt];have hcv:aW (af pg) (.fn (.func a) [] []) [cD (base++(mine++theirs))[i]]=M.pure (.str (nm (base++(mine++theirs))[i])):=hnm _ hmem;generalize (base++(mine++theirs))[i]=x at *;have hct:=Hg (nm x) done (by omega);have hap:=oc (a:=done) (b:=[nm x]) (by simp only[Kk];omega);have l1:=bJ nm theirs (nm x);have l2:=bJ nm mine (nm x);have ha1:=ap (a:=out) (b:=aC nm theirs (nm x)) (by omega);have ha2:=ap (a:=out) (b:=aC nm mine (nm x)) (by omega);have i0:=ih (i+1) out done (by omega) (by omega) (by omega) (by omega);have i1:=ih (i+1) (out++aC nm theirs (nm x)) (done++[nm x]) (by omega) (by omega) (by simp only[JY];omega) (by simp only[JY,Kk];omega);have i2:=ih (i+1) (out++aC nm mine (nm x)) (done++[nm x]) (by omega) (by omega) (by simp only[JY];omega) (by simp only[JY,Kk];omega);rw[FL56_0];simp -implicitDefEqProofs only[L56_0,K56_0,oX,az,aB,aF,am,ao,h1,Kf,J0,hix,ld,cm,c3,c4,c5,c6,c7,c8,hcv,aG,hct,hap,fb,fm,ft,cd,q1,q2,q3,ha1,ha2,aU,hw,i0,i1,i2,bK];cases done.contains (nm x)<;>cases bF same (aC nm base (nm x)) (aC nm mine (nm x))<;>cases bF same (aC nm base (nm x)) (aC nm theirs (nm x))<;>cases bF same (aC nm mine (nm x)) (aC nm theirs (nm x))<;>rfl
theorem t56{a b:FuncId}{nm:Vr->aT}{same:Vr->Vr->Bool}(base mine theirs:List Vr)(hl:base.length+(mine.length+theirs.length)<=1000000)(hnm:∀x∈base++(mine++theirs),af pg a [cD x]=M.pure (.str (nm x)))(hsm:∀x∈base++(mine++theirs),∀y∈base++(mine++theirs),af pg b [cD x,cD y]=M.pure (.bool (same x y))):af pg 56 [P a b,sl base,sl mine,sl theirs]=M.pure (kY (a7 nm same base mine theirs)):=by
 have h:=Fh base mine theirs hl hnm hsm _ 0 [] [] rfl (by omega) (by simp) (by simp);have hcn:=t86 base mine theirs hl;have c0:aK T 168 3 [(0,sl base),(1,sl mine),(2,sl theirs)]=some (.sl [sl base,sl mine,sl theirs]):=rfl;have cP:cl ar (P a b)=P a b:=rfl;rw[C56,cP,eY,eY,eY];have e:S56 (af pg) aj (P a b) (sl base) (sl mine) (sl theirs)=M.pure (kY (a7 nm same base mine theirs)):=by
  simp -implicitDefEqProofs only[S56,c0,am,hcn,aG,ln];exact h
 rw[e];exact ba fun g=>by
  show AV.tup [cl g (sl _),.str _,.bool _]=_;rw[eY];rfl
end Go.Proofs.YtblddnfanlkgiaaGreat.MgV
namespace Go.Proofs.YtblddnfanlkgiaaGreat.MgM
open Go Go.Av Go.Av.Ap
set_option maxRecDepth 100000
def sl(l:List Mig):AV:=.sl (l.map bG)
def ix{l:List Mig}{i:Nat}(h:i<l.length):ak T 118 (sl l) (.int .i64 (i:Int))=some (.ip (ab (bG l[i]))):=by
 have:=bU (T:=T) (t:=118) (e:=27) rfl rfl rfl (f:=bG) (l:=l) (n:=(i:Int)) (fun _=>by first|rfl|(simp;done)|exact Mg.Jt _|(simp;rfl)) (by omega) (by omega)
 rw[JW,J1 l i h]at this;exact this
def ap{a b:List Mig}(h:(a.length+b.length)*72<=140737488355328):ca T 118 (sl a) (sl b)=some (sl (a++b)):=by
 have:=fZ (T:=T) (t:=118) (e:=27) rfl rfl rfl (f:=bG) (fun _=>by first|rfl|(simp;done)|exact Mg.HU _|(simp;rfl)) (a:=a) (b:=b) h (by decide)
 simpa [sl]using this
def ln(l:List Mig):aP T 118 (sl l)=some (.int .i64 l.length):=by
 show some (AV.int .i64 (l.map bG).length)=_;rw[KI]
def FE(x:Mig):cz 3 (bG x)=true:=by first|rfl|(simp;done)|exact Mg.HU x|(simp;rfl)
def ld(x:Mig):ah T 27 (.ip (ab (bG x)))=some (bG x):=by first|rfl|(simp;done)|exact Mg.Ja x
def cm(x:Mig):aO 3 (bG x)=M.pure (bG x):=by first|rfl|(simp;done)|exact Mg.Jg x
def zq(g:Nat->Nat->Nat->Nat->Bool->AV)(x:Mig):cl g (bG x)=bG x:=by first|rfl|(simp;done)|exact Mg.Iu g x
def eY(g:Nat->Nat->Nat->Nat->Bool->AV)(l:List Mig):cl g (sl l)=sl l:=by
 show AV.sl (df g (l.map bG))=_;rw[dl g bG (zq g)];rfl
def BR(f:AV)(F:Mig->Bool)(l:List Mig)(hb:l.length<=1000000)(hf:∀x∈l,aW (af pg) f [bG x]=M.pure (.bool (F x))):∀(n i:Nat),l.length-i=n->i<=l.length->
  aj (L121_0 (af pg) aj) [sl l,f,.int .i64 l.length,.int .i64 i]=M.pure (.int .i64 (be F (l.drop i) i)):=by
 intro n
 induction n with
 |zero=>
  intro i hn hl;obtain rfl:i=l.length:=by omega
  have h1:¬((l.length:Int)<(l.length:Int)):=by omega
  rw[FL121_0];simp -implicitDefEqProofs only[L121_0,az,aB,aF,am,ao,h1,Kv,JL,JZ,Lm,be]
 |succ n ih=>
  intro i hn hl;have hlt:i<l.length:=by omega
  have h1:(i:Int)<(l.length:Int):=by omega
  have hw:IntKind.i64.wrap ((i:Int)+1)=((i+1:Nat):Int):=aS (by omega);have h3:=hf l[i] (JP hlt);have h4:=ih (i+1) (by omega) (by omega);rw[FL121_0,JS hlt];simp -implicitDefEqProofs only[L121_0,az,aB,aF,am,ao,h1,Kf,J0,ix hlt,ld,cm,aG,h3,aU,hw,h4,be];cases F l[i]<;>rfl
def t121(f:AV)(F:Mig->Bool)(l:List Mig)(hb:l.length<=1000000)(hc:∀g,cl g f=f)(hf:∀x∈l,aW (af pg) f [bG x]=M.pure (.bool (F x))):af pg 121 [sl l,f]=M.pure (.int .i64 (be F l 0)):=by
 have h:=BR f F l hb hf l.length 0 rfl (by omega);rw[C121,eY,hc];have e:S121 (af pg) aj (sl l) f=M.pure (.int .i64 (be F l 0)):=by
  simp -implicitDefEqProofs only[S121,ln,am];exact h
 rw[e];rfl
def P(a b:FuncId):AV:=.agg [.fn (.func a) [] [],.fn (.func b) [] []]
theorem t122{a b:FuncId}{nm:Mig->aT}{x:Mig}(h:af pg a [bG x]=M.pure (.str (nm x)))(s:aT):af pg 122 [bG x,.ip [.fn (.func a) [] [],.fn (.func b) [] []],.ip [.str s]]=M.pure (.bool (nm x== s)):=by
 have h2:aW (kz (af pg)) (.fn (.func a) [] []) [bG x]=M.pure (.str (nm x)):=Mg.iY h;have c1:cl ar (.ip [.fn (.func a) [] [],.fn (.func b) [] []])= .ip [.fn (.func a) [] [],.fn (.func b) [] []]:=rfl;have c2:cl ar (.ip [.str s])= .ip [.str s]:=rfl;have c3:aa T 109 (.ip [.fn (.func a) [] [],.fn (.func b) [] []]) 0=some (.ip [.fn (.func a) [] [],.fn (.func b) [] []]):=rfl;have c4:ah T 106 (.ip [.fn (.func a) [] [],.fn (.func b) [] []])=some (.fn (.func a) [] []):=rfl;have c5:ah T 9 (.ip [.str s])=some (.str s):=rfl;have c6:aw T .eql 9 (.str (nm x)) (.str s)=some (.bool (nm x== s)):=rfl;rw[C122,zq,c1,c2];simp -implicitDefEqProofs only[S122,c3,c4,c5,ld,am,h2,aG,c6];rfl
theorem t92{a b:FuncId}{nm:Mig->aT}(l:List Mig)(hb:l.length<=1000000)(h:∀x∈l,af pg a [bG x]=M.pure (.str (nm x)))(s:aT):af pg 92 [P a b,sl l,.str s]=M.pure (sl (aC nm l s)):=by
 have c1:cl ar (P a b)=P a b:=rfl;have c2:cl ar (.str s)= .str s:=rfl;have hi:=t121 (.fn (.func 122) [] [.ip [.fn (.func a) [] [],.fn (.func b) [] []],.ip [.str s]]) (fun x=>nm x== s) l hb (fun _=>rfl) (fun x hx=>t122 (h x hx) s);have ha:ab (P a b)=[.fn (.func a) [] [],.fn (.func b) [] []]:=rfl;have hs:ab (.str s)=[.str s]:=rfl;rw[C92,c1,eY,c2];have e:S92 (af pg) aj (P a b) (sl l) (.str s)=M.pure (sl (aC nm l s)):=by
  simp -implicitDefEqProofs only[S92,ha,hs,hi,aG,aF,am,ao];unfold aC;rcases ga (fun x=>nm x== s) l 0 (by omega)with⟨h1,h2⟩|⟨k,hk,h1,h2⟩
  ·rw[h1,h2];rfl
  ·have hn:¬((0:Int)+(k:Int)<0):=by omega
   have hw:IntKind.i64.wrap ((0:Int)+(k:Int)+1)=(k:Int)+1:=by rw[LV,bE (by omega) (by omega)]
   have hsl:d6 T 118 (sl l) (some (.int .i64 (0+(k:Int)))) (some (.int .i64 ((k:Int)+1))) none=some (sl [l[k]]):=by
    have hok:cO 3 (l.map bG)=true:=by
     simp only[cO,MC,J6];exact fun x _=>FE x
    have:=ic (T:=T) (t:=118) (e:=27) rfl rfl rfl (l.map bG) hok (a:=0+(k:Int)) (b:=(k:Int)+1) (by omega) (by omega) (by rw[KI];omega)
    rw[show ((k:Int)+1).toNat=k+1 by omega,show ((0:Int)+(k:Int)).toNat=k by omega]at this;refine this.trans ?_;rw[<- Me,<- Mf,K8 hk,Lq (by simp;omega),JQ (by simp;omega)];rfl
   simp -implicitDefEqProofs only[h1,h2,hn,Kv,JL,JZ,aU,am,hw,hsl];rfl
 rw[e];exact ba fun g=>eY g _
def Fu(f:AV)(F:Mig->Mig->Bool)(a b:List Mig)(hb:a.length<=1000000)(hab:a.length=b.length)(hf:∀x∈a,∀y∈b,aW (af pg) f [bG x,bG y]=M.pure (.bool (F x y))):∀(n i:Nat),a.length-i=n->i<=a.length->
  aj (L93_0 (af pg) aj) [sl b,f,sl a,.int .i64 a.length,.int .i64 i]=M.pure (.bool (bF F (a.drop i) (b.drop i))):=by
 intro n
 induction n with
 |zero=>
  intro i hn hl;obtain rfl:i=a.length:=by omega
  have h1:¬((a.length:Int)<(a.length:Int)):=by omega
  rw[FL93_0,Lm,JQ (by omega:b.length<=a.length)];simp -implicitDefEqProofs only[L93_0,az,aB,aF,am,ao,h1,Kv,JL,JZ,bF]
 |succ n ih=>
  intro i hn hl;have hlt:i<a.length:=by omega
  have hlt':i<b.length:=by omega
  have h1:(i:Int)<(a.length:Int):=by omega
  have hw:IntKind.i64.wrap ((i:Int)+1)=((i+1:Nat):Int):=aS (by omega);have h3:=hf a[i] (JP hlt) b[i] (JP hlt');have h4:=ih (i+1) (by omega) (by omega);rw[FL93_0,gD F a b i hlt hlt'];simp -implicitDefEqProofs only[L93_0,az,aB,aF,am,ao,h1,Kf,J0,ix hlt,ix hlt',ld,cm,aG,h3,cj,aU,hw,h4];cases F a[i] b[i]<;>rfl
def t93(f:AV)(F:Mig->Mig->Bool)(a b:List Mig)(hb:a.length<=1000000)(hc:∀g,cl g f=f)(hf:∀x∈a,∀y∈b,aW (af pg) f [bG x,bG y]=M.pure (.bool (F x y))):af pg 93 [sl a,sl b,f]=M.pure (.bool (bF F a b)):=by
 rw[C93,eY,eY,hc];have e:S93 (af pg) aj (sl a) (sl b) f=M.pure (.bool (bF F a b)):=by
  simp -implicitDefEqProofs only[S93,ln,am,iT,ao];by_cases h:a.length=b.length
  ·have h2:((a.length:Int) != (b.length:Int))=false:=by simp[h]
   have:=Fu f F a b hb h hf a.length 0 rfl (by omega)
   rw[h2];exact this
  ·have h2:((a.length:Int) != (b.length:Int))=true:=by simp;omega
   rw[h2,dX F a b h];rfl
 rw[e];rfl
def t120(n:Nat)(h:n<=1000000):af pg 120 [.hn,.int .i64 (n:Int)]=M.pure (sl []):=by
 have e0:af pg 120 [.hn,.int .i64 (n:Int)]=gM (af pg) [.hn,.int .i64 (n:Int)]:=dZ aI rfl _;rw[e0];have h1:(decide (0<=(n:Int))&&decide ((n:Int)<=1000000))=true:=by simp;omega
 simp only[gM,h1,JM];rfl
theorem t91(a b c:List Mig)(h:a.length+(b.length+c.length)<=1000000):af pg 91 [.sl [sl a,sl b,sl c]]=M.pure (sl (a++(b++c))):=by
 have i0:∀(x y z:List Mig),ak T 174 (.sl [sl x,sl y,sl z]) (.int .i64 0)=some (.ip [sl x]):=fun _ _ _=>rfl;have i1:∀(x y z:List Mig),ak T 174 (.sl [sl x,sl y,sl z]) (.int .i64 1)=some (.ip [sl y]):=fun _ _ _=>rfl;have i2:∀(x y z:List Mig),ak T 174 (.sl [sl x,sl y,sl z]) (.int .i64 2)=some (.ip [sl z]):=fun _ _ _=>rfl;have lL:aP T 174 (.sl [sl a,sl b,sl c])=some (.int .i64 3):=rfl;have lS:∀x:List Mig,ah T 118 (.ip [sl x])=some (sl x):=fun _=>rfl;have w0:IntKind.i64.wrap ((0:Int)+(a.length:Int))=(a.length:Int):=by rw[bE (by omega) (by omega)];omega
 have w1:IntKind.i64.wrap ((a.length:Int)+(b.length:Int))=((a.length+b.length:Nat):Int):=by rw[bE (by omega) (by omega)];omega
 have w2:IntKind.i64.wrap (((a.length+b.length:Nat):Int)+(c.length:Int))=((a.length+b.length+c.length:Nat):Int):=by rw[bE (by omega) (by omega)];omega
 have v0:IntKind.i64.wrap ((0:Int)+1)=1:=by decide
 have v1:IntKind.i64.wrap ((1:Int)+1)=2:=by decide
 have v2:IntKind.i64.wrap ((2:Int)+1)=3:=by decide
 have n0:∀n:Nat,decide ((n:Int)<0)=false:=fun n=>by simp
 have k0:decide ((0:Int)<3)=true:=rfl;have k1:decide ((1:Int)<3)=true:=rfl;have k2:decide ((2:Int)<3)=true:=rfl;have k3:decide ((3:Int)<3)=false:=rfl;have g:=t120 (a.length+b.length+c.length) (by omega);have a1:=ap (a:=[]) (b:=a) (by simp only[J8];omega);have a2:=ap (a:=a) (b:=b) (by omega);have a3:=ap (a:=a++b) (b:=c) (by rw[JY];omega);rw[Kt]at a1;have p0:∀x:AV,aj (L91_0 (af pg) aj) [sl [],.sl [sl a,sl b,sl c],.int .i64 3,.int .i64 0]=M.pure (sl (a++(b++c))):=by
  intro _;have q3:aj (L91_0 (af pg) aj) [sl (a++b++c),.sl [sl a,sl b,sl c],.int .i64 3,.int .i64 3]=M.pure (sl (a++(b++c))):=by
   rw[FL91_0];simp -implicitDefEqProofs only[L91_0,az,aB,aF,am,ao,k3,JL,JZ,KL]
  have q2:aj (L91_0 (af pg) aj) [sl (a++b),.sl [sl a,sl b,sl c],.int .i64 3,.int .i64 2]=M.pure (sl (a++(b++c))):=by
   rw[FL91_0];simp -implicitDefEqProofs only[L91_0,az,aB,aF,am,ao,k2,J0,i2,lS,a3,aU,v2];exact q3
  have q1:aj (L91_0 (af pg) aj) [sl a,.sl [sl a,sl b,sl c],.int .i64 3,.int .i64 1]=M.pure (sl (a++(b++c))):=by
   rw[FL91_0];simp -implicitDefEqProofs only[L91_0,az,aB,aF,am,ao,k1,J0,i1,lS,a2,aU,v1];exact q2
  rw[FL91_0];simp -implicitDefEqProofs only[L91_0,az,aB,aF,am,ao,k0,J0,i0,lS,a1,aU,v0];exact q1
 have s3:aj (L91_1 (af pg) aj) [.sl [sl a,sl b,sl c],.int .i64 ((a.length+b.length+c.length:Nat):Int),.sl [sl a,sl b,sl c],.int .i64 3,.int .i64 3]=M.pure (sl (a++(b++c))):=by
  rw[FL91_1];simp -implicitDefEqProofs only[L91_1,az,aB,aF,am,ao,k3,JL,JZ,g,aG,lL];exact p0 .any
 have s2:aj (L91_1 (af pg) aj) [.sl [sl a,sl b,sl c],.int .i64 ((a.length+b.length:Nat):Int),.sl [sl a,sl b,sl c],.int .i64 3,.int .i64 2]=M.pure (sl (a++(b++c))):=by
  rw[FL91_1];simp -implicitDefEqProofs only[L91_1,az,aB,aF,am,ao,k2,J0,i2,lS,ln,aU,w2,n0,JL,JZ,v2];exact s3
 have s1:aj (L91_1 (af pg) aj) [.sl [sl a,sl b,sl c],.int .i64 (a.length:Int),.sl [sl a,sl b,sl c],.int .i64 3,.int .i64 1]=M.pure (sl (a++(b++c))):=by
  rw[FL91_1];simp -implicitDefEqProofs only[L91_1,az,aB,aF,am,ao,k1,J0,i1,lS,ln,aU,w1,n0,JL,JZ,v1];exact s2
 have s0:aj (L91_1 (af pg) aj) [.sl [sl a,sl b,sl c],.int .i64 0,.sl [sl a,sl b,sl c],.int .i64 3,.int .i64 0]=M.pure (sl (a++(b++c))):=by
  rw[FL91_1];simp -implicitDefEqProofs only[L91_1,az,aB,aF,am,ao,k0,J0,i0,lS,ln,aU,w0,n0,JL,JZ,v0];exact s1
 have hcl:cl ar (.sl [sl a,sl b,sl c])= .sl [sl a,sl b,sl c]:=by
  show AV.sl [cl ar (sl a),cl ar (sl b),cl ar (sl c)]=_;rw[eY,eY,eY]
 rw[C91,hcl];have e:S91 (af pg) aj (.sl [sl a,sl b,sl c])=M.pure (sl (a++(b++c))):=by
  simp -implicitDefEqProofs only[S91,lL,am];exact s0
 rw[e];exact ba fun g=>eY g _
def kY(r:List Mig×aT×Bool):AV:=.tup [sl r.1,.str r.2.1,.bool r.2.2]
theorem Fj{a b:FuncId}{nm:Mig->aT}{same:Mig->Mig->Bool}(base mine theirs:List Mig)(hl:base.length+(mine.length+theirs.length)<=1000000)(hnm:∀x∈base++(mine++theirs),af pg a [bG x]=M.pure (.str (nm x)))(hsm:∀x∈base++(mine++theirs),∀y∈base++(mine++theirs),af pg b [bG x,bG y]=M.pure (.bool (same x y))):∀(n i:Nat)(out:List Mig)(done:List aT),(base++(mine++theirs)).length-i=n->i<=(base++(mine++theirs)).length->out.length<=i->done.length<=i->
  aj (L59_0 (af pg) aj) [sl base,sl mine,sl theirs,.ip (ab (P a b)),sl out,strs done,sl (base++(mine++theirs)),.int .i64 (base++(mine++theirs)).length,.int .i64 i]=M.pure (kY (bK nm same base mine theirs ((base++(mine++theirs)).drop i) out done)):=by
 have hL:(base++(mine++theirs)).length<=1000000:=by simp only[JY];omega
 have mb:∀s,∀x∈aC nm base s,x∈base++(mine++theirs):=fun s x h=>Kl _ (bZ nm h).1;have mm:∀s,∀x∈aC nm mine s,x∈base++(mine++theirs):=fun s x h=>J7 _ (Kl _ (bZ nm h).1);have mt:∀s,∀x∈aC nm theirs s,x∈base++(mine++theirs):=fun s x h=>J7 _ (J7 _ (bZ nm h).1);have fb:=fun s=>t92 (a:=a) (b:=b) (nm:=nm) base (by omega) (fun x hx=>hnm x (Kl _ hx)) s;have fm:=fun s=>t92 (a:=a) (b:=b) (nm:=nm) mine (by omega) (fun x hx=>hnm x (J7 _ (Kl _ hx))) s;have ft:=fun s=>t92 (a:=a) (b:=b) (nm:=nm) theirs (by omega) (fun x hx=>hnm x (J7 _ (J7 _ hx))) s;have hq:∀(l r:List Mig),l.length<=1000000->(∀x∈l,x∈base++(mine++theirs))->(∀x∈r,x∈base++(mine++theirs))->af pg 93 [sl l,sl r,.fn (.func b) [] []]=M.pure (.bool (bF same l r)):=fun l r h h1 h2=>
  t93 (.fn (.func b) [] []) same l r h (fun _=>rfl) (fun x hx y hy=>hsm x (h1 x hx) y (h2 y hy))
 have q1:=fun s=>hq (aC nm base s) (aC nm mine s) (KP (bJ nm base s) (by decide)) (mb s) (mm s);have q2:=fun s=>hq (aC nm base s) (aC nm theirs s) (KP (bJ nm base s) (by decide)) (mb s) (mt s);have q3:=fun s=>hq (aC nm mine s) (aC nm theirs s) (KP (bJ nm mine s) (by decide)) (mm s) (mt s);have c3:aa T 109 (.ip (ab (P a b))) 0=some (.ip [.fn (.func a) [] [],.fn (.func b) [] []]):=rfl;have c4:ah T 106 (.ip [.fn (.func a) [] [],.fn (.func b) [] []])=some (.fn (.func a) [] []):=rfl;have c5:aa T 109 (.ip (ab (P a b))) 1=some (.ip [.fn (.func b) [] []]):=rfl;have c6:ah T 107 (.ip [.fn (.func b) [] []])=some (.fn (.func b) [] []):=rfl;have c7:ah T 109 (.ip (ab (P a b)))=some (P a b):=rfl;have c8:∀s:aT,aK T 22 1 [(0,.str s)]=some (strs [s]):=fun _=>rfl;intro n
 induction n with
 |zero=>
  intro i out done hn hi ho hd;have h1:¬((i:Int)<((base++(mine++theirs)).length:Int)):=by omega
  rw[FL59_0,JQ (by omega)];simp -implicitDefEqProofs only[L59_0,az,aB,aF,am,ao,h1,Kv,JL,JZ,bK];rfl
 |succ n ih=>
  intro i out done hn hi ho hd;have hlt:i<(base++(mine++theirs)).length:=by omega
  have h1:(i:Int)<((base++(mine++theirs)).length:Int):=by omega
  have hw:IntKind.i64.wrap ((i:Int)+1)=((i+1:Nat):Int):=aS (by omega);have hix:=ix hlt;have hmem:=JP hlt;rw[JS hlt];have hcv:aW (af pg) (.fn (.func a) [] []) [bG (base++(mine++theirs))[i]]=M.pure (.str (nm (base++(mine++theirs))[i])):=hnm _ hmem;generalize (base++(mine++theirs))[i]=x at *;have hct:=Hg (nm x) done (by omega);have hap:=oc (a:=done) (b:=[nm x]) (by simp only[Kk];omega);have l1:=bJ nm theirs (nm x);have l2:=bJ nm mine (nm x);have ha1:=ap (a:=out) (b:=aC nm theirs (nm x)) (by omega);have ha2:=ap (a:=out) (b:=aC nm mine (nm x)) (by omega);have i0:=ih (i+1) out done (by omega) (by omega) (by omega) (by omega);have i1:=ih (i+1) (out++aC nm theirs (nm x)) (done++[nm x]) (by omega) (by omega) (by simp only[JY];omega) (by simp only[JY,Kk];omega);have i2:=ih (i+1) (out++aC nm mine (nm x)) (done++[nm x]) (by omega) (by omega) (by simp only[JY];omega) (by simp only[JY,Kk];omega);rw[FL59_0];simp -implicitDefEqProofs only[L59_0,K59_0,oX,az,aB,aF,am,ao,h1,Kf,J0,hix,ld,cm,c3,c4,c5,c6,c7,c8,hcv,aG,hct,hap,fb,fm,ft,cd,q1,q2,q3,ha1,ha2,aU,hw,i0,i1,i2,bK];cases done.contains (nm x)<;>cases bF same (aC nm base (nm x)) (aC nm mine (nm x))<;>cases bF same (aC nm base (nm x)) (aC nm theirs (nm x))<;>cases bF same (aC nm mine (nm x)) (aC nm theirs (nm x))<;>rfl
theorem t59{a b:FuncId}{nm:Mig->aT}{same:Mig->Mig->Bool}(base mine theirs:List Mig)(hl:base.length+(mine.length+theirs.length)<=1000000)(hnm:∀x∈base++(mine++theirs),af pg a [bG x]=M.pure (.str (nm x)))(hsm:∀x∈base++(mine++theirs),∀y∈base++(mine++theirs),af pg b [bG x,bG y]=M.pure (.bool (same x y))):af pg 59 [P a b,sl base,sl mine,sl theirs]=M.pure (kY (a7 nm same base mine theirs)):=by
 have h:=Fj base mine theirs hl hnm hsm _ 0 [] [] rfl (by omega) (by simp) (by simp);have hcn:=t91 base mine theirs hl;have c0:aK T 174 3 [(0,sl base),(1,sl mine),(2,sl theirs)]=some (.sl [sl base,sl mine,sl theirs]):=rfl;have cP:cl ar (P a b)=P a b:=rfl;rw[C59,cP,eY,eY,eY];have e:S59 (af pg) aj (P a b) (sl base) (sl mine) (sl theirs)=M.pure (kY (a7 nm same base mine theirs)):=by
  simp -implicitDefEqProofs only[S59,c0,am,hcn,aG,ln];exact h
 rw[e];exact ba fun g=>by
  show AV.tup [cl g (sl _),.str _,.bool _]=_;rw[eY];rfl
end Go.Proofs.YtblddnfanlkgiaaGreat.MgM
namespace Go.Proofs.YtblddnfanlkgiaaGreat.Mg
open Go Go.Av Go.Av.Ap
set_option maxRecDepth 100000
def varsOf(m:Mod):List Vr:=m.vars.zip m.init
theorem ut{α β:Type}:∀(a:List α)(b:List β)(i:Nat)(h1:i<a.length)(h2:i<b.length),(a.zip b).take (i+1)=(a.zip b).take i++[(a[i],b[i])]
 |x:: a,y:: b,0,_,_=>rfl
 |x:: a,y:: b,i+1,h1,h2=>by
  have:=ut a b i (by simpa using h1) (by simpa using h2)
  simp only[Md,KE,this,Kr,List.getElem_cons_succ]
def t57(m:Mod)(hb:m.vars.length<=1000000)(hi:m.vars.length<=m.init.length):af pg 57 [m.av]=M.pure (MgV.sl (varsOf m)):=by
 have hloop:∀(n i:Nat),m.vars.length-i=n->i<=m.vars.length->
   aj (L57_0 (af pg) aj) [.ip (ab m.av),MgV.sl ((varsOf m).take i),aN m.vars,.int .i64 m.vars.length,.int .i64 i]=M.pure (MgV.sl (varsOf m)):=by
  intro n
  induction n with
  |zero=>
   intro i hn hl;obtain rfl:i=m.vars.length:=by omega
   have h1:¬((m.vars.length:Int)<(m.vars.length:Int)):=by omega
   have h2:(varsOf m).take m.vars.length=varsOf m:=Lu (by simp only[varsOf,Lj];omega);rw[FL57_0];simp -implicitDefEqProofs only[L57_0,az,aB,aF,am,ao,h1,Kv,JL,JZ,h2]
  | succ n ih=>
   intro i hn hl;have hlt:i<m.vars.length:=by omega
   have h1:(i:Int)<(m.vars.length:Int):=by omega
   have hw:IntKind.i64.wrap ((i:Int)+1)=((i+1:Nat):Int):=aS (by omega);have h4:=ih (i+1) (by omega) (by omega);have i1:=iM (l:=m.vars) (n:=(i:Int)) (by omega) h1;rw[JW,J1 m.vars i hlt]at i1;have i2:=jx (l:=m.init) (n:=(i:Int)) (by omega) (by omega);rw[JW,J1 m.init i (by omega)]at i2;have hap:=MgV.ap (a:=(varsOf m).take i) (b:=[(m.vars[i],m.init[i])]) (by rw[KQ,Kk];omega);rw[varsOf,<- ut m.vars m.init i hlt (by omega)]at hap;have l1:ah T 51 (.ip (ab (bi m.vars[i])))=some (bi m.vars[i]):=by simp
   have l2:ah T 46 (.ip (ab m.init[i].av))=some m.init[i].av:=by simp
   have f1:∀cs,aa T 29 (.ip cs) 3=some (.ip (cs.drop 3)):=fun _=>rfl;have l3:ah T 24 (.ip ((ab m.av).drop 3))=some (bp m.init):=by simp
   have b1:∀(f:bI)(e:Exp),aY T false 98 [(0,bi f),(1,e.av)]=some (cD (f,e)):=fun f e=>by
    rw[nL,eB,Exp.av,Exp.cells_eq];rfl
   have b2:∀v:Vr,aK T 112 1 [(0,cD v)]=some (MgV.sl [v]):=fun v=>by
    rw[show MgV.sl [v]= .sl [cD v]from rfl,nL];rfl
   rw[FL57_0];simp -implicitDefEqProofs only[L57_0,az,aB,aF,am,ao,h1,Kf,J0,i1,l1,ow,aG,f1,l3,i2,l2,b1,b2,varsOf,hap,aU,hw];exact h4
 have h0:=hloop m.vars.length 0 rfl (by omega);have f2:∀cs,aa T 29 (.ip cs) 2=some (.ip (cs.drop 2)):=fun _=>rfl;have l4:ah T 23 (.ip ((ab m.av).drop 2))=some (aN m.vars):=by simp
 rw[C57,de];have e:S57 (af pg) aj m.av=M.pure (MgV.sl (varsOf m)):=by
  simp -implicitDefEqProofs only[S57,f2,am,l4,og];exact h0
 rw[e];exact ba fun g=>MgV.eY g _
def cb(m:Mod):List Mig:=if m.moves=true then[⟨m.old,m.forward,m.back⟩]else[]
def t60(m:Mod):af pg 60 [m.av]=M.pure (MgM.sl (cb m)):=by
 rw[C60,de];have f5:∀cs,aa T 29 (.ip cs) 5=some (.ip (cs.drop 5)):=fun _=>rfl;have f6:∀cs,aa T 29 (.ip cs) 6=some (.ip (cs.drop 6)):=fun _=>rfl;have l5:ah T 4 (.ip ((ab m.av).drop 5))=some (.bool m.moves):=by simp
 have l6:ah T 27 (.ip ((ab m.av).drop 6))=some (bG ⟨m.old,m.forward,m.back⟩):=by
  rw[show (ab m.av).drop 6=[aN m.old,bp m.forward,bp m.back] by simp];rfl
 have b2:∀v:Mig,aK T 118 1 [(0,bG v)]=some (MgM.sl [v]):=fun v=>rfl;have e:S60 (af pg) aj m.av=M.pure (MgM.sl (cb m)):=by
  simp -implicitDefEqProofs only[S60,f5,f6,am,l5,l6,cj,ao,b2];unfold cb;cases m.moves<;>rfl
 rw[e];exact ba fun g=>MgM.eY g _
def cS(l:List Vr):List bI->List Vr->List Vr×Bool
 |[],out=>(out,out.length== l.length)
 |f:: fs,out=>match l.find? (fun v=>kB v== f.1)with
  |none=>([],false)
  |some v=>cS l fs (out++[v])
def t95(v:Vr)(f:bI):af pg 95 [cD v,.ip (ab (bi f))]=M.pure (.bool (kB v== f.1)):=by
 have c:cl ar (.ip (ab (bi f)))= .ip (ab (bi f)):=by simp[cl,df]
 have hb:∀x y:aT,aw T .eql 9 (.str x) (.str y)=some (.bool (x== y)):=fun _ _=>rfl;rw[C95,GO,c];simp[S95,lg,FV0,hb,kB]
theorem t61(l:List Vr)(fs:List bI)(hl:l.length<=1000000)(hf:fs.length<=1000000):af pg 61 [MgV.sl l,aN fs]=M.pure (.tup [MgV.sl (cS l fs []).1,.bool (cS l fs []).2]):=by
 have hloop:∀(n i:Nat)(out:List Vr),fs.length-i=n->i<=fs.length->out.length<=i->
   aj (L61_0 (af pg) aj) [MgV.sl l,MgV.sl out,aN fs,.int .i64 fs.length,.int .i64 i]=M.pure (.tup [MgV.sl (cS l (fs.drop i) out).1,.bool (cS l (fs.drop i) out).2]):=by
  intro n
  induction n with
  |zero=>
   intro i out hn hi ho;have h1:¬((i:Int)<(fs.length:Int)):=by omega
   have he:((out.length:Int)== (l.length:Int))=(out.length== l.length):=by rw[KU];simp
   rw[FL61_0,JQ (by omega)];simp -implicitDefEqProofs only[L61_0,az,aB,aF,am,ao,h1,Kv,JL,JZ,MgV.ln,gz,he,cS]
  | succ n ih=>
   intro i out hn hi ho;have hlt:i<fs.length:=by omega
   have h1:(i:Int)<(fs.length:Int):=by omega
   have hw:IntKind.i64.wrap ((i:Int)+1)=((i+1:Nat):Int):=aS (by omega);have i1:=iM (l:=fs) (n:=(i:Int)) (by omega) h1;rw[JW,J1 fs i hlt]at i1;rw[JS hlt];generalize fs[i]=f at *;have l1:ah T 51 (.ip (ab (bi f)))=some (bi f):=by simp
   have hix:=MgV.t94 (.fn (.func 95) [] [.ip (ab (bi f))]) (fun v=>kB v== f.1) l hl (fun g=>by simp[cl,df]) (fun v _=>t95 v f);have b2:∀v:Vr,aK T 112 1 [(0,cD v)]=some (MgV.sl [v]):=fun v=>by
    rw[show MgV.sl [v]= .sl [cD v]from rfl,nL];rfl
   rw[FL61_0];simp -implicitDefEqProofs only[L61_0,az,aB,aF,am,ao,h1,Kf,J0,i1,l1,ow,aG,hix];rcases ga (fun v=>kB v== f.1) l 0 (by omega)with⟨g1,g2⟩|⟨k,hk,g1,g2⟩
   ·have hn1:decide ((-1:Int)<0)=true:=rfl;simp -implicitDefEqProofs only[g1,hn1,J0,cS,g2]
    try rfl
   ·have hn1:decide ((0:Int)+(k:Int)<0)=false:=by simp
    have hix2:=MgV.ix hk;have hz:(0:Int)+(k:Int)=(k:Int):=by omega
    have hap:=MgV.ap (a:=out) (b:=[l[k]]) (by rw[Kk];omega);have h4:=ih (i+1) (out++[l[k]]) (by omega) (by omega) (by rw[JY,Kk];omega);simp -implicitDefEqProofs only[g1,hn1,JL,JZ,hz,hix2,am,HT,b2,hap,aU,hw,cS,g2];exact h4
 have h0:=hloop fs.length 0 [] rfl (by omega) (by simp);rw[C61,MgV.eY,nU];have e:S61 (af pg) aj (MgV.sl l) (aN fs)=M.pure (.tup [MgV.sl (cS l fs []).1,.bool (cS l fs []).2]):=by
  simp -implicitDefEqProofs only[S61,og,am];exact h0
 rw[e];exact ba fun g=>by
  show AV.tup [cl g (MgV.sl _),.bool _]=_;rw[MgV.eY]
end Go.Proofs.YtblddnfanlkgiaaGreat.Mg
