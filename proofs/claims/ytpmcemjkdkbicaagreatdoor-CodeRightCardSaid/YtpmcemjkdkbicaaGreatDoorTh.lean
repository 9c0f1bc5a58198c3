/- What the functions of the seat compute, part 8: the texts of the claim, one behind the other. Conditions: bounds, as each theorem names them. -/
import Derived.Test.YtpmcemjkdkbicaaGreatDoorTg
set_option linter.defProp false
set_option linter.unusedSimpArgs false
set_option linter.unusedVariables false
namespace Go.Proofs.YtpmcemjkdkbicaaGreatDoor
open Go Go.Av Go.Av.Ap
set_option maxRecDepth 100000
def dZ(t:Ty):Prop:=∀n,Ty.Short n t
def dZ.len{t:Ty}(h:dZ t):t.fields.length<=1000000000:=(h 1).1
def dZ.kid{t:Ty}(h:dZ t){f:bM}(hf:f∈t.fields):dZ f.2:=fun n=>(h (n+1)).2 f hf
def fc{d:Nat}{t:Ty}(h:dK d t=true):dZ t:=mj d t h
def s8{k:Int}{fs:List bM}(h:fs.length<=1000000000)(hf:∀f∈fs,dZ f.2):dZ (.mk k fs):=fun n=>by
 cases n with
 |zero=>exact trivial
 |succ n=>exact⟨h,fun f hm=>hf f hm n⟩
def xO{t:Ty}{f:bM}(h:f∈t.fields):SizeOf.sizeOf f.2<SizeOf.sizeOf t:=by
 cases t with
 |mk k fs=>
  have h1:=List.sizeOf_lt_of_mem (show f∈fs from h);obtain⟨n,t⟩:=f;simp only[Ou,Ty.mk.sizeOf_spec]at h1 |-;have:SizeOf.sizeOf t<SizeOf.sizeOf ((n,t):bM):=by simp only[Ou];omega
  simp only[Ou]at this;omega
def np(f:bM)(fs l:List bM):lD (f:: fs) l=(match I2 f l with|some x=>[x]|none=>[])++lD fs l:=by
 simp only[lD];rfl
theorem Co(f:bM)(l:List bM):I2 f l=match cf (fun z=>z.1== f.1) l with
  |some z=>(match vO f.2 z.2 with|some u=>some (f.1,u)|none=>none)
  |none=>none:=by
 obtain⟨n,t⟩:=f;simp only[I2];rfl
theorem vD(l:List bM):(fs:List bM)->(lD fs l).length<=fs.length
 |[]=>by simp[lD]
 |f:: fs=>by
  have:=vD l fs
  rw[np,L4,LQ];cases I2 f l<;>simp<;>omega
def sF(n:aU)(t:Ty):aQ T false 95 [(0,.str n),(1,t.av)]=some (bW (n,t)):=by
 cases t;rfl
def Jl(f:bM):aS T 36 1 [(0,bW f)]=some (aO [f]):=by
 obtain⟨n,t⟩:=f;cases t;rfl
theorem CU(l:List bM):cq (aO l)=M.pure (aO l):=rfl
def DD(b:Ty)(hb:dZ b)(l:List bM)(hl:l.length<=1000000000)(k:Int)(x4 x5:AV)(hk:∀f∈l,∀t:Ty,dZ t->ai pg 108 [f.2.av,t.av]=M.pure (match vO f.2 t with|some u=>.tup [u.av,.bool true]|none=>.tup [ty0.av,.bool false])):∀(n i:Nat)(acc:List bM),l.length-i=n->i<=l.length->acc.length<=i->
  ah (L108_0 (ai pg) ah) [.ip (ab b.av),aO l,.int .i64 l.length,.int .i64 i,x4,x5,.int .i64 k,aO acc]=M.pure (.tup [(Ty.mk k (acc++lD (l.drop i) b.fields)).av,.bool true]):=by
 intro n
 induction n with
 |zero=>
  intro i acc hn hi ha;have h1:¬((i:Int)<(l.length:Int)):=by omega
  have h2:l.drop i=[]:=Me (by omega);have h3:aE 2 [] (.agg [.int .i64 k,aO acc])=M.pure (.agg [.int .i64 k,aO acc]):=bJ rfl;rw[FL108_0,h2];simp[L108_0,h1,lD,h3];rfl
 | succ n ih=>
  intro i acc hn hi ha;have hlt:i<l.length:=by omega
  have h1:(i:Int)<(l.length:Int):=by omega
  have h2:l.drop i=l[i]:: l.drop (i+1):=L9 hlt;have hw:IntKind.i64.wrap ((i:Int)+1)=(i:Int)+1:=bu (by omega);have hix:=oe (l:=l) (n:=(i:Int)) (by omega) h1;rw[LH,LK l i hlt]at hix;have hk':=hk l[i] (LM hlt);have hlk:=t81 b.fields hb.len l[i].1;have ih2:∀acc:List bM,acc.length<=i+1->ah (L108_0 (ai pg) ah) [.ip (ab b.av),aO l,.int .i64 l.length,.int .i64 ((i:Int)+1),x4,x5,.int .i64 k,aO acc]=M.pure (.tup [(Ty.mk k (acc++lD (l.drop (i+1)) b.fields)).av,.bool true]):=fun acc ha=>ih (i+1) acc (by omega) (by omega) ha;simp only[eG]at ih2;rw[FL108_0,h2,np,Co];generalize l[i]=f at hix hk' hlk |-;cases hz:cf (fun z:bM=>z.1== f.1) b.fields with
  |none=>
   rw[hz]at hlk;have ih':=ih2 acc (by omega);simp[L108_0,h1,hix,hlk,hw,ih']
  | some z=>
   rw[hz]at hlk;have hc:=hk' z.2 (hb.kid (gT hz).1);cases hu:vO f.2 z.2 with
   |none=>
    rw[hu]at hc;have ih':=ih2 acc (by omega);simp[L108_0,h1,hix,hlk,hw,hc,hu,ih']
   |some u=>
    rw[hu]at hc;have ih':=ih2 (acc++[(f.1,u)]) (by simp;omega);have hap:=FT (a:=acc) (b:=[(f.1,u)]) (by simp;omega);simp[L108_0,h1,hix,hlk,hw,hc,hu,sF,Jl,hap,CU,ih']
theorem t108(a b:Ty)(ha:dZ a)(hb:dZ b):ai pg 108 [a.av,b.av]=M.pure (match vO a b with|some u=>.tup [u.av,.bool true]|none=>.tup [ty0.av,.bool false]):=by
 have hloop:=DD b hb a.fields ha.len a.kind (.int .i64 0) (.sl []) (fun f hf t ht=>by
  have:=xO hf
  exact t108 f.2 t (ha.kid hf) ht) a.fields.length 0 [] rfl (LZ _) (LZ _)
 rw[C108];have e1:vO a b=if a.kind=b.kind then some (.mk a.kind (lD a.fields b.fields))else none:=by
  cases a;cases b;simp only[vO,Ty.kind,Ty.fields];rfl
 have b1:aQ T false 55 []=some ty0.av:=rfl;have b2:∀k:Int,aQ T true 55 [(0,.int .i64 k)]=some (.agg [.int .i64 k,.hn]):=fun k=>rfl;have b3:∀k:Int,aE 2 [1] (.agg [.int .i64 k,.hn])=M.pure (.agg [.int .i64 k,.hn]):=fun k=>rfl;rw[e1];simp only[Mx,Mn]at hloop;by_cases hk:a.kind=b.kind
 ·have hk':(a.kind != b.kind)=false:=by simp[hk]
  rw[LC hk];have hloop':ah (L108_0 (ai pg) ah) [.ip (ab b.av),aO a.fields,.int .i64 a.fields.length,.int .i64 0,.int .i64 0,.sl [],.int .i64 a.kind,.sl []]=M.pure (.tup [(Ty.mk a.kind (lD a.fields b.fields)).av,.bool true]):=hloop;simp only[eG]at hloop';simp[S108,hk',b2,b3,hloop'];exact cg fun g=>by simp[cl,dn]
 ·have hk':(a.kind != b.kind)=true:=by simp[hk]
  rw[if_neg hk];simp[S108,hk',b1];exact cg fun g=>by simp[cl,dn]
termination_by SizeOf.sizeOf a
def ca{m:M AV}{v r:AV}{h':Hp}(e:m []= .ok v h')(f:fV 6 h' v=r):aM m=M.pure r:=by
 funext hp;unfold aM;rw[e];show R.ok (fV 6 h' v) hp=R.ok r hp;rw[f]
def t107(t:Ty)(k:Int):ai pg 107 [t.av,.ip [.int .i64 k]]=M.pure (.bool (t.kind != k)):=by
 rw[C107];simp[S107,cl,dn]
def t106(k:Int)(l:List Ty)(hl:l.length<=1000000):ai pg 106 [.int .i64 k,.ip [gG l]]=M.pure (.bool (jF k l)):=by
 have h:=t78 (.fn (.func 107) [] [.ip [.int .i64 k]]) (fun t=>t.kind != k) l (by omega) (fun g=>by simp[cl,dn]) (fun t _=>t107 t k);rw[C106];have e:(!l.any fun t=>t.kind != k)=jF k l:=by
  unfold jF;rw[OW];congr 1;funext t;simp[bne]
 simp[S106,cl,dn,h,e]
theorem B1(f:AV->M AV):ae (newH [.int .i64 0,.hn]) f []=f (.hp 0 0) [[.int .i64 0,.hn]]:=rfl
theorem B2(f:AV->M AV)(k:Int)(fs:List AV)(c1 c2:AV):ae (bI T 55 (.hp 0 0) (.agg [.int .i64 k,.sl fs])) f [[c1,c2]]=f (.tup []) [[.int .i64 k,.sl fs]]:=rfl
theorem vH(f:AV->M AV)(k:Int)(c1 c2:AV):ae (bI T 55 (.hp 0 0) (.agg [.int .i64 k,.hn])) f [[c1,c2]]=f (.tup []) [[.int .i64 k,.hn]]:=rfl
theorem B3(f:AV->M AV)(k:Int)(c1 c2:AV):ae (bI T 3 (.hp 0 0) (.int .i64 k)) f [[c1,c2]]=f (.tup []) [[.int .i64 k,c2]]:=rfl
theorem B4(f:AV->M AV)(c1 c2:AV):ae (bj T 55 (.hp 0 0)) f [[c1,c2]]=f (.agg [c1,c2]) [[c1,c2]]:=rfl
theorem fa0:aa T 55 (.hp 0 0) 0=some (.hp 0 0):=rfl
theorem fa1:aa T 55 (.hp 0 0) 1=some (.hp 0 1):=rfl
theorem vJ:aQ T true 55 []=some (.agg [.int .i64 0,.hn]):=rfl
theorem xD:aQ T false 55 []=some ty0.av:=rfl
def vK(k:Int):aE 2 [] (.agg [.int .i64 k,.hn])=M.pure (.agg [.int .i64 k,.hn]):=bJ rfl
def vL(k:Int)(fs:List AV):aE 2 [] (.agg [.int .i64 k,.sl fs])=M.pure (.agg [.int .i64 k,.sl fs]):=bJ rfl
def KV(k:Int)(l n:Nat):aE 2 [] (.agg [.int .i64 k,.hs l 0 n 3 true])=M.pure (.agg [.int .i64 k,.hs l 0 n 3 true]):=bJ rfl
theorem Fz(n:Int):cq (.int .i64 n)=M.pure (.int .i64 n):=rfl
theorem Cn:ty0.av= .agg [.int .i64 0,.sl []]:=rfl
def Ho(f:AV->M AV)(t:Ty)(c1 c2:AV):ae (bI T 55 (.hp 0 0) t.av) f [[c1,c2]]=f (.tup []) [[.int .i64 t.kind,aO t.fields]]:=by
 rw[<- fA];rfl
def cnt(t:Ty):aE 2 [] (.agg [.int .i64 t.kind,aO t.fields])=M.pure (.agg [.int .i64 t.kind,aO t.fields]):=bJ rfl
def CF(h:Hp)(acc:List bM):Prop:=(acc=[]/\h[0]? = some [.int .i64 2,.hn])\/(acc≠[]/\∃q,q≠0/\h[0]? = some [.int .i64 2,.hs q 0 acc.length 3 true]/\h[q]? = some (rowOf bW acc))
theorem FQ:(l:List bM)->(rowOf bW l).all bn=true
 |[]=>rfl
 |f:: l=>by
  rw[eE,List.all_append,FQ l,OC,dQ];rfl
def zS{h:Hp}{acc:List bM}(A:CF h acc)(hl:acc.length<=1000000)(f:bM):∃sv rv h1 h2,bj T 36 (.hp 0 1) h= .ok sv h/\appH T 36 false sv (aO [f]) h= .ok rv h1/\bI T 36 (.hp 0 1) rv h1= .ok (.tup []) h2/\CF h2 (acc++[f]):=by
 have hfl:aO [f]= .sl [bW f]:=by rw[ua];rfl
 have h0l:0<h.length:=by
  rcases A with⟨_,h0⟩|⟨_,q,_,h0,_⟩
  ·exact (Mf.1 h0).1
  ·exact (Mf.1 h0).1
 rcases A with⟨rfl,h0⟩|⟨hne,q,hq0,h0,hq⟩
 ·have e1:bj T 36 (.hp 0 1) h= .ok .hn h:=fX rfl rfl h0 rfl;have e2:=xA (T:=T) (t:=36) (e:=95) rfl rfl rfl (x:=bW f) (iS f) (by decide) (by decide) (by decide) h;rw[<- hfl]at e2;have h0':(h++[ab (bW f)])[0]? = some [.int .i64 2,.hn]:=by rw[LP h0l];exact h0
  have e3:=gM (T:=T) (t:=36) rfl (k:=1) (v:=.hs h.length 0 1 3 true) h0' rfl (by decide) (by decide);refine⟨_,_,_,_,e1,e2,e3,.inr ⟨by simp,h.length,by omega,?_,?_⟩⟩
  ·rw[M4 (by simp)];rfl
  ·rw[Nq (by omega),LS (LI _),Nv];simp[rowOf]
 ·have e1:bj T 36 (.hp 0 1) h= .ok (.hs q 0 acc.length 3 true) h:=fX rfl rfl h0 rfl;have hln:=eN (f:=bW) KD acc;have hpos:0<acc.length:=Ms.2 hne;have e2:=xB (T:=T) (t:=36) (e:=95) rfl rfl rfl (x:=bW f) (iS f) (by decide) (by decide) hq (FQ acc) hln hpos (show (acc.length+1)*48<=_ by omega);rw[<- hfl]at e2;have hql:q<h.length:=(Mf.1 hq).1;have h0':((h.set q [])++[rowOf bW acc++ab (bW f)])[0]? = some [.int .i64 2,.hs q 0 acc.length 3 true]:=by
   rw[LP (by simpa using h0l),Nq (by omega)];exact h0
  have e3:=gM (T:=T) (t:=36) rfl (k:=1) (v:=.hs h.length 0 (acc.length+1) 3 true) h0' rfl (show 1+1<=2 by omega) (by decide);refine⟨_,_,_,_,e1,e2,e3,.inr ⟨by simp,h.length,by omega,?_,?_⟩⟩
  ·rw[M4 (by simp),L4];rfl
  ·rw[Nq (by omega),LS (by simp),Nk,Nv];simp[rowOf]
theorem zR{h:Hp}{acc:List bM}(A:CF h acc):∃v,bj T 55 (.hp 0 0) h= .ok v h/\aE 2 [] v=M.pure v/\(∃c1 c2,v= .agg [c1,c2])/\fV 6 h (.tup [v,.int .i64 0])= .tup [(Ty.mk 2 acc).av,.int .i64 0]:=by
 have e:(Ty.mk 2 acc).av= .agg [.int .i64 2,aO acc]:=rfl;rcases A with⟨rfl,h0⟩|⟨hne,q,hq0,h0,hq⟩
 ·exact⟨.agg [.int .i64 2,.hn],Br (T:=T) (t:=55) rfl rfl h0 (show 0+2<=2 by omega),vK 2,⟨_,_,rfl⟩,rfl⟩
 ·refine⟨.agg [.int .i64 2,.hs q 0 acc.length 3 true],Br (T:=T) (t:=55) rfl rfl h0 (show 0+2<=2 by omega),KV 2 q acc.length,⟨_,_,rfl⟩,?_⟩;have hfr:=mR (f:=bW) KD (fun x=>by rw[dQ,jU]) (fun x g=>Gg g x) (by decide) hq 5;rw[e,ua,<- hfr];rfl
def GH(e:Exp)(l:List Ty)(x1 x2:AV)(hlen:l.length<=1000000)(hn:e.names.length=l.length):∀(n i:Nat)(h:Hp),l.length-i=n->i<=l.length->CF h ((e.names.zip l).take i)->
  ∃v h',ah (L86_0 (ai pg) ah (K86_0 (ai pg) ah)) [.ip (ab e.av),.hp 0 0,.bool true,gG l,.int .i64 l.length,.int .i64 i,x1,x2] h= .ok v h'/\fV 6 h' v= .tup [(Ty.mk 2 (e.names.zip l)).av,.int .i64 0]:=by
 intro n
 induction n with
 |zero=>
  intro i h hi hle A;have h1:¬((i:Int)<(l.length:Int)):=by omega
  have h2:(e.names.zip l).take i=e.names.zip l:=Nj (by rw[NC];omega);rw[h2]at A;obtain⟨v,e1,e2,⟨c1,c2,rfl⟩,e3⟩:=zR A;refine⟨_,h,?_,e3⟩;rw[FL86_0];simp only[L86_0,K86_0,aw,aB,aH,am,h1,N0,ap,LJ,Md,gO,ME];rw[aW e1];simp only[e2,ax,oC,aw,aB];rfl
 | succ n ih=>
  intro i h hi hle A;have hlt:i<l.length:=by omega
  have hlt2:i<e.names.length:=by omega
  have h1:(i:Int)<(l.length:Int):=by omega
  have hw:IntKind.i64.wrap ((i:Int)+1)=(i:Int)+1:=bu (by omega);have hix:=lH (l:=l) (n:=(i:Int)) (by omega) h1;rw[LH,LK l i hlt]at hix;have hix2:=jI (l:=e.names) (n:=(i:Int)) (by omega) (by omega);rw[LH,LK e.names i hlt2]at hix2;have ht:(e.names.zip l).take (i+1)=(e.names.zip l).take i++[(e.names[i],l[i])]:=by
   rw[Nf (by rw[NC];omega),List.getElem_zip]
  obtain⟨sv,rv,h2,h3,e1,e2,e3,A3⟩:=zS A (by rw[MR,NC];omega) (e.names[i],l[i]);rw[<- ht]at A3;obtain⟨v,h',e4,e5⟩:=ih (i+1) h3 (by omega) (by omega) A3;refine⟨v,h',?_,e5⟩;have e4':ah (L86_0 (ai pg) ah (K86_0 (ai pg) ah)) [.ip (ab e.av),.hp 0 0,.bool true,gG l,.int .i64 l.length,.int .i64 ((i:Int)+1),x1,x2] h3= .ok v h':=e4;rw[<- e4'];generalize hcode:ah (L86_0 (ai pg) ah (K86_0 (ai pg) ah)) [.ip (ab e.av),.hp 0 0,.bool true,gG l,.int .i64 l.length,.int .i64 i,x1,x2] h=code;rw[FL86_0]at hcode;simp -implicitDefEqProofs only[L86_0,aw,aB,aH,am,h1,MI,ap,Mc,hix,eG,LD55,LQ,Mb,Ma,Nat.reduceAdd,LI,Mt,MJ,fA,Av.iJ,ax,fa1]at hcode;rw[aW e1]at hcode;simp -implicitDefEqProofs only[bp,FA57_4,am,MX,Mx,LD35,hix2,i7,LD9,LD55,LQ,Mb,Ma,Nat.reduceAdd,LI,Mc,Mt,MJ,fA,sF,Jl]at hcode;rw[aW e2]at hcode;rw[aW e3]at hcode;simp -implicitDefEqProofs only[bD,am,hw]at hcode;rw[<- hcode,bp]
theorem eX(l:List Ty):ab (gG l)=[gG l]:=rfl
def t86(e:Exp)(l:List Ty)(hl:∀t∈l,dZ t)(hlen:l.length<=1000000)(h11:e.op=11->l.length=3)(h14:e.op=14->l.length=1)(h13:e.op=13->e.names.length=l.length):ai pg 86 [e.av,gG l]=M.pure (match cK e l with|some t=>.tup [t.av,.int .i64 0]|none=>.tup [ty0.av,.int .i64 13]):=by
 have h0:=t106 0 l hlen;have h1:=t106 1 l hlen;rw[C86,Ay,AD];have fin:∀k:Int,fV 6 [[.int .i64 k,.hn]] (.tup [.agg [.int .i64 k,.hn],.int .i64 0])= .tup [(Ty.mk k []).av,.int .i64 0]:=fun k=>rfl;have fin0:∀h:Hp,fV 6 h (.tup [ty0.av,.int .i64 13])= .tup [ty0.av,.int .i64 13]:=fun h=>rfl;have fins:∀(h:Hp)(t:Ty),fV 6 h (.tup [.agg [.int .i64 t.kind,aO t.fields],.int .i64 0])= .tup [t.av,.int .i64 0]:=fun h t=>by
  have hc:Ap.Clean (AV.tup [t.av,.int .i64 0]):=fun g=>by simp[cl,dn]
  rw[fA];exact hc.frz 6 h
 by_cases o3:e.op=3\/e.op=4\/e.op=5\/e.op=16
 ·have ep:cK e l=if jF 0 l=true then some (.mk 0 [])else none:=by unfold cK;rw[LC o3]
  rw[ep];cases hb:jF 0 l with
  |true=>
   rw[hb]at h0;refine ca (v:=.tup [.agg [.int .i64 0,.hn],.int .i64 0]) (h':=[[.int .i64 0,.hn]]) ?_ (fin 0);rcases o3 with hop|hop|hop|hop<;>simp[S86,K86_0,K86_1,K86_2,vJ,xD,B1,B2,vH,B3,B4,fa0,hop,vK,vL,cd,eX,h0,h1]<;>rfl
  |false=>
   rw[hb]at h0;refine ca (v:=.tup [ty0.av,.int .i64 13]) (h':=[[.int .i64 0,.hn]]) ?_ (fin0 _);rcases o3 with hop|hop|hop|hop<;>simp[S86,K86_0,K86_1,K86_2,vJ,xD,B1,B2,vH,B3,B4,fa0,hop,vK,vL,cd,eX,h0,h1]<;>rfl
 ·by_cases hop:e.op=1
  ·have ep:cK e l=some (.mk 1 []):=by unfold cK;rw[if_neg o3,LC hop]
   rw[ep];refine ca (v:=.tup [.agg [.int .i64 1,.hn],.int .i64 0]) (h':=[[.int .i64 1,.hn]]) ?_ (fin 1);simp[S86,K86_0,K86_1,K86_2,vJ,xD,B1,B2,vH,B3,B4,fa0,hop,vK,vL,cd,eX,h0,h1,Fz];rfl
  ·by_cases hop6:e.op=6
   ·have hop:=hop6;have ep:cK e l=if jF 0 l=true then some (.mk 1 [])else none:=by unfold cK;rw[if_neg o3,if_neg (by omega),LC hop6]
    rw[ep];cases hb:jF 0 l with
    |true=>
     rw[hb]at h0;refine ca (v:=.tup [.agg [.int .i64 1,.hn],.int .i64 0]) (h':=[[.int .i64 1,.hn]]) ?_ (fin 1);simp[S86,K86_0,K86_1,K86_2,vJ,xD,B1,B2,vH,B3,B4,fa0,hop,vK,vL,cd,eX,h0,h1,Fz];rfl
    |false=>
     rw[hb]at h0;refine ca (v:=.tup [ty0.av,.int .i64 13]) (h':=[[.int .i64 1,.hn]]) ?_ (fin0 _);simp[S86,K86_0,K86_1,K86_2,vJ,xD,B1,B2,vH,B3,B4,fa0,hop,vK,vL,cd,eX,h0,h1,Fz];rfl
   ·by_cases hop7:e.op=7
    ·have hop:=hop7;have ep:cK e l=if(jF 0 l||jF 1 l)=true then some (.mk 1 [])else none:=by unfold cK;rw[if_neg o3,if_neg (by omega),if_neg hop6,LC hop7]
     rw[ep];cases hb:jF 0 l<;>cases hb1:jF 1 l<;>rw[hb]at h0<;>rw[hb1]at h1
     ·refine ca (v:=.tup [ty0.av,.int .i64 13]) (h':=[[.int .i64 1,.hn]]) ?_ (fin0 _);simp[S86,K86_0,K86_1,K86_2,vJ,xD,B1,B2,vH,B3,B4,fa0,hop,vK,vL,cd,eX,h0,h1,Fz];rfl
     all_goals
      refine ca (v:=.tup [.agg [.int .i64 1,.hn],.int .i64 0]) (h':=[[.int .i64 1,.hn]]) ?_ (fin 1);simp[S86,K86_0,K86_1,K86_2,vJ,xD,B1,B2,vH,B3,B4,fa0,hop,vK,vL,cd,eX,h0,h1,Fz];rfl
    ·by_cases o8:e.op=8\/e.op=9\/e.op=10
     ·have ep:cK e l=if jF 1 l=true then some (.mk 1 [])else none:=by unfold cK;rw[if_neg o3,if_neg (by omega),if_neg hop6,if_neg hop7,LC o8]
      rw[ep];cases hb:jF 1 l with
      |true=>
       rw[hb]at h1;refine ca (v:=.tup [.agg [.int .i64 1,.hn],.int .i64 0]) (h':=[[.int .i64 1,.hn]]) ?_ (fin 1);rcases o8 with hop|hop|hop<;>simp[S86,K86_0,K86_1,K86_2,vJ,xD,B1,B2,vH,B3,B4,fa0,hop,vK,vL,cd,eX,h0,h1,Fz]<;>rfl
      |false=>
       rw[hb]at h1;refine ca (v:=.tup [ty0.av,.int .i64 13]) (h':=[[.int .i64 1,.hn]]) ?_ (fin0 _);rcases o8 with hop|hop|hop<;>simp[S86,K86_0,K86_1,K86_2,vJ,xD,B1,B2,vH,B3,B4,fa0,hop,vK,vL,cd,eX,h0,h1,Fz]<;>rfl
     ·by_cases hop11:e.op=11
      ·have hop:=hop11;have ep:cK e l=(match vO l[1]! l[2]! with|some t=>if l[0]!.kind=1 then some t else none|none=>none):=by unfold cK;rw[if_neg o3,if_neg (by omega),if_neg hop6,if_neg hop7,if_neg o8,LC hop11];rfl
       rw[ep];obtain⟨a,b,c,rfl⟩:∃a b c,l=[a,b,c]:=by
        have:=h11 hop
        match l,this with
        |[a,b,c],_=>exact⟨a,b,c,rfl⟩
       have i0:ak T 100 (gG [a,b,c]) (.int .i64 0)=some (.ip (ab a.av)):=lH (l:=[a,b,c]) (n:=0) (by omega) (by simp);have i1:ak T 100 (gG [a,b,c]) (.int .i64 1)=some (.ip (ab b.av)):=lH (l:=[a,b,c]) (n:=1) (by omega) (by simp);have i2:ak T 100 (gG [a,b,c]) (.int .i64 2)=some (.ip (ab c.av)):=lH (l:=[a,b,c]) (n:=2) (by omega) (by simp);have hu:=t108 b c (hl b (by simp)) (hl c (by simp));show aM _=M.pure (match (match vO b c with|some t=>if a.kind=1 then some t else none|none=>none)with|some t=>.tup [t.av,.int .i64 0]|none=>.tup [ty0.av,.int .i64 13]);cases hub:vO b c with
       |none=>
        rw[hub]at hu;refine ca (v:=.tup [ty0.av,.int .i64 13]) (h':=[[.int .i64 0,.sl []]]) ?_ (fin0 _);simp[S86,K86_0,K86_1,K86_2,vJ,xD,B1,B2,vH,B3,B4,fa0,hop,vK,vL,cd,eX,h0,h1,i0,i1,i2,hu,hub,Ho,Cn];rfl
       | some u=>
        rw[hub]at hu;by_cases hk:a.kind=1
        ·dsimp only;rw[LC hk];have hk':(a.kind== 1)=true:=MF.2 hk;refine ca (v:=.tup [.agg [.int .i64 u.kind,aO u.fields],.int .i64 0]) (h':=[[.int .i64 u.kind,aO u.fields]]) ?_ (fins _ u);simp[S86,K86_0,K86_1,K86_2,vJ,xD,B1,B2,vH,B3,B4,fa0,hop,vK,vL,cd,eX,h0,h1,i0,i1,i2,hu,hub,Ho,hk',cnt];rfl
        ·dsimp only;rw[if_neg hk];have hk':(a.kind== 1)=false:=LX.2 hk;refine ca (v:=.tup [ty0.av,.int .i64 13]) (h':=[[.int .i64 u.kind,aO u.fields]]) ?_ (fin0 _);simp[S86,K86_0,K86_1,K86_2,vJ,xD,B1,B2,vH,B3,B4,fa0,hop,vK,vL,cd,eX,h0,h1,i0,i1,i2,hu,hub,Ho,hk'];rfl
      ·by_cases hop13:e.op=13
       ·have hop:=hop13;have ep:cK e l=some (.mk 2 (e.names.zip l)):=by unfold cK;rw[if_neg o3,if_neg (by omega),if_neg hop6,if_neg hop7,if_neg o8,if_neg hop11,LC hop13]
        rw[ep];obtain⟨v,h',e1,e2⟩:=GH e l (.int .i64 0) (.sl []) hlen (h13 hop) l.length 0 [[.int .i64 2,.hn]] rfl (LZ _) (.inl ⟨rfl,rfl⟩);refine ca (v:=v) (h':=h') ?_ e2;have e1':ah (L86_0 (ai pg) ah (K86_0 (ai pg) ah)) [.ip (ab e.av),.hp 0 0,.bool true,gG l,.int .i64 l.length,.int .i64 0,.int .i64 0,.sl []] [[.int .i64 2,.hn]]= .ok v h':=e1;rw[bp,hop]at e1';simp[S86,K86_1,K86_2,vJ,B1,vH,B3,fa0,hop,eX,Fz];exact e1'
       ·by_cases hop14:e.op=14
        ·have hop:=hop14;have ep:cK e l=(match cf (fun z=>z.1== e.s) l[0]!.fields with|some z=>some z.2|none=>none):=by unfold cK;rw[if_neg o3,if_neg (by omega),if_neg hop6,if_neg hop7,if_neg o8,if_neg hop11,if_neg hop13,LC hop14];rfl
         rw[ep];obtain⟨a,rfl⟩:∃a,l=[a]:=by
          have:=h14 hop
          match l,this with
          |[a],_=>exact⟨a,rfl⟩
         have i0:ak T 100 (gG [a]) (.int .i64 0)=some (.ip (ab a.av)):=lH (l:=[a]) (n:=0) (by omega) (by simp);have hk:=t81 a.fields (hl a (by simp)).len e.s;show aM _=M.pure (match (match cf (fun z=>z.1== e.s) a.fields with|some z=>some z.2|none=>none)with|some t=>.tup [t.av,.int .i64 0]|none=>.tup [ty0.av,.int .i64 13]);cases hz:cf (fun z:bM=>z.1== e.s) a.fields with
         |none=>
          rw[hz]at hk;refine ca (v:=.tup [ty0.av,.int .i64 13]) (h':=[[.int .i64 0,.sl []]]) ?_ (fin0 _);simp[S86,K86_0,K86_1,K86_2,vJ,xD,B1,B2,vH,B3,B4,fa0,hop,vK,vL,cd,eX,h0,h1,i0,hk,Ho,Cn];rfl
         |some z=>
          rw[hz]at hk;refine ca (v:=.tup [.agg [.int .i64 z.2.kind,aO z.2.fields],.int .i64 0]) (h':=[[.int .i64 z.2.kind,aO z.2.fields]]) ?_ (fins _ z.2);simp[S86,K86_0,K86_1,K86_2,vJ,xD,B1,B2,vH,B3,B4,fa0,hop,vK,vL,cd,eX,h0,h1,i0,hk,Ho,cnt];rfl
        ·have ep:cK e l=some (.mk 0 []):=by unfold cK;rw[if_neg o3,if_neg (by omega),if_neg hop6,if_neg hop7,if_neg o8,if_neg hop11,if_neg hop13,if_neg hop14]
         rw[ep];refine ca (v:=.tup [.agg [.int .i64 0,.hn],.int .i64 0]) (h':=[[.int .i64 0,.hn]]) ?_ (fin 0);have n3:(e.op== 3)=false:=LX.2 (by omega);have n4:(e.op== 4)=false:=LX.2 (by omega);have n5:(e.op== 5)=false:=LX.2 (by omega);have n16:(e.op== 16)=false:=LX.2 (by omega);have n1:(e.op== 1)=false:=LX.2 (by omega);have n6:(e.op== 6)=false:=LX.2 (by omega);have n7:(e.op== 7)=false:=LX.2 (by omega);have n8:(e.op== 8)=false:=LX.2 (by omega);have n9:(e.op== 9)=false:=LX.2 (by omega);have n10:(e.op== 10)=false:=LX.2 (by omega);have n11:(e.op== 11)=false:=LX.2 (by omega);have n13:(e.op== 13)=false:=LX.2 (by omega);have n14:(e.op== 14)=false:=LX.2 (by omega);simp[S86,K86_0,K86_1,K86_2,vJ,B1,vH,B4,vK,n3,n4,n5,n16,n1,n6,n7,n8,n9,n10,n11,n13,n14];rfl
def BS(f:AV)(F:Fun->Bool)(l:List Fun)(hb:l.length<=4611686018427387904)(hf:∀x∈l,cd (ai pg) f [Fun.av x]=M.pure (.bool (F x))):∀(n:Nat)(i:Int),l.length-i.toNat=n->0<=i->i<=l.length->
  ah (L127_0 (ai pg) ah) [fI l,f,.int .i64 l.length,.int .i64 i]=M.pure (.int .i64 (bG F (l.drop i.toNat) i)):=by
 intro n
 induction n with
 |zero=>
  intro i hn hi hl;rw[FL127_0];simp only[L127_0];have h1:¬(i<(l.length:Int)):=by omega
  have h2:l.drop i.toNat=[]:=Me (by omega);simp[h1,h2,bG]
 |succ n ih=>
  intro i hn hi hl;have h1:i<(l.length:Int):=by omega
  have hlt:i.toNat<l.length:=by omega
  have h2:bG F (l.drop i.toNat) i=if F l[i.toNat]=true then i else bG F (l.drop (i.toNat+1)) (i+1):=by rw[L9 hlt];rfl
  have h3:=hf l[i.toNat] (LM hlt);have h4:=ih (i+1) (by omega) (by omega) (by omega);rw[show (i+1).toNat=i.toNat+1 by omega]at h4;rw[FL127_0];simp only[L127_0];simp (disch:=omega) [h1,a8,vP,h3,h2];cases F l[i.toNat]
  ·simpa using h4
  ·simp
def Ko(f:AV)(F:Fun->Bool)(l:List Fun)(hb:l.length<=4611686018427387904)(hc:∀g,cl g f=f)(hf:∀x∈l,cd (ai pg) f [Fun.av x]=M.pure (.bool (F x))):ai pg 127 [fI l,f]=M.pure (.int .i64 (bG F l 0)):=by
 rw[C127];simp[S127,hc,BS f F l hb hf l.length 0 rfl (by omega) (by omega)]
def DX(s:aU)(l:List aU)(hb:l.length<=4611686018427387904):∀(n:Nat)(i:Int),l.length-i.toNat=n->0<=i->i<=l.length->
  ah (L58_0 (ai pg) ah) [strs l,.str s,.int .i64 l.length,.int .i64 i]=M.pure (.int .i64 (bG (fun x=>s== x) (l.drop i.toNat) i)):=by
 intro n
 induction n with
 |zero=>
  intro i hn hi hl;rw[FL58_0];simp only[L58_0];have h1:¬(i<(l.length:Int)):=by omega
  have h2:l.drop i.toNat=[]:=Me (by omega);simp[h1,h2,bG]
 | succ n ih=>
  intro i hn hi hl;have h1:i<(l.length:Int):=by omega
  have hlt:i.toNat<l.length:=by omega
  have h2:bG (fun x=>s== x) (l.drop i.toNat) i=if(s== l[i.toNat])=true then i else bG (fun x=>s== x) (l.drop (i.toNat+1)) (i+1):=by rw[L9 hlt];rfl
  have h4:=ih (i+1) (by omega) (by omega) (by omega);rw[show (i+1).toNat=i.toNat+1 by omega]at h4;rw[FL58_0,h2];simp only[L58_0];have hix:=jI (l:=l) (n:=i) hi h1;rw[LK l i.toNat hlt]at hix;generalize l[i.toNat]=x at hix |-;cases hx:s== x
  ·have hw:IntKind.i64.wrap (i+1)=i+1:=a8 (by omega) (by omega);simp only[aw,aB,aH,am,h1,MI,ap,Mc,hix,i7,LD9,yy,hx,LJ,Md,bD,hw,h4]
  ·simp only[aw,aB,aH,am,h1,MI,ap,Mc,hix,i7,LD9,yy,hx]
def Lf(s:aU)(l:List aU)(hb:l.length<=4611686018427387904):ai pg 58 [strs l,.str s]=M.pure (.int .i64 (bG (fun x=>s== x) l 0)):=by
 have h:=DX s l hb l.length 0 rfl (by omega) (by omega);rw[C58];have h':ah (L58_0 (ai pg) ah) [strs l,.str s,.int .i64 l.length,.int .i64 0]=M.pure (.int .i64 (bG (fun x=>s== x) l 0)):=h;simp only[S58,xG,wk,d8,am,h',lX]
def Kr(s:aU)(l:List aU)(hb:l.length<=4611686018427387904):ai pg 131 [strs l,.str s]=M.pure (.bool (l.contains s)):=by
 rw[C131];have e:l.any (fun x=>s== x)=l.contains s:=by rw[List.contains_eq_any_beq]
 simp only[S131,xG,wk,Lf s l hb,ax,oo,am,mT,e,cF]
def be(m:Ap.Mod)(mp:AV)(n:Int):List AV:=[.str m.name,strs m.uses,aO m.vars,cw m.init,fI m.funcs,.bool m.moves,aO m.old,cw m.forward,cw m.back,mp,.int .i64 n]
def cp(fs:List Face):List AV:=fs.map fun f=>.tup [.str f.module,f.av]
def KA(h:Hp)(mp:AV)(fs:List Face):Prop:=(mp= .nilm/\fs=[])\/∃l,mp= .mp l/\h[l]? = some [.tup (cp fs)]
structure JR (h:Hp) (q:Nat) (m:Ap.Mod) (mp:AV) (fs:List Face) (n:Int):Prop where
 row:h[q]? = some (be m mp n)
 map:KA h mp fs
 ne:mp≠.mp q
def JR.set{h:Hp}{q:Nat}{m:Ap.Mod}{mp:AV}{fs:List Face}{n:Int}(R:JR h q m mp fs n)(n':Int):JR (h.set q (be m mp n')) q m mp fs n':=by
 have hl:=(Mf.1 R.row).1;refine⟨M4 hl,?_,R.ne⟩;rcases R.map with h1|⟨l,h1,h2⟩
 ·exact .inl h1
 ·refine .inr ⟨l,h1,?_⟩;rw[Nq (fun e=>R.ne (by rw[h1,e]))];exact h2
def JR.same{h:Hp}{q:Nat}{m:Ap.Mod}{mp:AV}{fs:List Face}{n:Int}(R:JR h q m mp fs n):h.set q (be m mp n)=h:=by
 obtain⟨hl,e⟩:=Mf.1 R.row;rw[<- e];exact Oe hl
def Ll{h:Hp}{q:Nat}{m:Ap.Mod}{mp:AV}(a b:Int):(h.set q (be m mp a)).set q (be m mp b)=h.set q (be m mp b):=List.set_set ..
def JR.vars{h:Hp}{q:Nat}{m:Ap.Mod}{mp:AV}{fs:List Face}{n:Int}(R:JR h q m mp fs n):bj T 36 (.hp q 2) h= .ok (aO m.vars) h:=fX rfl rfl R.row rfl
def JR.funcs{h:Hp}{q:Nat}{m:Ap.Mod}{mp:AV}{fs:List Face}{n:Int}(R:JR h q m mp fs n):bj T 38 (.hp q 4) h= .ok (fI m.funcs) h:=fX rfl rfl R.row rfl
def JR.uses{h:Hp}{q:Nat}{m:Ap.Mod}{mp:AV}{fs:List Face}{n:Int}(R:JR h q m mp fs n):bj T 35 (.hp q 1) h= .ok (strs m.uses) h:=fX rfl rfl R.row rfl
def JR.mp{h:Hp}{q:Nat}{m:Ap.Mod}{mp:AV}{fs:List Face}{n:Int}(R:JR h q m mp fs n):bj T 107 (.hp q 9) h= .ok mp h:=fX rfl rfl R.row rfl
def JR.eff{h:Hp}{q:Nat}{m:Ap.Mod}{mp:AV}{fs:List Face}{n:Int}(R:JR h q m mp fs n):bj T 3 (.hp q 10) h= .ok (.int .i64 n) h:=fX rfl rfl R.row rfl
def JR.put{h:Hp}{q:Nat}{m:Ap.Mod}{mp:AV}{fs:List Face}{n:Int}(R:JR h q m mp fs n)(n':Int):bI T 3 (.hp q 10) (.int .i64 n') h= .ok (.tup []) (h.set q (be m mp n')):=
 gM (T:=T) (t:=3) rfl (v:=.int .i64 n') R.row rfl (show 10+1<=11 by omega) (by decide)
theorem KW(a b:aU):yX T 20 9 (.str a) (.str b)=some (a== b):=rfl
theorem pb(s:aU):(fs:List Face)->(i:Nat)->(fs.find? (fun f=>f.module== s)=none/\eW T 9 (.str s) (cp fs) i=some none)\/∃f j k,fs.find? (fun f=>f.module== s)=some f/\eW T 9 (.str s) (cp fs) i=some (some (j,k,f.av))
 |[],i=>.inl ⟨rfl,rfl⟩
 |x:: fs,i=>by
  show (_/\eW T 9 (.str s) (.tup [.str x.module,x.av]:: cp fs) i=_)\/∃f j k,_/\eW T 9 (.str s) (.tup [.str x.module,x.av]:: cp fs) i=_;unfold eW;rw[KW,List.find?_cons];have hc:(s== x.module)=(x.module== s):=Nl.2 ⟨fun h=>MF.2 (MF.1 h).symm,fun h=>MF.2 (MF.1 h).symm⟩;rw[hc];cases hx:x.module== s with
  |true=>exact .inr ⟨x,i,.str x.module,rfl,rfl⟩
  |false=>exact pb s fs (i+1)
def m5{h:Hp}{mp:AV}{fs:List Face}(M:KA h mp fs)(s:aU):eO T 107 mp (.str s) true h= .ok (.tup [((fs.find? fun f=>f.module== s).getD lO).av,.bool (fs.find? fun f=>f.module== s).isSome]) h:=by
 have e:∀es:List AV,nP T 107 es (.str s) true=(match eW T 9 (.str s) es 0 with
   |some (some (_,_,v))=>some (.tup [v,.bool true])
   |some none=>some (.tup [lO.av,.bool false])
   |none=>none):=fun es=>rfl
 rcases M with⟨rfl,rfl⟩|⟨l,rfl,hl⟩
 ·unfold eO jR;simp only;rw[e];rfl
 ·unfold eO jR;simp only[hl];rw[e];rcases pb s fs 0 with⟨h1,h2⟩|⟨f,j,k,h1,h2⟩
  ·rw[h1,h2];rfl
  ·rw[h1,h2];rfl
def Kp(f:Fun)(e:Exp):ai pg 128 [f.av,.ip (ab e.av)]=M.pure (.bool (f.name== e.s)):=by
 rw[C128];simp[S128,cl,dn]
def Kq(f:Sig)(e:Exp):ai pg 130 [f.av,.ip (ab e.av)]=M.pure (.bool (f.name== e.s)):=by
 rw[C130];simp[S130,cl,dn]
structure CxOk (m:Ap.Mod) (fs:List Face):Prop where
 vlen:m.vars.length<=1000000
 vars:∀z∈m.vars,ci z.2=true
 flen:m.funcs.length<=1000000
 ulen:m.uses.length<=1000000
 plen:∀f∈m.funcs,f.params.length<=1000000
 pars:∀f∈m.funcs,∀z∈f.params,ci z.2=true
 res:∀f∈m.funcs,ci f.result=true
 slen:∀f∈fs,f.funcs.length<=140737488355328
 splen:∀f∈fs,∀s∈f.funcs,s.params.length<=140737488355328
 spars:∀f∈fs,∀s∈f.funcs,∀t∈s.params,ci t=true
 sres:∀f∈fs,∀s∈f.funcs,ci s.result=true
def zH:Sig:=⟨[],[],ty0,0⟩
def qH(l:List bM)(hl:l.length<=1000000)(x3 x4 x5 x6 x7:AV)(k:Int)(fs:List bM)(e:Int):∀(n i:Nat)(acc:List Ty),l.length-i=n->i<=l.length->acc.length<=i->
  ah (L105_0 (ai pg) ah) [aO l,.int .i64 l.length,.int .i64 i,x3,x4,x5,x6,x7,.str [],gG acc,.int .i64 k,aO fs,.int .i64 e]=M.pure (.tup [(Sig.mk [] (acc++(l.drop i).map (·.2)) (.mk k fs) e).av,.bool true]):=by
 intro n
 induction n with
 |zero=>
  intro i acc hn hi ha;have h1:¬((i:Int)<(l.length:Int)):=by omega
  have h2:l.drop i=[]:=Me (by omega);have h3:aE 5 [] (.agg [.str [],gG acc,.int .i64 k,aO fs,.int .i64 e])=M.pure (.agg [.str [],gG acc,.int .i64 k,aO fs,.int .i64 e]):=bJ rfl;rw[FL105_0,h2];simp[L105_0,h1,h3];rfl
 |succ n ih=>
  intro i acc hn hi ha;have hlt:i<l.length:=by omega
  have h1:(i:Int)<(l.length:Int):=by omega
  have h2:l.drop i=l[i]:: l.drop (i+1):=L9 hlt;have hw:IntKind.i64.wrap ((i:Int)+1)=(i:Int)+1:=bu (by omega);have hix:=oe (l:=l) (n:=(i:Int)) (by omega) h1;rw[LH,LK l i hlt]at hix;have ih2:∀acc:List Ty,acc.length<=i+1->ah (L105_0 (ai pg) ah) [aO l,.int .i64 l.length,.int .i64 ((i:Int)+1),x3,x4,x5,x6,x7,.str [],gG acc,.int .i64 k,aO fs,.int .i64 e]=M.pure (.tup [(Sig.mk [] (acc++(l.drop (i+1)).map (·.2)) (.mk k fs) e).av,.bool true]):=fun acc ha=>ih (i+1) acc (by omega) (by omega) ha;have ih':=ih2 (acc++[l[i].2]) (by simp;omega);have hap:=Ee (a:=acc) (b:=[l[i].2]) (by simp;omega);rw[FL105_0,h2];generalize l[i]=f at hix hap ih' |-;have hsl:aS T 100 1 [(0,f.2.av)]=some (gG [f.2]):=by cases f.2;rfl
  have hc1:∀l:List Ty,cq (gG l)=M.pure (gG l):=fun l=>rfl;simp[L105_0,h1,hix,hsl,hap,hc1,hw,ih']
theorem Kn{h:Hp}{q:Nat}{m:Ap.Mod}{mp:AV}{fs:List Face}{n:Int}(R:JR h q m mp fs n)(K:CxOk m fs)(e:Exp):∃r,ai pg 105 [.hp q 0,e.av] h= .ok r h/\(match dG (d6 m fs) e with
  |none=>r= .tup [zH.av,.bool false]
  |some s=>∃nm,r= .tup [(Sig.mk nm s.1 s.2.1 s.2.2).av,.bool true]):=by
 have bs0:aQ T false 102 []=some zH.av:=rfl;have bs1:∀(k:Int)(x:List bM)(f:Int),aQ T true 102 [(2,(Ty.mk k x).av),(3,.int .i64 f)]=some (.agg [.str [],.hn,.int .i64 k,aO x,.int .i64 f]):=fun k x f=>rfl;have bs2:∀(k:Int)(x:List bM)(f:Int),aE 5 [1] (.agg [.str [],.hn,.int .i64 k,aO x,.int .i64 f])=M.pure (.agg [.str [],.hn,.int .i64 k,aO x,.int .i64 f]):=fun k x f=>rfl;have nc:bB (.hp q 0)=some (.hp q 0):=rfl;rw[C105];by_cases hm:e.m=[]
 ·have hm':(e.m== [])=true:=MF.2 hm;have h1:=Ko (.fn (.func 128) [] [.ip (ab e.av)]) (fun f=>f.name== e.s) m.funcs (by have:=K.flen;omega) (fun g=>by simp[cl,dn]) (fun f _=>Kp f e);simp only[bp]at h1;have l1:∀f:AV->M AV,ae (bj T 38 (.hp q 4)) f h=f (fI m.funcs) h:=fun f=>aW R.funcs f;unfold dG;rw[LC hm];simp only[d6];rcases lq (fun f:Fun=>f.name== e.s) m.funcs 0 with⟨h2,h3⟩|⟨k,f,h2,h3,h4⟩
  ·rw[h3]at h1;rw[h2];refine⟨_,?_,rfl⟩;simp[S105,hm',l1,h1,bs0];rfl
  ·rw[Int.zero_add]at h4;rw[h4]at h1;rw[h2];have hk:=(Mf.1 h3).1;have hix:=vP (l:=m.funcs) (n:=(k:Int)) (by omega) (by omega);rw[LH,NB,h3,Oa]at hix;have hneg:¬((k:Int)<0):=by omega
   have hmem:=MS h3;have hlp:=qH f.params (K.plen f hmem) (.str []) (.sl []) (.int .i64 0) (.sl []) (.int .i64 0) f.result.kind f.result.fields f.effects f.params.length 0 [] rfl (LZ _) (LZ _);have hlp':ah (L105_0 (ai pg) ah) [aO f.params,.int .i64 f.params.length,.int .i64 0,.str [],.sl [],.int .i64 0,.sl [],.int .i64 0,.str [],.sl [],.int .i64 f.result.kind,aO f.result.fields,.int .i64 f.effects]=M.pure (.tup [(Sig.mk [] (f.params.map (·.2)) f.result f.effects).av,.bool true]):=by
    rw[Ty.eta]at hlp;exact hlp
   have bs1':aQ T true 102 [(2,f.result.av),(3,.int .i64 f.effects)]=some (.agg [.str [],.hn,.int .i64 f.result.kind,aO f.result.fields,.int .i64 f.effects]):=by
    rw[<- Ty.eta f.result];rfl
   refine⟨_,?_,[],rfl⟩;simp[S105,hm',l1,h1,hneg,hix,bs1',bs2,hlp'];rfl
 ·have hm':(e.m== [])=false:=LX.2 hm;have l1:∀f:AV->M AV,ae (bj T 107 (.hp q 9)) f h=f mp h:=fun f=>aW R.mp f;have l2:∀f:AV->M AV,ae (eO T 107 mp (.str e.m) true) f h=f (.tup [((fs.find? fun f=>f.module== e.m).getD lO).av,.bool (fs.find? fun f=>f.module== e.m).isSome]) h:=fun f=>aW (m5 R.map e.m) f;have l4:∀(g:AV->M (List AV))(f:List AV->M AV),ae (ae (bj T 35 (.hp q 1)) g) f h=ae (g (strs m.uses)) f h:=fun g f=>by simp only[ae,R.uses]
  have cmf:∀f:Face,aT 2 f.av=M.pure f.av:=fun f=>by rw[ck (na f),jK,rf]
  have hct:=Kr e.m m.uses (by have:=K.ulen;omega);cases hf:fs.find? (fun f=>f.module== e.m)with
  | none=>
   rw[hf]at l2;have hix:=t129 (.fn (.func 130) [] [.ip (ab e.av)]) (fun f=>f.name== e.s) lO.funcs (by simp[lO]) (fun g=>by simp[cl,dn]) (fun f hf=>by cases hf);have hix':ai pg 129 [sigs lO.funcs,.fn (.func 130) [] [.ip [.int .i64 e.op,.int .i64 e.n,.str e.s,.str e.m,strs e.names,cw e.args]]]=M.pure (.int .i64 (-1)):=by
    have:=hix
    simp only[bp]at this;exact this
   have z1:aT 2 lO.av=M.pure (.agg [.str [],.sl []]):=rfl;have ec:dG (d6 m fs) e=none:=by simp[dG,d6,hm,hf]
   rw[ec];refine⟨_,?_,rfl⟩;simp[S105,hm',l1,l2,z1,hix',bs0];rfl
  | some f=>
   rw[hf]at l2;have hfm:=Nr hf;have h1:=t129 (.fn (.func 130) [] [.ip (ab e.av)]) (fun f=>f.name== e.s) f.funcs (by have:=K.slen f hfm;omega) (fun g=>by simp[cl,dn]) (fun f _=>Kq f e);simp only[bp]at h1;rcases lq (fun f:Sig=>f.name== e.s) f.funcs 0 with⟨h2,h3⟩|⟨k,s,h2,h3,h4⟩
   ·rw[h3]at h1;have ec:dG (d6 m fs) e=none:=by simp[dG,d6,hm,hf,h2]
    rw[ec];refine⟨_,?_,rfl⟩;simp[S105,hm',l1,l2,cmf,h1,bs0];rfl
   ·rw[Int.zero_add]at h4;rw[h4]at h1;have hk:=(Mf.1 h3).1;have hix:=CG (l:=f.funcs) (n:=(k:Int)) (by omega) (by omega);rw[LH,NB,h3,Oa]at hix;have hneg:¬((k:Int)<0):=by omega
    by_cases hu:e.m∈m.uses
    case neg=>
     have hu':m.uses.contains e.m=false:=by rw[<- OR,NL];exact hu
     rw[hu']at hct;have ec:dG (d6 m fs) e=none:=by simp[dG,d6,hm,hf,h2,hu]
     rw[ec];refine⟨_,?_,rfl⟩;simp[S105,hm',l1,l2,l4,cmf,h1,hneg,hct,bs0];rfl
    case pos=>
     rw[NL.2 hu]at hct;have ec:dG (d6 m fs) e=some (s.params,s.result,s.effects):=by simp[dG,d6,hm,hf,h2,hu]
     rw[ec];have vL:aE 5 [] s.av=M.pure s.av:=sf s;refine⟨_,?_,s.name,rfl⟩;simp[S105,hm',l1,l2,l4,cmf,h1,hneg,hct,hix,vL];rfl
def I0(q:Nat)(m:Ap.Mod)(mp:AV)(h:Hp):Tr Ty->Av.R AV
 |.ok t n=>.ok (.tup [t.av,.int .i64 0]) (h.set q (be m mp n))
 |.er b n=>.ok (.tup [ty0.av,.int .i64 b]) (h.set q (be m mp n))
def KQ(q:Nat)(m:Ap.Mod)(mp:AV)(h:Hp)(acc:List Ty):Tr (List Ty)->Av.R AV
 |.ok ts n=>.ok (.tup [gG (acc++ts),.int .i64 0]) (h.set q (be m mp n))
 |.er b n=>.ok (.tup [.sl [],.int .i64 b]) (h.set q (be m mp n))
def kX(q:Nat)(m:Ap.Mod)(mp:AV)(fs:List Face)(d:Nat):Prop:=∀(ls:List bM)(e:Exp)(n:Int)(h:Hp),bo d e=true->e.Lim->(∀z∈ls,dZ z.2)->ls.length+d<=1000000->JR h q m mp fs n->
 ai pg 46 [.hp q 0,aO ls,e.av] h=I0 q m mp h (bT (d6 m fs) d ls e n)/\∀t n',bT (d6 m fs) d ls e n= .ok t n'->dZ t
def DZ{q:Nat}{m:Ap.Mod}{mp:AV}{fs:List Face}{d:Nat}(P:kX q m mp fs d)(ls:List bM)(hls:∀z∈ls,dZ z.2)(hll:ls.length+d<=1000000)(es:List Exp)(hes:es.length<=140737488355328)(he:∀e∈es,bo d e=true/\e.Lim):∀(k i:Nat)(acc:List Ty)(n:Int)(h:Hp),es.length-i=k->i<=es.length->acc.length<=i->es.length<=1000000->JR h q m mp fs n->
  ah (L85_0 (ai pg) ah) [.hp q 0,aO ls,gG acc,cw es,.int .i64 es.length,.int .i64 i] h=KQ q m mp h acc (dO (bT (d6 m fs) d ls) (es.drop i) n)/\∀ts n',dO (bT (d6 m fs) d ls) (es.drop i) n= .ok ts n'->ts.length=es.length-i/\∀t∈ts,dZ t:=by
 intro k
 induction k with
 | zero=>
  intro i acc n h hk hi ha hs R;have h1:¬((i:Int)<(es.length:Int)):=by omega
  have h2:es.drop i=[]:=Me (by omega);rw[h2];refine⟨?_,fun ts n' ht=>?_⟩
  ·rw[FL85_0];show _=Av.R.ok (AV.tup [gG (acc++[]),.int .i64 0]) (h.set q (be m mp n));rw[R.same,MW];simp[L85_0,h1];rfl
  ·cases ht;exact⟨by simp;omega,fun t ht=>by cases ht⟩
 | succ k ih=>
  intro i acc n h hk hi ha hs R;have hlt:i<es.length:=by omega
  have h1:(i:Int)<(es.length:Int):=by omega
  have h2:es.drop i=es[i]:: es.drop (i+1):=L9 hlt;have hw:IntKind.i64.wrap ((i:Int)+1)=(i:Int)+1:=bu (by omega);have hix:=kJ (l:=es) (n:=(i:Int)) (by omega) h1;rw[LH,LK es i hlt]at hix;obtain⟨hr,hl⟩:=he es[i] (LM hlt);obtain⟨p1,p2⟩:=P ls es[i] n h hr hl hls hll R;rw[h2];have hne:=gI (d6 m fs) d ls es[i] n;generalize es[i]=e at hix hr hl p1 p2 hne |-;generalize hcode:ah (L85_0 (ai pg) ah) [.hp q 0,aO ls,gG acc,cw es,.int .i64 es.length,.int .i64 i] h=code;rw[FL85_0]at hcode;simp -implicitDefEqProofs only[L85_0,aw,aB,aH,am,h1,MI,ap,Mc,hix,bp,LD57,LQ,Mb,Ma,Nat.reduceAdd,LI,Mt,MJ,ez,sq,ax]at hcode;cases ht:bT (d6 m fs) d ls e n with
  | er b n'=>
   rw[ht]at p1;have hb:(b != 0)=true:=Nb.2 (hne b n' ht);have hz:aT 2 ty0.av=M.pure ty0.av:=Av.iJ ty0;rw[aW p1]at hcode;simp -implicitDefEqProofs only[cn,LV,Mo,am,hz,ax,sd,hb,ap,Mc]at hcode;have e1:dO (bT (d6 m fs) d ls) (e:: es.drop (i+1)) n= .er b n':=by
    simp only[dO,ek.bind,ht]
   rw[e1];exact⟨hcode.symm,fun ts n'' h3=>by cases h3⟩
  | ok t n'=>
   rw[ht]at p1;rw[aW p1]at hcode;have R':=R.set n';obtain⟨i1,i2⟩:=ih (i+1) (acc++[t]) n' (h.set q (be m mp n')) (by omega) (by omega) (by simp;omega) hs R';have hap:=Ee (a:=acc) (b:=[t]) (by simp;omega);have hsl:aS T 100 1 [(0,t.av)]=some (gG [t]):=by cases t;rfl
   have i1':ah (L85_0 (ai pg) ah) [.hp q 0,aO ls,gG (acc++[t]),cw es,.int .i64 es.length,.int .i64 ((i:Int)+1)] (h.set q (be m mp n'))=_:=i1;simp -implicitDefEqProofs only[cn,LV,Mo,am,Av.iJ,ax,sd,Nn,ap,LJ,Md,eG,LD55,LQ,Mb,Ma,Nat.reduceAdd,LI,Mc,Mt,MJ,fA,hsl,hap,bD,hw,i1']at hcode;have e1:dO (bT (d6 m fs) d ls) (e:: es.drop (i+1)) n=(match dO (bT (d6 m fs) d ls) (es.drop (i+1)) n' with|.ok ts n''=>.ok (t:: ts) n''|.er b n''=>.er b n''):=by
    simp only[dO,ek.bind,ht];cases dO (bT (d6 m fs) d ls) (es.drop (i+1)) n'<;>rfl
   rw[e1];cases hL:dO (bT (d6 m fs) d ls) (es.drop (i+1)) n' with
   |er b n''=>
    rw[hL]at hcode;refine⟨?_,fun ts n'' h3=>by cases h3⟩;rw[<- hcode];show Av.R.ok _ _=Av.R.ok _ _;rw[Ll]
   | ok ts n''=>
    rw[hL]at hcode;obtain⟨j1,j2⟩:=i2 ts n'' hL;refine⟨?_,fun us n3 h3=>?_⟩
    ·rw[<- hcode];show Av.R.ok _ _=Av.R.ok _ _;rw[Ll,Mz];rfl
    ·cases h3;refine⟨by simp only[LQ];omega,fun u hu=>?_⟩;rcases LU.1 hu with rfl|hu
     ·exact p2 _ _ ht
     ·exact j2 u hu
def KN{q:Nat}{m:Ap.Mod}{mp:AV}{fs:List Face}{d:Nat}(P:kX q m mp fs d)(ls:List bM)(hls:∀z∈ls,dZ z.2)(hll:ls.length+d<=1000000)(es:List Exp)(hes:es.length<=1000000)(he:∀e∈es,bo d e=true/\e.Lim)(n:Int)(h:Hp)(R:JR h q m mp fs n):
  ai pg 85 [.hp q 0,aO ls,cw es] h=KQ q m mp h [] (dO (bT (d6 m fs) d ls) es n)/\∀ts n',dO (bT (d6 m fs) d ls) es n= .ok ts n'->ts.length=es.length/\∀t∈ts,dZ t:=by
 obtain⟨h1,h2⟩:=DZ P ls hls hll es (by omega) he es.length 0 [] n h rfl (LZ _) (LZ _) hes R;rw[Mx]at h1 h2;refine⟨?_,fun ts n' ht=>h2 ts n' ht⟩;rw[<- h1,C85];simp only[S85,rY,am];rfl
theorem qw:aQ T false 55 []=some ty0.av:=rfl
def jb{u t:Ty}(hu:dZ u)(ht:ci t=true):ai pg 47 [u.av,t.av]=M.pure (.bool (cB u t)):=t47 4 t u (hu 4) (fc ht 4) ht
def Li{q:Nat}{m:Ap.Mod}{mp:AV}{fs:List Face}{d:Nat}(P:kX q m mp fs d)(K:CxOk m fs)(ls:List bM)(hls:∀z∈ls,dZ z.2)(hll:ls.length+d<=1000000)(e:Exp)(hop:e.op=17\/e.op=18)(ha:e.op=18->∃x,e.args=[x]/\bo d x=true/\x.Lim)(n:Int)(h:Hp)(R:JR h q m mp fs n):
  ai pg 83 [.hp q 0,aO ls,e.av] h=I0 q m mp h (dv (d6 m fs) (bT (d6 m fs) d) ls e n)/\∀t n',dv (d6 m fs) (bT (d6 m fs) d) ls e n= .ok t n'->dZ t:=by
 have l1:∀f:AV->M AV,ae (bj T 36 (.hp q 2)) f h=f (aO m.vars) h:=fun f=>aW R.vars f;have hk:=t81 m.vars (by have:=K.vlen;omega) e.s;rw[lC hop,C83];show S83 (ai pg) ah (.hp q 0) (aO ls) e.av h=I0 q m mp h ((match cf (fun z=>z.1== e.s) m.vars with
  |none=>ek.er 12
  |some z=>if e.op=18 then ek.bind (bT (d6 m fs) d ls e.args[0]!) fun u=>if cB u z.2=true then ek.ok z.2 else ek.er 13 else ek.ok z.2:ek Ty) n)/\∀t n',(match cf (fun z=>z.1== e.s) m.vars with
  |none=>ek.er 12
  |some z=>if e.op=18 then ek.bind (bT (d6 m fs) d ls e.args[0]!) fun u=>if cB u z.2=true then ek.ok z.2 else ek.er 13 else ek.ok z.2:ek Ty) n= .ok t n'->dZ t
 cases hz:cf (fun z:bM=>z.1== e.s) m.vars with
 |none=>
  rw[hz]at hk;refine⟨?_,fun t n' h3=>by cases h3⟩;show _=Av.R.ok (AV.tup [ty0.av,.int .i64 12]) (h.set q (be m mp n));rw[R.same];simp[S83,l1,hk,qw];rfl
 | some z=>
  rw[hz]at hk;dsimp only;have hzr:=K.vars z (gT hz).1;rcases hop with hop|hop
  ·rw[if_neg (show ¬e.op=18 by omega)];refine⟨?_,fun t n' h3=>by cases h3;exact fc hzr⟩;show _=Av.R.ok (AV.tup [z.2.av,.int .i64 0]) (h.set q (be m mp n));rw[R.same];simp[S83,K83_0,l1,hk,hop];rfl
  ·rw[LC hop];obtain⟨x,hx,hr,hl⟩:=ha hop;have hx0:e.args[0]! = x:=by rw[hx];rfl
   obtain⟨p1,p2⟩:=P ls x n h hr hl hls hll R;have hix:ak T 37 (cw e.args) (.int .i64 0)=some (.ip (ab x.av)):=by
    have:=kJ (l:=e.args) (n:=0) (by omega) (by rw[hx];simp)
    rw[this,hx];rfl
   rw[hx0];have hne:=gI (d6 m fs) d ls x n;cases ht:bT (d6 m fs) d ls x n with
   |er b n'=>
    rw[ht]at p1;have hb:(b != 0)=true:=Nb.2 (hne b n' ht);have k1:∀f:AV->M AV,ae (ai pg 46 [.hp q 0,aO ls,x.av]) f h=f (.tup [ty0.av,.int .i64 b]) (h.set q (be m mp n')):=fun f=>aW p1 f;have e1:ek.bind (bT (d6 m fs) d ls x) (fun u=>if cB u z.2=true then ek.ok z.2 else ek.er 13) n= .er b n':=by simp only[ek.bind,ht]
    rw[e1];refine⟨?_,fun t n' h3=>by cases h3⟩;show _=Av.R.ok (AV.tup [ty0.av,.int .i64 b]) (h.set q (be m mp n'));simp[S83,K83_0,l1,hk,hop,hix,k1,hb,qw];rfl
   | ok u n'=>
    rw[ht]at p1;have hus:=p2 u n' ht;have k1:∀f:AV->M AV,ae (ai pg 46 [.hp q 0,aO ls,x.av]) f h=f (.tup [u.av,.int .i64 0]) (h.set q (be m mp n')):=fun f=>aW p1 f;have hbl:=jb hus hzr;cases hb:cB u z.2 with
    |true=>
     rw[hb]at hbl;have e1:ek.bind (bT (d6 m fs) d ls x) (fun u=>if cB u z.2=true then ek.ok z.2 else ek.er 13) n= .ok z.2 n':=by simp only[ek.bind,ht,hb,Mc];rfl
     rw[e1];refine⟨?_,fun t n' h3=>by cases h3;exact fc hzr⟩;show _=Av.R.ok (AV.tup [z.2.av,.int .i64 0]) (h.set q (be m mp n'));simp[S83,K83_0,l1,hk,hop,hix,k1,hbl];rfl
    |false=>
     rw[hb]at hbl;have e1:ek.bind (bT (d6 m fs) d ls x) (fun u=>if cB u z.2=true then ek.ok z.2 else ek.er 13) n= .er 13 n':=by simp only[ek.bind,ht,hb,LJ,Md];rfl
     rw[e1];refine⟨?_,fun t n' h3=>by cases h3⟩;show _=Av.R.ok (AV.tup [ty0.av,.int .i64 13]) (h.set q (be m mp n'));simp[S83,K83_0,l1,hk,hop,hix,k1,hbl,qw];rfl
theorem DY{q:Nat}{m:Ap.Mod}{mp:AV}{fs:List Face}{n:Int}{h:Hp}(R:JR h q m mp fs n)(s:Sig)(l:List Ty)(hl:∀t∈l,dZ t)(hps:∀t∈s.params,ci t=true)(hlen:l.length=s.params.length)(hb:l.length<=1000000)(x y:AV):∀(k i:Nat),l.length-i=k->i<=l.length->
  ah (L84_0 (ai pg) ah) [.hp q 0,.ip (ab s.av),gG l,.int .i64 l.length,.int .i64 i,x,y] h=(if oG cB (l.drop i) (s.params.drop i)=true then .ok (.tup [s.result.av,.int .i64 0]) (h.set q (be m mp (qt n s.effects)))else .ok (.tup [ty0.av,.int .i64 13]) h):=by
 intro k
 induction k with
 |zero=>
  intro i hk hi;have h1:¬((i:Int)<(l.length:Int)):=by omega
  have h2:l.drop i=[]:=Me (by omega);have h3:s.params.drop i=[]:=Me (by omega);rw[h2,h3,LC (show oG cB [] []=true from rfl)];have l1:∀f:AV->M AV,ae (bj T 3 (.hp q 10)) f h=f (.int .i64 n) h:=fun f=>aW R.eff f;have l2:∀f:AV->M AV,ae (bI T 3 (.hp q 10) (.int .i64 (qt n s.effects))) f h=f (.tup []) (h.set q (be m mp (qt n s.effects))):=fun f=>aW (R.put _) f;have hor:ao T .or 3 (.int .i64 n) (.int .i64 s.effects)=some (.int .i64 (qt n s.effects)):=rfl;rw[FL84_0];simp[L84_0,h1,l1,hor,l2];rfl
 | succ k ih=>
  intro i hk hi;have hlt:i<l.length:=by omega
  have hlt2:i<s.params.length:=by omega
  have h1:(i:Int)<(l.length:Int):=by omega
  have h2:l.drop i=l[i]:: l.drop (i+1):=L9 hlt;have h3:s.params.drop i=s.params[i]:: s.params.drop (i+1):=L9 hlt2;have hw:IntKind.i64.wrap ((i:Int)+1)=(i:Int)+1:=bu (by omega);have hix:=lH (l:=l) (n:=(i:Int)) (by omega) h1;rw[LH,LK l i hlt]at hix;have hix2:=lH (l:=s.params) (n:=(i:Int)) (by omega) (by omega);rw[LH,LK s.params i hlt2]at hix2;have hbl:=jb (hl _ (LM hlt)) (hps _ (LM hlt2));have ih':ah (L84_0 (ai pg) ah) [.hp q 0,.ip (ab s.av),gG l,.int .i64 l.length,.int .i64 ((i:Int)+1),x,y] h=_:=ih (i+1) (by omega) (by omega);rw[h2,h3];generalize l[i]=u at hix hbl |-;generalize s.params[i]=t at hix2 hbl |-;have ea:oG cB (u:: l.drop (i+1)) (t:: s.params.drop (i+1))=(cB u t&&oG cB (l.drop (i+1)) (s.params.drop (i+1))):=rfl;rw[ea];generalize hcode:ah (L84_0 (ai pg) ah) [.hp q 0,.ip (ab s.av),gG l,.int .i64 l.length,.int .i64 i,x,y] h=code;rw[FL84_0]at hcode;cases hb2:cB u t with
  |true=>
   rw[hb2]at hbl;rw[MV,<- ih'];simp -implicitDefEqProofs only[L84_0,aw,aB,aH,am,h1,MI,ap,Mc,hix,eG,LD55,LQ,Mb,Ma,Nat.reduceAdd,LI,Mt,MJ,fA,Av.iJ,ax,gY,FA102_1,MX,Mx,LD100,hix2,hbl,dU,gO,ME,LJ,Md,bD,hw]at hcode;rw[<- hcode,gY]
  |false=>
   rw[hb2]at hbl;rw[Nt,if_neg (by decide)];have hz:aE 2 [] ty0.av=M.pure ty0.av:=tI ty0;have ha:ab ty0.av=[.int .i64 0,.sl []]:=rfl;simp -implicitDefEqProofs only[L84_0,aw,aB,aH,am,h1,MI,ap,Mc,hix,eG,LD55,LQ,Mb,Ma,Nat.reduceAdd,LI,Mt,MJ,fA,Av.iJ,ax,gY,FA102_1,MX,Mx,LD100,hix2,hbl,dU,gO,M0,qw,hz]at hcode;rw[<- hcode];rfl
def Lj{q:Nat}{m:Ap.Mod}{mp:AV}{fs:List Face}{d:Nat}(P:kX q m mp fs d)(K:CxOk m fs)(ls:List bM)(hls:∀z∈ls,dZ z.2)(hll:ls.length+d<=1000000)(e:Exp)(hop:e.op=15)(hlen:e.args.length<=1000000)(ha:∀x∈e.args,bo d x=true/\x.Lim)(n:Int)(h:Hp)(R:JR h q m mp fs n):
  ai pg 84 [.hp q 0,aO ls,e.av] h=I0 q m mp h (dv (d6 m fs) (bT (d6 m fs) d) ls e n)/\∀t n',dv (d6 m fs) (bT (d6 m fs) d) ls e n= .ok t n'->dZ t:=by
 obtain⟨r,c1,c2⟩:=Kn R K e;have k1:∀f:AV->M AV,ae (ai pg 105 [.hp q 0,e.av]) f h=f r h:=fun f=>aW c1 f;rw[nZ hop,C84]
 have hpar:∀s,dG (d6 m fs) e=some s->(∀t∈s.1,ci t=true)/\ci s.2.1=true:=by
  intro s hs;unfold dG at hs;split at hs
  ·split at hs
   ·rename_i f hf;cases hs;have hm:=Nr hf;exact⟨fun t ht=>by obtain⟨z,hz,rfl⟩:=Mu.1 ht;exact K.pars f hm z hz,K.res f hm⟩
   ·cases hs
  ·split at hs
   ·cases hs
   ·rename_i f hf;split at hs
    ·cases hs
    ·rename_i s' hs';split at hs
     ·cases hs;have hm:=Nr (show fs.find? _=some f from hf);have hm2:=Nr hs';exact⟨K.spars f hm s' hm2,K.sres f hm s' hm2⟩
     ·cases hs
 cases hc:dG (d6 m fs) e with
 |none=>
  rw[hc]at c2;subst c2;refine⟨?_,fun t n' h3=>by cases h3⟩;show _=Av.R.ok (AV.tup [ty0.av,.int .i64 12]) (h.set q (be m mp n));rw[R.same];have k2:∀f:AV->M AV,ae (ai pg 105 [.hp q 0,e.av]) f h=f (.tup [zH.av,.bool false]) h:=k1;have z1:aT 5 zH.av=M.pure zH.av:=oN zH;simp[S84,k2,z1,qw];rfl
 | some s=>
  rw[hc]at c2;obtain⟨nm,rfl⟩:=c2;obtain⟨hp1,hp2⟩:=hpar s hc;obtain⟨ps,res,eff⟩:=s;have z1:aT 5 (Sig.mk nm ps res eff).av=M.pure (Sig.mk nm ps res eff).av:=oN _;dsimp only;by_cases hl:ps.length=e.args.length
  ·rw[LC hl];have hl':((ps.length:Int) != (e.args.length:Int))=false:=by simp[hl]
   obtain⟨g1,g2⟩:=KN P ls hls hll e.args hlen ha n h R;cases ht:dO (bT (d6 m fs) d ls) e.args n with
   |er b n'=>
    rw[ht]at g1;have hb:(b != 0)=true:=Nb.2 (ma (gI (d6 m fs) d ls) _ n b n' ht);have k2:∀f:AV->M AV,ae (ai pg 85 [.hp q 0,aO ls,cw e.args]) f h=f (.tup [.sl [],.int .i64 b]) (h.set q (be m mp n')):=fun f=>aW g1 f;have e1:ek.bind (dO (bT (d6 m fs) d ls) e.args) (fun l=>if oG cB l ps=true then fun n=>Tr.ok res (qt n eff)else ek.er 13) n= .er b n':=by simp only[ek.bind,ht]
    rw[e1];refine⟨?_,fun t n' h3=>by cases h3⟩;show _=Av.R.ok (AV.tup [ty0.av,.int .i64 b]) (h.set q (be m mp n'));simp[S84,k1,z1,hl,k2,hb,qw];rfl
   | ok l n'=>
    rw[ht]at g1;obtain⟨g3,g4⟩:=g2 l n' ht;have k2:∀f:AV->M AV,ae (ai pg 85 [.hp q 0,aO ls,cw e.args]) f h=f (.tup [gG l,.int .i64 0]) (h.set q (be m mp n')):=fun f=>aW g1 f;have hlp:=DY (R.set n') (Sig.mk nm ps res eff) l g4 hp1 (by rw[g3];exact hl.symm) (by omega) (.int .i64 0) (.sl []) l.length 0 rfl (LZ _);have hlp':ah (L84_0 (ai pg) ah) [.hp q 0,.ip [.str nm,gG ps,.int .i64 res.kind,aO res.fields,.int .i64 eff],gG l,.int .i64 l.length,.int .i64 0,.int .i64 0,.sl []] (h.set q (be m mp n'))=(if oG cB l ps=true then .ok (.tup [res.av,.int .i64 0]) ((h.set q (be m mp n')).set q (be m mp (qt n' eff)))else .ok (.tup [ty0.av,.int .i64 13]) (h.set q (be m mp n'))):=hlp;have e1:ek.bind (dO (bT (d6 m fs) d ls) e.args) (fun l=>if oG cB l ps=true then fun n=>Tr.ok res (qt n eff)else ek.er 13) n=if oG cB l ps=true then .ok res (qt n' eff)else .er 13 n':=by
     simp only[ek.bind,ht];split<;>rfl
    rw[e1];constructor
    ·simp[S84,k1,z1,hl,k2];rw[hlp',Ll];split<;>rfl
    ·intro t n'' h3;split at h3
     ·cases h3;exact fc hp2
     ·cases h3
  ·rw[if_neg hl];refine⟨?_,fun t n' h3=>by cases h3⟩;show _=Av.R.ok (AV.tup [ty0.av,.int .i64 13]) (h.set q (be m mp n));rw[R.same];simp[S84,k1,z1,hl,qw];rfl
def Ak{e:Exp}(h:di e=true):(e.op=11->e.args.length=3)/\(e.op=12->e.args.length=2)/\(e.op=14->e.args.length=1)/\(e.op=18->e.args.length=1)/\(e.op=13->e.names.length=e.args.length)/\e.args.length<=1000000:=by
 unfold di at h;simp only[LD]at h;obtain⟨⟨⟨⟨⟨⟨⟨h1,h2⟩,h3⟩,h4⟩,h5⟩,h6⟩,h7⟩,h8⟩:=h;simp only[LB]at h1 h2;have ho:e.op=0\/e.op=1\/e.op=2\/e.op=3\/e.op=4\/e.op=5\/e.op=6\/e.op=7\/e.op=8\/e.op=9\/e.op=10\/e.op=11\/e.op=12\/e.op=13\/e.op=14\/e.op=15\/e.op=16\/e.op=17\/e.op=18:=by omega
 by_cases o15:e.op=15
 ·have:e.args.length<=6:=by
   simp[dI,o15]at h8;exact h8.2
  exact⟨fun h=>by omega,fun h=>by omega,fun h=>by omega,fun h=>by omega,fun h=>by omega,by omega⟩
 ·by_cases o13:e.op=13
  ·have hn:e.names.length<=8:=by
    simp[dI,o13,d9]at h8;exact h8.2
   have he:e.names.length=e.args.length:=by
    simp[eY,o13]at h3;omega
   exact⟨fun h=>by omega,fun h=>by omega,fun h=>by omega,fun h=>by omega,fun _=>he,by omega⟩
  ·have key:e.args.length<=3/\(e.op=11->e.args.length=3)/\(e.op=12->e.args.length=2)/\(e.op=14->e.args.length=1)/\(e.op=18->e.args.length=1):=by
    rcases ho with o|o|o|o|o|o|o|o|o|o|o|o|o|o|o|o|o|o|o<;>simp[eY,o]at h3 o13 o15 |- <;> omega
   exact⟨key.2.1,key.2.2.1,key.2.2.2.1,key.2.2.2.2,fun h=>absurd h o13,by omega⟩
def Cd{ns:List aU}{l:List Ty}(h:∀t∈l,dZ t)(hl:l.length<=1000000):dZ (.mk 2 (ns.zip l)):=s8 (by rw[NC];omega) fun f hf=>h f.2 (List.of_mem_zip (show (f.1,f.2)∈ns.zip l from hf)).2
theorem rN(b:List bM):(fs:List bM)->(∀f∈fs,∀t u:Ty,vO f.2 t=some u->dZ u)->∀f∈lD fs b,dZ f.2
 |[],_,f,hf=>by simp[lD]at hf
 | g :: fs,h,f,hf=>by
  rw[np,L3]at hf;rcases hf with hf|hf
  ·rw[Co]at hf;cases hz:cf (fun z:bM=>z.1== g.1) b with
   |none=>rw[hz]at hf;cases hf
   | some z=>
    rw[hz]at hf;dsimp only at hf;cases hu:vO g.2 z.2 with
    |none=>rw[hu]at hf;cases hf
    |some u=>
     rw[hu]at hf;simp only[L5]at hf;subst hf;exact h g M6 z.2 u hu
  ·exact rN b fs (fun f hf=>h f (M8 _ hf)) f hf
def yw(a b u:Ty)(ha:dZ a)(h:vO a b=some u):dZ u:=by
 have e1:vO a b=if a.kind=b.kind then some (.mk a.kind (lD a.fields b.fields))else none:=by
  cases a;cases b;simp only[vO,Ty.kind,Ty.fields];rfl
 rw[e1]at h;split at h
 ·cases h;refine s8 (Nx (vD _ _) ha.len) (rN _ _ fun f hf t u hu=>?_)
  have:=xO hf
  exact yw f.2 t u (ha.kid hf) hu
 ·cases h
termination_by SizeOf.sizeOf a
def gV(k:Int):dZ (.mk k []):=s8 (by simp) (by simp)
def xi{e:Exp}{l:List Ty}(hl:∀t∈l,dZ t)(hlen:l.length<=1000000)(h11:e.op=11->l.length=3)(h14:e.op=14->l.length=1){t:Ty}(h:cK e l=some t):dZ t:=by
 unfold cK at h;split at h
 ·split at h<;>cases h;exact gV _
 ·split at h
  ·cases h;exact gV _
  ·split at h
   ·split at h<;>cases h;exact gV _
   ·split at h
    ·split at h<;>cases h;exact gV _
    ·split at h
     ·split at h<;>cases h;exact gV _
     ·split at h
      ·rename_i o;split at h
       ·rename_i u hu;split at h<;>cases h;refine yw _ _ _ ?_ hu
        have:=h11 o
        rw[LK l 1 (by omega)];exact hl _ (LM _)
       ·cases h
      ·split at h
       ·cases h;exact Cd hl hlen
       ·split at h
        ·rename_i o;split at h
         ·rename_i z hz;cases h
          have:=h14 o
          have h0:dZ l[0]!:=by rw[LK l 0 (by omega)];exact hl _ (LM _)
          exact h0.kid (gT hz).1
         ·cases h
        ·cases h;exact gV _
def Lh(l:List bM)(h:l.length<=1000000):ai pg 82 [aO l]=M.pure (aO l):=by
 have e0:ai pg 82 [aO l]=eQ T 36 (ai pg) [aO l]:=dx aI rfl _;have e1:=FT (a:=[]) (b:=l) (by simp;omega);rw[e0];show af (dm T 36 (.sl []) (aO l))=_;have e2:dm T 36 (.sl []) (aO l)=some (aO l):=e1;rw[e2];rfl
theorem zb{q:Nat}{m:Ap.Mod}{mp:AV}{fs:List Face}(K:CxOk m fs){d:Nat}(P:kX q m mp fs d):kX q m mp fs (d+1):=by
 intro ls e n h hr he hls hll R;rw[cQ,LD,LO]at hr;obtain⟨hsh,har⟩:=hr;obtain⟨a11,a12,a14,a18,a13,alen⟩:=Ak hsh;have ha:∀x∈e.args,bo d x=true/\x.Lim:=fun x hx=>⟨har x hx,he.kid hx⟩;have hll':ls.length+d<=1000000:=by omega
 show ai pg 46 [.hp q 0,aO ls,e.av] h=I0 q m mp h (dv (d6 m fs) (bT (d6 m fs) d) ls e n)/\∀t n',dv (d6 m fs) (bT (d6 m fs) d) ls e n= .ok t n'->dZ t;by_cases o2:e.op=2
 ·have hk:=t81 ls (by omega) e.s;rw[qi o2,C46];cases hz:cf (fun z:bM=>z.1== e.s) ls with
  |none=>
   rw[hz]at hk;refine⟨?_,fun t n' h3=>by cases h3⟩;show _=Av.R.ok (AV.tup [ty0.av,.int .i64 12]) (h.set q (be m mp n));rw[R.same];simp[S46,o2,hk,qw];rfl
  |some z=>
   rw[hz]at hk;refine⟨?_,fun t n' h3=>by cases h3;exact hls z (gT hz).1⟩;show _=Av.R.ok (AV.tup [z.2.av,.int .i64 0]) (h.set q (be m mp n));rw[R.same];simp[S46,o2,hk];rfl
 ·by_cases o12:e.op=12
  ·obtain⟨x,y,hxy⟩:∃x y,e.args=[x,y]:=by
    have:=a12 o12
    match e.args,this with
    |[x,y],_=>exact⟨x,y,rfl⟩
   have hx0:e.args[0]! = x:=by rw[hxy];rfl
   have hx1:e.args[1]! = y:=by rw[hxy];rfl
   have i0:ak T 37 (cw e.args) (.int .i64 0)=some (.ip (ab x.av)):=by
    have:=kJ (l:=e.args) (n:=0) (by omega) (by rw[hxy];simp)
    rw[this,hxy];rfl
   have i1:ak T 37 (cw e.args) (.int .i64 1)=some (.ip (ab y.av)):=by
    have:=kJ (l:=e.args) (n:=1) (by omega) (by rw[hxy];simp)
    rw[this,hxy];rfl
   obtain⟨xr,xl⟩:=ha x (by rw[hxy];simp);obtain⟨yr,yl⟩:=ha y (by rw[hxy];simp);obtain⟨p1,p2⟩:=P ls x n h xr xl hls hll' R;rw[qh o12,hx0,hx1,C46];have hne:=gI (d6 m fs) d ls x n;cases ht:bT (d6 m fs) d ls x n with
   |er b n'=>
    rw[ht]at p1;have hb:(b != 0)=true:=Nb.2 (hne b n' ht);have k1:∀f:AV->M AV,ae (ai pg 46 [.hp q 0,aO ls,x.av]) f h=f (.tup [ty0.av,.int .i64 b]) (h.set q (be m mp n')):=fun f=>aW p1 f;have e1:ek.bind (bT (d6 m fs) d ls x) (fun t=>bT (d6 m fs) d (ls++[(e.s,t)]) y) n= .er b n':=by simp only[ek.bind,ht]
    rw[e1];refine⟨?_,fun t n' h3=>by cases h3⟩;show _=Av.R.ok (AV.tup [ty0.av,.int .i64 b]) (h.set q (be m mp n'));simp[S46,o12,i0,k1,hb,qw];rfl
   | ok u n'=>
    rw[ht]at p1;have hus:=p2 u n' ht;have k1:∀f:AV->M AV,ae (ai pg 46 [.hp q 0,aO ls,x.av]) f h=f (.tup [u.av,.int .i64 0]) (h.set q (be m mp n')):=fun f=>aW p1 f;obtain⟨p3,p4⟩:=P (ls++[(e.s,u)]) y n' (h.set q (be m mp n')) yr yl (fun z hz=>by
     rcases L3.1 hz with hz|hz
     ·exact hls z hz
     ·rw[L5]at hz;subst hz;exact hus) (by rw[L4];simp;omega) (R.set n')
    have e1:ek.bind (bT (d6 m fs) d ls x) (fun t=>bT (d6 m fs) d (ls++[(e.s,t)]) y) n=bT (d6 m fs) d (ls++[(e.s,u)]) y n':=by simp only[ek.bind,ht]
    rw[e1];refine⟨?_,fun t n'' h3=>p4 t n'' h3⟩;have hap:=FT (a:=ls) (b:=[(e.s,u)]) (by simp;omega);have hcl:=Lh ls (by omega);cases ht2:bT (d6 m fs) d (ls++[(e.s,u)]) y n' with
    |er b n''=>
     rw[ht2]at p3;have k2:∀f:AV->M AV,ae (ai pg 46 [.hp q 0,aO (ls++[(e.s,u)]),y.av]) f (h.set q (be m mp n'))=f (.tup [ty0.av,.int .i64 b]) ((h.set q (be m mp n')).set q (be m mp n'')):=fun f=>aW p3 f;show _=Av.R.ok (AV.tup [ty0.av,.int .i64 b]) (h.set q (be m mp n''));simp[S46,o12,i0,i1,k1,sF,Jl,hcl,hap,k2];rfl
    |ok t n''=>
     rw[ht2]at p3;have k2:∀f:AV->M AV,ae (ai pg 46 [.hp q 0,aO (ls++[(e.s,u)]),y.av]) f (h.set q (be m mp n'))=f (.tup [t.av,.int .i64 0]) ((h.set q (be m mp n')).set q (be m mp n'')):=fun f=>aW p3 f;show _=Av.R.ok (AV.tup [t.av,.int .i64 0]) (h.set q (be m mp n''));simp[S46,o12,i0,i1,k1,sF,Jl,hcl,hap,k2];rfl
  ·have b2:(e.op== 2)=false:=LX.2 o2;have b12:(e.op== 12)=false:=LX.2 o12;by_cases o17:e.op=17\/e.op=18
   ·obtain⟨v1,v2⟩:=Li P K ls hls hll' e o17 (fun o=>by
     have:=a18 o
     match hx:e.args,this with
     |[x],_=>exact⟨x,rfl,ha x (by rw[hx];simp)⟩) n h R
    refine⟨?_,v2⟩;rw[<- v1,C46];generalize hcode:ai pg 83 [.hp q 0,aO ls,e.av] h=code at v1;cases hs:dv (d6 m fs) (bT (d6 m fs) d) ls e n with
    | er b n'=>
     rw[hs]at v1;rw[v1]at hcode;have k1:∀f:AV->M AV,ae (ai pg 83 [.hp q 0,aO ls,e.av]) f h=f (.tup [ty0.av,.int .i64 b]) (h.set q (be m mp n')):=fun f=>aW hcode f;rw[v1];show _=Av.R.ok (AV.tup [ty0.av,.int .i64 b]) (h.set q (be m mp n'));rcases o17 with o|o
     ·have c17:(e.op== 17)=true:=MF.2 o;simp[S46,K46_1,b2,b12,c17,k1];rfl
     ·have c17:(e.op== 17)=false:=LX.2 (by omega);have c18:(e.op== 18)=true:=MF.2 o;simp[S46,K46_1,b2,b12,c17,c18,k1];rfl
    | ok t n'=>
     rw[hs]at v1;rw[v1]at hcode;have k1:∀f:AV->M AV,ae (ai pg 83 [.hp q 0,aO ls,e.av]) f h=f (.tup [t.av,.int .i64 0]) (h.set q (be m mp n')):=fun f=>aW hcode f;rw[v1];show _=Av.R.ok (AV.tup [t.av,.int .i64 0]) (h.set q (be m mp n'));rcases o17 with o|o
     ·have c17:(e.op== 17)=true:=MF.2 o;simp[S46,K46_1,b2,b12,c17,k1];rfl
     ·have c17:(e.op== 17)=false:=LX.2 (by omega);have c18:(e.op== 18)=true:=MF.2 o;simp[S46,K46_1,b2,b12,c17,c18,k1];rfl
   ·have b17:(e.op== 17)=false:=LX.2 (by omega);have b18:(e.op== 18)=false:=LX.2 (by omega);by_cases o15:e.op=15
    ·obtain⟨v1,v2⟩:=Lj P K ls hls hll' e o15 alen ha n h R;refine⟨?_,v2⟩;have b15:(e.op== 15)=true:=MF.2 o15;rw[C46];cases hs:dv (d6 m fs) (bT (d6 m fs) d) ls e n with
     |er b n'=>
      rw[hs]at v1;have k1:∀f:AV->M AV,ae (ai pg 84 [.hp q 0,aO ls,e.av]) f h=f (.tup [ty0.av,.int .i64 b]) (h.set q (be m mp n')):=fun f=>aW v1 f;show _=Av.R.ok (AV.tup [ty0.av,.int .i64 b]) (h.set q (be m mp n'));simp[S46,K46_1,b2,b12,b17,b18,b15,k1];rfl
     |ok t n'=>
      rw[hs]at v1;have k1:∀f:AV->M AV,ae (ai pg 84 [.hp q 0,aO ls,e.av]) f h=f (.tup [t.av,.int .i64 0]) (h.set q (be m mp n')):=fun f=>aW v1 f;show _=Av.R.ok (AV.tup [t.av,.int .i64 0]) (h.set q (be m mp n'));simp[S46,K46_1,b2,b12,b17,b18,b15,k1];rfl
    ·have b15:(e.op== 15)=false:=LX.2 o15;obtain⟨g1,g2⟩:=KN P ls hls hll' e.args alen ha n h R;rw[oc o2 o12 o17 o15,C46];cases ht:dO (bT (d6 m fs) d ls) e.args n with
     |er b n'=>
      rw[ht]at g1;have hb:(b != 0)=true:=Nb.2 (ma (gI (d6 m fs) d ls) _ n b n' ht);have k1:∀f:AV->M AV,ae (ai pg 85 [.hp q 0,aO ls,cw e.args]) f h=f (.tup [.sl [],.int .i64 b]) (h.set q (be m mp n')):=fun f=>aW g1 f;have e1:ek.bind (dO (bT (d6 m fs) d ls) e.args) (nV e) n= .er b n':=by simp only[ek.bind,ht]
      rw[e1];refine⟨?_,fun t n' h3=>by cases h3⟩;show _=Av.R.ok (AV.tup [ty0.av,.int .i64 b]) (h.set q (be m mp n'));simp[S46,K46_1,b2,b12,b17,b18,b15,k1,hb,qw];rfl
     | ok l n'=>
      rw[ht]at g1;obtain⟨g3,g4⟩:=g2 l n' ht;have k1:∀f:AV->M AV,ae (ai pg 85 [.hp q 0,aO ls,cw e.args]) f h=f (.tup [gG l,.int .i64 0]) (h.set q (be m mp n')):=fun f=>aW g1 f;have hp:=t86 e l g4 (by omega) (fun o=>by rw[g3];exact a11 o) (fun o=>by rw[g3];exact a14 o) (fun o=>by rw[g3];exact a13 o);have R':=R.set n';have hor:ao T .or 3 (.int .i64 n') (.int .i64 e.n)=some (.int .i64 (qt n' e.n)):=rfl;have l1:∀f:AV->M AV,ae (bj T 3 (.hp q 10)) f (h.set q (be m mp n'))=f (.int .i64 n') (h.set q (be m mp n')):=fun f=>aW R'.eff f;have l2:∀f:AV->M AV,ae (bI T 3 (.hp q 10) (.int .i64 (qt n' e.n))) f (h.set q (be m mp n'))=f (.tup []) (h.set q (be m mp (qt n' e.n))):=fun f=>by
       rw[aW (R'.put (qt n' e.n)) f,Ll]
      have e1:ek.bind (dO (bT (d6 m fs) d ls) e.args) (nV e) n=nV e l n':=by simp only[ek.bind,ht]
      rw[e1];have hsl:=fun t=>xi (e:=e) (l:=l) g4 (by omega) (fun o=>by rw[g3];exact a11 o) (fun o=>by rw[g3];exact a14 o) (t:=t);by_cases o16:e.op=16
      ·have b16:(e.op== 16)=true:=MF.2 o16;cases hpl:cK e l with
       |none=>
        rw[hpl]at hp;rw[p8 hpl,LC o16];refine⟨?_,fun t n' h3=>by cases h3⟩;show _=Av.R.ok (AV.tup [ty0.av,.int .i64 13]) (h.set q (be m mp (qt n' e.n)));simp[S46,K46_1,K46_0,b2,b12,b17,b18,b15,b16,k1,l1,hor,l2,hp];rfl
       |some t=>
        rw[hpl]at hp;rw[p9 hpl,LC o16];refine⟨?_,fun t' n' h3=>by cases h3;exact hsl t hpl⟩;show _=Av.R.ok (AV.tup [t.av,.int .i64 0]) (h.set q (be m mp (qt n' e.n)));simp[S46,K46_1,K46_0,b2,b12,b17,b18,b15,b16,k1,l1,hor,l2,hp];rfl
      ·have b16:(e.op== 16)=false:=LX.2 o16;cases hpl:cK e l with
       |none=>
        rw[hpl]at hp;rw[p8 hpl,if_neg o16];refine⟨?_,fun t n' h3=>by cases h3⟩;show _=Av.R.ok (AV.tup [ty0.av,.int .i64 13]) (h.set q (be m mp n'));simp[S46,K46_1,K46_0,b2,b12,b17,b18,b15,b16,k1,hp];rfl
       |some t=>
        rw[hpl]at hp;rw[p9 hpl,if_neg o16];refine⟨?_,fun t' n' h3=>by cases h3;exact hsl t hpl⟩;show _=Av.R.ok (AV.tup [t.av,.int .i64 0]) (h.set q (be m mp n'));simp[S46,K46_1,K46_0,b2,b12,b17,b18,b15,b16,k1,hp];rfl
theorem Ks{q:Nat}{m:Ap.Mod}{mp:AV}{fs:List Face}(K:CxOk m fs):∀d,kX q m mp fs d
 |0=>fun ls e n h hr=>by cases hr
 |d+1=>zb K (Ks K d)
theorem q5:(fs acc:List Face)->∀f∈c7 acc fs,f∈acc\/f∈fs
 |[],acc,f,h=>.inl h
 | g:: fs,acc,f,h=>by
  rw[c7]at h;rcases q5 fs _ f h with h|h
  ·split at h
   ·exact .inl h
   ·rcases L3.1 h with h|h
    ·exact .inl h
    ·rw[L5]at h;subst h;exact .inr M6
  ·exact .inr (M8 _ h)
def vq(s:Sig):Bool:=ci s.result&&s.params.all ci
theorem za(f:Face):hJ f=f.funcs.all vq:=rfl
def Lg(t:Ty)(ht:t.Lim):ai pg 79 [t.av]=M.pure (.bool (!(ci t))):=by
 rw[C79];simp[S79,t77 t ht]
theorem BQ{h:Hp}{l:Nat}{fs:List Face}(hl:h[l]? = some [.tup (cp fs)])(f:Face)(hn:fs.find? (fun g=>g.module== f.module)=none):mi T 107 (.mp l) (.str f.module) f.av h= .ok (.tup []) (h.set l [.tup (cp (fs++[f]))]):=by
 have e:mi T 107 (.mp l) (.str f.module) f.av h=(match h[l]? with
   |some [.tup es]=>(match uT T 9 es (.str f.module) f.av with
    |some es'=>.ok (.tup []) (h.set l [.tup es'])
    |none=>.fail)
   |_=>.fail):=rfl
 rw[e,hl];simp only;unfold uT;rcases pb f.module fs 0 with⟨h1,h2⟩|⟨g,j,k,h1,h2⟩
 ·rw[h2];simp[cp]
 ·rw[hn]at h1;cases h1
def kz(f:Face):aT 2 f.av=M.pure f.av:=by rw[ck (na f),jK,rf]
def DR(V:List AV->M AV){h:Hp}{q l:Nat}{m:Ap.Mod}{acc:List Face}(R:JR h q m (.mp l) acc 0)(hl:h[l]? = some [.tup (cp acc)])(fs:List Face)(i:Nat)(f:Face)(hf:f.Lim):∀(k j:Nat),f.funcs.length-j=k->j<=f.funcs.length->
  ah (L44_0 (ai pg) ah V) [.hp q 0,.ip (ab f.av),faces fs,.int .i64 fs.length,.int .i64 i,sigs f.funcs,.int .i64 f.funcs.length,.int .i64 j] h=(if(f.funcs.drop j).all vq=true then V [.hp q 0,faces fs,.int .i64 fs.length,.int .i64 (IntKind.i64.wrap ((i:Int)+1))] (if(acc.find? fun g=>g.module== f.module).isSome=true then h else h.set l [.tup (cp (acc++[f]))])else .ok (.tup [.nilp,.bool false]) h):=by
 intro k;have hlen:=hf.len
 induction k with
 | zero=>
  intro j hk hj;have h1:¬((j:Int)<(f.funcs.length:Int)):=by omega
  have h2:f.funcs.drop j=[]:=Me (by omega);rw[h2,LC (show[].all vq=true from rfl)];have l1:∀g:AV->M AV,ae (bj T 107 (.hp q 9)) g h=g (.mp l) h:=fun g=>aW R.mp g;have l2:∀g:AV->M AV,ae (eO T 107 (.mp l) (.str f.module) true) g h=g (.tup [((acc.find? fun g=>g.module== f.module).getD lO).av,.bool (acc.find? fun g=>g.module== f.module).isSome]) h:=fun g=>aW (m5 R.map f.module) g;rw[FL44_0];cases hc:acc.find? (fun g=>g.module== f.module)with
  |none=>
   rw[hc]at l2;have l3:∀g:AV->M AV,ae (mi T 107 (.mp l) (.str f.module) f.av) g h=g (.tup []) (h.set l [.tup (cp (acc++[f]))]):=fun g=>aW (BQ hl f hc) g;simp[L44_0,h1,l1,l2,kz,l3]
  |some g=>
   rw[hc]at l2;simp[L44_0,h1,l1,l2,kz]
 | succ k ih=>
  intro j hk hj;have hlt:j<f.funcs.length:=by omega
  have h1:(j:Int)<(f.funcs.length:Int):=by omega
  have h2:f.funcs.drop j=f.funcs[j]:: f.funcs.drop (j+1):=L9 hlt;have hw:IntKind.i64.wrap ((j:Int)+1)=(j:Int)+1:=bu (by omega);have hix:=CG (l:=f.funcs) (n:=(j:Int)) (by omega) h1;rw[LH,LK f.funcs j hlt]at hix;have hs:=hf.sigs _ (LM hlt);have ih':ah (L44_0 (ai pg) ah V) [.hp q 0,.ip (ab f.av),faces fs,.int .i64 fs.length,.int .i64 i,sigs f.funcs,.int .i64 f.funcs.length,.int .i64 ((j:Int)+1)] h=_:=ih (j+1) (by omega) (by omega);rw[h2,MQ];generalize f.funcs[j]=s at hix hs |-;have r1:=t77 s.result hs.result;have r2:=t78 (.fn (.func 79) [] []) (fun t=>!(ci t)) s.params (by have:=hs.plen;omega) (fun g=>by simp[cl,dn]) (fun t ht=>Lg t (hs.ptys t ht));have r3:(s.params.any fun t=>!(ci t))= !(s.params.all ci):=by
   rw[List.any_eq_not_all_not];simp
  rw[r3]at r2;rw[FL44_0];simp only[jK]at ih' |-;unfold vq;cases b1:ci s.result with
  |false=>
   rw[b1]at r1;simp[L44_0,h1,hix,r1];rfl
  | true=>
   rw[b1]at r1;cases b2:s.params.all ci with
   |false=>
    rw[b2]at r2;simp[L44_0,h1,hix,r1,r2];rfl
   |true=>
    rw[b2]at r2;simp[L44_0,h1,hix,r1,r2,hw,ih',vq]
theorem DT{q l:Nat}{m:Ap.Mod}(hq:l≠q)(fs:List Face)(hfs:∀f∈fs,f.Lim)(hlen:fs.length<=140737488355328):∀(k i:Nat)(acc:List Face)(h:Hp),fs.length-i=k->i<=fs.length->JR h q m (.mp l) acc 0->h[l]? = some [.tup (cp acc)]->
  ((fs.drop i).all hJ=true->ah (L44_1 (ai pg) ah) [.hp q 0,faces fs,.int .i64 fs.length,.int .i64 i] h= .ok (.tup [.hp q 0,.bool true]) (h.set l [.tup (cp (c7 acc (fs.drop i)))]))/\((fs.drop i).all hJ=false->∃h',ah (L44_1 (ai pg) ah) [.hp q 0,faces fs,.int .i64 fs.length,.int .i64 i] h= .ok (.tup [.nilp,.bool false]) h'):=by
 intro k
 induction k with
 | zero=>
  intro i acc h hk hi R hl;have h1:¬((i:Int)<(fs.length:Int)):=by omega
  have h2:fs.drop i=[]:=Me (by omega);rw[h2];refine⟨fun _=>?_,fun hc=>by cases hc⟩;have e:h.set l [.tup (cp (c7 acc []))]=h:=by
   obtain⟨hll,e⟩:=Mf.1 hl;show h.set l [.tup (cp acc)]=h;rw[<- e];exact Oe hll
  rw[e,FL44_1];simp[L44_1,h1];rfl
 | succ k ih=>
  intro i acc h hk hi R hl;have hlt:i<fs.length:=by omega
  have h1:(i:Int)<(fs.length:Int):=by omega
  have h2:fs.drop i=fs[i]:: fs.drop (i+1):=L9 hlt;have hw:IntKind.i64.wrap ((i:Int)+1)=((i+1:Nat):Int):=bu (by omega);have hix:=Ht (l:=fs) (n:=(i:Int)) (by omega) h1;rw[LH,LK fs i hlt]at hix;have hf:=hfs _ (LM hlt);rw[h2,MQ];generalize fs[i]=f at hix hf |-;have hin:=DR (ah (L44_1 (ai pg) ah)) R hl fs i f hf f.funcs.length 0 rfl (LZ _);rw[Mx,hw]at hin;have hrun:ah (L44_1 (ai pg) ah) [.hp q 0,faces fs,.int .i64 fs.length,.int .i64 i] h=ah (L44_0 (ai pg) ah (ah (L44_1 (ai pg) ah))) [.hp q 0,.ip (ab f.av),faces fs,.int .i64 fs.length,.int .i64 i,sigs f.funcs,.int .i64 f.funcs.length,.int .i64 ((0:Nat):Int)] h:=by
   rw[FL44_1];simp[L44_1,h1,hix,kz]
  rw[hrun,hin,<- za];cases hfo:hJ f with
  |false=>
   refine⟨fun hc=>by simp at hc,fun _=>⟨h,by simp⟩⟩
  | true=>
   simp only[Mc,MV];have hd:c7 acc (f:: fs.drop (i+1))=c7 (if(acc.find? fun g=>g.module== f.module).isSome=true then acc else acc++[f]) (fs.drop (i+1)):=rfl;rw[hd];have hll:=(Mf.1 hl).1;by_cases hc:(acc.find? fun g=>g.module== f.module).isSome=true
   ·rw[LC hc,LC hc];exact ih (i+1) acc h (by omega) (by omega) R hl
   ·rw[if_neg hc,if_neg hc];have hl':(h.set l [.tup (cp (acc++[f]))])[l]? = some [.tup (cp (acc++[f]))]:=M4 hll;have R':JR (h.set l [.tup (cp (acc++[f]))]) q m (.mp l) (acc++[f]) 0:=⟨by rw[Nq hq];exact R.row,.inr ⟨l,rfl,hl'⟩,R.ne⟩;obtain⟨i1,i2⟩:=ih (i+1) (acc++[f]) _ (by omega) (by omega) R' hl';refine⟨fun ha=>?_,i2⟩;rw[i1 ha,List.set_set]
theorem Ld(m:Ap.Mod)(fs:List Face)(hfs:∀f∈fs,f.Lim)(hlen:fs.length<=140737488355328)(h:Hp):
  (fs.all hJ=true->ai pg 44 [m.av,faces fs] h= .ok (.tup [.hp (h.length+1) 0,.bool true]) (h++[[.tup (cp (c7 [] fs))],be m (.mp h.length) 0]))/\(fs.all hJ=false->∃h',ai pg 44 [m.av,faces fs] h= .ok (.tup [.nilp,.bool false]) h'):=by
 have R:JR (h++[[AV.tup []],be m (.mp h.length) 0]) (h.length+1) m (.mp h.length) [] 0:=⟨by simp,.inr ⟨h.length,rfl,by simp[cp]⟩,by simp⟩;obtain⟨h1,h2⟩:=DT (q:=h.length+1) (l:=h.length) (m:=m) (by omega) fs hfs hlen fs.length 0 [] _ rfl (LZ _) R (by simp[cp]);rw[Mx]at h1 h2;have hrun:ai pg 44 [m.av,faces fs] h=ah (L44_1 (ai pg) ah) [.hp (h.length+1) 0,faces fs,.int .i64 fs.length,.int .i64 ((0:Nat):Int)] (h++[[AV.tup []],be m (.mp h.length) 0]):=by
  rw[C44];have b1:aQ T true 109 [(0,m.av),(1,.mp h.length)]=some (.agg (be m (.mp h.length) 0)):=rfl;have n1:∀f:AV->M AV,ae fB f h=f (.mp h.length) (h++[[AV.tup []]]):=fun f=>rfl;have n2:∀f:AV->M AV,ae (newH (be m (.mp h.length) 0)) f (h++[[AV.tup []]])=f (.hp (h.length+1) 0) (h++[[AV.tup []],be m (.mp h.length) 0]):=fun f=>by
   have:newH (be m (.mp h.length) 0) (h++[[AV.tup []]])= .ok (.hp (h++[[AV.tup []]]).length 0) ((h++[[AV.tup []]])++[be m (.mp h.length) 0]):=rfl;rw[aW this];simp
  have lm:aj T 42 (.ip (ab m.av))=some m.av:=rfl;simp only[S44,lm,am,n1,b1,oC,n2,kY];rfl
 rw[hrun];refine⟨fun ha=>?_,h2⟩;rw[h1 ha];simp
def eP(name:aU):Ap.Mod:=⟨name,[],[],[],[],false,[],[],[]⟩
def KU(name:aU):CxOk (eP name) [] where
 vlen:=by simp[eP]
 vars:=nofun
 flen:=by simp[eP]
 ulen:=by simp[eP]
 plen:=nofun
 pars:=nofun
 res:=nofun
 slen:=nofun
 splen:=nofun
 spars:=nofun
 sres:=nofun
theorem Kt(name:aU)(ls:List bM)(hls:∀z∈ls,dZ z.2)(hll:ls.length<=1000)(e:Exp)(hr:bo 12 e=true)(he:e.Lim)(want:Ty)(hw:ci want=true):ai pg 80 [.str name,aO ls,e.av,want.av]=M.pure (.int .i64 (kh ls e want)):=by
 have R:JR [be (eP name) .nilm 0] 0 (eP name) .nilm [] 0:=⟨rfl,.inl ⟨rfl,rfl⟩,by simp⟩;obtain⟨p1,p2⟩:=Ks (KU name) 12 ls e 0 _ hr he hls (by omega) R;have hc:d6 (eP name) []=Eb:=rfl;rw[hc]at p1 p2;have b0:aQ T false 42 [(0,.str name)]=some (eP name).av:=rfl;have b1:aQ T true 109 [(0,(eP name).av)]=some (.agg (be (eP name) .nilm 0)):=rfl;have n1:∀f:AV->M AV,ae (newH (be (eP name) .nilm 0)) f []=f (.hp 0 0) [be (eP name) .nilm 0]:=fun f=>rfl;have fin:∀(h:Hp)(n:Int),fV 6 h (.int .i64 n)= .int .i64 n:=fun h n=>rfl;have hne:=gI Eb 12 ls e 0;rw[C80];unfold kh;cases ht:bT Eb 12 ls e 0 with
 |er b n=>
  rw[ht]at p1;have hb:(b != 0)=true:=Nb.2 (hne b n ht);have k1:∀f:AV->M AV,ae (ai pg 46 [.hp 0 0,aO ls,e.av]) f [be (eP name) .nilm 0]=f (.tup [ty0.av,.int .i64 b]) [be (eP name) .nilm n]:=fun f=>aW p1 f;refine ca (v:=.int .i64 b) (h':=[be (eP name) .nilm n]) ?_ (fin _ _);simp[S80,b0,b1,n1,k1,hb];rfl
 | ok t n=>
  rw[ht]at p1;have hts:=p2 t n ht;have k1:∀f:AV->M AV,ae (ai pg 46 [.hp 0 0,aO ls,e.av]) f [be (eP name) .nilm 0]=f (.tup [t.av,.int .i64 0]) [be (eP name) .nilm n]:=fun f=>aW p1 f;have l1:∀f:AV->M AV,ae (bj T 3 (.hp 0 10)) f [be (eP name) .nilm n]=f (.int .i64 n) [be (eP name) .nilm n]:=fun f=>rfl;have hbl:=jb hts hw;dsimp only;by_cases hn:n=0
  ·subst hn;rw[if_neg (by simp)];cases hb:cB t want with
   |true=>
    rw[hb]at hbl;rw[LC rfl];refine ca (v:=.int .i64 0) (h':=[be (eP name) .nilm 0]) ?_ (fin _ _);simp[S80,b0,b1,n1,k1,l1,hbl];rfl
   |false=>
    rw[hb]at hbl;rw[if_neg (by decide)];refine ca (v:=.int .i64 13) (h':=[be (eP name) .nilm 0]) ?_ (fin _ _);simp[S80,b0,b1,n1,k1,l1,hbl];rfl
  ·rw[LC hn];have hn':(n != 0)=true:=Nb.2 hn;refine ca (v:=.int .i64 14) (h':=[be (eP name) .nilm n]) ?_ (fin _ _);simp[S80,b0,b1,n1,k1,l1,hn'];rfl
def lF(x:aU×Int):AV:=.tup [.str x.1,.int .i64 x.2]
def lz(ls vs:List bM)(es:List Exp)(i:Nat)(hl:es.length=vs.length)(h:i<vs.length):(fF ls vs es).drop i=(vs[i].1,kh ls (es[i]'(by omega)) vs[i].2):: (fF ls vs es).drop (i+1):=by
 have hi:i<(fF ls vs es).length:=by simp[fF,NC];omega
 rw[L9 hi];congr 1;simp[fF]
def nh(ls vs:List bM)(es:List Exp)(i:Nat)(h:vs.length<=i):(fF ls vs es).drop i=[]:=Me (by simp[fF,NC];omega)
structure MvOk (m:Ap.Mod):Prop where
 lim:m.Lim
 vlen:m.vars.length<=8
 vars:∀z∈m.vars,ci z.2=true
 ilen:m.init.length=m.vars.length
 init:∀e∈m.init,bo 12 e=true
 olen:m.old.length<=8
 old:∀z∈m.old,ci z.2=true
 wlen:m.moves=true->m.forward.length=m.vars.length
 forw:∀e∈m.forward,bo 12 e=true
 blen:m.back.length=m.old.length
 back:∀e∈m.back,bo 12 e=true
def K8{m:Ap.Mod}(K:MvOk m):∀(k i:Nat),m.old.length-i=k->i<=m.old.length->
  ah (L45_0 (ai pg) ah) [.ip (ab m.av),aO m.old,.int .i64 m.old.length,.int .i64 i]=M.pure (lF (b9 ((fF m.vars m.old m.back).drop i))):=by
 intro k
 induction k with
 |zero=>
  intro i hk hi;have h1:¬((i:Int)<(m.old.length:Int)):=by omega
  rw[FL45_0,nh _ _ _ _ (by omega)];simp[L45_0,h1,b9,lF]
 | succ k ih=>
  intro i hk hi;have hlt:i<m.old.length:=by omega
  have h1:(i:Int)<(m.old.length:Int):=by omega
  have hw:IntKind.i64.wrap ((i:Int)+1)=(i:Int)+1:=bu (by have:=K.olen;omega);have hix:=oe (l:=m.old) (n:=(i:Int)) (by omega) h1;rw[LH,LK m.old i hlt]at hix;have hlt2:i<m.back.length:=by rw[K.blen];exact hlt
  have hix2:=kJ (l:=m.back) (n:=(i:Int)) (by omega) (by have:=K.blen;omega);rw[LH,LK m.back i hlt2]at hix2;have hp:=Kt m.name m.vars (fun z hz=>fc (K.vars z hz)) (by have:=K.vlen;omega) m.back[i] (K.back _ (LM _)) (K.lim.bes _ (LM _)) m.old[i].2 (K.old _ (LM _));have ih':ah (L45_0 (ai pg) ah) [.ip (ab m.av),aO m.old,.int .i64 m.old.length,.int .i64 ((i:Int)+1)]=_:=ih (i+1) (by omega) (by omega);rw[FL45_0,lz _ _ _ _ K.blen hlt,b9];simp only[bN]at ih' |-;generalize m.old[i]=z at hix hp |-;generalize m.back[i]=e at hix2 hp |-;by_cases hb:kh m.vars e z.2=0
  ·rw[hb]at hp;rw[LC hb];simp[L45_0,h1,hix,hix2,hp,hw,ih']
  ·rw[if_neg hb];have hb':(kh m.vars e z.2 != 0)=true:=Nb.2 hb;simp[L45_0,h1,hix,hix2,hp,hb',lF]
def K9{m:Ap.Mod}(K:MvOk m)(hm:m.moves=true):∀(k i:Nat),m.vars.length-i=k->i<=m.vars.length->
  ah (L45_1 (ai pg) ah) [.ip (ab m.av),aO m.vars,.int .i64 m.vars.length,.int .i64 i]=M.pure (lF (b9 ((fF m.old m.vars m.forward).drop i++fF m.vars m.old m.back))):=by
 intro k
 induction k with
 |zero=>
  intro i hk hi;have h1:¬((i:Int)<(m.vars.length:Int)):=by omega
  have h0:=K8 K m.old.length 0 rfl (LZ _);have h0':ah (L45_0 (ai pg) ah) [.ip (ab m.av),aO m.old,.int .i64 m.old.length,.int .i64 0]=M.pure (lF (b9 (fF m.vars m.old m.back))):=h0;rw[FL45_1,nh _ _ _ _ (by omega),Mn];simp only[bN]at h0' |-;simp[L45_1,h1,h0']
 | succ k ih=>
  intro i hk hi;have hlt:i<m.vars.length:=by omega
  have h1:(i:Int)<(m.vars.length:Int):=by omega
  have hw:IntKind.i64.wrap ((i:Int)+1)=(i:Int)+1:=bu (by have:=K.vlen;omega);have hix:=oe (l:=m.vars) (n:=(i:Int)) (by omega) h1;rw[LH,LK m.vars i hlt]at hix;have hwl:=K.wlen hm;have hlt2:i<m.forward.length:=by omega
  have hix2:=kJ (l:=m.forward) (n:=(i:Int)) (by omega) (by omega);rw[LH,LK m.forward i hlt2]at hix2;have hp:=Kt m.name m.old (fun z hz=>fc (K.old z hz)) (by have:=K.olen;omega) m.forward[i] (K.forw _ (LM _)) (K.lim.fes _ (LM _)) m.vars[i].2 (K.vars _ (LM _));have ih':ah (L45_1 (ai pg) ah) [.ip (ab m.av),aO m.vars,.int .i64 m.vars.length,.int .i64 ((i:Int)+1)]=_:=ih (i+1) (by omega) (by omega);rw[FL45_1,lz _ _ _ _ hwl hlt,Mg,b9];simp only[bN]at ih' |-;generalize m.vars[i]=z at hix hp |-;generalize m.forward[i]=e at hix2 hp |-;by_cases hb:kh m.old e z.2=0
  ·rw[hb]at hp;rw[LC hb];simp[L45_1,h1,hix,hix2,hp,hw,ih']
  ·rw[if_neg hb];have hb':(kh m.old e z.2 != 0)=true:=Nb.2 hb;simp[L45_1,h1,hix,hix2,hp,hb',lF]
def La{m:Ap.Mod}(K:MvOk m):∀(k i:Nat),m.vars.length-i=k->i<=m.vars.length->
  ah (L45_2 (ai pg) ah) [.ip (ab m.av),aO m.vars,.int .i64 m.vars.length,.int .i64 i]=M.pure (lF (b9 ((fF [] m.vars m.init).drop i++if m.moves=true then fF m.old m.vars m.forward++fF m.vars m.old m.back else[]))):=by
 intro k
 induction k with
 | zero=>
  intro i hk hi;have h1:¬((i:Int)<(m.vars.length:Int)):=by omega
  rw[FL45_2,nh _ _ _ _ (by omega),Mn];cases hm:m.moves with
  |true=>
   have h0:=K9 K hm m.vars.length 0 rfl (LZ _);have h0':ah (L45_1 (ai pg) ah) [.ip (ab m.av),aO m.vars,.int .i64 m.vars.length,.int .i64 0]=M.pure (lF (b9 (fF m.old m.vars m.forward++fF m.vars m.old m.back))):=h0;simp only[bN,hm]at h0' |-;simp[L45_2,h1,h0']
  |false=>
   simp only[bN,hm];simp[L45_2,h1,lF,b9]
 | succ k ih=>
  intro i hk hi;have hlt:i<m.vars.length:=by omega
  have h1:(i:Int)<(m.vars.length:Int):=by omega
  have hw:IntKind.i64.wrap ((i:Int)+1)=(i:Int)+1:=bu (by have:=K.vlen;omega);have hix:=oe (l:=m.vars) (n:=(i:Int)) (by omega) h1;rw[LH,LK m.vars i hlt]at hix;have hwl:=K.ilen;have hlt2:i<m.init.length:=by omega
  have hix2:=kJ (l:=m.init) (n:=(i:Int)) (by omega) (by omega);rw[LH,LK m.init i hlt2]at hix2;have hp0:=Kt m.name [] (fun z hz=>by cases hz) (by simp) m.init[i] (K.init _ (LM _)) (K.lim.ies _ (LM _)) m.vars[i].2 (K.vars _ (LM _));have hp:ai pg 80 [.str m.name,.sl [],m.init[i].av,m.vars[i].2.av]=M.pure (.int .i64 (kh [] m.init[i] m.vars[i].2)):=hp0;have ih':ah (L45_2 (ai pg) ah) [.ip (ab m.av),aO m.vars,.int .i64 m.vars.length,.int .i64 ((i:Int)+1)]=_:=ih (i+1) (by omega) (by omega);rw[FL45_2,lz _ _ _ _ hwl hlt,Mg,b9];simp only[bN]at ih' |-;generalize m.vars[i]=z at hix hp |-;generalize m.init[i]=e at hix2 hp |-;by_cases hb:kh [] e z.2=0
  ·rw[hb]at hp;rw[LC hb];simp[L45_2,h1,hix,hix2,hp,hw,ih']
  ·rw[if_neg hb];have hb':(kh [] e z.2 != 0)=true:=Nb.2 hb;simp[L45_2,h1,hix,hix2,hp,hb',lF]
def Le{m:Ap.Mod}(K:MvOk m):ai pg 45 [m.av]=M.pure (lF (j9 m)):=by
 have h0:=La K m.vars.length 0 rfl (LZ _);have h0':ah (L45_2 (ai pg) ah) [.ip (ab m.av),aO m.vars,.int .i64 m.vars.length,.int .i64 0]=M.pure (lF (j9 m)):=h0;rw[C45];simp only[bN]at h0';simp[S45,h0'];exact cg fun g=>by simp[lF,cl,dn]
end Go.Proofs.YtpmcemjkdkbicaaGreatDoor
