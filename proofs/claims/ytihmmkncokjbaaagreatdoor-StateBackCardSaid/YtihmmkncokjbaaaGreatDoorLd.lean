/- The abstract evaluator of the model and plain laws, part 4: its soundness holds for every program whose table of types is the evaluator's. No further condition. -/
import Derived.Test.YtihmmkncokjbaaaGreatDoorLc
import Derived.Lib.AtoiAllCases
import Derived.Lib.Split
import Derived.Lib.IndexBytes
set_option linter.defProp false
set_option linter.unusedSimpArgs false
set_option linter.unusedVariables false
namespace Go.Av.Ap
open Go Go.Av
theorem zN:(l:List aJ)->vW l=fu aV l
 |[]=>rfl
 |[_]=>rfl
 |x:: y:: l=>by simp only[vW,fu,zN (y:: l)]
theorem uw:∀ {n:Nat} {v:Val},bk n v=true->v.names.length=v.values.length/\v.names.length<=8/\∀x∈v.values,∃m,bk m x=true
 |0,v,h=>by simp[bk]at h
 | n+1,v,h=>by
  unfold bk at h;split at h
  ·simp only[FV,GG]at h;have h1:v.values=[]:=Ip.1 h.1.2;refine⟨by omega,by omega,fun x hx=>by rw[h1]at hx;cases hx⟩
  ·simp only[FV,GG,F5,F9]at h;exact⟨h.1.1.1.2,h.1.1.2,fun x hx=>⟨n,h.2 x hx⟩⟩
theorem lv{s:aJ}:∀(ns:List aJ)(vs:List Val)(i:Int),ns.length=vs.length->0<=i->(bE (fun x=>s== x) ns i= -1/\dV ns vs s=none)\/∃k:Nat,bE (fun x=>s== x) ns i=i+k/\k<vs.length/\dV ns vs s=vs[k]?
 |[],[],_,_,_=>.inl ⟨rfl,rfl⟩
 | n:: ns,v:: vs,i,h,hi=>by
  by_cases hn:n=s
  ·subst hn;exact .inr ⟨0,by simp[bE],by simp,by simp[dV]⟩
  ·have hn':¬(s== n)=true:=by simpa using fun e=>hn e.symm
   rcases lv (s:=s) ns vs (i+1) (by simpa using h) (by omega)with⟨h1,h2⟩|⟨k,h1,h2,h3⟩
   ·exact .inl ⟨by simp only[bE];rw[if_neg hn',h1],by simp[dV,hn,h2]⟩
   ·exact .inr ⟨k+1,by simp only[bE];rw[if_neg hn',h1];omega,by simpa using h2,by simp[dV,hn,h3]⟩
 |[],_:: _,_,h,_=>by simp at h
 |_:: _,[],_,h,_=>by simp at h
theorem nf:∀(d:Nat)(t:Ty)(n:Nat)(v:Val),bL d t=true->bk n v=true->(gq d t v=true↔mK t v)
 |0,_,_,_,h,_=>by cases h
 | d+1,t,n,v,h,hv=>by
  have hr:=h;rw[cq]at hr;simp only[FV,F9,GE,GG]at hr;obtain⟨hl,_,hk⟩:=uw hv;obtain⟨k,fs⟩:=t;rw[show gq (d+1) (Ty.mk k fs) v=(k== v.kind&&fs.all fun f=>decide (0<=eY v.names f.1)&&gq d f.2 v.values[(eY v.names f.1).toNat]!)from rfl];simp only[mK,jp,FV,GG,F9,F5];have key:∀f∈fs,(0<=eY v.names f.1/\gq d f.2 v.values[(eY v.names f.1).toNat]! = true)↔wQ f v:=by
   intro f hf;rw[qg];unfold eY;rcases lv (s:=f.1) v.names v.values 0 hl (Int.le_refl _)with⟨h1,h2⟩|⟨j,h1,h2,h3⟩
   ·rw[h1,h2];exact⟨fun h=>absurd h.1 (by decide),fun⟨x,h,_⟩=>by cases h⟩
   ·rw[h1,h3,Int.zero_add,Gw,GK v.values j h2,Gf h2];obtain⟨m,hm⟩:=hk _ (Gs h2);have ih:=nf d f.2 m v.values[j] (hr.2.1 f hf).2 hm;exact⟨fun h=>⟨_,rfl,ih.1 h.2⟩,fun⟨x,hx,hh⟩=>by cases hx;exact⟨by omega,ih.2 hh⟩⟩
  refine⟨fun⟨h1,h2⟩=>⟨h1.symm,fun hne=>?_,fun f hf=>(key f hf).1 (h2 f hf)⟩,fun⟨h1,_,h3⟩=>⟨h1.symm,fun f hf=>(key f hf).2 (h3 f hf)⟩⟩;rcases hr.1.2 with h|h
  ·exact h
  ·exact absurd (Gi h) hne
def wS{t:Ty}{v:Val}(ht:dx t=true)(hv:bk 4 v=true)(h:mK t v):gb t v=true:=by
 simp only[gb,FV];exact⟨ht,hv,(nf 4 t 4 v ht hv).2 h⟩
theorem iC:∀(f u:Nat)(x:UInt8),x∈fy f u->48<=x.toNat/\x.toNat<=57
 |0,_,x,h=>by simp[fy]at h
 | f+1,u,x,h=>by
  simp only[fy]at h;by_cases h10:u<10
  ·rw[Gk h10]at h;simp only[FW,GU]at h;subst h;simp[H5];omega
  ·rw[Gr h10]at h;simp only[F0,Gt,GU]at h;rcases h with h|rfl
   ·exact iC f _ x h
   ·simp[H5];omega
theorem kC:∀(f u:Nat),fy (f+1) u≠[]
 |f,u=>by
  simp only[fy];cases decide (u<10)<;>simp
def r8{n:Int}(h0:0<=n):cm n=fy 20 n.toNat:=by unfold cm;rw[Gr (by omega)];rfl
theorem lp:∀(f u:Nat),(fy f u).length<=f
 |0,_=>by simp[fy]
 |f+1,u=>by
  simp only[fy];cases decide (u<10)with
  |true=>simp
  |false=>have:=lp f (u / 10);simp;omega
def uG(n:Int):(cm n).length<=21:=by
 unfold cm;cases decide (n<0)with
 |true=>have:=lp 20 n.natAbs;simp;omega
 |false=>have:=lp 20 n.toNat;simp;omega
theorem gF(d:Nat)(hd:d<10):∀(l:aJ)(acc m:Nat),Lib.parseUint10 acc l= .ok m->m*10+d<18446744073709551616->Lib.parseUint10 acc (l++[UInt8.ofNat (48+d)])= .ok (m*10+d)
 |[],acc,m,h,hm=>by
  simp only[Lib.parseUint10]at h;cases h;have e:(UInt8.ofNat (48+d)).toNat=48+d:=by simp[H5];omega
  simp only[GY,Lib.parseUint10,e];rw[FY (by omega),if_neg (by omega),if_neg (by omega)];congr 1;omega
 | c :: l,acc,m,h,hm=>by
  simp only[GH,Lib.parseUint10]at h|-;split at h
  ·rename_i hc;rw[FY hc];split at h
   ·cases h
   ·rename_i h1;rw[if_neg h1];split at h
    ·cases h
    ·rename_i h2;rw[if_neg h2];exact gF d hd l _ m h hm
  ·cases h
theorem gE:∀(f u:Nat),u<10 ^ (f+1)->u<18446744073709551616->Lib.parseUint10 0 (fy (f+1) u)= .ok u
 | f,u,h,hb=>by
  rw[show fy (f+1) u=bif decide (u<10)then[UInt8.ofNat (48+u)]else fy f (u / 10)++[UInt8.ofNat (48+u % 10)]from rfl];by_cases h10:u<10
  ·rw[Gk h10]
   have:=gF u h10 [] 0 0 rfl (by omega)
   simpa using this
  ·rw[Gr h10];simp only[F0];cases f with
   |zero=>omega
   |succ f=>
    have ih:=gE f (u / 10) (by rw[Nat.pow_succ]at h;omega) (by omega);rw[gF (u % 10) (by omega) _ 0 (u / 10) ih (by omega)];congr 1;omega
theorem ry(n:Int)(h0:-9223372036854775808<=n)(h1:n<=9223372036854775807):Lib.atoiAll (cm n)= .ok n:=by
 by_cases hn:0<=n
 ·rw[r8 hn];have hp:=gE 19 n.toNat (by omega) (by omega);cases hd:fy 20 n.toNat with
  |nil=>exact absurd hd (kC 19 _)
  |cons c r=>
   have hc:=iC 20 n.toNat c (by rw[hd];simp);rw[Lib.atoiAll_plain c r (by omega) (by omega),<- hd];unfold Lib.parseMag;rw[if_neg (kC 19 _),hp];simp only[Lib.signless];rw[if_neg (by omega)];congr 1;omega
 ·have e:cm n=45:: fy 20 n.natAbs:=by unfold cm;rw[Gk (by omega)];rfl
  have hp:=gE 19 n.natAbs (by omega) (by omega);have h45:(45:UInt8).toNat=45:=rfl;rw[e];unfold Lib.atoiAll;simp only[h45,or_true,Gm];unfold Lib.parseMag;rw[if_neg (kC 19 _),hp];simp only[not_true_eq_false,false_and,Gl,Iw,Gm];rw[if_neg (by omega)];congr 1;omega
mutual
def E6:Ty->Exp
 |.mk k fs=>if k=0 then .mk 0 0 [] [] [] []else if k=1 then .mk 1 0 [] [] [] []else .mk 13 0 [] [] (fs.map (·.1)) (Ab fs)
def Ab:List (aJ×Ty)->List Exp
 |[]=>[]
 |f:: fs=>E7 f:: Ab fs
def E7:aJ×Ty->Exp
 |(_,t)=>E6 t
end
def qH{l:List dQ}(h:fu (fun a b:dQ=>dt a.1 b.1) l=true):(l.map (·.1)).Pairwise fun a b=>aV a b=true:=by
 rw[Ib];exact mU (nm:=fun f:dQ=>f.1) (fun x y h=>(kX _ _).1 h) l h
def gG:aJ:=[116,114,117,101]
def eU:aJ:=[102,97,108,115,101]
def bG:Nat->Val->aJ
 |0,_=>[]
 |d+1,v=>if v.kind=0 then cm v.n else if v.kind=1 then(if v.n=1 then gG else eU)else 123:: (bn [44] (List.zipWith (fun n x=>n++61:: bG d x) v.names v.values)++[125])
def br(v:Val):aJ:=if bk 4 v=true then bG 4 v else[]
mutual
def ct:Val->Bool
 |.mk _ _ ns vs=>ns.all bX&&kI vs
def kI:List Val->Bool
 |[]=>true
 |v:: l=>ct v&&kI l
end
theorem kl:∀l:List Val,kI l=l.all ct
 |[]=>rfl
 |v:: l=>by rw[kI,GR,kl l]
def jz(v:Val):ct v=(v.names.all bX&&v.values.all ct):=by
 cases v;simp only[ct,kl,Val.names,Val.values]
def bz(s:aJ):Option Val:=if s=gG then some (.mk 1 1 [] [])else if s=eU then some (.mk 1 0 [] [])else match Lib.atoiAll s with
 |.ok n=>if cm n=s then some (.mk 0 n [] [])else none
 |_=>none
def dF(b:UInt8):Bool:=!([44,125]:aJ).contains b
def dj(b:UInt8):Bool:=!([61,123,125,44]:aJ).contains b
def f5(s:aJ):Option (aJ×aJ):=if bX (s.takeWhile dj)=true/\(s.dropWhile dj).head? = some 61 then some (s.takeWhile dj,(s.dropWhile dj).tail)else none
def eu(first:Bool)(s:aJ):Option (aJ×aJ):=if first=true then f5 s else if s.head? = some 44 then f5 s.tail else none
def ci(rd:aJ->Option (Val×aJ)):Nat->List aJ->List Val->aJ->Option (Val×aJ)
 |0,_,_,_=>none
 | f+1,ns,vs,s=>if s.head? = some 125 then some (.mk 2 0 ns vs,s.tail)else match eu ns.isEmpty s with
  |none=>none
  |some (n,r)=>match rd r with
   |none=>none
   |some (v,r')=>ci rd f (ns++[n]) (vs++[v]) r'
def aZ:Nat->aJ->Option (Val×aJ)
 |0,_=>none
 |d+1,s=>if s.head? = some 123 then ci (aZ d) s.length [] [] s.tail else match bz (s.takeWhile dF)with
  |none=>none
  |some v=>some (v,s.dropWhile dF)
def rf(p:UInt8->Bool)(s:aJ):s.takeWhile p++s.dropWhile p=s:=List.takeWhile_append_dropWhile
def dD{s:aJ}{c:UInt8}(h:s.head? = some c):s=c:: s.tail:=by
 cases s with
 |nil=>cases h
 |cons x s=>simp at h;subst h;rfl
def sH{s:aJ}{v:Val}(h:bz s=some v)(d:Nat):bG (d+1) v=s/\ct v=true:=by
 unfold bz at h;split at h
 ·rename_i e;cases h;exact⟨by rw[e];rfl,rfl⟩
 ·split at h
  ·rename_i e;cases h;exact⟨by rw[e];rfl,rfl⟩
  ·split at h
   ·split at h
    ·rename_i e;cases h;exact⟨by rw[<- e];rfl,rfl⟩
    ·cases h
   ·cases h
def iT{s n r:aJ}(h:f5 s=some (n,r)):s=n++61:: r/\bX n=true:=by
 unfold f5 at h;split at h
 ·rename_i hc;cases h;refine⟨?_,hc.1⟩;rw[<- dD hc.2,rf]
 ·cases h
def bF(d:Nat)(ns:List aJ)(vs:List Val):List aJ:=List.zipWith (fun n x=>n++61:: bG d x) ns vs
def eA(a b:Bool):aJ:=if a=false/\b=false then[44]else[]
def wU{b:Bool}{s n r:aJ}(h:eu b s=some (n,r)):s=eA b false++(n++61:: r)/\bX n=true:=by
 unfold eu at h;split at h
 ·rename_i hb;obtain⟨h1,h2⟩:=iT h;subst hb;exact⟨by simpa [eA]using h1,h2⟩
 ·rename_i hb;rw[Bool.not_eq_true]at hb;split at h
  ·rename_i hh;obtain⟨h1,h2⟩:=iT h;subst hb;refine⟨?_,h2⟩;rw[dD hh,h1];rfl
  ·cases h
def lN(a:aJ)(l:List aJ):bn [44] (a:: l)=a++(eA false l.isEmpty++bn [44] l):=by
 cases l with
 |nil=>simp[bn,eA]
 |cons b l=>rfl
theorem lx{d:Nat}(ih:∀s v r,aZ d s=some (v,r)->bG d v++r=s/\ct v=true):∀(f:Nat)(ns:List aJ)(vs:List Val)(s:aJ)(v:Val)(r:aJ),ci (aZ d) f ns vs s=some (v,r)->
  ∃ns' vs',v= .mk 2 0 (ns++ns') (vs++vs')/\ns'.length=vs'.length/\s=eA ns.isEmpty ns'.isEmpty++(bn [44] (bF d ns' vs')++125:: r)/\ns'.all bX=true/\vs'.all ct=true
 |0,_,_,_,_,_,h=>by cases h
 | f + 1,ns,vs,s,v,r,h=>by
  rw[ci]at h;split at h
  ·rename_i hh;cases h;refine⟨[],[],by simp,rfl,?_,rfl,rfl⟩;have:eA ns.isEmpty ([]:List aJ).isEmpty=[]:=by unfold eA;cases ns.isEmpty<;>rfl
   rw[this];exact dD hh
  ·cases hx:eu ns.isEmpty s with
   |none=>rw[hx]at h;cases h
   | some p=>
    obtain⟨n,r1⟩:=p;rw[hx]at h;simp only at h;cases hv:aZ d r1 with
    |none=>rw[hv]at h;cases h
    | some q=>
     obtain⟨w,r2⟩:=q;rw[hv]at h;simp only at h;obtain⟨h1,h2⟩:=wU hx;obtain⟨h3,h4⟩:=ih _ _ _ hv;obtain⟨ns',vs',e1,e2,e3,e4,e5⟩:=lx ih f _ _ _ _ _ h;refine⟨n:: ns',w:: vs',by rw[e1];simp,by simp[e2],?_,by rw[GR,h2,e4];rfl,by rw[GR,h4,e5];rfl⟩;have hne:(ns++[n]).isEmpty=false:=by simp
     rw[hne]at e3;have hp:bF d (n:: ns') (w:: vs')=(n++61:: bG d w):: bF d ns' vs':=rfl;have hpe:(bF d ns' vs').isEmpty=ns'.isEmpty:=by
      unfold bF;cases ns' with
      |nil=>rfl
      |cons a ns'=>cases vs' with
       |nil=>simp at e2
       |cons=>rfl
     rw[h1,hp,lN,hpe,<- h3,e3];simp
theorem gT:∀(d:Nat)(s:aJ)(v:Val)(r:aJ),aZ d s=some (v,r)->bG d v++r=s/\ct v=true
 |0,_,_,_,h=>by cases h
 | d+1,s,v,r,h=>by
  rw[aZ]at h;split at h
  ·rename_i hh;obtain⟨ns,vs,e1,e2,e3,e4,e5⟩:=lx (gT d) _ _ _ _ _ _ h;subst e1;refine⟨?_,by rw[jz];simp only[Val.names,Val.values,GY,e4,e5];rfl⟩;have hs:eA ([]:List aJ).isEmpty ns.isEmpty=[]:=rfl;rw[hs]at e3;rw[dD hh,e3];show (if(2:Int)=0 then _ else if(2:Int)=1 then _ else 123:: (bn [44] (bF d ns vs)++[125]))++r=_;rw[if_neg (by decide),if_neg (by decide)];simp
  ·cases hx:bz (s.takeWhile dF)with
   |none=>rw[hx]at h;cases h
   |some w=>
    rw[hx]at h;cases h;obtain⟨h1,h2⟩:=sH hx d;exact⟨by rw[h1,rf],h2⟩
mutual
def kw:Val->Prop
 |.mk _ n _ vs=>(-9223372036854775808<=n/\n<=9223372036854775807)/\pk vs
def pk:List Val->Prop
 |[]=>True
 |v:: l=>kw v/\pk l
end
theorem nv:∀l:List Val,pk l↔∀v∈l,kw v
 |[]=>by simp[pk]
 |v:: l=>by rw[pk,nv l];simp
def fC(v:Val):kw v↔(-9223372036854775808<=v.n/\v.n<=9223372036854775807)/\∀x∈v.values,kw x:=by
 cases v;rw[kw,nv];rfl
theorem sS{p:UInt8->Bool}:∀ {a rest:aJ},(∀x∈a,p x=true)->(∀c,rest.head? = some c->p c=false)->(a++rest).takeWhile p=a/\(a++rest).dropWhile p=rest
 |[],rest,_,h=>by
  cases rest with
  |nil=>exact⟨rfl,rfl⟩
  |cons c r=>simp[h c rfl]
 |x:: a,rest,ha,h=>by
  have hx:=ha x G5;obtain⟨i1,i2⟩:=sS (fun y hy=>ha y (G7 _ hy)) h;simp[hx,i1,i2]
def fh(n:Int):∀x∈cm n,x=45\/(48<=x.toNat/\x.toNat<=57):=by
 intro x hx;unfold cm at hx;cases hn:decide (n<0)with
 |true=>
  rw[hn]at hx;rcases Gp.1 hx with rfl|hx
  ·exact .inl rfl
  ·exact .inr (iC 20 _ x hx)
 |false=>rw[hn]at hx;exact .inr (iC 20 _ x hx)
def gx(n:Int):cm n≠[]:=by
 unfold cm;cases decide (n<0)with
 |true=>simp
 |false=>simp only[F0];exact kC 19 _
def uH(n:Int):∀x∈cm n,dF x=true:=fun x hx=>by
 unfold dF;rcases fh n x hx with rfl|h
 ·rfl
 ·have h1:x≠44:=fun e=>by subst e;exact absurd h.1 (by decide)
  have h2:x≠125:=fun e=>by subst e;exact absurd h.2 (by decide)
  simp[h1,h2]
def qY{n:Int}(h0:-9223372036854775808<=n)(h1:n<=9223372036854775807):bz (cm n)=some (.mk 0 n [] []):=by
 have ht:cm n≠gG:=fun e=>by
  have:=fh n 116 (by rw[e];decide)
  rcases this with h|h
  ·exact absurd h (by decide)
  ·exact absurd h.2 (by decide)
 have hf:cm n≠eU:=fun e=>by
  have:=fh n 102 (by rw[e];decide)
  rcases this with h|h
  ·exact absurd h (by decide)
  ·exact absurd h.2 (by decide)
 unfold bz;rw[if_neg ht,if_neg hf,ry n h0 h1];simp
def sv{s:aJ}(h:bX s=true):∀x∈s,dj x=true:=fun x hx=>by
 simp only[bX,FV,F9]at h;have h1:=h.2 x hx;unfold dj;have key:∀c:UInt8,dl c=false->x≠c:=fun c hc e=>by rw[e,hc]at h1;cases h1
 have e1:=key 61 (by decide);have e2:=key 123 (by decide);have e3:=key 125 (by decide);have e4:=key 44 (by decide);simp[e1,e2,e3,e4]
def xt{s:aJ}(h:bX s=true):s≠[]:=fun e=>by subst e;cases h
def nI{n r:aJ}(h:bX n=true):f5 (n++61:: r)=some (n,r):=by
 obtain⟨h1,h2⟩:=sS (p:=dj) (a:=n) (rest:=61:: r) (sv h) (fun c hc=>by cases hc;rfl);unfold f5;rw[h1,h2,FY ⟨h,rfl⟩];rfl
def uD{b:Bool}{n r:aJ}(h:bX n=true):eu b (eA b false++(n++61:: r))=some (n,r):=by
 unfold eu eA;cases b with
 |true=>simpa using nI h
 |false=>simpa using nI h
def su{n r:aJ}(h:bX n=true){c:UInt8}(hc:(n++r).head? = some c):dl c=true:=by
 cases n with
 |nil=>cases h
 |cons x n=>
  simp at hc;subst hc;simp only[bX,FV,F9]at h;exact h.2 x G5
theorem jX{d:Nat}:∀(ns':List aJ)(vs':List Val)(ns:List aJ)(vs:List Val)(f:Nat)(r:aJ),ns'.length=vs'.length->ns'.all bX=true->(∀v∈vs',∀rest,(∀c,rest.head? = some c->dF c=false)->aZ d (bG d v++rest)=some (v,rest))->
  (eA ns.isEmpty ns'.isEmpty++(bn [44] (bF d ns' vs')++125:: r)).length<=f->ci (aZ d) f ns vs (eA ns.isEmpty ns'.isEmpty++(bn [44] (bF d ns' vs')++125:: r))=some (.mk 2 0 (ns++ns') (vs++vs'),r)
 | [],[],ns,vs,f,r,_,_,_,hf=>by
  have hs:eA ns.isEmpty ([]:List aJ).isEmpty=[]:=by unfold eA;cases ns.isEmpty<;>rfl
  rw[hs]at hf |-;have he:bn [44] (bF d [] [])=[]:=rfl;rw[he]at hf |-;cases f with
  |zero=>simp at hf
  |succ f=>
   rw[ci];simp
 | n :: ns',v:: vs',ns,vs,f,r,hl,hp,hv,hf=>by
  rw[GR,FV]at hp;have hpe:(bF d ns' vs').isEmpty=ns'.isEmpty:=by
   unfold bF;cases ns' with
   |nil=>rfl
   |cons a ns'=>cases vs' with
    |nil=>simp at hl
    |cons=>rfl
  have hp1:bF d (n:: ns') (v:: vs')=(n++61:: bG d v):: bF d ns' vs':=rfl;have e:eA ns.isEmpty (n:: ns').isEmpty++(bn [44] (bF d (n:: ns') (v:: vs'))++125:: r)=eA ns.isEmpty false++(n++61:: (bG d v++(eA false ns'.isEmpty++(bn [44] (bF d ns' vs')++125:: r)))):=by
   rw[hp1,lN,hpe];simp
  rw[e]at hf |-;have hrest:∀c,(eA false ns'.isEmpty++(bn [44] (bF d ns' vs')++125:: r)).head? = some c->dF c=false:=by
   intro c hc;cases ns' with
   |nil=>
    have:bn [44] (bF d [] vs')=[]:=by unfold bF;simp[bn]
    rw[this]at hc;cases hc;rfl
   |cons a l=>cases hc;rfl
  have hread:=hv v G5 _ hrest;cases f with
  |zero=>simp at hf
  | succ f=>
   have hh:¬(eA ns.isEmpty false++(n++61:: (bG d v++(eA false ns'.isEmpty++(bn [44] (bF d ns' vs')++125:: r))))).head? = some 125:=by
    intro h;unfold eA at h;cases hb:ns.isEmpty with
    |true=>
     rw[hb]at h;simp only[Bool.true_eq_false,false_and,Gl,GY]at h
     have:=su hp.1 h
     cases this
    |false=>
     rw[hb]at h;cases h
   rw[ci,if_neg hh,uD hp.1];simp only;rw[hread];simp only;have ih:=jX ns' vs' (ns++[n]) (vs++[v]) f r (by simpa using hl) hp.2 (fun x hx=>hv x (G7 _ hx));have hne:(ns++[n]).isEmpty=false:=by simp
   rw[hne]at ih;rw[ih (by simp only[Gh,Ge]at hf |-;omega)];simp
 |[],_:: _,_,_,_,_,h,_,_,_=>by simp at h
 |_:: _,[],_,_,_,_,h,_,_,_=>by simp at h
def kK(v:Val):v= .mk v.kind v.n v.names v.values:=by cases v;rfl
theorem nS:∀(d:Nat)(v:Val)(rest:aJ),bk d v=true->ct v=true->kw v->(∀c,rest.head? = some c->dF c=false)->aZ d (bG d v++rest)=some (v,rest)
 |0,_,_,h,_,_,_=>by cases h
 | d + 1,v,rest,h,hp,hi,hr=>by
  unfold bk at h;split at h
  ·rename_i hk;simp only[FV,GG,GE]at h hk;have hn:v.names=[]:=Gi h.1.1;have hvs:v.values=[]:=Gi h.1.2;have fin:∀(t:aJ),bG (d+1) v=t->t≠[]->(∀x∈t,dF x=true)->t.head? ≠some 123->bz t=some v->aZ (d+1) (bG (d+1) v++rest)=some (v,rest):=by
    intro t ht hne hst h123 hsc;obtain⟨g1,g2⟩:=sS (p:=dF) hst hr;have hh:¬(t++rest).head? = some 123:=by
     cases t with
     |nil=>exact absurd rfl hne
     |cons x t=>simpa using h123
    rw[ht,aZ,if_neg hh,g1,g2,hsc]
   by_cases h0:v.kind=0
   ·have ev:v= .mk 0 v.n [] []:=by
     have:=kK v
     rw[h0,hn,hvs]at this;exact this
    have hb:=(fC v).1 hi;refine fin (cm v.n) (by rw[bG,FY h0]) (gx _) (uH _) (fun e=>?_) ((qY hb.1.1 hb.1.2).trans (FX some ev.symm));have hm:(123:UInt8)∈cm v.n:=by
     cases hl:cm v.n with
     |nil=>rw[hl]at e;cases e
     |cons x l=>rw[hl]at e;simp at e;simp[e]
    rcases fh _ _ hm with h|h
    ·exact absurd h (by decide)
    ·exact absurd h.2 (by decide)
   ·have h1:v.kind=1:=hk.resolve_left h0;have hn01:v.n=0\/v.n=1:=by
     rcases h.2 with(h2|h2)|h2
     ·exact absurd h2 h0
     ·exact .inl h2
     ·exact .inr h2
    rcases hn01 with h2|h2
    ·have ev:v= .mk 1 0 [] []:=by rw[kK v,h1,hn,hvs,h2]
     exact fin eU (by rw[bG,if_neg h0,FY h1,if_neg (by omega)]) (by decide) (by decide) (by decide) (by rw[ev];rfl)
    ·have ev:v= .mk 1 1 [] []:=by rw[kK v,h1,hn,hvs,h2]
     exact fin gG (by rw[bG,if_neg h0,FY h1,FY h2]) (by decide) (by decide) (by decide) (by rw[ev];rfl)
  ·rename_i hk;simp only[FV,GG,F5,F9]at h;obtain⟨⟨⟨⟨⟨h2,h0⟩,hl⟩,_⟩,_⟩,hall⟩:=h;rw[jz,FV]at hp;have ev:v= .mk 2 0 v.names v.values:=by
    have:=kK v
    rw[h2,h0]at this;exact this
   have ht:bG (d+1) v++rest=123:: (eA true v.names.isEmpty++(bn [44] (bF d v.names v.values)++125:: rest)):=by
    rw[bG,if_neg (by omega),if_neg (by omega)];simp[eA,bF]
   have hf:=jX (d:=d) v.names v.values [] [] (bG (d+1) v++rest).length rest hl hp.1 (fun x hx r' hr'=>nS d x r' (hall x hx) (F9.1 hp.2 x hx) (((fC v).1 hi).2 x hx) hr') (by rw[ht];simp[eA]);rw[ht]at hf |-;rw[aZ,FY (by rfl)];have hf':ci (aZ d) (123:: (eA true v.names.isEmpty++(bn [44] (bF d v.names v.values)++125:: rest))).length [] [] (eA true v.names.isEmpty++(bn [44] (bF d v.names v.values)++125:: rest))=some (.mk 2 0 v.names v.values,rest):=hf;rw[List.tail_cons,hf',<- ev]
def zf{v:Val}(h:bk 4 v=true):br v≠[]:=by
 unfold br;rw[FY h,bG];split
 ·exact gx _
 ·split
  ·split<;>decide
  ·simp
def sD{v:Val}(h:bk 4 v=true)(hp:ct v=true)(hi:kw v):aZ 4 (br v)=some (v,[]):=by
 have:=nS 4 v [] h hp hi (fun c hc=>by cases hc)
 rw[It]at this;unfold br
 rwa [FY h]
def cC:Nat->Ty->Val
 |0,_=>.mk 0 0 [] []
 |d+1,t=>.mk t.kind 0 (t.fields.map (·.1)) (t.fields.map fun f=>cC d f.2)
def cT(t:Ty):Val:=if dx t=true then cC 4 t else .mk 0 0 [] []
def vX{l:List dQ}:fu dt (l.map (·.1))=fu (fun a b:dQ=>dt a.1 b.1) l:=by
 induction l with
 |nil=>rfl
 | cons x l ih=>cases l with
  |nil=>rfl
  |cons y l=>
   simp only[GL,fu]at ih |-;rw[ih]
theorem tS:∀(d:Nat)(t:Ty),bL d t=true->bk d (cC d t)=true/\mK t (cC d t)
 |0,_,h=>by cases h
 | d + 1,t,h=>by
  rw[cq]at h;simp only[FV,F5,F9,GE,GG]at h;obtain⟨⟨⟨⟨g0,g1⟩,h3⟩,h6⟩,h4,h5⟩:=h;have hasc:=qH h5;have ih:∀f∈t.fields,bk d (cC d f.2)=true/\mK f.2 (cC d f.2):=fun f hf=>tS d f.2 (h4 f hf).2;refine⟨?_,?_⟩
  ·have e1:(cC (d+1) t).kind=t.kind:=rfl;have e2:(cC (d+1) t).n=0:=rfl;have e3:(cC (d+1) t).names=t.fields.map (·.1):=rfl;have e4:(cC (d+1) t).values=t.fields.map fun f=>cC d f.2:=rfl;generalize cC (d+1) t=z at e1 e2 e3 e4;unfold bk;rw[e1,e2,e3,e4];split
   ·rename_i hk;simp only[GE,GG]at hk;have he:t.fields=[]:=Gi (by rcases h6 with h|h;omega;exact h);rw[he];rcases hk with h|h<;>simp[h]
   ·rename_i hk;simp only[GE,GG,not_or]at hk;have ha:vW (t.fields.map (·.1))=true:=by
     rw[zN,<- h5,<- vX];congr 1;funext a b;rw[GZ,kX]
    have hk2:t.kind=2:=by omega
    simp only[hk2,ha,Hy,h3,FV,GG,F5,F9,Ix,Iw,HD];rintro x ⟨f,hf,rfl⟩;exact (ih f hf).1
  ·rw[wR];unfold cC;simp only[Val.kind,Val.names,Val.values];refine⟨trivial,fun hne=>?_,fun f hf=>?_⟩
   ·rcases h6 with h|h
    ·exact h
    ·exact absurd (Gi h) hne
   ·obtain⟨i,hi,rfl⟩:=Hu.1 hf;exact⟨cC d t.fields[i].2,m8 hasc (i:=i) (by simp[hi]) (by simp[hi]),(ih _ hf).2⟩
def xZ(t:Ty):gb t (cT t)=dx t:=by
 cases h:dx t with
 |false=>unfold gb;rw[h];rfl
 |true=>
  obtain⟨h1,h2⟩:=tS 4 t h;unfold cT;rw[FY h];exact wS h h1 h2
end Go.Av.Ap
namespace Go.Av.Ap
mutual
def Dz:Ty->Ty->Bool
 |.mk k fs,.mk k' fs'=>k== k'&&xH fs fs'
def xH:List dQ->List dQ->Bool
 |[],[]=>true
 |f:: l,g:: m=>BN f g&&xH l m
 |_,_=>false
def BN:aJ×Ty->aJ×Ty->Bool
 |(s,t),(s',t')=>s== s'&&Dz t t'
end
mutual
def Dx:Exp->Exp->Bool
 |.mk o n s m ns es,.mk o' n' s' m' ns' es'=>o== o'&&n== n'&&s== s'&&m== m'&&ns== ns'&&xG es es'
def xG:List Exp->List Exp->Bool
 |[],[]=>true
 |f:: l,g:: m=>Dx f g&&xG l m
 |_,_=>false
end
def Aa{e:Ty}{x:dQ}(h:x∈e.fields):SizeOf.sizeOf x.2<SizeOf.sizeOf e:=by
 cases e with
 |mk k fs=>
  have h1:=Hq h;have h2:SizeOf.sizeOf x.2<SizeOf.sizeOf x:=by cases x;simp;omega
  have h3:SizeOf.sizeOf x<SizeOf.sizeOf fs:=h1;simp only[Ty.mk.sizeOf_spec];show SizeOf.sizeOf x.2<1+SizeOf.sizeOf k+SizeOf.sizeOf fs;omega
end Go.Av.Ap
namespace Go.Av.Ap
open Go Go.Av
mutual
def tV:Val->Prop
 |.mk _ _ ns vs=>(∀s∈ns,s.length<=60)/\vr vs
def vr:List Val->Prop
 |[]=>True
 |v:: l=>tV v/\vr l
end
theorem qz:∀l:List Val,vr l↔∀v∈l,tV v
 |[]=>by simp[vr]
 |v:: l=>by rw[vr,qz l];simp
def oR(v:Val):tV v↔(∀s∈v.names,s.length<=60)/\∀x∈v.values,tV x:=by
 cases v;rw[tV,qz];rfl
def e9(t:Ty)(s:aJ):Option Val:=match aZ 4 s with
 |some x=>if x.2=[]/\gb t x.1=true then some x.1 else none
 |none=>none
def vj{v:Val}(h:br v≠[]):bk 4 v=true:=by
 unfold br at h;by_cases hf:bk 4 v=true
 ·exact hf
 ·rw[if_neg hf]at h;exact absurd rfl h
def nr{t:Ty}{v:Val}(h:gb t v=true):bk 4 v=true:=by
 simp only[gb,FV]at h;exact h.2.1
def xC{t:Ty}{v:Val}(h:br v≠[])(hp:ct v=true)(hi:kw v):e9 t (br v)=if gb t v=true then some v else none:=by
 unfold e9;rw[sD (vj h) hp hi];by_cases hh:gb t v=true
 ·simp[hh]
 ·simp[hh]
def xB{t:Ty}{s:aJ}{w:Val}(h:e9 t s=some w):gb t w=true/\br w=s/\ct w=true:=by
 unfold e9 at h;cases hv:aZ 4 s with
 |none=>rw[hv]at h;cases h
 | some x=>
  obtain⟨v,r⟩:=x;rw[hv]at h;simp only at h;split at h
  ·rename_i hc;cases h;obtain⟨h1,h2⟩:=gT 4 s _ r hv;rw[hc.1,It]at h1;refine⟨hc.2,?_,h2⟩;unfold br;rw[FY (nr hc.2)];exact h1
  ·cases h
theorem ni:∀(d:Nat)(v:Val),bk d v=true->bk (d+1) v=true
 |0,v,h=>by cases h
 | d+1,v,h=>by
  unfold bk at h|-;split at h
  ·rename_i hk;rw[FY hk];exact h
  ·rename_i hk;rw[if_neg hk];simp only[FV,F9]at h|-;exact⟨h.1,fun x hx=>ni d x (h.2 x hx)⟩
theorem jJ{α β γ:Type}{f g:α->β->γ}:∀ {l:List α} {m:List β},(∀a,∀b∈m,f a b=g a b)->List.zipWith f l m=List.zipWith g l m
 |[],_,_=>rfl
 |_:: _,[],_=>rfl
 |a:: l,b:: m,h=>by
  rw[HK,HK,h a b G5,jJ fun x y hy=>h x y (G7 _ hy)]
theorem nZ:∀(d:Nat)(v:Val),bk d v=true->bG (d+1) v=bG d v
 |0,v,h=>by cases h
 | d+1,v,h=>by
  unfold bk at h;rw[bG,bG];split at h
  ·rename_i hk;simp only[GE,GG]at hk;rcases hk with h0|h1
   ·rw[FY h0,FY h0]
   ·have h0:¬v.kind=0:=by rw[h1];decide
    simp only[if_neg h0,FY h1]
  ·simp only[FV,F9]at h;have e:List.zipWith (fun n x=>n++61:: bG (d+1) x) v.names v.values=List.zipWith (fun n x=>n++61:: bG d x) v.names v.values:=jJ fun a b hb=>by rw[nZ d b (h.2 b hb)]
   rw[e]
def nh{v:Val}(h:bk 3 v=true):bk 4 v=true:=ni 3 v h
def sP{v:Val}(h:bk 3 v=true):bG 3 v=br v:=by
 unfold br;rw[FY (nh h),nZ 3 v h]
def xS{v:Val}(h:bk 4 v=true)(h0:v.kind≠0)(h1:v.kind≠1):br v=123:: (bn [44] (List.zipWith (fun n x=>n++61:: br x) v.names v.values)++[125])/\v.names.length=v.values.length/\v.names.length<=8/\∀x∈v.values,bk 4 x=true:=by
 have hf:=h;unfold bk at h;rw[if_neg (by simp[h0,h1])]at h;simp only[FV,F9,GG,F5]at h;refine⟨?_,h.1.1.1.2,h.1.1.2,fun x hx=>nh (h.2 x hx)⟩;unfold br;rw[FY hf,bG,if_neg h0,if_neg h1];have e:List.zipWith (fun n x=>n++61:: bG 3 x) v.names v.values=List.zipWith (fun n x=>n++61:: if bk 4 x=true then bG 4 x else[]) v.names v.values:=jJ fun a b hb=>by
  have:=sP (h.2 b hb)
  unfold br at this;rw[this]
 rw[e]
theorem qt:∀l:List aJ,(bn [44] l).length<=(l.map fun t=>t.length+1).sum
 |[]=>by simp[bn]
 |[a]=>by simp[bn]
 |a:: b:: l=>by
  have:=qt (b:: l)
  simp only[bn,Gh,GL,List.sum_cons,Ge,GM]at this |-;omega
theorem lP:∀ {l:List aJ} {t:aJ},t∈l->t.length<=(bn [44] l).length
 |[a],t,h=>by rw[GU.1 h];exact FZ _
 | a:: b:: l,t,h=>by
  rw[bn];simp only[Gh];rcases Gp.1 h with rfl|h
  ·omega
  ·have:=lP h
   omega
theorem tT{d:Nat}:∀(ns:List aJ)(vs:List Val),(∀s∈ns,s.length<=60)->(∀x∈vs,(bG d x).length<=100*x.sz)->((List.zipWith (fun n x=>n++61:: bG d x) ns vs).map fun t=>t.length+1).sum<=62*ns.length+100*bh vs
 |[],_,_,_=>by simp
 |_:: _,[],_,_=>by simp
 |n:: ns,v:: vs,hn,hv=>by
  have h1:=hn n G5;have h2:=hv v G5;have h3:=tT ns vs (fun s hs=>hn s (G7 _ hs)) (fun x hx=>hv x (G7 _ hx));simp only[HK,GL,List.sum_cons,Gh,Ge,bh]at h3 |-;omega
theorem rb:∀(d:Nat)(v:Val),tV v->(bG d v).length<=100*v.sz
 |0,v,_=>by simp[bG]
 | d+1,v,h=>by
  have hs:v.sz=1+v.names.length+bh v.values:=by cases v;rfl
  obtain⟨h1,h2⟩:=(oR v).1 h;rw[bG];split
  ·have:=uG v.n
   omega
  ·split
   ·split<;>simp[gG,eU]<;>omega
   ·have c:=He (qt _) (tT (d:=d) v.names v.values h1 fun x hx=>rb d x (h2 x hx));generalize bn [44] (List.zipWith (fun n x=>n++61:: bG d x) v.names v.values)=J at c |-;simp only[Ge,Gh,GM];omega
def nY{v:Val}(h:tV v):(br v).length<=100*v.sz:=by
 unfold br;split
 ·exact rb 4 v h
 ·simp
theorem kq:∀(l:List Val)(v:Val),bh (l++[v])=bh l+v.sz
 |[],v=>by simp[bh]
 |x:: l,v=>by simp only[GH,bh,kq l v];omega
def qA{s n r:aJ}(h:f5 s=some (n,r)):r.length+2<=s.length:=by
 obtain⟨h1,h2⟩:=iT h
 have:=xt h2
 rw[h1,Gh,Ge];cases n with
 |nil=>exact absurd rfl this
 |cons x n=>simp only[Ge];omega
def qi{b:Bool}{s n r:aJ}(h:eu b s=some (n,r)):r.length+2<=s.length:=by
 unfold eu at h;split at h
 ·exact qA h
 ·split at h
  ·have:=qA h
   rw[HM]at this;omega
  ·cases h
theorem jW{d:Nat}(ih:∀s v r,aZ d s=some (v,r)->v.sz+2*r.length<=2*s.length+1):∀(f:Nat)(ns:List aJ)(vs:List Val)(s:aJ)(v:Val)(r:aJ),ci (aZ d) f ns vs s=some (v,r)->v.sz+2*r.length<=1+ns.length+bh vs+2*s.length
 |0,_,_,_,_,_,h=>by cases h
 | f + 1,ns,vs,s,v,r,h=>by
  rw[ci]at h;split at h
  ·cases h;have e:(Val.mk 2 0 ns vs).sz=1+ns.length+bh vs:=rfl;rw[e,HM];omega
  ·cases hx:eu ns.isEmpty s with
   |none=>rw[hx]at h;cases h
   | some p=>
    obtain⟨n,r1⟩:=p;rw[hx]at h;simp only at h;cases hv:aZ d r1 with
    |none=>rw[hv]at h;cases h
    |some q=>
     obtain⟨w,r2⟩:=q;rw[hv]at h;simp only at h;have a:=qi hx;have b:=ih _ _ _ hv;have c:=jW ih f _ _ _ _ _ h;rw[kq,Gh,List.length_singleton]at c;omega
theorem fW:∀(d:Nat)(s:aJ)(v:Val)(r:aJ),aZ d s=some (v,r)->v.sz+2*r.length<=2*s.length+1
 |0,_,_,_,h=>by cases h
 | d + 1,s,v,r,h=>by
  rw[aZ]at h;split at h
  ·rename_i hh;have a:=jW (fW d) _ _ _ _ _ _ h;have b:=FX List.length (dD hh);simp only[GM,Ge,bh]at a b;omega
  ·cases hx:bz (s.takeWhile dF)with
   |none=>rw[hx]at h;cases h
   | some w=>
    rw[hx]at h;cases h;have hl:=FX List.length (rf dF s);rw[Gh]at hl;have hw:v.sz=1:=by
     unfold bz at hx;split at hx
     ·cases hx;rfl
     ·split at hx
      ·cases hx;rfl
      ·split at hx
       ·split at hx
        ·cases hx;rfl
        ·cases hx
       ·cases hx
    rw[hw];omega
mutual
def NB(B:Nat):Val->Prop
 |.mk _ _ ns vs=>(∀s∈ns,s.length<=B)/\Cs B vs
def Cs(B:Nat):List Val->Prop
 |[]=>True
 |v:: l=>NB B v/\Cs B l
end
theorem tD(B:Nat):∀l:List Val,Cs B l↔∀v∈l,NB B v
 |[]=>by simp[Cs]
 |v:: l=>by rw[Cs,tD B l];simp
def ju(B:Nat)(v:Val):NB B v↔(∀s∈v.names,s.length<=B)/\∀x∈v.values,NB B x:=by
 cases v;rw[NB,tD];rfl
def tC{B C:Nat}(h:B<=C):∀(N:Nat)(v:Val),SizeOf.sizeOf v<=N->NB B v->NB C v:=by
 intro N
 induction N with
 |zero=>intro v hv;cases v;simp at hv
 | succ N ih=>
  intro v hv hb;obtain⟨b1,b2⟩:=(ju B v).1 hb;refine (ju C v).2 ⟨fun s hs=>He (b1 s hs) h,fun x hx=>ih x ?_ (b2 x hx)⟩;cases v with
  |mk k n ns vs=>
   have:=Hq (show x∈vs from hx)
   simp only[Val.mk.sizeOf_spec]at hv;omega
def Bw:∀(N:Nat)(v:Val),SizeOf.sizeOf v<=N->tV v->NB 60 v:=by
 intro N
 induction N with
 |zero=>intro v hv;cases v;simp at hv
 | succ N ih=>
  intro v hv hb;obtain⟨b1,b2⟩:=(oR v).1 hb;refine (ju 60 v).2 ⟨b1,fun x hx=>ih x ?_ (b2 x hx)⟩;cases v with
  |mk k n ns vs=>
   have:=Hq (show x∈vs from hx)
   simp only[Val.mk.sizeOf_spec]at hv;omega
def lZ{s n r:aJ}(h:f5 s=some (n,r)):n.length<=s.length:=by
 obtain⟨h1,_⟩:=iT h;rw[h1,Gh];omega
def r5{b:Bool}{s n r:aJ}(h:eu b s=some (n,r)):n.length<=s.length:=by
 unfold eu at h;split at h
 ·exact lZ h
 ·split at h
  ·have:=lZ h
   rw[HM]at this;omega
  ·cases h
def o4{s:aJ}{v:Val}(h:bz s=some v):v.names=[]/\v.values=[]/\-9223372036854775808<=v.n/\v.n<=9223372036854775807:=by
 unfold bz at h;split at h
 ·cases h;exact⟨rfl,rfl,by decide,by decide⟩
 ·split at h
  ·cases h;exact⟨rfl,rfl,by decide,by decide⟩
  ·split at h
   ·rename_i n hn;split at h
    ·cases h
     have:=Lib.atoiAll_bounds hn
     exact⟨rfl,rfl,this.1,this.2⟩
    ·cases h
   ·cases h
def rm(B:Nat)(v:Val):Prop:=NB B v/\kw v
def wF{B:Nat}{k n:Int}{ns:List aJ}{vs:List Val}(h0:-9223372036854775808<=n/\n<=9223372036854775807)(h1:∀s∈ns,s.length<=B)(h2:∀x∈vs,rm B x):rm B (.mk k n ns vs):=
 ⟨(ju B _).2 ⟨h1,fun x hx=>(h2 x hx).1⟩,(fC _).2 ⟨h0,fun x hx=>(h2 x hx).2⟩⟩
theorem jV{B d:Nat}(ih:∀s v r,aZ d s=some (v,r)->s.length<=B->rm B v):∀(f:Nat)(ns:List aJ)(vs:List Val)(s:aJ)(v:Val)(r:aJ),ci (aZ d) f ns vs s=some (v,r)->s.length<=B->(∀s∈ns,s.length<=B)->(∀x∈vs,rm B x)->rm B v
 |0,_,_,_,_,_,h=>by cases h
 | f + 1,ns,vs,s,v,r,h=>fun hB h1 h2=>by
  rw[ci]at h;split at h
  ·cases h;exact wF ⟨by decide,by decide⟩ h1 h2
  ·cases hx:eu ns.isEmpty s with
   |none=>rw[hx]at h;cases h
   | some p=>
    obtain⟨n,r1⟩:=p;rw[hx]at h;simp only at h;cases hv:aZ d r1 with
    |none=>rw[hv]at h;cases h
    | some q=>
     obtain⟨w,r2⟩:=q;rw[hv]at h;simp only at h;have a:=qi hx;have b:=r5 hx;have c:=fW d r1 w r2 hv;have e:=(gT d r1 w r2 hv).1;have el:r2.length<=r1.length:=by rw[<- e,Gh];omega
     exact jV ih f _ _ _ _ _ h (by omega) (fun t ht=>by
      rcases Gt.1 ht with ht|ht
      ·exact h1 t ht
      ·rw[GU.1 ht];omega) (fun x hx'=>by
      rcases Gt.1 hx' with hx'|hx'
      ·exact h2 x hx'
      ·rw[GU.1 hx'];exact ih r1 w r2 hv (by omega))
theorem mz{B:Nat}:∀(d:Nat)(s:aJ)(v:Val)(r:aJ),aZ d s=some (v,r)->s.length<=B->rm B v
 |0,_,_,_,h=>by cases h
 | d+1,s,v,r,h=>fun hB=>by
  rw[aZ]at h;split at h
  ·exact jV (mz d) _ _ _ _ _ _ h (by rw[HM];omega) (fun t ht=>by cases ht) (fun x hx=>by cases hx)
  ·cases hx:bz (s.takeWhile dF)with
   |none=>rw[hx]at h;cases h
   |some w=>
    rw[hx]at h;cases h;obtain⟨a,b,c,e⟩:=o4 hx;refine⟨(ju B _).2 ⟨fun t ht=>?_,fun x hx=>?_⟩,(fC _).2 ⟨⟨c,e⟩,fun x hx=>?_⟩⟩
    ·rw[a]at ht;cases ht
    ·rw[b]at hx;cases hx
    ·rw[b]at hx;cases hx
def uY{B:Nat}{t:Ty}{s:aJ}{w:Val}(h:e9 t s=some w)(hB:s.length<=B):rm B w/\w.sz<=2*s.length+1:=by
 unfold e9 at h;cases hv:aZ 4 s with
 |none=>rw[hv]at h;cases h
 | some x=>
  obtain⟨v,r⟩:=x;rw[hv]at h;simp only at h;split at h
  ·cases h;exact⟨mz 4 s _ r hv hB,by have:=fW 4 s _ r hv;omega⟩
  ·cases h
theorem ku{f:dQ->Val}{b:Nat}:∀l:List dQ,(∀x∈l,(f x).sz<=b)->bh (l.map f)<=l.length*b
 |[],_=>by simp[bh]
 |x:: l,h=>by
  have h1:=h x G5;have h2:=ku l fun y hy=>h y (G7 _ hy);simp only[GL,bh,Ge,Nat.succ_mul];omega
theorem rj:∀(d:Nat)(t:Ty),bL d t=true->(cC d t).sz<=20 ^ d
 |0,t,h=>by cases h
 |d+1,t,h=>by
  rw[cq]at h;simp only[FV,F5,F9]at h;have hk:t.fields.length<=8:=by omega
  have a:=ku (f:=fun f=>cC d f.2) (b:=20 ^ d) t.fields fun x hx=>rj d x.2 (h.2.1 x hx).2;have e:(cC (d+1) t).sz=1+t.fields.length+bh (t.fields.map fun f=>cC d f.2):=by rw[cC];simp only[Val.sz,Hy]
  have b:t.fields.length*20 ^ d<=8*20 ^ d:=Gc _ hk;have c:1<=20 ^ d:=Nat.pos_of_ne_zero (by simp);rw[e,Nat.pow_succ];omega
end Go.Av.Ap
