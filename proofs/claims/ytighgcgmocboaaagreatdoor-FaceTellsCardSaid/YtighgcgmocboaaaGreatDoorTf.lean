/- What the functions compute, part 6. Conditions: bounds. -/
import Derived.Test.YtighgcgmocboaaaGreatDoorTe
set_option linter.defProp false
set_option linter.unusedSimpArgs false
set_option linter.unusedVariables false
namespace Go.Proofs.YtighgcgmocboaaaGreatDoor
open Go Go.Av Go.Av.Ap
set_option maxRecDepth 100000
def t71(u:Nat)(hb:u<=9223372036854775808):ab pg 71 [.int .i64 (-(u:Int))]=am (.str (dt 20 u)):=by
 rw[cE hOther (E:=z8) rfl];simp only[z8];rw[NJ (by omega),NJ (by omega)];simp
theorem Hv(s:aQ):cl aA (.str s)= .str s:=rfl
theorem KR(n:Int):cl aA (.int .i64 n)= .int .i64 n:=rfl
def xV(s:aQ):aP (am (.str s))=am (.str s):=bD fun _=>rfl
def i6(b:Bool):aP (am (.bool b))=am (.bool b):=bD fun _=>rfl
theorem nr(x y:Int):bo T .lss 3 (.int .i64 x) (.int .i64 y)=some (.bool (decide (x<y))):=rfl
theorem vQ(x y:Int):bo T .gtr 3 (.int .i64 x) (.int .i64 y)=some (.bool (decide (y<x))):=rfl
theorem Ak(x y:Int):bo T .geq 3 (.int .i64 x) (.int .i64 y)=some (.bool (decide (y<=x))):=rfl
theorem vz(x y:Int):bo T .eql 3 (.int .i64 x) (.int .i64 y)=some (.bool (x== y)):=rfl
theorem Cu(x:Int):E1 .neg (.int .i64 x)=some (.int .i64 (IntKind.i64.wrap (0-x))):=rfl
theorem Gu(x y:aQ):bo T .eql 9 (.str x) (.str y)=some (.bool (x== y)):=rfl
def t72(n:Int)(h0:-9223372036854775808<=n)(h1:n<=9223372036854775807):ab pg 72 [.int .i64 n]=am (.str (bG n++[59])):=by
 have hl:=jS n;rw[C72];unfold bG at hl |-;by_cases hn:n<0
 ·obtain⟨u,rfl⟩:∃u:Nat,n= -(u:Int):=⟨n.natAbs,by omega⟩;have hd:=t71 u (by omega);have e1:(-(u:Int)).natAbs=u:=by omega
  rw[NJ hn,M6,e1]at hl |-;have c1:=jg [45] (dt 20 u) (by simp at hl |-;omega);have c2:=jg ([45]++dt 20 u) [59] (by simp at hl |-;omega);simp only[S72,KR,nr,hn,Nf,ae,ah,Nj,hd,ai,c1,c2];exact xV _
 ·obtain⟨u,rfl⟩:∃u:Nat,n=(u:Int):=⟨n.toNat,by omega⟩;have hd:=t71 u (by omega);have hw:IntKind.i64.wrap (0-(u:Int))= -(u:Int):=by rw[bE (by omega) (by omega)];omega
  rw[NV hn,Nh,Nb]at hl |-;have c1:=jg (dt 20 u) [59] (by simp;omega);simp only[S72,KR,nr,hn,Nm,ae,ah,M3,Na,Cu,hw,hd,ai,c1];exact xV _
def t34(n:Int)(h0:-9223372036854775808<=n)(h1:n<=9223372036854775807):ab pg 34 [.int .i64 n]=am (.str (bW n)):=by
 have hi:=t72 n h0 h1;rw[C34];unfold bW;by_cases hn:n<0
 ·rw[Nn hn];simp only[S34,KR,nr,hn,Nf,ae,ah,Nj];exact xV _
 ·rw[M9 hn];simp only[S34,KR,nr,hn,Nm,ae,ah,M3,Na,hi,ai];exact xV _
def t33(s:aQ)(hb:s.length<=1000000000):ab pg 33 [.str s]=am (.str (eD s)):=by
 have hd:=t71 s.length (by omega);have hw:IntKind.i64.wrap (0-(s.length:Int))= -(s.length:Int):=by rw[bE (by omega) (by omega)];omega
 have e:bG (s.length:Int)=dt 20 s.length:=by rw[i8 (by omega),Nb]
 have hl:=jK 20 s.length;have c1:=jg (dt 20 s.length) [58] (by simp;omega);have c2:=jg (dt 20 s.length++[58]) s (by simp;omega);have c3:=jg (dt 20 s.length++[58]++s) [44] (by simp;omega);rw[C33];unfold eD;rw[e];simp only[S33,Hv,gl,ae,Cu,hw,hd,ai,c1,c2,c3];exact xV _
def su:Option Int->Nat->aQ->AV
 |none,_,_=>.tup [.int .i64 0,.bool false]
 |some a,k,s=>.tup [.int .i64 (if k=0 then IntKind.i64.wrap (-a)else a),.bool (bG (if k=0 then IntKind.i64.wrap (-a)else a)== s)]
def GH(o:Option Int)(k:Nat)(s:aQ):aP (am (su o k s))=am (su o k s):=bD fun _=>by cases o<;>rfl
def Kj{s:aQ}{i:Nat}(h:i<s.length):bN T 9 (.str s) (.int .i64 (i:Int))=some (.int .u8 (s[i].toNat:Nat)):=by
 show (if(i:Int)<0 then none else s[(i:Int).toNat]?.map fun b=>AV.int .u8 b.toNat)=_;rw[M9 (by omega),Nb,Ns h];rfl
def yM(a b:aQ):(a++[59]== b++[59])=(a== b):=by
 rw[N1,NW,NW];exact⟨fun h=>List.append_cancel_right h,fun h=>by rw[h]⟩
def ud(s:aQ)(hs:s.length<=1000)(k:Nat):∀(n i:Nat)(a:Int),s.length-i=n->i<=s.length->(-9223372036854775808<=a/\a<=9223372036854775807)->
  ak (L144_0 (ab pg) ak) [.str s,.int .i64 (k:Int),.int .i64 a,.int .i64 (i:Int)]=am (su (eL a i (s.drop i)) k s):=by
 intro n
 induction n with
 | zero=>
  intro i a hn hi ha;have h1:¬((i:Int)<(s.length:Int)):=by omega
  have h2:s.drop i=[]:=Nc (by omega);have hc:=jg s [59] (by simp;omega);rw[FL144_0,h2,eL,su];by_cases hk:k=0
  ·have hk':((k:Int)== 0)=true:=by rw[hk];rfl
   have hb:=pJ (-a);have hi:=t72 (IntKind.i64.wrap (-a)) hb.1 hb.2;have hw:IntKind.i64.wrap (0-a)=IntKind.i64.wrap (-a):=by congr 1;omega
   rw[Nn hk];simp only[L144_0,K144_0,jn,aj,ao,gl,ae,nr,h1,Nm,ah,M3,Na,vz,hk',Nj,Cu,hw,hi,ai,hc,Gu,yM]
  ·have hk':((k:Int)== 0)=false:=by rw[Ny];omega
   have hi:=t72 a ha.1 ha.2;rw[M9 hk];simp only[L144_0,K144_0,jn,aj,ao,gl,ae,nr,h1,Nm,ah,M3,Na,vz,hk',hi,ai,hc,Gu,yM]
 | succ n ih=>
  intro i a hn hi ha;have hlt:i<s.length:=by omega
  have h1:((i:Int)<(s.length:Int)):=by omega
  have h2:s.drop i=s[i]:: s.drop (i+1):=Ng hlt;have hix:=Kj hlt;have hw:IntKind.i64.wrap ((i:Int)+1)=((i+1:Nat):Int):=aE (by omega);have l8:∀x y:Int,bo T .lss 5 (.int .u8 x) (.int .u8 y)=some (.bool (decide (x<y))):=fun _ _=>rfl;have g8:∀x y:Int,bo T .gtr 5 (.int .u8 x) (.int .u8 y)=some (.bool (decide (y<x))):=fun _ _=>rfl;have m8:∀x y:Int,bo T .sub 5 (.int .u8 x) (.int .u8 y)=some (.int .u8 (IntKind.u8.wrap (x-y))):=fun _ _=>rfl;have c8:∀x:Int,vp T 5 3 (.int .u8 x)=some (.int .i64 (IntKind.i64.wrap x)):=fun _=>rfl;rw[FL144_0,h2,eL];generalize s[i]=c at hix |-;by_cases hc:c.toNat<48\/57<c.toNat\/20<i
  ·rw[Nn hc,su];have hq:((decide (((c.toNat:Nat):Int)<48)||decide ((57:Int)<((c.toNat:Nat):Int)))||decide ((20:Int)<(i:Int)))=true:=by
    simp only[NU,M8];omega
   simp only[L144_0,aj,ao,gl,ae,nr,h1,Nf,ah,Nj,hix,l8,g8,vQ,aF,ai,aj,cX,hq]
  ·rw[M9 hc];have hq:((decide (((c.toNat:Nat):Int)<48)||decide ((57:Int)<((c.toNat:Nat):Int)))||decide ((20:Int)<(i:Int)))=false:=by
    simp only[Oc,NC];omega
   have e1:IntKind.i64.wrap (IntKind.u8.wrap (((c.toNat:Nat):Int)-48))=((c.toNat:Nat):Int)-48:=by
    rw[IntWalk.u8_in _ (by omega),bE (by omega) (by omega)]
   have ih':=ih (i+1) (IntKind.i64.wrap (IntKind.i64.wrap (10*a)-((c.toNat:Int)-48))) (by omega) (by omega) (pJ _);simp only[L144_0,aj,ao,gl,ae,nr,h1,Nf,ah,Nj,hix,l8,g8,vQ,aF,ai,aj,cX,hq,M3,Na,DJ,m8,c8,e1,fl,ba,hw,ih']
def t144(s:aQ)(hs:s.length<=1000):ab pg 144 [.str s]=am (.tup [.int .i64 (fy s).1,.bool (fy s).2]):=by
 have e:∀k,fO s=k->su (eL 0 k (s.drop k)) k s= .tup [.int .i64 (fy s).1,.bool (fy s).2]:=by
  rintro k rfl;unfold fy;cases eL 0 (fO s) (s.drop (fO s))<;>rfl
 have e8:∀x y:Int,bo T .eql 5 (.int .u8 x) (.int .u8 y)=some (.bool (x== y)):=fun _ _=>rfl;rw[C144];cases s with
 |nil=>
  have hl:=ud [] hs 0 0 0 0 rfl (by simp) (by omega);rw[<- e 0 rfl];simp only[List.drop_nil]at hl |-;simp[S144,K144_1,jn,Hv,gl,vQ];erw[hl];exact GH _ _ _
 | cons c t=>
  have h0:(0:Int)<((c:: t).length:Int):=by simp
  have hix:=Kj (s:=c:: t) (i:=0) (by simp);have hix':bN T 9 (.str (c:: t)) (.int .i64 0)=some (.int .u8 (c.toNat:Nat)):=hix;by_cases hc:c=45
  ·have hq:(((c.toNat:Nat):Int)== 45)=true:=by rw[hc];rfl
   have hl:=ud (c:: t) hs 1 t.length 1 0 (by simp) (by simp) ⟨by omega,by omega⟩;rw[<- e 1 (by unfold fO;simp[hc])];simp only[Int.ofNat_one,OU]at hl;simp only[S144,K144_1,jn,Hv,gl,ae,vQ,h0,Nf,au,hix',e8,hq,ai,aj,ao,aw,ah,Nj];erw[hl];exact GH _ _ _
  ·have hq:(((c.toNat:Nat):Int)== 45)=false:=by
    rw[Ny];intro h;have h':c.toNat=45:=by omega
    exact hc (UInt8.toNat_inj.1 (by rw[h'];rfl))
   have hl:=ud (c:: t) hs 0 (c:: t).length 0 0 (by simp) (by simp) (by omega);rw[<- e 0 (by unfold fO;simp[hc])];simp only[Int.ofNat_one,OU]at hl;simp only[S144,K144_1,jn,Hv,gl,ae,vQ,h0,Nf,au,hix',e8,hq,ai,aj,ao,aw,ah,M3,Na];erw[hl];exact GH _ _ _
def fH(r:Rs)(e:UInt8)(k:Nat):Int×Rs:=
 if r.1[k]? = some e then(if(fy (r.1.take k)).2=true then((fy (r.1.take k)).1,(r.1.drop (k+1),r.2))else(0,ep))else(0,ep)
theorem Bc(l:Nat):aB T 102 (.hp l 0) 0=some (.hp l 0):=rfl
theorem KW(l:Nat):aB T 102 (.hp l 0) 1=some (.hp l 1):=rfl
def t77{h:Hp}{l:Nat}{r:Rs}(H:jk h l r):ab pg 77 [.hp l 0] h= .ok (.int .i64 0) (dh h l ep):=by
 rw[C77];simp only[S77,kw,ae,Bc,KW,H.st0,(H.put _).st1,bA];rfl
theorem Kp(x y:UInt8):bo T .neq 5 (.int .u8 (x.toNat:Nat)) (.int .u8 (y.toNat:Nat))=some (.bool !(x== y)):=by
 have e:bo T .neq 5 (.int .u8 (x.toNat:Nat)) (.int .u8 (y.toNat:Nat))=some (.bool (((x.toNat:Nat):Int) != ((y.toNat:Nat):Int))):=rfl;rw[e];congr 2;by_cases hx:x=y
 ·simp[hx]
 ·have h2:¬x.toNat=y.toNat:=fun h=>hx (UInt8.toNat_inj.1 h);have h3:(x== y)=false:=by simpa using hx
  rw[h3];simp only[Nw,OR];omega
def xC{h:Hp}{l:Nat}{r:Rs}(H:jk h l r)(hb:r.1.length<=1000000000)(e:UInt8)(k:Nat)(hk:k<=21)(hkl:k<=r.1.length)(hs:r.1.length<=k\/21<=k\/r.1[k]? = some e):
  ak (L111_0 (ab pg) ak) [.hp l 0,.int .u8 (e.toNat:Nat),.int .i64 (k:Int)] h= .ok (.int .i64 (fH r e k).1) (dh h l (fH r e k).2):=by
 have hf:=t77 H;rw[FL111_0];unfold fH;by_cases hlen:(k:Int)<(r.1.length:Int)
 ·have hlt:k<r.1.length:=by omega
  have hge:¬((r.1.length:Int)<=(k:Int)):=by omega
  have hix:=Kj hlt;have hg:r.1[k]? = some r.1[k]:=Ns hlt;have hcond:(decide ((k:Int)<21)&&!(r.1[k]== e))=false:=by
   rw[Oo];rcases hs with hs|hs|hs
   ·omega
   ·exact .inl (by rw[NC];omega)
   ·rw[hg]at hs;exact .inr (by simpa using Of hs)
  have hB:=t144 (r.1.take k) (by rw[N8];omega);have hs2:=lW r.1 (n:=(k:Int)) (by omega) (by omega);have hs3:=lX r.1 (n:=(k:Int)+1) (by omega) (by omega);have hw:IntKind.i64.wrap ((k:Int)+1)=(k:Int)+1:=bE (by omega) (by omega);rw[Nb]at hs2;rw[show ((k:Int)+1).toNat=k+1 by omega]at hs3;have hn:∀b:Bool,E1 .not (.bool b)=some (.bool !b):=fun _=>rfl;rw[hg];generalize r.1[k]=c at *;have hst:∀(f:AV->M AV),ap (da T 9 (.hp l 0) (.str (r.1.drop (k+1)))) f h=f (.tup []) (dh h l (r.1.drop (k+1),r.2)):=fun f=>H.st0 _ f;by_cases hce:(c== e)=true
  ·have hce':c=e:=by simpa using hce
   rw[Nn (by rw[hce'])];cases hbv:(fy (r.1.take k)).2 with
   |true=>
    rw[hbv]at hB;rw[Nn rfl];by_cases h21:(k:Int)<21 <;>
    simp only[L111_0,aj,ao,kw,ae,Bc,H.ld0,gl,nr,hlen,h21,Nf,Nm,au,bn,ai,aw,aC,bK,hix,Kp,hce,Nv,Nw,Ak,hge,ah,M3,Na,hs2,hB,cR,ND,NX,hn,ba,hw,hs3,hst]<;>rfl
   |false=>
    rw[hbv]at hB;rw[M9 (by decide)];by_cases h21:(k:Int)<21 <;>
    simp only[L111_0,aj,ao,kw,ae,Bc,H.ld0,gl,nr,hlen,h21,Nf,Nm,au,bn,ai,aw,aC,bK,hix,Kp,hce,Nv,Nw,Ak,hge,ah,M3,Na,Nj,hs2,hB,cR,ND,NX,hn,az hf]<;>rfl
  ·have hce':¬c=e:=by simpa using hce
   rw[OG]at hce;have h21:¬(k:Int)<21:=by
    intro h21;rw[hce]at hcond;simp[h21]at hcond
   rw[M9 (by simpa using hce')];simp only[L111_0,aj,ao,kw,ae,Bc,H.ld0,gl,nr,hlen,h21,Nf,Nm,au,bn,ai,aw,aC,bK,hix,Kp,hce,Nv,Nw,Ak,hge,ah,M3,Na,Nj,az hf];rfl
 ·have hge:((r.1.length:Int)<=(k:Int)):=by omega
  have hg:r.1[k]? = none:=Oq (by omega);rw[hg,M9 (by simp)];simp only[L111_0,aj,ao,kw,ae,Bc,H.ld0,gl,nr,hlen,Nf,Nm,bn,ai,aw,aC,bK,Ak,hge,ah,M3,Na,Nj,az hf];rfl
theorem zg{h:Hp}{l:Nat}{r:Rs}(H:jk h l r)(hb:r.1.length<=1000000000)(e:UInt8):∀(n k:Nat),21-k=n->k<=21->k<=r.1.length->
  ak (L111_0 (ab pg) ak) [.hp l 0,.int .u8 (e.toNat:Nat),.int .i64 (k:Int)] h= .ok (.int .i64 (fH r e (k+cd e n (r.1.drop k))).1) (dh h l (fH r e (k+cd e n (r.1.drop k))).2)
 |0,k,hn,hk,hl=>xC H hb e k hk hl (by omega)
 | n+1,k,hn,hk,hl=>by
  rcases NE k r.1.length with hlt|hge
  ·have h2:r.1.drop k=r.1[k]:: r.1.drop (k+1):=Ng hlt;rw[h2,cd];by_cases hc:r.1[k]=e
   ·rw[Nn hc];exact xC H hb e k hk hl (.inr (.inr (by rw[Ns hlt,hc])))
   ·rw[M9 hc];have ih:=zg H hb e n (k+1) (by omega) (by omega) (by omega);rw[show k+(cd e n (r.1.drop (k+1))+1)=k+1+cd e n (r.1.drop (k+1)) by omega,<- ih,FL111_0];have hlen:(k:Int)<(r.1.length:Int):=by omega
    have h21:(k:Int)<21:=by omega
    have hix:=Kj hlt;have hce:(r.1[k]== e)=false:=by simpa using hc
    have hw:IntKind.i64.wrap ((k:Int)+1)=((k+1:Nat):Int):=aE (by omega);generalize r.1[k]=c at *;simp only[L111_0,aj,ao,kw,ae,Bc,H.ld0,gl,nr,hlen,h21,Nf,au,ai,aw,bK,hix,Kp,hce,Nw,ah,Nj,ba,hw]
  ·have h2:r.1.drop k=[]:=Nc hge;rw[h2,cd];exact xC H hb e k hk hl (.inl hge)
def t76{h:Hp}{l:Nat}{r:Rs}(H:jk h l r)(hb:r.1.length<=1000000000)(e:UInt8):ab pg 76 [.hp l 0,.int .u8 (e.toNat:Nat)] h= .ok (.int .i64 (aN e r).1) (dh h l (aN e r).2):=by
 have hl:=zg H hb e 21 0 rfl (by omega) (by omega);rw[NB,Nk]at hl;have ha:ab pg 111 [.hp l 0,.int .u8 (e.toNat:Nat)] h= .ok (.int .i64 (fH r e (cd e 21 r.1)).1) (dh h l (fH r e (cd e 21 r.1)).2):=by
  rw[C111];exact hl
 have H1:=H.put (fH r e (cd e 21 r.1)).2;have hf:=t77 H1;rw[bA]at hf;rw[C76,<- EG];have e1:EF e r=if(fH r e (cd e 21 r.1)).1<0 then(0,ep)else fH r e (cd e 21 r.1):=by
  unfold EF fH;by_cases h1:r.1[cd e 21 r.1]? = some e
  ·rw[Nn h1,Nn h1];cases h2:(fy (r.1.take (cd e 21 r.1))).2 with
   |true=>
    simp only[Nj,Pw];by_cases h3:0<=(fy (r.1.take (cd e 21 r.1))).1
    ·rw[Nn h3,M9 (by omega)]
    ·rw[M9 h3,Nn (by omega)]
   |false=>simp
  ·rw[M9 h1,M9 h1];simp
 rw[e1];simp only[S76,az ha,nr,ae,ah];by_cases h0:(fH r e (cd e 21 r.1)).1<0
 ·simp only[h0,Nf,Nj,az hf];rfl
 ·simp only[h0,Nm,M3,Na];rfl
def t43{h:Hp}{l:Nat}{r:Rs}(H:jk h l r)(hb:r.1.length<=1000000000):ab pg 43 [.hp l 0] h= .ok (.int .i64 (aN 59 r).1) (dh h l (aN 59 r).2):=by
 have hn:=t76 H hb 59;rw[C43];have hn':ab pg 76 [.hp l 0,.int .u8 59] h= .ok (.int .i64 (aN 59 r).1) (dh h l (aN 59 r).2):=hn;simp only[S43,az hn'];rfl
def t44{h:Hp}{l:Nat}{r:Rs}(H:jk h l r):ab pg 44 [.hp l 0] h= .ok (.int .i64 r.1.length) h:=by
 rw[C44];simp only[S44,kw,ae,Bc,H.ld0,gl];rfl
def B9(s:aQ):Bool:=match s with
 |c:: _=>c== 44
 |[]=>false
def t78{h:Hp}{l:Nat}{r:Rs}(H:jk h l r):ab pg 78 [.hp l 0,.int .u8 44] h= .ok (.bool (B9 r.1)) (dh h l (ga r)):=by
 have hf:=t77 H;rw[C78];obtain⟨s,b⟩:=r;unfold ga B9;cases s with
 |nil=>
  simp only[S78,kw,ae,Bc,H.ld0,gl,vz,Nu,OU,OO,ah,Nj,az hf];rfl
 | cons c s=>
  have hz:(((c:: s).length:Int)== 0)=false:=by rw[Ny];simp;omega
  have hix:=Kj (s:=c:: s) (i:=0) (by simp);have hix':bN T 9 (.str (c:: s)) (.int .i64 0)=some (.int .u8 (c.toNat:Nat)):=hix;have hn:=Kp c 44;have hn':bo T .neq 5 (.int .u8 (c.toNat:Nat)) (.int .u8 44)=some (.bool !(c== 44)):=hn;have hs:=lX (c:: s) (n:=1) (by omega) (by simp;omega);have hs':dl T 9 (.str (c:: s)) (some (.int .i64 1)) none none=some (.str s):=hs;have hst:∀(f:AV->M AV),ap (da T 9 (.hp l 0) (.str s)) f h=f (.tup []) (dh h l (s,b)):=fun f=>H.st0 _ f;have h0:∀f:AV->M AV,ap (eI T 9 (.hp l 0)) f h=f (.str (c:: s)) h:=fun f=>H.ld0 f;by_cases hc:c=44
  ·subst hc;simp only[S78,kw,ae,Bc,h0,gl,vz,hz,ah,M3,Na,hix',hn',OO,Nv,hs',hst,Nj];rfl
  ·have hc':(c== 44)=false:=by simpa using hc
   show S78 (ab pg) ak (.hp l 0) (.int .u8 44) h=R.ok (.bool (c== 44)) (dh h l (if c=44 then(s,b)else ep));rw[M9 hc];simp only[S78,kw,ae,Bc,h0,gl,vz,hz,ah,M3,Na,hix',hn',hc',Nw,Nj,az hf];rfl
def t42{h:Hp}{l:Nat}{r:Rs}(H:jk h l r)(hb:r.1.length<=1000000000)(hi:jE r):ab pg 42 [.hp l 0] h= .ok (.str (bb r).1) (dh h l (bb r).2):=by
 have hn:=t76 H hb 58;have hn':ab pg 76 [.hp l 0,.int .u8 58] h= .ok (.int .i64 (aN 58 r).1) (dh h l (aN 58 r).2):=hn;have hge:=pD 58 r;have hi':=fI 58 hi;have hlen:=bS 58 r;rw[C42,rB];generalize aN 58 r=x at *;obtain⟨n,q⟩:=x;have H1:=H.put q;have hf:=t77 H1;rw[bA]at hf;have ld1:∀f:AV->M AV,ap (eI T 4 (.hp l 1)) f (dh h l q)=f (.bool q.2) (dh h l q):=fun f=>H1.ld1 f;have hor:∀b:Bool,ia (.bool q.2) (.bool true) (gv q.2 false (.bool b))=some (.bool (q.2||b)):=fun b=>cX _ _;simp only at hge hi' hlen |-;by_cases hq:q.2=true\/(q.1.length:Int)<=n
 ·-- it fails
  have hres:(if n>(q.1.length:Int)then(([],ep):aQ×Rs)else(if(ga (q.1.drop n.toNat,q.2)).2=true then[]else q.1.take n.toNat,ga (q.1.drop n.toNat,q.2)))=([],ep):=by
   by_cases h1:n>(q.1.length:Int)
   ·rw[Nn h1]
   ·rw[M9 h1];have hd:q.1.drop n.toNat=[]:=by
     rcases hq with hq|hq
     ·rw[hi' hq];simp
     ·exact Nc (by omega)
    rw[hd];rfl
  rw[hres];cases hq2:q.2 with
  |true=>
   rw[hq2]at ld1;simp only[S42,az hn',kw,ae,KW,ld1,dF,ai,aw,ah,Nj,az hf];rfl
  |false=>
   rw[hq2]at ld1
   have h2 : (q.1.length : Int) ≤ n := by rcases hq with hq|hq;· rw[hq2]at hq;cases hq
                                          ·exact hq
   simp only[S42,az hn',kw,ae,Bc,KW,ld1,H1.ld0,gl,Ak,h2,Nf,au,ai,aj,aC,bK,ah,Nj,az hf];rfl
 ·have hq2:q.2=false:=by cases h2:q.2 with
   |true=>exact absurd (.inl h2) hq
   |false=>rfl
  have h2:¬(q.1.length:Int)<=n:=fun h=>hq (.inr h);have h3:¬n>(q.1.length:Int):=by omega
  rw[hq2]at ld1;have s1:=lW q.1 (n:=n) hge (by omega);have s2:=lX q.1 (n:=n) hge (by omega);have H2:=H1.put (q.1.drop n.toNat,q.2);have hc:=t78 H2;rw[bA,bA]at hc;have hst:∀(f:AV->M AV),ap (da T 9 (.hp l 0) (.str (q.1.drop n.toNat))) f (dh h l q)=f (.tup []) (dh h l (q.1.drop n.toNat,q.2)):=fun f=>by rw[H1.st0,bA]
  have hn:∀b:Bool,E1 .not (.bool b)=some (.bool !b):=fun _=>rfl;rw[M9 h3];have hcl:(ga (q.1.drop n.toNat,q.2)).2= !(B9 (q.1.drop n.toNat)):=by
   unfold ga B9;cases q.1.drop n.toNat with
   |nil=>rfl
   |cons c s=>
    by_cases hc:c=44
    ·simp[hc,hq2]
    ·simp[hc,ep]
  rw[hcl];simp only at hc;simp only[S42,az hn',kw,ae,Bc,KW,ld1,H1.ld0,gl,Ak,h2,Nm,au,ai,aj,aC,bK,ah,M3,Na,s1,s2,hst];rw[az hc];simp only[hn,ae,ah];cases B9 (q.1.drop n.toNat)<;>rfl
def ez(e:Exp)(n s m q:Bool):Bool:=(n||e.n== 0)&&(s||e.s== [])&&(m||e.m== [])&&(q||(e.names.length:Int)== 0)
def t171(e:Exp)(n s m q:Bool):ab pg 171 [e.av,.bool n,.bool s,.bool m,.bool q]=am (.bool (ez e n s m q)):=by
 have s1:∀x:aQ,bo T .eql 9 (.str x) (.str [])=some (.bool (x== [])):=fun _=>rfl;have cb:∀b:Bool,cl aA (.bool b)= .bool b:=fun _=>rfl;have q1:∀b,ia (.bool true) (.bool b) (.bool false)=some (.bool b):=fun _=>rfl;rw[C171];unfold ez;simp only[S171,nU,cb,gu,FA56_1,FA56_2,FA56_3,FA56_4,ae,NH,Nk,LD3,LD9,LD22,gp,dN,s1];generalize (e.n== 0)=a;generalize (e.s== [])=b;generalize (e.m== [])=c;generalize ((e.names.length:Int)== 0)=d;cases n<;>cases a<;>cases s<;>cases b<;>cases m<;>cases c<;>cases q<;>cases d<;>rfl
def iw(e:Exp):Bool:=
 if e.op=0 then ez e true false false false&&((e.args.length:Int)== 0)&&(decide (0<=e.n)&&decide (e.n<=1099511627776))
 else if e.op=1 then ez e true false false false&&((e.args.length:Int)== 0)&&(decide (0<=e.n)&&decide (e.n<=1))
 else if e.op=2\/e.op=17 then ez e false true false false&&((e.args.length:Int)== 0)&&bg e.s
 else if e.op=14\/e.op=18 then ez e false true false false&&((e.args.length:Int)== 1)&&bg e.s
 else if e.op=12 then ez e false true false false&&((e.args.length:Int)== 2)&&bg e.s
 else if e.op=10 then ez e false false false false&&((e.args.length:Int)== 1)
 else if e.op=11 then ez e false false false false&&((e.args.length:Int)== 3)
 else if e.op=13 then ez e false false false true&&((e.args.length:Int)== (e.names.length:Int))&&decide ((e.args.length:Int)<=8)&&pW e.names
 else if e.op=15 then ez e false true true false&&decide ((e.args.length:Int)<=6)&&bg e.s&&(e.m== []||bg e.m)
 else if e.op=16 then ez e true false false false&&((e.args.length:Int)== 1)&&(((e.n== 1||e.n== 2)||e.n== 4)||e.n== 8)
 else if e.op=3\/e.op=4\/e.op=5\/e.op=6\/e.op=7\/e.op=8\/e.op=9 then ez e false false false false&&((e.args.length:Int)== 2)
 else false
theorem Kb(y:AV):gv true true y=y:=rfl
theorem Ka(y:AV):gv false true y= .tup []:=rfl
def t153(e:Exp):ab pg 153 [e.av]=am (.bool (iw e)):=by
 have hp:=t171 e;have hn:=t53 e.s;have hm:=t53 e.m;have hin:∀a b c:Int,ab pg 98 [.int .i64 a,.int .i64 b,.int .i64 c]=am (.bool (decide (b<=a)&&decide (a<=c))):=t98;have s1:∀x:aQ,bo T .eql 9 (.str x) (.str [])=some (.bool (x== [])):=fun _=>rfl;have hl:∀e:Exp,aX T 56 (.ip (af e.av))=some e.av:=fun e=>by simp
 have f0:∀cs:List AV,aB T 56 (.ip cs) 0=some (.ip (cs.drop 0)):=fun _=>rfl;have l0:∀e:Exp,aX T 3 (.ip ((af e.av).drop 0))=some (.int .i64 e.op):=fun e=>by simp
 have l1:∀e:Exp,aX T 3 (.ip ((af e.av).drop 1))=some (.int .i64 e.n):=fun e=>by simp
 have l2:∀e:Exp,aX T 9 (.ip ((af e.av).drop 2))=some (.str e.s):=fun e=>by simp
 have l3:∀e:Exp,aX T 9 (.ip ((af e.av).drop 3))=some (.str e.m):=fun e=>by simp
 have l4:∀e:Exp,aX T 22 (.ip ((af e.av).drop 4))=some (strs e.names):=fun e=>by simp
 have l5:∀e:Exp,aX T 24 (.ip ((af e.av).drop 5))=some (dC e.args):=fun e=>by simp
 rw[C153,nU];have run:S153 (ab pg) ak e.av=am (.bool (iw e)):=by
  have ho:e.op=0\/e.op=1\/e.op=2\/e.op=17\/e.op=14\/e.op=18\/e.op=12\/e.op=10\/e.op=11\/e.op=3\/e.op=4\/e.op=5\/e.op=6\/e.op=7\/e.op=8\/e.op=9\/e.op=13\/e.op=15\/e.op=16\/(e.op≠0/\e.op≠1/\e.op≠2/\e.op≠17/\e.op≠14/\e.op≠18/\e.op≠12/\e.op≠10/\e.op≠11/\e.op≠3/\e.op≠4/\e.op≠5/\e.op≠6/\e.op≠7/\e.op≠8/\e.op≠9/\e.op≠13/\e.op≠15/\e.op≠16):=by omega
  rcases ho with h|h|h|h|h|h|h|h|h|h|h|h|h|h|h|h|h|h|h|h
  case inr.inr.inr.inr.inr.inr.inr.inr.inr.inr.inr.inr.inr.inr.inr.inr.inl=>
   -- records
   have e2:iw e=(ez e false false false true&&((e.args.length:Int)== (e.names.length:Int))&&decide ((e.args.length:Int)<=8)&&pW e.names):=by simp[iw,h]
   rw[e2];cases hg:(ez e false false false true&&((e.args.length:Int)== (e.names.length:Int))&&decide ((e.args.length:Int)<=8))with
   | true=>
    have ha:e.names.length<=8:=by
     simp only[M5,NW,M8]at hg;omega
    have hasc:=t121 e.names ha;simp only[S153,K153_0,K153_1,K153_2,jn,aj,ao,hl,FA56_0,FA56_1,FA56_2,FA56_3,FA56_4,FA56_5,l0,l1,l2,l3,l4,l5,ae,fc,gp,dN,bY,h,Int.reduceBEq,ah,M3,Na,Nj,hp,ai,aF,bJ,hg,au,hasc,aw,Nx]
   |false=>
    simp only[S153,K153_0,K153_1,K153_2,jn,aj,ao,hl,FA56_0,FA56_1,FA56_2,FA56_3,FA56_4,FA56_5,l0,l1,l2,l3,l4,l5,ae,fc,gp,dN,bY,h,Int.reduceBEq,ah,M3,Na,Nj,hp,ai,aF,bJ,hg,bn,aC,NG]
  case inr.inr.inr.inr.inr.inr.inr.inr.inr.inr.inr.inr.inr.inr.inr.inr.inr.inl=>
   -- calls
   have e2:iw e=(ez e false true true false&&decide ((e.args.length:Int)<=6)&&bg e.s&&(e.m== []||bg e.m)):=by simp[iw,h]
   rw[e2];have q1:∀a b:Bool,ia (.bool a) (.bool true) (gv a false (.bool b))=some (.bool (a||b)):=fun a b=>cX a b;cases hg:(ez e false true true false&&decide ((e.args.length:Int)<=6)&&bg e.s)with
   |true=>
    simp only[S153,K153_0,K153_1,K153_2,jn,aj,ao,hl,FA56_0,FA56_1,FA56_2,FA56_3,FA56_4,FA56_5,l0,l1,l2,l3,l4,l5,ae,fc,gp,dN,bY,h,Int.reduceBEq,ah,M3,Na,Nj,hp,hn,hm,s1,ai,aF,bJ,hg,Kb,au,aw,cX,Nx]
   |false=>
    simp only[S153,K153_0,K153_1,K153_2,jn,aj,ao,hl,FA56_0,FA56_1,FA56_2,FA56_3,FA56_4,FA56_5,l0,l1,l2,l3,l4,l5,ae,fc,gp,dN,bY,h,Int.reduceBEq,ah,M3,Na,Nj,hp,hn,hm,s1,ai,aF,bJ,hg,Ka,bn,qB,aC,NG,List.replicate]
  case inr.inr.inr.inr.inr.inr.inr.inr.inr.inr.inr.inr.inr.inr.inr.inr.inr.inr.inl=>
   -- deeds
   have e2:iw e=(ez e true false false false&&((e.args.length:Int)== 1)&&(((e.n== 1||e.n== 2)||e.n== 4)||e.n== 8)):=by simp[iw,h]
   rw[e2];cases hg:(ez e true false false false&&((e.args.length:Int)== 1))with
   |true=>
    simp only[S153,K153_0,K153_1,K153_2,jn,aj,ao,hl,FA56_0,FA56_1,FA56_2,FA56_3,FA56_4,FA56_5,l0,l1,l2,l3,l4,l5,ae,fc,gp,dN,bY,h,Int.reduceBEq,ah,M3,Na,Nj,hp,hn,hm,s1,ai,aF,bJ,hg,Kb,au,aw,cX,Nx]
   |false=>
    simp only[S153,K153_0,K153_1,K153_2,jn,aj,ao,hl,FA56_0,FA56_1,FA56_2,FA56_3,FA56_4,FA56_5,l0,l1,l2,l3,l4,l5,ae,fc,gp,dN,bY,h,Int.reduceBEq,ah,M3,Na,Nj,hp,hn,hm,s1,ai,aF,bJ,hg,Ka,bn,qB,aC,NG,List.replicate]
  case inr.inr.inr.inr.inr.inr.inr.inr.inr.inr.inr.inr.inr.inr.inr.inr.inr.inr.inr=>
   obtain⟨h0,h1,h2,h3,h4,h5,h6,h7,h8,h9,h10,h11,h12,h13,h14,h15,h16,h17,h18⟩:=h;have hz:∀ {a b:Int},a≠b->(a== b)=false:=fun h=>by simpa using h
   have e2:iw e=false:=by simp[iw,h0,h1,h2,h3,h4,h5,h6,h7,h8,h9,h10,h11,h12,h13,h14,h15,h16,h17,h18]
   rw[e2];simp only[S153,K153_0,K153_1,K153_2,jn,aj,ao,hl,FA56_0,FA56_5,l0,l5,ae,fc,dN,hz h0,hz h1,hz h2,hz h3,hz h4,hz h5,hz h6,hz h7,hz h8,hz h9,hz h10,hz h11,hz h12,hz h13,hz h14,hz h15,hz h16,hz h17,hz h18,ah,M3,Na]
  all_goals
   simp only[S153,K153_0,K153_1,K153_2,jn,aj,ao,hl,FA56_0,FA56_1,FA56_2,FA56_3,FA56_4,FA56_5,l0,l1,l2,l3,l4,l5,ae,fc,gp,dN,bY,h,Int.reduceBEq,ah,M3,Na,Nj,hp,hn,hm,hin,s1,ai,aF,bJ];simp[iw,h]
 rw[run];exact i6 _
def Bm(l:List aQ):pW l=(l.all bg&&gz dp l):=by
 have h:=pX (l.map fun s=>(s,Ty.mk 0 []));have e:(l.map fun s=>((s,Ty.mk 0 []):cO)).map (·.1)=l:=by rw[O1];exact List.map_id' l
 have q:∀l:List aQ,gz (fun a b:cO=>dp a.1 b.1) (l.map fun s=>(s,Ty.mk 0 []))=gz dp l:=by
  intro l
  induction l with
  |nil=>rfl
  |cons x l ih=>
   cases l with
   |nil=>rfl
   |cons y l=>simp only[NL,gz]at ih |-;rw[ih]
 rw[e,q]at h;rw[h];congr 1;rw[List.all_map];rfl
def xP(e:Exp):iw e=oC e:=by
 have hnb:∀l:List aQ,uj l=(pW l&&decide (l.length<=8)):=fun l=>by unfold uj;rw[Bm]
 by_cases h:e.op<0\/19<=e.op
 ·unfold iw oC;have n0:¬e.op=0:=by omega
  have n1:¬e.op=1:=by omega
  have n2:¬e.op=2:=by omega
  have n17:¬e.op=17:=by omega
  have n14:¬e.op=14:=by omega
  have n18:¬e.op=18:=by omega
  have n12:¬e.op=12:=by omega
  have n10:¬e.op=10:=by omega
  have n11:¬e.op=11:=by omega
  have n13:¬e.op=13:=by omega
  have n15:¬e.op=15:=by omega
  have n16:¬e.op=16:=by omega
  have n3:¬e.op=3:=by omega
  have n4:¬e.op=4:=by omega
  have n5:¬e.op=5:=by omega
  have n6:¬e.op=6:=by omega
  have n7:¬e.op=7:=by omega
  have n8:¬e.op=8:=by omega
  have n9:¬e.op=9:=by omega
  simp only[n0,n1,n2,n17,n14,n18,n12,n10,n11,n13,n15,n16,n3,n4,n5,n6,n7,n8,n9,or_self,Na];rcases h with h|h
  ·have hz:decide (0<=e.op)=false:=by rw[NC];omega
   simp only[hz,NG]
  ·have hz:decide (e.op<19)=false:=by rw[NC];omega
   simp only[hz,NG,Oe]
 obtain⟨o,n,s,m,ns,es⟩:=e;unfold iw oC ez;simp only[Exp.op,Exp.n,Exp.s,Exp.m,Exp.names,Exp.args];have ho:o=0\/o=1\/o=2\/o=17\/o=14\/o=18\/o=12\/o=10\/o=11\/o=3\/o=4\/o=5\/o=6\/o=7\/o=8\/o=9\/o=13\/o=15\/o=16:=by
  simp only[Exp.op]at h;omega
 have z1:∀l:List Exp,((0:Int)=(l.length:Int))=(l=[]):=fun l=>by rw[<- Om];exact propext ⟨fun h=>by omega,fun h=>by omega⟩
 have z2:∀l:List aQ,((0:Int)=(l.length:Int))=(l=[]):=fun l=>by rw[<- Om];exact propext ⟨fun h=>by omega,fun h=>by omega⟩
 rcases ho with rfl|rfl|rfl|rfl|rfl|rfl|rfl|rfl|rfl|rfl|rfl|rfl|rfl|rfl|rfl|rfl|rfl|rfl|rfl
 all_goals
  rw[N1];simp[gC,gm,hnb,Exp.op,Exp.n,Exp.s,Exp.m,Exp.names,Exp.args]
 all_goals try simp only[z1,z2,M8]
 all_goals grind
def Et(d:Nat)(hd:d<100)(e:Exp)(he:e.Lim)(ih:∀x∈e.args,ab pg 134 [x.av,.int .i64 (d:Int)]=am (.bool (d9 d x))):∀(n i:Nat),e.args.length-i=n->i<=e.args.length->
  ak (L134_0 (ab pg) ak) [.int .i64 ((d+1:Nat):Int),.ip (af e.av),.int .i64 (i:Int)]=am (.bool ((e.args.drop i).all (d9 d))):=by
 have hlen:=he.len;have l5:aX T 24 (.ip ((af e.av).drop 5))=some (dC e.args):=by simp
 intro n
 induction n with
 |zero=>
  intro i hn hi;have h1:¬((i:Int)<(e.args.length:Int)):=by omega
  have h2:e.args.drop i=[]:=Nc (by omega);rw[FL134_0,h2];simp only[L134_0,aj,ao,FA56_5,l5,ae,fc,ax,h1,Nm,ah,M3,Na,Pj]
 |succ n ihn=>
  intro i hn hi;have hlt:i<e.args.length:=by omega
  have h1:((i:Int)<(e.args.length:Int)):=by omega
  have h2:e.args.drop i=e.args[i]:: e.args.drop (i+1):=Ng hlt;have hix:=zI (l:=e.args) (n:=(i:Int)) (by omega) h1;rw[Nb,Nt e.args i hlt]at hix;have hx:=ih e.args[i] (Ni hlt);have hw:IntKind.i64.wrap ((i:Int)+1)=((i+1:Nat):Int):=aE (by omega);have hw2:IntKind.i64.wrap (((d+1:Nat):Int)-1)=(d:Int):=eS (by omega);have ih':=ihn (i+1) (by omega) (by omega);have hl:∀e:Exp,aX T 56 (.ip (af e.av))=some e.av:=fun e=>by simp
  rw[FL134_0,h2,N0];generalize e.args[i]=x at *;cases hb:d9 d x<;>rw[hb]at hx <;>
  simp only[L134_0,aj,ao,FA56_5,l5,ae,fc,ax,h1,Nf,ah,M3,Na,Nj,hix,hl,fl,hw2,hx,ai,bp,Nv,Nw,ba,hw,ih',Nx,NG]
theorem t134:∀(d:Nat),d<100->∀(e:Exp),e.Lim->ab pg 134 [e.av,.int .i64 (d:Int)]=am (.bool (d9 d e))
 |0,_,e,he=>by
  have hl:∀e:Exp,aX T 56 (.ip (af e.av))=some e.av:=fun e=>by simp
  rw[C134,nU];simp only[S134,nV,dN,OU,OO,ae,dF,ai,aw,ah,Nj];exact i6 _
 | d+1,hd,e,he=>by
  have hl:∀e:Exp,aX T 56 (.ip (af e.av))=some e.av:=fun e=>by simp
  have hz:(((d+1:Nat):Int)== 0)=false:=by rw[Ny];omega
  have hf:=t153 e;have hloop:=Et d (by omega) e he (fun x hx=>t134 d (by omega) x (he.kid hx)) e.args.length 0 rfl (by omega);rw[Nk]at hloop;have hloop':ak (L134_0 (ab pg) ak) [.int .i64 ((d+1:Nat):Int),.ip (af e.av),.int .i64 0]=am (.bool (e.args.all (d9 d))):=hloop;rw[C134,nU,pf,<- xP];have run:S134 (ab pg) ak e.av (cl aA (.int .i64 ((d+1:Nat):Int)))=am (.bool (iw e&&e.args.all (d9 d))):=by
   cases hb:iw e<;>rw[hb]at hf <;>
   simp only[S134,nV,dN,hz,ae,au,hl,hf,ai,bp,Nv,Nw,aj,aC,ah,M3,Na,Nj,hloop',Nx,NG]
  rw[run];exact i6 _
def t99(e:Exp)(he:e.Lim):ab pg 99 [e.av]=am (.bool (lU e)):=by
 have hl:∀e:Exp,aX T 56 (.ip (af e.av))=some e.av:=fun e=>by simp
 have hf:=t134 12 (by omega) e he;have hf':ab pg 134 [e.av,.int .i64 12]=am (.bool (lU e)):=hf;rw[C99,nU];simp only[S99,hl,ae,hf',ai];exact i6 _
def setRow(ns:List aQ):List AV:=ns.map fun s=>.tup [.str s,.bool true]
theorem Gv(a b:aQ):Bb T 20 9 (.str a) (.str b)=some (a== b):=rfl
theorem oc(s:aQ):(ns:List aQ)->(i:Nat)->(ns.contains s=false/\iX T 9 (.str s) (setRow ns) i=some none)\/(ns.contains s=true/\∃(j:Nat)(k:AV),iX T 9 (.str s) (setRow ns) i=some (some (j,k,.bool true)))
 |[],i=>.inl ⟨rfl,rfl⟩
 | x:: ns,i=>by
  show (_/\iX T 9 (.str s) (.tup [.str x,.bool true]:: setRow ns) i=_)\/(_/\∃(j:Nat)(k:AV),iX T 9 (.str s) (.tup [.str x,.bool true]:: setRow ns) i=_);unfold iX;rw[Gv,List.contains_cons];cases h:s== x with
  |true=>grind
  |false=>
   rcases oc s ns (i+1)with⟨h1,h2⟩|⟨h1,j,k,h2⟩
   all_goals grind
theorem qO{h:Hp}{l:Nat}{ns:List aQ}(hl:h[l]? = some [.tup (setRow ns)])(s:aQ):jU T 111 (.mp l) (.str s) false h= .ok (.bool (ns.contains s)) h:=by
 have e:ta T 111 (setRow ns) (.str s) false=(match iX T 9 (.str s) (setRow ns) 0 with
   |some (some (_,_,v))=>some v
   |some none=>some (.bool false)
   |none=>none):=rfl
 grind [jU,oP,oc]
theorem uo{h:Hp}{l:Nat}{ns:List aQ}(hl:h[l]? = some [.tup (setRow ns)])(s:aQ)(hs:ns.contains s=false):rY T 111 (.mp l) (.str s) (.bool true) h= .ok (.tup []) (h.set l [.tup (setRow (ns++[s]))]):=by
 have e:rY T 111 (.mp l) (.str s) (.bool true) h=(match h[l]? with
   |some [.tup es]=>(match AL T 9 es (.str s) (.bool true)with
    |some es'=>.ok (.tup []) (h.set l [.tup es'])
    |none=>.fail)
   |_=>.fail):=rfl
 grind [AL,oc,setRow]
theorem dc{α β:Type}{m:M α}{a:α}{h h':Hp}(e:m h= .ok a h')(f:α->M β):ap m f h=f a h':=by simp only[ap,e]
def Hu(x:cO):(af (bm x)).length=3:=by simp
def JM(x:Ty):(af x.av).length=2:=by simp
def qv(l:List cO):aO l= .sl (l.map bm):=by rw[aO,de]
def LJ(t:Ty)(h:kN 6 t):ab pg 49 [t.av]=am t.av:=by
 have e0:ab pg 49 [t.av]=lI (ab pg) [t.av]:=cE hOther rfl _;rw[e0];simp only[lI,Dj 6 t h,M6];rfl
def t49(t:Ty)(h:bu t=true):ab pg 49 [t.av]=am t.av:=
 LJ t (ye 5 t (ye 4 t (tb 4 t h)))
theorem qC{α:Type}(F:α->Bool):(l:List α)->(i:Int)->(l.find? F=none/\cV F l i= -1)\/∃(k:Nat)(x:α),l.find? F=some x/\l[k]? = some x/\cV F l i=i+k
 |[],i=>.inl ⟨rfl,rfl⟩
 | x:: l,i=>by
  cases h:F x with
  |true=>exact .inr ⟨0,x,by simp[h],rfl,by simp[cV,h]⟩
  |false=>
   rcases qC F l (i+1)with⟨h1,h2⟩|⟨k,y,h1,h2,h3⟩
   ·exact .inl ⟨by simp[h,h1],by simp[cV,h,h2]⟩
   ·exact .inr ⟨k+1,y,by simp[h,h1],by simpa using h2,by simp[cV,h,h3];omega⟩
theorem LG{q n i:Nat}(h:i<n):aL T 33 (.hs q 0 n 2 true) (.int .i64 (i:Int))=some (.hp q (0+i*2)):=by
 have e:aL T 33 (.hs q 0 n 2 true) (.int .i64 (i:Int))=if 0<=(i:Int)/\(i:Int)<(n:Int)then some (.hp q (0+(i:Int).toNat*2))else none:=rfl;rw[e,Nn (by omega),Nb]
def Ek{q:Nat}{l:List Ty}{i:Nat}{h:Hp}(hi:i<l.length)(hq:h[q]? = some (rowOf Ty.av l)):eI T 35 (.hp q (0+i*2)) h= .ok l[i].av h:=by
 have hlen:=dI (f:=Ty.av) JM l;rw[ov (T:=T) (t:=35) rfl rfl hq (show 0+i*2+2<=_ by omega)];show R.ok (AV.agg (((rowOf Ty.av l).drop (0+i*2)).take 2)) h=_;rw[NB,dV JM l i hi,bd,cq]
def A7{q:Nat}{l:List Ty}{i:Nat}{h:Hp}(hi:i<l.length)(hq:h[q]? = some (rowOf Ty.av l)):da T 35 (.hp q (0+i*2)) l[i].av h= .ok (.tup []) h:=by
 have hlen:=dI (f:=Ty.av) JM l;refine pm (T:=T) (t:=35) rfl hq (Ap.ny _) (show 0+i*2+2<=_ by omega) (by decide) ?_;rw[bd];show ((rowOf Ty.av l).drop (0+i*2)).take 2=_;rw[NB,dV JM l i hi,bd]
def GM(l:List Ty)(hb:l.length<=4611686018427387904)(hk:∀t∈l,ab pg 49 [t.av]=am t.av)(q:Nat)(h:Hp)(hq:h[q]? = some (rowOf Ty.av l))(x3 x4 x5 x6 x7:AV)(nm:aQ)(k e:Int)(fs:List cO):∀(n i:Nat),l.length-i=n->i<=l.length->
  ak (L12_0 (ab pg) ak) [.hs q 0 l.length 2 true,.int .i64 l.length,.int .i64 i,x3,x4,x5,x6,x7,.str nm,.hs q 0 l.length 2 true,.int .i64 k,aO fs,.int .i64 e] h= .ok (.tup [.agg [.str nm,.hs q 0 l.length 2 true,.int .i64 k,aO fs,.int .i64 e],.bool true]) h:=by
 intro n
 induction n with
 |zero=>
  intro i hn hi;rw[FL12_0];have h1:¬((i:Int)<(l.length:Int)):=by omega
  have h2:aI 5 [] (.agg [.str nm,.hs q 0 l.length 2 true,.int .i64 k,aO fs,.int .i64 e])=am (.agg [.str nm,.hs q 0 l.length 2 true,.int .i64 k,aO fs,.int .i64 e]):=fW rfl;simp[L12_0,h1,h2,am]
 |succ n ih=>
  intro i hn hi;have hlt:i<l.length:=by omega
  have h1:(i:Int)<(l.length:Int):=by omega
  have ih':=ih (i+1) (by omega) (by omega);have hw:IntKind.i64.wrap ((i:Int)+1)=((i+1:Nat):Int):=aE (by omega);have hc:=hk l[i] (Ni hlt);rw[<- ih'];generalize hcode:ak (L12_0 (ab pg) ak) [.hs q 0 l.length 2 true,.int .i64 l.length,.int .i64 i,x3,x4,x5,x6,x7,.str nm,.hs q 0 l.length 2 true,.int .i64 k,aO fs,.int .i64 e] h=code;rw[FL12_0]at hcode;simp -implicitDefEqProofs only[L12_0,aj,ao,ax,ae,ah,h1,Nf,Nj,LG hlt]at hcode;rw[dc (Ek hlt hq)]at hcode;simp -implicitDefEqProofs only[Av.gB,ai,bd,ae,LD35,Nr,Nu,NB,Nat.reduceAdd,M7,Nj,NI,NM,cq,hc,bQ]at hcode;rw[show (i*2)=0+i*2 by omega]at hcode;rw[dc (A7 hlt hq)]at hcode;simp -implicitDefEqProofs only[ba,ae,hw]at hcode;rw[<- hcode]
def tw:Sig:=⟨[],[],ty0,0⟩
def t47(s:Sig)(name:aQ):ab pg 47 [s.av,.ip [.str name]]=am (.bool (s.name== name)):=by
 rw[C47];simp[S47,cl,fo]
theorem t12(f:Face)(hf:f.Lim)(hr:∀s∈f.funcs,s.params.length<=8/\(∀t∈s.params,kN 6 t)/\kN 6 s.result)(name:aQ):ab pg 12 [f.av,.str name]=am (match m9 f name with
  |some s=>.tup [s.av,.bool true]
  |none=>.tup [tw.av,.bool false]):=by
 have hlen:=hf.len;have h1:=t46 (.fn (.func 47) [] [.ip [.str name]]) (fun s=>s.name== name) f.funcs (by omega) (fun g=>rfl) (fun x _=>t47 x name);rw[C12];unfold m9;rcases qC (fun s:Sig=>s.name== name) f.funcs 0 with⟨h2,h3⟩|⟨k,s,h2,h3,h4⟩
 ·rw[h3]at h1;rw[h2];have e1:cv T false 37 []=some tw.av:=rfl;simp[S12,cl,h1,e1];exact bD fun g=>by simp[cl,fo]
 ·have hm:s∈f.funcs:=Oy h3;obtain⟨hpl,hps,hrr⟩:=hr s hm;have hk:k<f.funcs.length:=(N6.1 h3).1;rw[Int.zero_add]at h4;rw[h4]at h1;rw[h2];have hix:=pM (l:=f.funcs) (n:=(k:Int)) (by omega) (by omega);rw[Nb,List.getElem!_eq_getElem?_getD,h3]at hix;have hix':aL T 30 (sigs f.funcs) (.int .i64 (k:Int))=some (.ip (af s.av)):=hix;have hneg:¬((k:Int)<0):=by omega
  have hcl:=fun t (ht:t∈s.params)=>LJ t (hps t ht);have hcr:=LJ s.result hrr;have e0:ab pg 48 [ig s.params]=dX T 33 (ab pg) [ig s.params]:=cE hOther rfl _;have e1:=qd (T:=T) (t:=33) (f:=Ty.av) (sz:=2) rfl rfl rfl rfl rfl (by decide) (by decide) (fun x=>Ap.ny x) (ab pg) s.params (show s.params.length*32<=140737488355328 by omega) [];rw[show AV.sl (s.params.map Ty.av)=ig s.params from rfl,<- e0]at e1;funext hp;show aP _ hp=R.ok (.tup [s.av,.bool true]) hp;by_cases hps0:s.params=[]
  ·rw[Nn hps0]at e1;have e2:aI 5 [] (.agg [.str s.name,.sl [],.int .i64 s.result.kind,aO s.result.fields,.int .i64 s.effects])=am (.agg [.str s.name,.sl [],.int .i64 s.result.kind,aO s.result.fields,.int .i64 s.effects]):=fW rfl;have key:S12 (ab pg) ak (cl aA f.av) (cl aA (.str name)) []= .ok (.tup [.agg [.str s.name,.sl [],.int .i64 s.result.kind,aO s.result.fields,.int .i64 s.effects],.bool true]) []:=by
    simp only[S12,eM,qa,dM,FA32_1,ae,NH,Nk,LD30,kd,h1,ai,ax,hneg,Nm,ah,Na,M3,hix',LD37,ca,Nr,Nu,NB,Nat.reduceAdd,M7,Nj,NI,NM,fF,iB,aj,ao];rw[dc e1];simp only[cq,hcr,bQ,ai,cw,bh,M6,ae,cp,bd,E3,aj,ao];rw[FL12_0];simp[L12_0,e2,am]
   unfold aP;rw[key];have:(AV.agg [.str s.name,.sl [],.int .i64 s.result.kind,aO s.result.fields,.int .i64 s.effects])=s.av:=by rw[<- fF,hps0];rfl
   rw[this];have hc:Ap.Clean (AV.tup [s.av,.bool true]):=fun g=>by simp[cl,fo]
   exact Nq (fun x=>R.ok x hp) (hc.frz 6 [])
  ·rw[M9 hps0]at e1;have hq:([]++[rowOf Ty.av s.params]:Hp)[0]? = some (rowOf Ty.av s.params):=rfl;have key:S12 (ab pg) ak (cl aA f.av) (cl aA (.str name)) []= .ok (.tup [.agg [.str s.name,.hs 0 0 s.params.length 2 true,.int .i64 s.result.kind,aO s.result.fields,.int .i64 s.effects],.bool true]) ([]++[rowOf Ty.av s.params]):=by
    simp only[S12,eM,qa,dM,FA32_1,ae,NH,Nk,LD30,kd,h1,ai,ax,hneg,Nm,ah,Na,M3,hix',LD37,ca,Nr,Nu,NB,Nat.reduceAdd,M7,Nj,NI,NM,fF,iB,aj,ao];rw[dc e1];simp only[cq,hcr,bQ,ai,cw,bh,M6,ae,cp,bd,Fx,aj,ao,Nu];exact GM s.params (by omega) hcl 0 _ hq _ _ _ _ _ _ _ _ _ s.params.length 0 rfl (by omega)
   unfold aP;rw[key];have hfr:=lL (f:=Ty.av) JM (fun x=>by rw[bd,cq]) (fun x g=>jI g x) (by decide) hq 5;have:gG 6 ([]++[rowOf Ty.av s.params]) (.tup [.agg [.str s.name,.hs 0 0 s.params.length 2 true,.int .i64 s.result.kind,aO s.result.fields,.int .i64 s.effects],.bool true])= .tup [s.av,.bool true]:=by
    rw[<- fF];show AV.tup [.agg [.str s.name,gG 6 ([]++[rowOf Ty.av s.params]) (.hs 0 0 s.params.length 2 true),.int .i64 s.result.kind,cl _ (aO s.result.fields),.int .i64 s.effects],.bool true]=_;rw[hfr,kk];rfl
   show R.ok (gG 6 _ _) hp=_;rw[this]
theorem G5(l:List cO)(hb:l.length<=140737488355328)(ht:∀f∈l,f.2.Lim)(most:Int)(q:Nat):∀(n i:Nat),l.length-i=n->i<=l.length->∀(seen:List aQ)(h:Hp),h[q]? = some [.tup (setRow seen)]->
  ∃h',ak (L89_0 (ab pg) ak) [aO l,.int .i64 most,.mp q,aO l,.int .i64 l.length,.int .i64 i] h= .ok (.bool (rV seen (l.drop i)&&decide ((l.length:Int)<=most))) h':=by
 intro n
 induction n with
 |zero=>
  intro i hn hi seen h hq;rw[FL89_0];have h1:¬((i:Int)<(l.length:Int)):=by omega
  have h2:l.drop i=[]:=Nc (by omega);rw[h2];exact⟨h,by simp[L89_0,h1,rV,am]⟩
 | succ n ih=>
  intro i hn hi seen h hq;have hlt:i<l.length:=by omega
  have h1:(i:Int)<(l.length:Int):=by omega
  have h2:l.drop i=l[i]:: l.drop (i+1):=Ng hlt;have hw:IntKind.i64.wrap ((i:Int)+1)=((i+1:Nat):Int):=aE (by omega);have hix:=kK (l:=l) (n:=(i:Int)) (by omega) h1;rw[Nb,Nt l i hlt]at hix;have hfl:=ht _ (Ni hlt);have ih':=fun s=>ih (i+1) (by omega) (by omega) (seen++[s]) (h.set q [.tup (setRow (seen++[s]))]);have hql:q<h.length:=(N6.1 hq).1;rw[h2];generalize l[i]=f at hix hfl |-;have hlk:=qO hq f.1;have hnm:=t51 f.1;have hty:=t82 f.2 hfl;have hcf:cy 3 (bm f)=am (bm f):=by rw[zZ (qU f),ck,lk]
  generalize hcode:ak (L89_0 (ab pg) ak) [aO l,.int .i64 most,.mp q,aO l,.int .i64 l.length,.int .i64 i] h=code;rw[FL89_0]at hcode;simp -implicitDefEqProofs only[L89_0,aj,ao,ax,ae,h1,Nf,ah,Nj,hix,ck,LD54,Nr,Nu,NB,Nat.reduceAdd,M7,NI,NM,lk,hcf,ai,FA54_0,FA54_1,Nk,NH,LD9]at hcode;rw[dc hlk]at hcode;have eo:rV seen (f:: l.drop (i+1))=(!(seen.contains f.1)&&bg f.1&&bu f.2&&rV (seen++[f.1]) (l.drop (i+1))):=rfl;rw[eo];cases hc:seen.contains f.1 with
  |true=>
   rw[hc]at hcode;refine⟨h,?_⟩;rw[<- hcode];simp[am]
  | false=>
   rw[hc]at hcode;cases hn2:bg f.1 with
   |false=>
    rw[hn2]at hnm;refine⟨h,?_⟩;simp_all[am]
   | true=>
    rw[hn2]at hnm;cases hr:bu f.2 with
    |false=>
     rw[hr]at hty;refine⟨h,?_⟩;simp_all[am]
    |true=>
     rw[hr]at hty;obtain⟨h',e'⟩:=ih' f.1 (by grind);refine⟨h',?_⟩;have hp:=uo hq f.1 hc;rw[<- hcode];simp -implicitDefEqProofs only[hnm,hty,ai,au,bp,Nv,Nw,aj,aC,ah,M3,Na,LD35,Nr,Nu,NB,Nat.reduceAdd,M7,Nj,NI,NM,cq,ae];rw[dc hp];simp_all
theorem t89(l:List cO)(hb:l.length<=140737488355328)(ht:∀f∈l,f.2.Lim)(most:Int):ab pg 89 [aO l,.int .i64 most]=am (.bool (cJ l most)):=by
 obtain⟨h',e⟩:=G5 l hb ht most 0 l.length 0 rfl (Nz _) [] ([]++[[.tup []]]) rfl;rw[Nk]at e;rw[C89];funext hp;have key:S89 (ab pg) ak (cl aA (aO l)) (cl aA (.int .i64 most)) []= .ok (.bool (cJ l most)) h':=by
  rw[kk,nV];have hn:gW []= .ok (.mp 0) ([]++[[.tup []]]):=rfl;simp -implicitDefEqProofs only[S89];rw[dc hn];simp only[cu,ae];exact e
 show aP _ hp=R.ok (.bool (cJ l most)) hp;unfold aP;rw[key];rfl
def t91(l:List Exp)(hb:l.length<=140737488355328)(ht:∀e∈l,e.Lim)(n:Int):ab pg 91 [dC l,.int .i64 n]=am (.bool (l.all lU&&((l.length:Int)== n))):=by
 have hloop:∀(m i:Nat),l.length-i=m->i<=l.length->ak (L91_0 (ab pg) ak) [dC l,.int .i64 n,dC l,.int .i64 l.length,.int .i64 i]=am (.bool ((l.drop i).all lU&&((l.length:Int)== n))):=by
  intro m
  induction m with
  |zero=>
   intro i hm hi;rw[FL91_0];have h1:¬((i:Int)<(l.length:Int)):=by omega
   have h2:l.drop i=[]:=Nc (by omega);simp[L91_0,h1,h2]
  |succ m ih=>
   intro i hm hi;have hlt:i<l.length:=by omega
   have h1:(i:Int)<(l.length:Int):=by omega
   have h2:l.drop i=l[i]:: l.drop (i+1):=Ng hlt;have hw:IntKind.i64.wrap ((i:Int)+1)=((i+1:Nat):Int):=aE (by omega);have hix:=zI (l:=l) (n:=(i:Int)) (by omega) h1;rw[Nb,Nt l i hlt]at hix;have hr:=t90 l[i] (ht _ (Ni hlt));have ih':=ih (i+1) (by omega) (by omega);rw[h2,N0,FL91_0];generalize l[i]=e at hix hr |-;cases hb2:lU e<;>rw[hb2]at hr <;>
   simp only[L91_0,aj,ao,ax,ae,h1,Nf,ah,Nj,hix,gu,LD56,Nr,Nu,NB,Nat.reduceAdd,M7,NI,NM,lj,xx,ai,hr,bp,Nv,Nw,M3,Na,ba,hw,ih',Nx,NG]
 have h:=hloop l.length 0 rfl (Nz _);rw[Nk]at h;have h':ak (L91_0 (ab pg) ak) [dC l,.int .i64 n,dC l,.int .i64 l.length,.int .i64 0]=am (.bool (l.all lU&&((l.length:Int)== n))):=h;rw[C91];simp[S91,h']
def D7(f:Fun):cy 12 f.av=am f.av:=by simp_all
theorem Ey(m:Ap.Mod)(hm:m.Lim)(q:Nat)(R:Bool)(hend:∀h:Hp,∃h',ak (L55_0 (ab pg) ak) [.ip (af m.av),.mp q,iC m.funcs,.int .i64 m.funcs.length,.int .i64 m.funcs.length] h= .ok (.bool R) h'):∀(n i:Nat),m.funcs.length-i=n->i<=m.funcs.length->∀(seen:List aQ)(h:Hp),h[q]? = some [.tup (setRow seen)]->
  ∃h',ak (L55_0 (ab pg) ak) [.ip (af m.av),.mp q,iC m.funcs,.int .i64 m.funcs.length,.int .i64 i] h= .ok (.bool (mg seen (m.funcs.drop i)&&R)) h':=by
 have hb:=hm.funcs;intro n
 induction n with
 |zero=>
  intro i hn hi seen h hq;have h2:m.funcs.drop i=[]:=Nc (by omega);obtain rfl:i=m.funcs.length:=by omega
  rw[h2];exact hend h
 | succ n ih=>
  intro i hn hi seen h hq;have hlt:i<m.funcs.length:=by omega
  have h1:(i:Int)<(m.funcs.length:Int):=by omega
  have h2:m.funcs.drop i=m.funcs[i]:: m.funcs.drop (i+1):=Ng hlt;have hw:IntKind.i64.wrap ((i:Int)+1)=((i+1:Nat):Int):=aE (by omega);have hix:=Bd (l:=m.funcs) (n:=(i:Int)) (by omega) h1;rw[Nb,Nt m.funcs i hlt]at hix;have hfl:=hm.fns _ (Ni hlt);have ih':=fun s=>ih (i+1) (by omega) (by omega) (seen++[s]) (h.set q [.tup (setRow (seen++[s]))]);have hql:q<h.length:=(N6.1 hq).1;rw[h2];generalize m.funcs[i]=f at hix hfl |-;have hlk:=qO hq f.name;have hnm:=t51 f.name;have hps:=t89 f.params hfl.params hfl.pty 6;have hty:=t82 f.result hfl.result;have hre:=t90 f.body hfl.body;have hex:bo T .andNot 3 (.int .i64 f.effects) (.int .i64 15)=some (.int .i64 (dB f.effects 15)):=rfl;generalize hcode:ak (L55_0 (ab pg) ak) [.ip (af m.av),.mp q,iC m.funcs,.int .i64 m.funcs.length,.int .i64 i] h=code;rw[FL55_0]at hcode;simp -implicitDefEqProofs only[L55_0,aj,ao,ax,ae,h1,Nf,ah,Nj,hix,xe,LD58,Nr,Nu,NB,Nat.reduceAdd,M7,NI,NM,B4,D7,ai,FA58_0,Nk,LD9]at hcode;rw[dc hlk]at hcode;have eo:mg seen (f:: m.funcs.drop (i+1))=(!(seen.contains f.name)&&xQ f&&mg (seen++[f.name]) (m.funcs.drop (i+1))):=rfl;rw[eo];unfold xQ;cases hc:seen.contains f.name with
  |true=>
   rw[hc]at hcode;refine⟨h,?_⟩;rw[<- hcode];simp[am]
  | false=>
   rw[hc]at hcode;cases hn2:bg f.name with
   |false=>rw[hn2]at hnm;refine⟨h,?_⟩;rw[<- hcode];simp[hnm,am]
   | true=>
    rw[hn2]at hnm;cases hp2:cJ f.params 6 with
    |false=>rw[hp2]at hps;refine⟨h,?_⟩;rw[<- hcode];simp[hnm,hps,am]
    | true=>
     rw[hp2]at hps;cases hr:bu f.result with
     |false=>rw[hr]at hty;refine⟨h,?_⟩;simp_all[am]
     | true=>
      rw[hr]at hty;cases hrb:lU f.body with
      |false=>rw[hrb]at hre;refine⟨h,?_⟩;simp_all[am]
      | true=>
       rw[hrb]at hre;by_cases he:dB f.effects 15=0
       ·obtain⟨h',e'⟩:=ih' f.name (by grind);refine⟨h',?_⟩;have hp:=uo hq f.name hc;rw[<- hcode];have e'':=e';simp only[gx]at e'';simp[hnm,hps,hty,hre,hex,he]
        grind [dc]
       ·refine⟨h,?_⟩;rw[<- hcode];simp_all[dB,am]
def JW(m:Ap.Mod)(hm:m.Lim)(q:Nat)(h:Hp):∃h',ak (L55_0 (ab pg) ak) [.ip (af m.av),.mp q,iC m.funcs,.int .i64 m.funcs.length,.int .i64 m.funcs.length] h= .ok (.bool (rc m)) h':=by
 have hnm:=t51 m.name;have hv:=t89 m.vars hm.vars hm.vty 8;have hi:=t91 m.init hm.init hm.ies m.vars.length;have ho:=t89 m.old hm.old hm.oty 8;have hf:=fun n=>t91 m.forward hm.forward hm.fes n;have hb:=t91 m.back hm.back hm.bes m.old.length;refine⟨h,?_⟩;rw[FL55_0];unfold rc;generalize cJ m.vars 8=b1 at hv |-;generalize (m.init.all lU&&((m.init.length:Int)== (m.vars.length:Int)))=b2 at hi |-;generalize cJ m.old 8=b3 at ho |-;generalize (m.back.all lU&&((m.back.length:Int)== (m.old.length:Int)))=b4 at hb |-;cases hn:bg m.name with
 |false=>simp_all[L55_0,am]
 | true =>
  rw[hn]at hnm;by_cases hu:m.uses.length<=12
  ·have hu':¬(12<(m.uses.length:Int)):=by omega
   by_cases hfn:m.funcs.length<=30
   ·have hfn':¬(30<(m.funcs.length:Int)):=by omega
    cases b1 with
    |false=>simp_all[L55_0,am]
    | true=>
     cases b2 with
     |false=>simp_all[L55_0,am]
     | true=>
      cases hmv:m.moves with
      |true=>
       have hfv:=hf m.vars.length;rw[Nn rfl];simp_all[L55_0,K55_0,am]
      | false=>
       have hfv:=hf 0;rw[M9 (by decide)];generalize (m.forward.all lU&&((m.forward.length:Int)== 0))=b5 at hfv |-;by_cases hz:0<m.old.length
       ·have hz':0<(m.old.length:Int):=by omega
        have hz2:¬m.old.length=0:=by omega
        simp_all[L55_0,am]
       simp_all[am,L55_0,K55_0]
   ·have hfn':30<(m.funcs.length:Int):=by omega
    simp[L55_0,hnm,hu,hu',hfn,hfn',am]
  ·have hu':12<(m.uses.length:Int):=by omega
   simp[L55_0,hnm,hu,hu',am]
theorem EA(m:Ap.Mod)(hm:m.Lim)(q:Nat)(R:Bool)(hend:∀h:Hp,∃h',ak (L55_1 (ab pg) ak) [.ip (af m.av),.mp q,strs m.uses,.int .i64 m.uses.length,.int .i64 m.uses.length] h= .ok (.bool R) h'):∀(n i:Nat),m.uses.length-i=n->i<=m.uses.length->∀(seen:List aQ)(h:Hp),h[q]? = some [.tup (setRow seen)]->
  ∃h',ak (L55_1 (ab pg) ak) [.ip (af m.av),.mp q,strs m.uses,.int .i64 m.uses.length,.int .i64 i] h= .ok (.bool (ir seen (m.uses.drop i)&&R)) h':=by
 have hb:=hm.uses;intro n
 induction n with
 |zero=>
  intro i hn hi seen h hq;have h2:m.uses.drop i=[]:=Nc (by omega);obtain rfl:i=m.uses.length:=by omega
  rw[h2];exact hend h
 | succ n ih=>
  intro i hn hi seen h hq;have hlt:i<m.uses.length:=by omega
  have h1:(i:Int)<(m.uses.length:Int):=by omega
  have h2:m.uses.drop i=m.uses[i]:: m.uses.drop (i+1):=Ng hlt;have hw:IntKind.i64.wrap ((i:Int)+1)=((i+1:Nat):Int):=aE (by omega);have hix:=xd (l:=m.uses) (n:=(i:Int)) (by omega) h1;rw[Nb,Nt m.uses i hlt]at hix;have ih':=fun s=>ih (i+1) (by omega) (by omega) (seen++[s]) (h.set q [.tup (setRow (seen++[s]))]);have hql:q<h.length:=(N6.1 hq).1;rw[h2];generalize m.uses[i]=s at hix |-;have hlk:=qO hq s;have hnm:=t51 s;generalize hcode:ak (L55_1 (ab pg) ak) [.ip (af m.av),.mp q,strs m.uses,.int .i64 m.uses.length,.int .i64 i] h=code;rw[FL55_1]at hcode;simp -implicitDefEqProofs only[L55_1,aj,ao,ax,ae,h1,Nf,ah,Nj,hix,kd,LD9]at hcode;rw[dc hlk]at hcode;have eo:ir seen (s:: m.uses.drop (i+1))=(!(seen.contains s)&&bg s&&ir (seen++[s]) (m.uses.drop (i+1))):=rfl;rw[eo];cases hc:seen.contains s with
  |true=>
   rw[hc]at hcode;refine⟨h,?_⟩;rw[<- hcode];simp[am]
  | false=>
   rw[hc]at hcode;cases hn2:bg s with
   |false=>rw[hn2]at hnm;refine⟨h,?_⟩;rw[<- hcode];simp[hnm,am]
   |true=>
    rw[hn2]at hnm;obtain⟨h',e'⟩:=ih' s (by grind);refine⟨h',?_⟩;have hp:=uo hq s hc;rw[<- hcode];have e'':=e';simp only[gx]at e'';simp[hnm]
    grind [dc]
theorem t55(m:Ap.Mod)(hm:m.Lim):ab pg 55 [m.av]=am (.bool (jc m)):=by
 have hend:∀h:Hp,∃h',ak (L55_1 (ab pg) ak) [.ip (af m.av),.mp 0,strs m.uses,.int .i64 m.uses.length,.int .i64 m.uses.length] h= .ok (.bool (mg [] m.funcs&&rc m)) h':=fun h=>by
  have h1:¬((m.uses.length:Int)<(m.uses.length:Int)):=by omega
  obtain⟨h',e⟩:=Ey m hm h.length (rc m) (fun h=>JW m hm _ h) m.funcs.length 0 rfl (Nz _) [] (h++[[.tup []]]) (by simp[setRow]);rw[Nk]at e;refine⟨h',?_⟩;rw[FL55_1];have hn:gW h= .ok (.mp h.length) (h++[[.tup []]]):=rfl;simp only[gx]at e;simp -implicitDefEqProofs only[L55_1,aj,ao,ax,ae,h1,Nm,ah,M3,Na];rw[dc hn];simp_all
 obtain⟨h',e⟩:=EA m hm 0 _ hend m.uses.length 0 rfl (Nz _) [] ([]++[[.tup []]]) rfl;rw[Nk]at e;rw[C55];funext hp;have key:S55 (ab pg) ak (cl aA m.av) []= .ok (.bool (jc m)) h':=by
  have hn:gW []= .ok (.mp 0) ([]++[[.tup []]]):=rfl;simp only[gx]at e;rw[nW];simp -implicitDefEqProofs only[S55];rw[dc hn];simp only[gx,FA29_1,NH,Nk,ae,LD22,gp];exact e
 show aP _ hp=R.ok (.bool (jc m)) hp;unfold aP;rw[key];rfl
def rP:Option cO->AV
 |some z=>.tup [z.2.av,.bool true]
 |none=>.tup [(Ty.mk 0 []).av,.bool false]
theorem qI{α:Type}(p:α->Bool)(z:α):(l:List α)->cC p (l++[z])=if p z=true then some z else cC p l
 |[]=>by cases h:p z<;>simp[cC,h]
 |y:: l=>by
  rw[NQ];unfold cC;rw[qI p z l];cases p z<;>simp
theorem Eu(l:List cO)(hb:l.length<=140737488355328)(s:aQ)(x y:AV):∀(n:Nat),n<=l.length->ak (L138_0 (ab pg) ak) [aO l,.str s,.int .i64 ((n:Int)-1),x,y]=am (rP (cC (fun z=>z.1== s) (l.take n))):=by
 intro n
 induction n with
 |zero=>
  intro _;rw[FL138_0];have e1:cv T false 35 []=some (Ty.mk 0 []).av:=rfl;have h1:¬(0<=((0:Nat):Int)-1):=by omega
  simp only[L138_0,aj,ao,pw,h1,Nm,ae,ah,M3,Na,e1,cp,ai,bd,NM,cC,rP,cq]
 | succ n ih=>
  intro hn;have hlt:n<l.length:=by omega
  have e0:((n+1:Nat):Int)-1=(n:Int):=by omega
  have h1:(0:Int)<=(n:Int):=by omega
  have h2:(n:Int)<(l.length:Int):=by omega
  have hix:=kK (l:=l) (n:=(n:Int)) h1 h2;rw[Nb,Nt l n hlt]at hix;have hw:IntKind.i64.wrap ((n:Int)-1)=(n:Int)-1:=bE (by omega) (by omega);have h4:=ih (by omega);rw[e0,FL138_0,OX hlt,qI];generalize l[n]=f at hix |-;cases hf:f.1== s with
  |true=>
   simp only[L138_0,aj,ao,pw,h1,Nf,ae,ah,Nj,hix,ck,FA54_0,FA54_1,Nk,NH,LD9,nJ,hf,LD35,Nr,Nu,NB,Nat.reduceAdd,M7,NI,NM,cq,cp,ai,bd,rP]
  |false=>
   simp only[L138_0,aj,ao,pw,h1,Nf,ae,ah,Nj,hix,ck,FA54_0,Nk,LD9,nJ,hf,M3,Na,fl,hw,h4]
def t138(l:List cO)(hb:l.length<=140737488355328)(s:aQ):ab pg 138 [aO l,.str s]=am (rP (cC (fun z=>z.1== s) l)):=by
 have h:=Eu l hb s (.int .i64 0) (.sl []) l.length (M7 _);rw[OE]at h;rw[C138];have hw:IntKind.i64.wrap ((l.length:Int)-1)=(l.length:Int)-1:=bE (by omega) (by omega);simp only[S138,kk,qa,cu,ae,fl,hw,aj,ao,h];cases cC (fun z=>z.1== s) l with
 |none=>exact bD fun g=>by simp[rP,cl,fo]
 |some z=>exact bD fun g=>by simp[rP,cl,fo]
theorem t103:∀(n:Nat)(a b:Ty),SizeOf.sizeOf b<=n->a.Lim->b.Lim->ab pg 103 [a.av,b.av]=am (.bool (iP a b)):=by
 intro n
 induction n with
 |zero=>intro a b hn;cases b;simp at hn
 | succ n ih=>
  intro a b hn ha hb;have halen:=ha.len;have hblen:=hb.len;rw[C103,sA];have hloop:=ko (F:=L103_0 (ab pg) ak) (FL103_0 (ab pg)) (fun k=>[.ip (af a.av),.ip (af b.av),.int .i64 k]) b.fields.length
   (fun k=>match cC (fun z=>z.1== (b.fields[k]!).1) a.fields with|some z=>iP z.2 (b.fields[k]!).2|none=>false)
   (by simp[L103_0]) (fun k hk=>by
    have h1:(k:Int)<(b.fields.length:Int):=by omega
    have hix:=kK (l:=b.fields) (n:=(k:Int)) (by omega) h1;rw[Nb]at hix;have hm:b.fields[k]! ∈b.fields:=by rw[Nt b.fields k hk];exact Ni hk
    have hw:IntKind.i64.wrap ((k:Int)+1)=((k+1:Nat):Int):=aE (by omega);generalize b.fields[k]! = f at hix hm |-;have hf:=t138 a.fields halen f.1;cases hl:cC (fun z:cO=>z.1== f.1) a.fields with
    |none=>
     rw[hl]at hf;have hx0:dw (rP none) 0=some (Ty.mk 0 []).av:=rfl;have hx1:dw (rP none) 1=some (.bool false):=rfl;simp only[L103_0,aj,ao,bd,FA35_1,ae,NH,Nk,LD23,cu,ax,h1,Nf,ah,Nj,hix,ck,FA54_0,LD9,hf,bQ,ai,hx0,hx1,Av.gB,bp,Nw,M3,Na]
    |some z=>
     rw[hl]at hf;have hz:=(ot hl).2;have hs:=ih z.2 f.2 (by have:=GA hm;omega) (ha.kid hz) (hb.kid hm);have hx0:dw (rP (some z)) 0=some z.2.av:=rfl;have hx1:dw (rP (some z)) 1=some (.bool true):=rfl;cases hbz:iP z.2 f.2<;>rw[hbz]at hs <;>
     simp only[L103_0,aj,ao,bd,FA35_1,ae,NH,Nk,LD23,cu,ax,h1,Nf,ah,Nj,hix,ck,FA54_0,FA54_1,LD9,hf,bQ,ai,hx0,hx1,Av.gB,bp,Nv,Nw,M3,Na,LD35,Nr,Nu,NB,Nat.reduceAdd,M7,NI,NM,cq,hs,ba,hw,hbz]) 0 (Nz _)
  rw[OI]at hloop;have e:=mm (fun f:cO=>match cC (fun z=>z.1== f.1) a.fields with|some z=>iP z.2 f.2|none=>false) b.fields;rw[e]at hloop;generalize (b.fields.all fun f:cO=>match cC (fun z=>z.1== f.1) a.fields with|some z=>iP z.2 f.2|none=>false)=q at hloop |-;have h':ak (L103_0 (ab pg) ak) [.ip [.int .i64 a.kind,aO a.fields],.ip [.int .i64 b.kind,aO b.fields],.int .i64 0]=am (.bool q):=by
   simp only[bd]at hloop;exact hloop
  by_cases hk:a.kind=b.kind
  ·have hk1:(a.kind== b.kind)=true:=NW.2 hk;rw[hk]at h';simp[S103,hk,h']
  ·have hk1:(a.kind== b.kind)=false:=Ny.2 hk;have hk2:(a.kind != b.kind)=true:=by simpa using hk
   simp[S103,hk1,hk2]
def t62(a b:Ty)(ha:a.Lim)(hb:b.Lim):ab pg 62 [a.av,b.av]=am (.bool (lC a b)):=by
 have h1:=t102 a ha;have h2:=t102 b hb;have h3:=t103 _ a b (M7 _) ha hb;rw[C62];unfold lC;cases hr:bu a<;>rw[hr]at h1<;>cases hs:bu b<;>rw[hs]at h2<;>simp[S62,h1,h2,h3]
def oJ{a b:Int}(h1:-9223372036854775808<=a)(h2:a<=9223372036854775807):(tM a b== a)=(dB a b== 0):=by
 rw[N1];constructor
 ·intro h;rw[oS];have h':BitVec.ofInt 64 (tM a b)=BitVec.ofInt 64 a:=by rw[NW.1 h]
  unfold tM at h';rw[EJ]at h';generalize BitVec.ofInt 64 a=x at *;generalize BitVec.ofInt 64 b=y at *;apply PH;intro i hi;have e1:=Nq (·.getLsbD i) h';simp only[BitVec.getLsbD_and,BitVec.getLsbD_not,hi,Nf,Nx,BitVec.getLsbD_zero]at e1 |-;generalize x.getLsbD i=p at *;generalize y.getLsbD i=q at *;clear h h';revert p q;decide
 ·intro h;exact NW.2 (pS h1 h2 h)
def lg{a:Int}(h1:-9223372036854775808<=a)(h2:a<=9223372036854775807):(dB a 15== 0)=(decide (0<=a)&&decide (a<=15)):=by
 rw[<- oJ h1 h2,N1,NW,M5,M8,M8];have hlt:=(BitVec.ofInt 64 a).isLt;have ha:=zH h1 h2;have e:(BitVec.ofInt 64 a &&& BitVec.ofInt 64 15).toNat=(BitVec.ofInt 64 a).toNat % 16:=by
  rw[BitVec.toNat_and];exact Nat.and_two_pow_sub_one_eq_mod _ 4
 unfold tM;rw[e];generalize (BitVec.ofInt 64 a).toNat=n at *;rw[wrap64 _ hlt]at ha;rw[wrap64 _ (by omega)];constructor
 ·intro h;split at h<;>split at ha<;>omega
 ·rintro⟨g1,g2⟩;split<;>split at ha<;>omega
def yy:Option Sig->AV
 |some s=>.tup [s.av,.bool true]
 |none=>.tup [tw.av,.bool false]
theorem GN(f:Face)(hf:f.Lim)(name:aQ)(x3 x4 x5 x6 x7:AV):∀(n i:Nat),f.funcs.length-i=n->i<=f.funcs.length->
  ak (L13_0 (ab pg) ak) [.str name,.ip (af f.av),.int .i64 i,x3,x4,x5,x6,x7]=am (yy ((f.funcs.drop i).find? fun s=>s.name== name)):=by
 have hlen:=hf.len;intro n
 induction n with
 |zero=>
  intro i hn hi;rw[FL13_0];have h1:¬((i:Int)<(f.funcs.length:Int)):=by omega
  have h2:f.funcs.drop i=[]:=Nc (by omega);have e1:cv T false 37 []=some tw.av:=rfl;simp only[L13_0,aj,ao,dM,FA32_1,ae,NH,Nk,LD30,eJ,ax,h1,Nm,ah,M3,Na,e1,iB,ai,ca,fF,h2,List.find?_nil,yy]
 | succ n ih=>
  intro i hn hi;have hlt:i<f.funcs.length:=by omega
  have h1:(i:Int)<(f.funcs.length:Int):=by omega
  have h2:f.funcs.drop i=f.funcs[i]:: f.funcs.drop (i+1):=Ng hlt;have hix:=pM (l:=f.funcs) (n:=(i:Int)) (by omega) h1;rw[Nb,Nt f.funcs i hlt]at hix;have hw:IntKind.i64.wrap ((i:Int)+1)=((i+1:Nat):Int):=aE (by omega);have ih':=ih (i+1) (by omega) (by omega);simp only[dM]at ih';rw[h2,FL13_0,List.find?_cons];generalize f.funcs[i]=s at hix |-;cases hs:s.name== name with
  |true=>
   simp only[L13_0,aj,ao,dM,FA32_1,ae,NH,Nk,LD30,eJ,ax,h1,Nf,ah,Nj,hix,ca,FA37_0,LD9,nJ,hs,LD37,Nr,Nu,NB,Nat.reduceAdd,M7,NI,NM,fF,iB,ai,yy]
  |false=>
   simp only[L13_0,aj,ao,dM,FA32_1,ae,NH,Nk,LD30,eJ,ax,h1,Nf,ah,Nj,hix,ca,FA37_0,LD9,nJ,hs,M3,Na,ba,hw,ih']
def t13(f:Face)(hf:f.Lim)(name:aQ):ab pg 13 [f.av,.str name]=am (yy (m9 f name)):=by
 have h:=GN f hf name (.str []) (.sl []) (.int .i64 0) (.sl []) (.int .i64 0) f.funcs.length 0 rfl (Nz _);rw[Nk]at h;have h':ak (L13_0 (ab pg) ak) [.str name,.ip (af f.av),.int .i64 0,.str [],.sl [],.int .i64 0,.sl [],.int .i64 0]=am (yy (m9 f name)):=h;rw[C13];simp only[S13,eM,qa,h'];cases m9 f name with
 |none=>exact bD fun g=>by simp[yy,cl,fo]
 |some s=>exact bD fun g=>by simp[yy,cl,fo]
def GQ(a b:Sig)(ha:a.Lim)(hb:b.Lim)(hl:a.params.length=b.params.length):∀(n i:Nat),a.params.length-i=n->i<=a.params.length->
  ak (L21_0 (ab pg) ak) [.ip (af a.av),.ip (af b.av),.int .i64 i]=am (.bool (eK lC (b.params.drop i) (a.params.drop i))):=by
 have hlen:=ha.plen;intro n
 induction n with
 |zero=>
  intro i hn hi;rw[FL21_0];have h1:¬((i:Int)<(a.params.length:Int)):=by omega
  have h2:a.params.drop i=[]:=Nc (by omega);have h3:b.params.drop i=[]:=Nc (by omega);simp only[L21_0,aj,ao,ca,FA37_1,ae,NH,Nk,LD33,ej,ax,h1,Nm,ah,M3,Na,h2,h3,eK]
 |succ n ih=>
  intro i hn hi;have hlt:i<a.params.length:=by omega
  have hltb:i<b.params.length:=by omega
  have h1:(i:Int)<(a.params.length:Int):=by omega
  have hix:=uN (l:=a.params) (n:=(i:Int)) (by omega) h1;rw[Nb,Nt a.params i hlt]at hix;have hix2:=uN (l:=b.params) (n:=(i:Int)) (by omega) (by omega);rw[Nb,Nt b.params i hltb]at hix2;have hw:IntKind.i64.wrap ((i:Int)+1)=((i+1:Nat):Int):=aE (by omega);have ih':=ih (i+1) (by omega) (by omega);simp only[ca]at ih';have hs:=t62 b.params[i] a.params[i] (hb.ptys _ (Ni hltb)) (ha.ptys _ (Ni hlt));rw[iI lC b.params a.params i hltb hlt,FL21_0];generalize a.params[i]=t at hix hs |-;generalize b.params[i]=u at hix2 hs |-;cases hst:lC u t<;>rw[hst]at hs <;>
  simp only[L21_0,aj,ao,ca,FA37_1,ae,NH,Nk,LD33,ej,ax,h1,Nf,ah,Nj,hix,hix2,bd,LD35,Nr,Nu,NB,Nat.reduceAdd,M7,NI,NM,cq,hs,bQ,ai,bp,Nv,Nw,M3,Na,ba,hw,ih',Nx,NG]
theorem t21(a b:Sig)(ha:a.Lim)(hb:b.Lim)(h1:-9223372036854775808<=a.effects)(h2:a.effects<=9223372036854775807):ab pg 21 [a.av,b.av]=am (.bool (Dg a b)):=by
 have hs:=t62 a.result b.result ha.result hb.result;have hae:=oJ (b:=b.effects) h1 h2;have hand:bo T .and 3 (.int .i64 a.effects) (.int .i64 b.effects)=some (.int .i64 (tM a.effects b.effects)):=rfl;rw[C21];unfold Dg;by_cases hl:a.params.length=b.params.length
 ·have hloop:=GQ a b ha hb hl a.params.length 0 rfl (Nz _);rw[Nk,Nk]at hloop;have h':ak (L21_0 (ab pg) ak) [.ip (af a.av),.ip (af b.av),.int .i64 0]=am (.bool (eK lC b.params a.params)):=hloop;simp only[ca]at h';rw[<- hae];generalize eK lC b.params a.params=q at h' |-;cases hst:lC a.result b.result with
  |false=>rw[hst]at hs;simp[S21,hl,hs]
  | true=>
   rw[hst]at hs;by_cases he:tM a.effects b.effects=a.effects
   ·simp[S21,hl,hs,hand,he,h']
   ·have he':(tM a.effects b.effects== a.effects)=false:=Ny.2 he;simp[S21,hl,hs,hand,he,he']
 ·have hq:eK lC b.params a.params=false:=eF lC _ _ fun e=>hl e.symm;have hl':¬((a.params.length:Int)=(b.params.length:Int)):=by omega
  have hl2:(a.params.length != b.params.length)=true:=by simpa using hl
  simp[S21,hq,hl,hl',hl2]
def Ez(v10:List AV->M AV)(s:Sig)(hs:s.Lim)(x0:AV)(k:Nat)(hk:k<=4611686018427387904):∀(n i:Nat),s.params.length-i=n->i<=s.params.length->
  ak (L17_0 (ab pg) ak v10) [x0,.int .i64 k,.ip (af s.av),.int .i64 i]=if(s.params.drop i).all bu=true then v10 [x0,.int .i64 ((k+1:Nat):Int)]else am (.bool false):=by
 have hlen:=hs.plen;have hwk:IntKind.i64.wrap ((k:Int)+1)=((k+1:Nat):Int):=aE hk;intro n
 induction n with
 |zero=>
  intro i hn hi;rw[FL17_0];have h1:¬((i:Int)<(s.params.length:Int)):=by omega
  have h2:s.params.drop i=[]:=Nc (by omega);simp only[L17_0,aj,ao,ca,FA37_1,ae,NH,Nk,LD33,ej,ax,h1,Nm,ah,M3,Na,h2,Pj,Nj,ba,hwk]
 |succ n ih=>
  intro i hn hi;have hlt:i<s.params.length:=by omega
  have h1:(i:Int)<(s.params.length:Int):=by omega
  have h2:s.params.drop i=s.params[i]:: s.params.drop (i+1):=Ng hlt;have hix:=uN (l:=s.params) (n:=(i:Int)) (by omega) h1;rw[Nb,Nt s.params i hlt]at hix;have hw:IntKind.i64.wrap ((i:Int)+1)=((i+1:Nat):Int):=aE (by omega);have ih':=ih (i+1) (by omega) (by omega);simp only[ca]at ih';have hr:=t54 s.params[i] (hs.ptys _ (Ni hlt));rw[h2,N0,FL17_0];generalize s.params[i]=t at hix hr |-;cases hrt:bu t<;>rw[hrt]at hr <;>
  simp only[L17_0,aj,ao,ca,FA37_1,ae,NH,Nk,LD33,ej,ax,h1,Nf,ah,Nj,hix,bd,LD35,Nr,Nu,NB,Nat.reduceAdd,M7,NI,NM,cq,hr,ai,bp,Nv,Nw,M3,Na,ba,hw,ih',Nx,NG]
def MZ(f:Face):Prop:=∀s∈f.funcs,-9223372036854775808<=s.effects/\s.effects<=9223372036854775807
theorem t17(f:Face)(hf:f.Lim)(he:MZ f):ab pg 17 [f.av]=am (.bool (cI f)):=by
 have hlen:=hf.len;have hloop:=ko (FL17_1 (ab pg)) (fun k=>[.ip (af f.av),.int .i64 (k:Int)]) f.funcs.length
  (fun k=>cH f.funcs[k]! && (decide (k=0)||aG (f.funcs[k-1]!).name (f.funcs[k]!).name))
  (by simp[L17_1]) (fun k hk=>by
   have h1:(k:Int)<(f.funcs.length:Int):=by omega
   have hix:=pM (l:=f.funcs) (n:=(k:Int)) (by omega) h1;rw[Nb]at hix;have hm:f.funcs[k]! ∈f.funcs:=by rw[Nt f.funcs k hk];exact Ni hk
   have hsl:=hf.sigs _ hm;have hse:=he _ hm;generalize f.funcs[k]! = x at hix hm hsl hse |-;have hn:=t53 x.name;have hr:=t54 x.result hsl.result;have hP:=Ez (ak (L17_1 (ab pg) ak)) x hsl (.ip (af f.av)) k (by omega) x.params.length 0 rfl (Nz _);rw[Nk]at hP;have hP':ak (L17_0 (ab pg) ak (ak (L17_1 (ab pg) ak))) [.ip [.str f.module,sigs f.funcs],.int .i64 k,.ip [.str x.name,ig x.params,.int .i64 x.result.kind,aO x.result.fields,.int .i64 x.effects],.int .i64 0]=if x.params.all bu=true then ak (L17_1 (ab pg) ak) [.ip [.str f.module,sigs f.funcs],.int .i64 ((k+1:Nat):Int)]else am (.bool false):=by
    simp only[ca,dM]at hP;exact hP
   have hx15:=lg hse.1 hse.2;unfold cH;rw[hx15];generalize x.params.all bu=q at hP' |-;generalize bu x.result=r at hr |-;generalize bg x.name=nm at hn |-;have hp6:decide (x.params.length<=6)= !decide (6<(x.params.length:Int)):=by
    by_cases h6:x.params.length<=6
    ·have:¬(6<(x.params.length:Int)):=by omega
     simp[h6,this]
    ·have:6<(x.params.length:Int):=by omega
     simp[h6,this]
   rw[hp6];have he0:decide (0<=x.effects)= !decide (x.effects<0):=by
    by_cases h:x.effects<0
    ·have:¬0<=x.effects:=by omega
     simp[h,this]
    ·have:0<=x.effects:=by omega
     simp[h,this]
   have he15:decide (x.effects<=15)= !decide (15<x.effects):=by
    by_cases h:15<x.effects
    ·have:¬x.effects<=15:=by omega
     simp[h,this]
    ·have:x.effects<=15:=by omega
     simp[h,this]
   rw[he0,he15];have hb6:bo T .gtr 3 (.int .i64 x.params.length) (.int .i64 6)=some (.bool (decide (6<(x.params.length:Int)))):=rfl;have hbe:bo T .lss 3 (.int .i64 x.effects) (.int .i64 0)=some (.bool (decide (x.effects<0))):=rfl;have hbf:bo T .gtr 3 (.int .i64 x.effects) (.int .i64 15)=some (.bool (decide (15<x.effects))):=rfl;generalize decide (6<(x.params.length:Int))=p6 at hb6 |-;generalize decide (x.effects<0)=e0 at hbe |-;generalize decide (15<x.effects)=e15 at hbf |-;clear hp6 he0 he15 hx15 hse;rcases NO k with hk0|hk0
   ·subst hk0;have hix0:aL T 30 (sigs f.funcs) (.int .i64 0)=some (.ip (af x.av)):=hix;have hP0:ak (L17_0 (ab pg) ak (ak (L17_1 (ab pg) ak))) [.ip [.str f.module,sigs f.funcs],.int .i64 0,.ip [.str x.name,ig x.params,.int .i64 x.result.kind,aO x.result.fields,.int .i64 x.effects],.int .i64 0]=if q=true then ak (L17_1 (ab pg) ak) [.ip [.str f.module,sigs f.funcs],.int .i64 1]else am (.bool false):=hP';cases nm<;>cases p6<;>cases e0<;>cases e15<;>cases r<;>simp[L17_1,hix0,hn,hr,hb6,hbe,hbf,hk,hP0]
   ·have hp:IntKind.i64.wrap ((k:Int)-1)=((k-1:Nat):Int):=by
     rw[bE (by omega) (by omega)];omega
    have h4:((k-1:Nat):Int)<(f.funcs.length:Int):=by omega
    have hix2:=pM (l:=f.funcs) (n:=((k-1:Nat):Int)) (by omega) h4;rw[Nb]at hix2;generalize f.funcs[k-1]! = g at hix2 |-;have hk1:¬k=0:=by omega
    have hk2:0<(k:Int):=by omega
    generalize hsl2:aG g.name x.name=sl;cases nm<;>cases sl<;>cases p6<;>cases e0<;>cases e15<;>cases r<;>simp[L17_1,h1,hix,hn,hr,hb6,hbe,hbf,hp,hix2,hk0,hk1,hk2,hk,hP',hsl2]) 0 (Nz _)
 have hall:((List.range' 0 f.funcs.length).all fun k=>cH f.funcs[k]! && (decide (k=0)||aG (f.funcs[k-1]!).name (f.funcs[k]!).name))=(f.funcs.all cH&&gz (fun a b=>aG a.name b.name) f.funcs):=
  mT cH (fun a b=>aG a.name b.name) f.funcs
 rw[OI,hall]at hloop;have hl2:ak (L17_1 (ab pg) ak) [.ip [.str f.module,sigs f.funcs],.int .i64 0]=am (.bool (f.funcs.all cH&&gz (fun a b=>aG a.name b.name) f.funcs)):=by
  simpa using hloop
 rw[C17];have hn:=t53 f.module;unfold cI;generalize (f.funcs.all cH&&gz (fun a b=>aG a.name b.name) f.funcs)=q at hl2 |-;cases hm:bg f.module with
 |false=>rw[hm]at hn;simp[S17,hn]
 | true=>
  rw[hm]at hn;by_cases h30:f.funcs.length<=30
  ·have h30':¬(30<(f.funcs.length:Int)):=by omega
   simp[S17,hn,h30,h30',hl2]
  ·have h30':30<(f.funcs.length:Int):=by omega
   simp[S17,hn,h30,h30']
end Go.Proofs.YtighgcgmocboaaaGreatDoor
