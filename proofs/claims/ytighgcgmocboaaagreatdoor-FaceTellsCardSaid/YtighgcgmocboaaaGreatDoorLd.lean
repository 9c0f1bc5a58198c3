/- The abstract evaluator and plain laws, part 4. Condition: the table of types is the program's. -/
import Derived.Test.YtighgcgmocboaaaGreatDoorLc
import Derived.Lib.AtoiAllCases
import Derived.Sort.MapsRangeIn
import Derived.Maps.OwnIn
import Derived.RangeFuncSeq
import Derived.Lib.Split
import Derived.Lib.IndexBytes
import Derived.Sort.AssemblyPlain
set_option linter.defProp false
set_option linter.unusedSimpArgs false
set_option linter.unusedVariables false
namespace Go.Av.Ap
open Go Go.Av
abbrev lU(e:Exp):Bool:=d9 12 e
def rV:List aQ->List cO->Bool
 |_,[]=>true
 |seen,f:: l=>!(seen.contains f.1)&&bg f.1&&bu f.2&&rV (seen++[f.1]) l
def cJ(l:List cO)(most:Int):Bool:=rV [] l&&decide ((l.length:Int)<=most)
def xQ(f:Fun):Bool:=bg f.name&&cJ f.params 6&&bu f.result&&lU f.body&&(dB f.effects 15== 0)
def mg:List aQ->List Fun->Bool
 |_,[]=>true
 |seen,f:: l=>!(seen.contains f.name)&&xQ f&&mg (seen++[f.name]) l
def ir:List aQ->List aQ->Bool
 |_,[]=>true
 |seen,s:: l=>!(seen.contains s)&&bg s&&ir (seen++[s]) l
def rc(m:Mod):Bool:=bg m.name&&decide (m.uses.length<=12)&&decide (m.funcs.length<=30)&&cJ m.vars 8&&(m.init.all lU&&((m.init.length:Int)== m.vars.length))&&(m.moves||decide (m.old.length=0)) &&
 (cJ m.old 8&&(m.forward.all lU&&((m.forward.length:Int)== (if m.moves=true then(m.vars.length:Int)else 0)))&&(m.back.all lU&&((m.back.length:Int)== m.old.length)))
def jc(m:Mod):Bool:=ir [] m.uses&&(mg [] m.funcs&&rc m)
theorem nA:(l:List cO)->(seen:List aQ)->rV seen l=true->(∀f∈l,bg f.1=true/\bu f.2=true/\f.1 ∉ seen)/\(l.map (·.1)).Nodup
 |[],seen,_=>⟨fun f h=>(by cases h),List.nodup_nil⟩
 |f:: l,seen,h=>by
  simp only[rV,M5,NR]at h;obtain⟨⟨⟨h1,h2⟩,h3⟩,h4⟩:=h;obtain⟨i1,i2⟩:=nA l _ h4
  grind
theorem tk:(l:List Fun)->(seen:List aQ)->mg seen l=true->(∀f∈l,xQ f=true/\f.name ∉ seen)/\(l.map (·.name)).Nodup
 |[],seen,_=>⟨fun f h=>(by cases h),List.nodup_nil⟩
 |f:: l,seen,h=>by
  simp only[mg,M5,NR]at h;obtain⟨⟨h1,h2⟩,h4⟩:=h;obtain⟨i1,i2⟩:=tk l _ h4
  grind
structure FunOk (f:Fun):Prop where
 name:bg f.name=true
 plen:f.params.length<=6
 pars:∀z∈f.params,bu z.2=true
 pnames:(f.params.map (·.1)).Nodup
 res:bu f.result=true
 body:d9 12 f.body=true
 eff:dB f.effects 15=0
def GC{f:Fun}(h:xQ f=true):FunOk f:=by
 unfold xQ cJ at h;simp only[M5,M8,NW]at h;obtain⟨⟨⟨⟨h1,h2,h3⟩,h4⟩,h5⟩,h6⟩:=h;obtain⟨i1,i2⟩:=nA _ _ h2;exact⟨h1,by omega,fun z hz=>(i1 z hz).2.1,i2,h4,h5,h6⟩
structure ModOk (m:Mod):Prop where
 name:bg m.name=true
 ulen:m.uses.length<=12
 flen:m.funcs.length<=30
 fns:∀f∈m.funcs,FunOk f
 fnames:(m.funcs.map (·.name)).Nodup
 vlen:m.vars.length<=8
 vars:∀z∈m.vars,bu z.2=true
 vnames:(m.vars.map (·.1)).Nodup
 ilen:m.init.length=m.vars.length
 init:∀e∈m.init,d9 12 e=true
 olen:m.old.length<=8
 old:∀z∈m.old,bu z.2=true
 wlen:m.moves=true->m.forward.length=m.vars.length
 forw:∀e∈m.forward,d9 12 e=true
 blen:m.back.length=m.old.length
 back:∀e∈m.back,d9 12 e=true
def yj{m:Mod}(h:jc m=true):ModOk m:=by
 unfold jc rc cJ at h;simp only[M5,M8,NW,Nl,NU]at h;obtain⟨h1,h2,⟨⟨⟨⟨⟨h3,h4⟩,h5⟩,h6,h7⟩,h8,h9⟩,h10⟩,⟨⟨h11,h12⟩,h13,h14⟩,h15,h16⟩:=h;obtain⟨f1,f2⟩:=tk _ _ h2;obtain⟨v1,v2⟩:=nA _ _ h6;obtain⟨o1,_⟩:=nA _ _ h11;exact⟨h3,h4,h5,fun f hf=>GC (f1 f hf).1,f2,by omega,fun z hz=>(v1 z hz).2.1,v2,by omega,h8,by omega,fun z hz=>(o1 z hz).2.1,fun hm=>by grind,h13,by omega,h15⟩
def mU(b:aQ):aQ->Bool
 |[]=>b.isEmpty
 |x:: l=>b.isPrefixOf (x:: l)||mU b l
theorem md(b:aQ):(a:aQ)->Lib.contains a b=mU b a
 |[]=>by
  cases b<;>rfl
 | x:: l=>by
  have ih:=md b l;unfold Lib.contains at ih |-;unfold Lib.index mU;rw[<- ih];cases h:b.isPrefixOf (x:: l)with
  |true=>simp
  | false=>
   have hg:=Lib.index_ge l b;by_cases h1:Lib.index l b= -1
   ·simp[h1]
   ·have h2:(Lib.index l b== -1)=false:=Ny.2 h1;have h3:decide (0<=Lib.index l b)=true:=NJ (by omega);have h4:decide (0<=Lib.index l b+1)=true:=NJ (by omega);simp only[M3,Na,h2,PP,h3,h4]
def jm:aQ->Option aQ
 |[]=>none
 |x:: r=>if x=32 then some []else(jm r).map (x:: ·)
def nS:aQ->List aQ
 |[]=>[]
 | x:: r=>if x=32 then(match jm r with
   |some w=>w:: nS r
   |none=>nS r)else nS r
theorem sB:(s t:aQ)->(∀x∈s,x≠32)->(s++[32]).isPrefixOf t=(jm t== some s)
 |[],[],_=>rfl
 | [],x:: r,_=>by
  simp only[NF,List.isPrefixOf,Pp,jm];by_cases h:x=32
  ·subst h;simp
  ·have:((32:UInt8)== x)=false:=Ny.2 fun e=>h e.symm;rw[this,M9 h];cases jm r<;>simp
 |a:: s,[],_=>rfl
 | a:: s,x:: r,h=>by
  have ih:=sB s r fun y hy=>h y (by simp[hy]);have ha:=h a (by simp);simp only[NQ,List.isPrefixOf,ih,jm];by_cases hx:x=32
  ·subst hx;have:(a== (32:UInt8))=false:=Ny.2 ha;rw[this,Nn rfl];simp
  ·rw[M9 hx];cases hb:jm r with
   |none=>simp
   |some w=>
    rw[N1];simp only[M5,NW,M4,OB,Pb];exact⟨fun⟨e1,e2⟩=>⟨e1.symm,e2⟩,fun⟨e1,e2⟩=>⟨e1.symm,e2⟩⟩
theorem po(s:aQ)(h:∀x∈s,x≠32):(l:aQ)->mU ([32]++s++[32]) l=(nS l).contains s
 |[]=>rfl
 | x:: r=>by
  have ih:=po s h r;unfold mU nS;rw[ih];have e:([32]++s++[32]:aQ).isPrefixOf (x:: r)=((32:UInt8)== x&&(s++[32]).isPrefixOf r):=rfl;rw[e,sB s r h];by_cases hx:x=32
  ·subst hx;rw[Nn rfl];cases hb:jm r with
   |none=>simp
   |some w=>
    simp only[O5,Nx,List.contains_cons];congr 1;rw[N1,NW,NW,M4];exact eq_comm
  ·have:((32:UInt8)== x)=false:=Ny.2 fun e=>hx e.symm;rw[M9 hx,this];simp
def iL:List aQ:=[[97,110,100],[98,97,99,107],[98,111,111,108],[99,108,111,99,107],[101,108,115,101],[102,97,108,115,101],[102,105,108,101,115],[102,110],[102,111,114,119,97,114,100],[103,101,116],[105,102],[105,110],[105,110,116],[108,101,116],[109,111,100,117,108,101],[109,111,118,101],[110,101,116],[110,111,116],[111,114],[112,117,98],[115,101,99,114,101,116,115],[115,101,116],[116,104,101,110],[116,114,117,101],[117,115,101],[118,97,114]]
def pp:nS jZ=iL:=by decide +kernel
theorem rA{α:Type}(p:α->Bool):(l:List α)->((l.takeWhile p).length== l.length)=l.all p
 |[]=>rfl
 |x:: l=>by
  cases h:p x with
  |true=>simp[h,<- rA p l]
  |false=>simp[h]
theorem Dn(s:aQ):iA s=(!(s== [])&&decide (s.length<=20)&&fJ (s.headD 0)&&(s.drop 1).all iO):=by
 unfold iA;rw[rA];cases s with
 |nil=>rfl
 |cons x s=>
  simp only[List.headD_cons,N0,NH,Nk];have e:((x:: s:aQ)== [])=false:=rfl;rw[e];have h:iO x=(fJ x||kZ x):=rfl;cases hl:fJ x<;>simp[h,hl]
def A9{s:aQ}(h:iA s=true):∀x∈s,x≠32:=by
 unfold iA at h;rw[rA]at h;simp only[M5,Nl]at h;rintro x hx rfl
 have:=h.2 _ hx
 revert this;decide
def AE(s:aQ):bg s=(iA s&&!(iL.contains s)):=by
 unfold bg;cases h:iA s with
 |false=>rfl
 |true=>rw[md,po s (A9 h),pp]
theorem mX:∀(f u:Nat)(x:UInt8),x∈dt f u->48<=x.toNat/\x.toNat<=57
 |0,_,x,h=>by simp[dt]at h
 | f+1,u,x,h=>by
  simp only[dt]at h;by_cases h10:u<10
  ·rw[NJ h10]at h;simp only[M6,OL]at h;subst h;simp[OM];omega
  ·rw[NV h10]at h;simp only[Nh,N5,OL]at h;rcases h with h|rfl
   ·exact mX f _ x h
   ·simp[OM];omega
theorem mY:∀(f u:Nat),dt (f+1) u≠[]
 |f,u=>by
  simp only[dt];cases decide (u<10)<;>simp
theorem mE(d:Nat)(hd:d<10):∀(l:aQ)(acc m:Nat),Lib.parseUint10 acc l= .ok m->m<1000000000000->Lib.parseUint10 acc (l++[UInt8.ofNat (48+d)])= .ok (m*10+d)
 |[],acc,m,h,hm=>by
  simp only[Lib.parseUint10]at h;cases h;have e:(UInt8.ofNat (48+d)).toNat=48+d:=by simp[OM];omega
  simp only[NF,Lib.parseUint10,e];rw[Nn (by omega),M9 (by omega),M9 (by omega)];congr 1;omega
 | c :: l,acc,m,h,hm=>by
  simp only[NQ,Lib.parseUint10]at h|-;split at h
  ·rename_i hc;rw[Nn hc];split at h
   ·cases h
   ·rename_i h1;rw[M9 h1];split at h
    ·cases h
    ·rename_i h2;rw[M9 h2];exact mE d hd l _ m h hm
  ·cases h
theorem qZ:∀(f u:Nat),u<10 ^ (f+1)->u<10000000000->Lib.parseUint10 0 (dt (f+1) u)= .ok u
 | f,u,h,hb=>by
  rw[show dt (f+1) u=bif decide (u<10)then[UInt8.ofNat (48+u)]else dt f (u / 10)++[UInt8.ofNat (48+u % 10)]from rfl];by_cases h10:u<10
  ·rw[NJ h10]
   have:=mE u h10 [] 0 0 rfl (by omega)
   simpa using this
  ·rw[NV h10];simp only[Nh];cases f with
   |zero=>omega
   |succ f=>
    have ih:=qZ f (u / 10) (by rw[O3]at h;omega) (by omega);rw[mE (u % 10) (by omega) _ 0 (u / 10) ih (by omega)];congr 1;omega
def zQ(n:Int)(h0:0<=n)(h1:n<=1048576):Lib.atoiAll (bG n)= .ok n:=by
 have e:bG n=dt 20 n.toNat:=by unfold bG;rw[NV (by omega)];rfl
 rw[e];have hp:=qZ 19 n.toNat (by omega) (by omega);cases hd:dt 20 n.toNat with
 |nil=>exact absurd hd (mY 19 _)
 |cons c r=>
  have hc:=mX 20 n.toNat c (by rw[hd];simp);rw[Lib.atoiAll_plain c r (by omega) (by omega)];rw[<- hd];unfold Lib.parseMag;rw[M9 (mY 19 _),hp];simp only[Lib.signless];rw[M9 (by omega)];congr 1;omega
def i8{n:Int}(h0:0<=n):bG n=dt 20 n.toNat:=by unfold bG;rw[NV (by omega)];rfl
def s4{n:Int}(h0:0<=n):∀x∈bG n,48<=x.toNat/\x.toNat<=57:=by
 rw[i8 h0];exact mX 20 _
theorem jK:∀(f u:Nat),(dt f u).length<=f
 |0,_=>by simp[dt]
 |f+1,u=>by
  simp only[dt];cases decide (u<10)with
  |true=>simp
  |false=>have:=jK f (u / 10);simp;omega
def jS(n:Int):(bG n).length<=21:=by
 unfold bG;cases decide (n<0)with
 |true=>have:=jK 20 n.natAbs;simp;omega
 |false=>have:=jK 20 n.toNat;simp;omega
def xW{n:Int}(h0:0<=n):(bG n).length<=20:=by
 rw[i8 h0];exact jK 20 _
abbrev Rs:=aQ×Bool
def ep:Rs:=([],true)
def aN(e:UInt8)(r:Rs):Int×Rs:=
 if Lib.indexByte (r.1.take 21) e<0 then(0,ep)else
 match Lib.atoiAll ((r.1.take 21).take (Lib.indexByte (r.1.take 21) e).toNat)with
 |.ok n=>if bG n=(r.1.take 21).take (Lib.indexByte (r.1.take 21) e).toNat/\0<=n then(n,(r.1.drop ((Lib.indexByte (r.1.take 21) e).toNat+1),r.2))else(0,ep)
 |_=>(0,ep)
def bb(r:Rs):aQ×Rs:=
 if(aN 58 r).1>((aN 58 r).2.1.length:Int)then([],ep)else
 match (aN 58 r).2.1.drop (aN 58 r).1.toNat with
 |c:: s=>if c=44 then(if(aN 58 r).2.2=true then([],(s,true))else((aN 58 r).2.1.take (aN 58 r).1.toNat,(s,false)))else([],ep)
 |[]=>([],ep)
def aR{α:Type}(one:Rs->α×Rs)(n:Int)(cap:Nat):Nat->List α->Rs->List α×Rs
 |0,acc,r=>(acc,r)
 |f+1,acc,r=>if(acc.length:Int)<n/\acc.length<=cap/\0<r.1.length then aR one n cap f (acc++[(one r).1]) (one r).2 else(acc,r)
def jN(ty:Rs->Ty×Rs)(r:Rs):cO×Rs:=(((bb r).1,(ty (bb r).2).1),(ty (bb r).2).2)
def aW:Nat->Rs->Ty×Rs
 |0,r=>(⟨(aN 59 r).1,[]⟩,(aN 59 r).2)
 | d+1,r=>if(aN 59 r).1=2 then
   (⟨(aN 59 r).1,(aR (jN (aW d)) (aN 59 (aN 59 r).2).1 8 10 [] (aN 59 (aN 59 r).2).2).1⟩,(aR (jN (aW d)) (aN 59 (aN 59 r).2).1 8 10 [] (aN 59 (aN 59 r).2).2).2)
  else(⟨(aN 59 r).1,[]⟩,(aN 59 r).2)
def kP(r:Rs):Sig×Rs:=
 let a:=bb r;let m:=aN 59 a.2;let p:=aR (aW 4) m.1 6 8 [] m.2;let t:=aW 4 p.2;let e:=aN 59 t.2
 (⟨a.1,p.1,t.1,e.1⟩,e.2)
def g9(s:aQ):Face:=
 let a:=bb (s,false);let n:=aN 59 a.2
 ⟨a.1,(aR kP n.1 30 32 [] n.2).1⟩
def bW(n:Int):aQ:=if n<0 then[]else bG n++[59]
def eD(s:aQ):aQ:=bG s.length++[58]++s++[44]
mutual
def bT:Ty->aQ
 |.mk k fs=>bW k++(if k=2 then bW fs.length++pB fs else[])
def pB:List (aQ×Ty)->aQ
 |[]=>[]
 |f:: l=>d7 f++pB l
def d7:aQ×Ty->aQ
 |(s,t)=>eD s++bT t
end
theorem qn:∀l:List cO,pB l=l.flatMap d7
 |[]=>rfl
 |f:: l=>by rw[pB,qn l,Ol]
def gE(f:cO):d7 f=eD f.1++bT f.2:=by obtain⟨s,t⟩:=f;rfl
def ka(t:Ty):bT t=bW t.kind++(if t.kind=2 then bW t.fields.length++t.fields.flatMap d7 else[]):=by
 obtain⟨k,fs⟩:=t;rw[bT,qn];rfl
def gh(s:Sig):aQ:=eD s.name++bW s.params.length++s.params.flatMap bT++bT s.result++bW s.effects
def iV(f:Face):aQ:=eD f.module++bW f.funcs.length++f.funcs.flatMap gh
def fk(f:Face):aQ×Int:=if cI f=true then(iV f,0)else([],1)
def fG(s:aQ):Face×Int:=if(fk (g9 s)).2=0/\(fk (g9 s)).1=s then(g9 s,0)else(⟨[],[]⟩,2)
theorem sW(c:UInt8)(r:aQ):∀(l:aQ),(∀x∈l,x≠c)->Lib.indexByte (l++c:: r) c=l.length
 |[],_=>by simp[Lib.indexByte]
 |x:: l,h=>by
  have hx:(x== c)=false:=Ny.2 (h x (by simp));have ih:=sW c r l fun y hy=>h y (by simp[hy]);simp only[NQ,Lib.indexByte,hx,ih,M3,Na,Nr];rw[M9 (by simp)];omega
def wB(e:UInt8)(he:¬(48<=e.toNat/\e.toNat<=57)){n:Int}(h0:0<=n)(h1:n<=1048576)(r:aQ)(b:Bool):aN e (bG n++e:: r,b)=(n,(r,b)):=by
 have hl:=xW h0;have hd:∀x∈bG n,x≠e:=fun x hx hxe=>he (hxe▸s4 h0 x hx);have hlen:(bG n).length+1<=21:=by omega
 have ht:(bG n++e:: r).take 21=bG n++e:: r.take (20-(bG n).length):=by
  rw[OD,Od (by omega)];congr 1;rw[show 21-(bG n).length=(20-(bG n).length)+1 by omega,NI]
 have hi:Lib.indexByte ((bG n++e:: r).take 21) e=(bG n).length:=by rw[ht];exact sW e _ _ hd
 have hs:((bG n++e:: r).take 21).take (bG n).length=bG n:=by rw[ht,OD,OE];simp
 have hdr:(bG n++e:: r).drop ((bG n).length+1)=r:=by
  rw[<- List.drop_drop,List.drop_append,PE];simp
 unfold aN;simp only[hi,Nb,hs,zQ n h0 h1];rw[M9 (by omega),Nn ⟨trivial,h0⟩,hdr]
def iM{s:aQ}(h:s.length<=1048576)(r:aQ):bb (eD s++r,false)=(s,(r,false)):=by
 have e:eD s++r=bG (s.length:Int)++58:: (s++44:: r):=by simp[eD]
 have hn:=wB 58 (by decide) (n:=(s.length:Int)) (by omega) (by omega) (s++44:: r) false;unfold bb;rw[e,hn];simp only[Nb];rw[M9 (by simp;omega)];simp
def dG{n:Int}(h0:0<=n)(h1:n<=1048576)(r:aQ)(b:Bool):aN 59 (bW n++r,b)=(n,(r,b)):=by
 unfold bW;rw[M9 (by omega),OA];exact wB 59 (by decide) h0 h1 r b
theorem fQ{α:Type}(one:Rs->α×Rs)(txt:α->aQ)(cap:Nat):∀(f:Nat)(l acc:List α)(r:aQ),(∀x∈l,txt x≠[]/\∀r,one (txt x++r,false)=(x,(r,false)))->(acc++l).length<=cap->l.length<=f->
  aR one ((acc++l).length:Int) cap f acc (l.flatMap txt++r,false)=(acc++l,(r,false))
 |0,l,acc,r,_,_,hf=>by
  obtain rfl:l=[]:=Om.1 (by omega);simp[aR]
 |f+1,[],acc,r,_,_,_=>by simp[aR]
 |f+1,x:: l,acc,r,h,hc,hf=>by
  obtain⟨h1,h2⟩:=h x (by simp);have e:(x:: l).flatMap txt++r=txt x++(l.flatMap txt++r):=by simp
  have hpos:0<(txt x).length:=Oh.2 h1;simp only[Np,Nr]at hc hf;rw[e,aR,h2,Nn ⟨by simp;omega,by omega,by simp;omega⟩];have ih:=fQ one txt cap f l (acc++[x]) r (fun y hy=>h y (by simp[hy])) (by simp;omega) (by omega);rw[show acc++x:: l=acc++[x]++l by simp];exact ih
def EE{n:Int}(h:0<=n):bW n≠[]:=by unfold bW;rw[M9 (by omega)];simp
def pH(s:aQ):eD s≠[]:=by unfold eD;simp
def cL{s:aQ}(h:bg s=true):s.length<=20:=by
 unfold bg at h;simp only[M5]at h;exact tD h.1
theorem oF:∀(d:Nat)(t:Ty),bw d t=true->∀r,aW d (bT t++r,false)=(t,(r,false))
 |0,t,h,r=>by simp[bw]at h
 | d+1,t,h,r=>by
  rw[cG]at h;simp only[M5,M8,NU,NW,Nl]at h;obtain⟨⟨⟨⟨h0,h1⟩,h2⟩,h3⟩,h4,_⟩:=h;rw[ka,aW];by_cases hk:t.kind=2
  ·have e:(bW t.kind++(if t.kind=2 then bW t.fields.length++t.fields.flatMap d7 else[]))++r=bW t.kind++(bW t.fields.length++(t.fields.flatMap d7++r)):=by rw[Nn hk];simp
   have hi:=fQ (jN (aW d)) d7 8 10 t.fields [] r (fun f hf=>by
    obtain⟨g1,g2⟩:=h4 f hf;refine⟨by rw[gE];simp[pH],fun r=>?_⟩;have hn:=cL g1;have e2:d7 f++r=eD f.1++(bT f.2++r):=by rw[gE];simp
    unfold jN;rw[e2,iM (by omega),oF d f.2 g2 r]) (by simpa using h2) (by omega)
   rw[NF]at hi;rw[e,dG h0 (by omega),Nn hk];simp only;rw[dG (by omega) (by omega)];simp only;rw[hi];obtain⟨k,fs⟩:=t;rfl
  ·have hf:t.fields=[]:=Om.1 (by rcases h3 with h3|h3;exact absurd h3 hk;exact h3);have e:(bW t.kind++(if t.kind=2 then bW t.fields.length++t.fields.flatMap d7 else[]))++r=bW t.kind++r:=by rw[M9 hk];simp
   rw[e,dG h0 (by omega),M9 hk];obtain⟨k,fs⟩:=t;change fs=[]at hf;subst hf;rfl
def xc{t:Ty}(h:0<=t.kind):bT t≠[]:=by rw[ka];simp[EE h]
def C0{s:Sig}(h:cH s=true)(he:0<=s.effects/\s.effects<=15)(r:aQ):kP (gh s++r,false)=(s,(r,false)):=by
 unfold cH at h;simp only[M5,M8,Nl]at h;obtain⟨⟨⟨⟨h1,h2⟩,_⟩,h4⟩,h5⟩:=h;have hn:=cL h1;have hi:=fQ (aW 4) bT 6 8 s.params [] (bT s.result++(bW s.effects++r)) (fun t ht=>by
  have hr:=h5 t ht;have hk:0<=t.kind:=by
   have:bw 4 t=true:=hr;rw[cG]at this;simp only[M5,M8]at this;exact this.1.1.1.1
  exact⟨xc hk,oF 4 t hr⟩) (by simpa using h2) (by omega)
 rw[NF]at hi;have e:gh s++r=eD s.name++(bW s.params.length++(s.params.flatMap bT++(bT s.result++(bW s.effects++r)))):=by simp[gh]
 unfold kP;rw[e,iM (by omega)];simp only;rw[dG (by omega) (by omega)];simp only;rw[hi];simp only;rw[oF 4 _ h4];simp only;rw[dG he.1 (by omega)]
def Ae{f:Face}(h:cI f=true)(he:∀s∈f.funcs,0<=s.effects/\s.effects<=15)(r:aQ):g9 (iV f++r)=f:=by
 unfold cI at h;simp only[M5,M8,Nl]at h;obtain⟨⟨h1,h2⟩,h3,_⟩:=h;have hn:=cL h1;have hi:=fQ kP gh 30 32 f.funcs [] r (fun s hs=>⟨by unfold gh;simp[pH],C0 (h3 s hs) (he s hs)⟩) (by simpa using h2) (by omega);rw[NF]at hi;have e:iV f++r=eD f.module++(bW f.funcs.length++(f.funcs.flatMap gh++r)):=by simp[iV]
 unfold g9;rw[e,iM (by omega)];simp only;rw[dG (by omega) (by omega)];simp only;rw[hi]
def AW{f:Face}(h:cI f=true)(he:∀s∈f.funcs,0<=s.effects/\s.effects<=15):fG (iV f)=(f,0):=by
 have hx:=Ae h he [];rw[Og]at hx;unfold fG;rw[hx,fk,Nn h,Nn ⟨rfl,rfl⟩]
theorem jt{α:Type}(f:α->aQ)(c:Nat):∀(l:List α),(∀x∈l,(f x).length<=c)->(l.flatMap f).length<=l.length*c
 |[],_=>by simp
 |x:: l,h=>by
  have h1:=h x (by simp);have h2:=jt f c l fun y hy=>h y (by simp[hy]);simp only[Ol,Np,Nr,Pi];omega
def ew(n:Int):(bW n).length<=22:=by
 unfold bW
 have:=jS n
 split<;>simp;omega
def gk{s:aQ}(h:s.length<=20):(eD s).length<=43:=by
 unfold eD
 have:=jS (s.length:Int)
 simp only[Np,Nr,Nu];omega
theorem lD:∀(d:Nat)(t:Ty),d<=4->bw d t=true->(bT t).length<=200*10 ^ d
 |0,t,_,h=>by simp[bw]at h
 | d+1,t,hd,h=>by
  rw[cG]at h;simp only[M5,M8,NU,NW,Nl]at h;obtain⟨⟨⟨⟨h0,h1⟩,h2⟩,h3⟩,h4,_⟩:=h;have hf:=jt d7 (43+200*10 ^ d) t.fields fun f hf=>by
   obtain⟨g1,g2⟩:=h4 f hf;have e1:=gk (cL g1);have e2:=lD d f.2 (by omega) g2;rw[gE,Np];omega
  have hm:t.fields.length*(43+200*10 ^ d)<=8*(43+200*10 ^ d):=NA _ h2;have n1:=ew t.kind;have n2:=ew (t.fields.length:Int);have hp:1<=10 ^ d:=Nat.one_le_pow _ _ (by omega);rw[ka,Np,O3];split
  ·rw[Np];omega
  ·simp only[Nu];omega
def zD{s:Sig}(h:cH s=true):(gh s).length<=16000000:=by
 unfold cH at h;simp only[M5,M8,Nl]at h;obtain⟨⟨⟨⟨h1,h2⟩,_⟩,h4⟩,h5⟩:=h;have e1:=gk (cL h1);have e2:=ew (s.params.length:Int);have e3:=jt bT 2000000 s.params fun t ht=>lD 4 t (M7 _) (h5 t ht);have e4:=lD 4 _ (M7 _) h4;have e5:=ew s.effects;have hm:s.params.length*2000000<=6*2000000:=NA _ h2;unfold gh;simp only[Np];omega
def BQ{f:Face}(h:cI f=true):(iV f).length<=500000000:=by
 unfold cI at h;simp only[M5,M8,Nl]at h;obtain⟨⟨h1,h2⟩,h3,_⟩:=h;have e1:=gk (cL h1);have e2:=ew (f.funcs.length:Int);have e3:=jt gh 16000000 f.funcs fun s hs=>zD (h3 s hs);have hm:f.funcs.length*16000000<=30*16000000:=NA _ h2;unfold iV;simp only[Np];omega
def t6{T:TT}{t:Nat}{ti:TI}(ht:T t=some ti)(ha:ti.agg=false){h:Hp}{l k:Nat}{cs:List AV}{v:AV}(h0:h[l]? = some cs)(h1:cs[k]? = some v):eI T t (.hp l k) h= .ok v h:=by
 simp[eI,ht,h0,ha,h1]
def pG{T:TT}{t:Nat}{ti:TI}(ht:T t=some ti){h:Hp}{l k:Nat}{cs:List AV}{v:AV}(h0:h[l]? = some cs)(hv:cM ti.size v=true)(hle:k+ti.size<=cs.length)(hp:0<ti.size):
  da T t (.hp l k) v h= .ok (.tup []) (h.set l (setCells cs k (af v))):=by
 simp[da,ht,h0,hv,hle,hp]
def JC{T:TT}{t e:Nat}{ti ei:TI}(ht:T t=some ti)(hk:ti.kind= .slice e)(he:T e=some ei){x:AV}(hx:cM ei.size x=true)(hb:0<ei.bytes)(hs:0<ei.size)(hc:ei.bytes<=140737488355328)(h:Hp):
  appH T t false .hn (.sl [x]) h= .ok (.hs h.length 0 1 ei.size ei.agg) (h++[af x]):=by
 simp_all[dS,appH,iv,lz]
def JD{T:TT}{t e:Nat}{ti ei:TI}(ht:T t=some ti)(hk:ti.kind= .slice e)(he:T e=some ei){x:AV}(hx:cM ei.size x=true)(hb:0<ei.bytes)(hs:0<ei.size){h:Hp}{q n:Nat}{cs:List AV}(h0:h[q]? = some cs)(hok:cs.all bh=true)(hl:cs.length=n*ei.size)(hn:0<n)(hc:(n+1)*ei.bytes<=140737488355328):appH T t false (.hs q 0 n ei.size ei.agg) (.sl [x]) h= .ok (.hs h.length 0 (n+1) ei.size ei.agg) ((h.set q [])++[cs++af x]):=by
 have h1:dS ei.size [x]=true:=by simp[dS,hx]
 have h2:List.all cs bh=true:=hok;have h3:0<n*ei.size:=OS hn hs;have h4:cs.take (n*ei.size)=cs:=by rw[<- hl];exact OE
 simp only[appH,ht,hk,he,iv,h1,hb,hs,lz,h0,h2,hl,Nf,O9,M6,O5,List.length_singleton,List.isEmpty_cons,Nh,Ol,OW,Og,h3,h4,M7]
 grind
abbrev sa:=aQ×aQ
def wF(r:sa):AV:=.agg [.str r.1,.str r.2]
def wG(l:List sa):AV:=.sl (l.map wF)
def yr(l:List (List sa)):AV:=.sl (l.map wG)
@[simp] theorem FB(r:sa):af (wF r)=[.str r.1,.str r.2]:=rfl
@[simp] theorem J5(r:sa):AV.agg [.str r.1,.str r.2]=wF r:=rfl
@[simp] theorem CE(r:sa):cM 2 (wF r)=true:=rfl
@[simp] theorem HR(l:List sa):dS 2 (l.map wF)=true:=ey CE l
@[simp] theorem Gq(g:Nat->Nat->Nat->Nat->Bool->AV)(r:sa):cl g (wF r)=wF r:=rfl
@[simp] theorem D2(g:Nat->Nat->Nat->Nat->Bool->AV)(l:List sa):cl g (wG l)=wG l:=by simp[wG,cl,fp g wF (Gq g)]
@[simp] theorem JQ(g:Nat->Nat->Nat->Nat->Bool->AV)(l:List (List sa)):cl g (yr l)=yr l:=by simp[yr,cl,fp g wG (D2 g)]
section
variable {V:Type}
def KC:List (sa×V)->sa->V->List (sa×V)
 |[],k,v=>[(k,v)]
 |x:: r,k,v=>if x.1=k then(k,v):: r else x:: KC r k v
end
def J2(p:List Mod)(r:sa):Option Fun:=match p.find? (fun m=>m.name== r.1)with
 |some m=>m.funcs.find? fun f=>f.name== r.2
 |none=>none
mutual
def He:Exp->List Exp
 |.mk o n s m ns es=>.mk o n s m ns es:: zm es
def zm:List Exp->List Exp
 |[]=>[]
 |e:: es=>He e++zm es
end
def Mx(f:sa)(e:Exp):sa:=(if e.m=[]then f.1 else e.m,e.s)
def JK(p:List Mod)(f:sa)(e:Exp):Bool:=e.op== 15&&(match J2 p (Mx f e)with|some g=>e.m== []||g.pub|none=>false)
def io(p:List Mod)(f:sa)(o:List (sa×Bool))(e:Exp):List (sa×Bool):=if JK p f e then KC o (Mx f e) true else o
end Go.Av.Ap
namespace Go.Av
open Go
section
variable {F:Fence} {n:Nat} {P:Program} {w w':World} {ops:Array Oper} {rest:List Oper} {o:Oper} {a:Act} {Q:Exit->Act->World->Prop} {v:Value}
end
end Go.Av
namespace Go.Av.Ap
open Go Go.Av
theorem lx(d:Nat)(hd:d<10):∀(l:aQ)(acc m:Nat),Lib.parseUint10 acc l= .ok m->m*10+d<18446744073709551616->Lib.parseUint10 acc (l++[UInt8.ofNat (48+d)])= .ok (m*10+d)
 |[],acc,m,h,hm=>by
  simp only[Lib.parseUint10]at h;cases h;have e:(UInt8.ofNat (48+d)).toNat=48+d:=by simp[OM];omega
  simp only[NF,Lib.parseUint10,e];rw[Nn (by omega),M9 (by omega),M9 (by omega)];congr 1;omega
 | c :: l,acc,m,h,hm=>by
  simp only[NQ,Lib.parseUint10]at h|-;split at h
  ·rename_i hc;rw[Nn hc];split at h
   ·cases h
   ·rename_i h1;rw[M9 h1];split at h
    ·cases h
    ·rename_i h2;rw[M9 h2];exact lx d hd l _ m h hm
  ·cases h
theorem lr:∀(f u:Nat),u<10 ^ (f+1)->u<18446744073709551616->Lib.parseUint10 0 (dt (f+1) u)= .ok u
 | f,u,h,hb=>by
  rw[show dt (f+1) u=bif decide (u<10)then[UInt8.ofNat (48+u)]else dt f (u / 10)++[UInt8.ofNat (48+u % 10)]from rfl];by_cases h10:u<10
  ·rw[NJ h10]
   have:=lx u h10 [] 0 0 rfl (by omega)
   simpa using this
  ·rw[NV h10];simp only[Nh];cases f with
   |zero=>omega
   |succ f=>
    have ih:=lr f (u / 10) (by rw[O3]at h;omega) (by omega);rw[lx (u % 10) (by omega) _ 0 (u / 10) ih (by omega)];congr 1;omega
theorem xj(n:Int)(h0:-9223372036854775808<=n)(h1:n<=9223372036854775807):Lib.atoiAll (bG n)= .ok n:=by
 by_cases hn:0<=n
 ·rw[i8 hn];have hp:=lr 19 n.toNat (by omega) (by omega);cases hd:dt 20 n.toNat with
  |nil=>exact absurd hd (mY 19 _)
  |cons c r=>
   have hc:=mX 20 n.toNat c (by rw[hd];simp);rw[Lib.atoiAll_plain c r (by omega) (by omega),<- hd];unfold Lib.parseMag;rw[M9 (mY 19 _),hp];simp only[Lib.signless];rw[M9 (by omega)];congr 1;omega
 ·have e:bG n=45:: dt 20 n.natAbs:=by unfold bG;rw[NJ (by omega)];rfl
  have hp:=lr 19 n.natAbs (by omega) (by omega);have h45:(45:UInt8).toNat=45:=rfl;rw[e];unfold Lib.atoiAll;simp only[h45,or_true,Nj];unfold Lib.parseMag;rw[M9 (mY 19 _),hp];simp only[not_true_eq_false,false_and,Na,Pw,Nj];rw[M9 (by omega)];congr 1;omega
theorem mr:∀(f u k:Nat),u<10 ^ k->1<=k->(dt f u).length<=k
 |0,_,_,_,_=>by simp[dt]
 | f+1,u,k,h,hk=>by
  simp only[dt];by_cases h10:u<10
  ·rw[NJ h10];simp;omega
  ·rw[NV h10];obtain⟨j,rfl⟩:∃j,k=j+1:=⟨k-1,by omega⟩;have hj:1<=j:=by
    rcases NO j with rfl|h0
    ·simp at h;omega
    ·exact h0
   have:=mr f (u / 10) j (by rw[O3]at h;omega) hj
   simp;omega
def we{n:Int}(h0:-9223372036854775808<=n)(h1:n<=9223372036854775807):(bG n).length<=20:=by
 unfold bG;cases h:decide (n<0)with
 |true=>have:=mr 20 n.natAbs 19 (by omega) (by omega);simp;omega
 |false=>have:=mr 20 n.toNat 19 (by omega) (by omega);simp;omega
def eL(a:Int):Nat->aQ->Option Int
 |_,[]=>some a
 |i,c:: s=>if c.toNat<48\/57<c.toNat\/20<i then none else eL (IntKind.i64.wrap (IntKind.i64.wrap (10*a)-((c.toNat:Int)-48))) (i+1) s
def fO(s:aQ):Nat:=if s.head? = some 45 then 1 else 0
def fy(s:aQ):Int×Bool:=match eL 0 (fO s) (s.drop (fO s))with
 |none=>(0,false)
 |some a=>(if fO s=0 then IntKind.i64.wrap (-a)else a,bG (if fO s=0 then IntKind.i64.wrap (-a)else a)== s)
def pJ(a:Int):-9223372036854775808<=IntKind.i64.wrap a/\IntKind.i64.wrap a<=9223372036854775807:=by
 rw[IntKind.wrap_i64];omega
theorem pY:∀(s:aQ)(a:Int)(i:Nat){b:Int},(-9223372036854775808<=a/\a<=9223372036854775807)->eL a i s=some b->-9223372036854775808<=b/\b<=9223372036854775807
 |[],a,i,b,h,e=>by simp only[eL,M4]at e;subst e;exact h
 |c:: s,a,i,b,h,e=>by
  rw[eL]at e;split at e
  ·cases e
  ·exact pY s _ _ (pJ _) e
def nR(s:aQ):-9223372036854775808<=(fy s).1/\(fy s).1<=9223372036854775807:=by
 unfold fy;cases h:eL 0 (fO s) (s.drop (fO s))with
 |none=>simp
 |some a=>
  have:=pY _ _ _ (by omega) h
  simp only;split
  ·exact pJ _
  ·exact this
def sw{s:aQ}(h:(fy s).2=true):bG (fy s).1=s:=by
 unfold fy at h|-;cases hb:eL 0 (fO s) (s.drop (fO s))with
 |none=>rw[hb]at h;cases h
 |some a=>rw[hb]at h;exact NW.1 h
theorem kW(d:Nat)(hd:d<10):∀(l:aQ)(a b:Int)(i:Nat),eL a i l=some b->i+l.length<=20->eL a i (l++[UInt8.ofNat (48+d)])=some (IntKind.i64.wrap (IntKind.i64.wrap (10*b)-d))
 |[],a,b,i,e,hl=>by
  simp only[eL,M4]at e;subst e;have e:(UInt8.ofNat (48+d)).toNat=48+d:=by simp[OM];omega
  simp only[NF,eL,e];simp only[Nu]at hl;rw[M9 (by omega)];congr 3;omega
 | c:: l,a,b,i,e,hl=>by
  simp only[NQ,eL]at e |-;simp only[Nr]at hl;split at e
  ·cases e
  ·rename_i hc;rw[M9 hc];exact kW d hd l _ b (i+1) e (by omega)
theorem oL:∀(f u:Nat),u<10 ^ (f+1)->u<=9223372036854775807->f<=19->eL 0 0 (dt (f+1) u)=some (-(u:Int))
 | f,u,h,hb,hf=>by
  rw[show dt (f+1) u=bif decide (u<10)then[UInt8.ofNat (48+u)]else dt f (u / 10)++[UInt8.ofNat (48+u % 10)]from rfl];by_cases h10:u<10
  ·rw[NJ h10]
   have:=kW u h10 [] 0 0 0 rfl (by simp)
   rw[NF]at this;rw[M6,this,show (10:Int)*0=0 from rfl,bE (x:=0) (by omega) (by omega),bE (by omega) (by omega)];congr 1;omega
  ·rw[NV h10];simp only[Nh];cases f with
   |zero=>omega
   |succ f=>
    have ih:=oL f (u / 10) (by rw[O3]at h;omega) (by omega) (by omega);have hl:=jK (f+1) (u / 10);have w1:IntKind.i64.wrap (10 * -((u / 10:Nat):Int))=10 * -((u / 10:Nat):Int):=bE (by omega) (by omega);rw[kW (u % 10) (by omega) _ 0 _ 0 ih (by omega),w1,bE (by omega) (by omega)];congr 1;omega
def xk{n:Int}(h0:0<=n)(h1:n<=9223372036854775807):fy (bG n)=(n,true):=by
 have hz:fO (bG n)=0:=by
  unfold fO;rw[M9];intro h
  have:=s4 h0 45 (List.mem_of_mem_head? h)
  simp at this
 have hg:eL 0 0 (bG n)=some (-n):=by
  rw[i8 h0,oL 19 n.toNat (by omega) (by omega) (by omega)];congr 1;omega
 unfold fy;rw[hz,Nk,hg];simp only[Nn];rw[show -(-n)=n by omega,bE (by omega) (by omega)];simp
def cd(e:UInt8):Nat->aQ->Nat
 |0,_=>0
 |_+1,[]=>0
 |f+1,c:: s=>if c=e then 0 else cd e f s+1
theorem rm(e:UInt8):∀(f:Nat)(s:aQ),(Lib.indexByte (s.take f) e<0/\cd e f s=min s.length f)\/(Lib.indexByte (s.take f) e=cd e f s/\cd e f s<f/\s[cd e f s]? = some e)
 |0,s=>by left;simp[cd,Lib.indexByte]
 |f+1,[]=>by left;simp[cd,Lib.indexByte]
 | f+1,c:: s=>by
  rw[NI,cd,Lib.indexByte];by_cases hc:c=e
  ·right;simp[hc]
  ·have hc':(c== e)=false:=by simpa using hc
   rw[M9 hc,hc'];simp only[M3,Na];rcases rm e f s with⟨h1,h2⟩|⟨h1,h2,h3⟩
   ·left;have hm:Lib.indexByte (List.take f s) e= -1:=by have:=Lib.indexByte_ge (List.take f s) e;omega
    rw[hm,h2];simp
   ·right;have hm:(Lib.indexByte (List.take f s) e== -1)=false:=by rw[Ny];omega
    rw[hm,h1];refine⟨by simp,by omega,by simpa using h3⟩
def EF(e:UInt8)(r:Rs):Int×Rs:=
 if r.1[cd e 21 r.1]? = some e then
  (if(fy (r.1.take (cd e 21 r.1))).2=true/\0<=(fy (r.1.take (cd e 21 r.1))).1 then((fy (r.1.take (cd e 21 r.1))).1,(r.1.drop (cd e 21 r.1+1),r.2))else(0,ep))
 else(0,ep)
def EG(e:UInt8)(r:Rs):EF e r=aN e r:=by
 unfold EF aN;rcases rm e 21 r.1 with⟨h1,h2⟩|⟨h1,h2,h3⟩
 ·rw[Nn h1];split
  ·rename_i hs;rw[M9];rintro⟨hy,_⟩;have hl:=we (nR (r.1.take (cd e 21 r.1))).1 (nR _).2;rw[sw hy]at hl;have:cd e 21 r.1<r.1.length:=by
    rcases NE (cd e 21 r.1) r.1.length with h|h
    ·exact h
    ·rw[Oq h]at hs;cases hs
   simp at hl;omega
  ·rfl
 ·have hn:¬Lib.indexByte (r.1.take 21) e<0:=by omega
  rw[M9 hn,Nn h3,h1,Nb,Oz,Pf (by omega)];have hl:=nR (r.1.take (cd e 21 r.1));by_cases hy:(fy (r.1.take (cd e 21 r.1))).2=true
  ·have hi:=sw hy;have ha:=xj _ hl.1 hl.2;rw[hi]at ha;rw[ha];simp only[hi,Pw];rw[hy];simp
  ·rw[M9 (fun h=>hy h.1)];split
   ·rename_i n hn;rw[M9];rintro⟨h4,h5⟩;have hb:=Lib.atoiAll_bounds hn
    have:=xk h5 hb.2
    rw[h4]at this;rw[this]at hy;exact hy rfl
   ·rfl
def jE(r:Rs):Prop:=r.2=true->r.1=[]
def jP:jE ep:=fun _=>rfl
def fI(e:UInt8){r:Rs}(h:jE r):jE (aN e r).2:=by
 unfold aN;split
 ·exact jP
 ·split
  ·split
   ·intro hb;simp[h hb]
   ·exact jP
  ·exact jP
def jQ{r:Rs}(h:jE r):jE (bb r).2:=by
 have hn:=fI 58 h;unfold bb;split
 ·exact jP
 ·split
  ·rename_i c s hd;split
   ·split
    ·rename_i hb;rw[hn hb]at hd;simp at hd
    ·intro hb;cases hb
   ·exact jP
  ·exact jP
theorem ol{α:Type}{one:Rs->α×Rs}(h1:∀r,jE r->jE (one r).2)(n:Int)(cap:Nat):∀(f:Nat)(acc:List α)(r:Rs),jE r->jE (aR one n cap f acc r).2
 |0,acc,r,h=>h
 |f+1,acc,r,h=>by
  rw[aR];split
  ·exact ol h1 n cap f _ _ (h1 r h)
  ·exact h
def aT:Nat->Rs->Ty×Rs
 |0,r=>(⟨(aN 59 r).1,[]⟩,(aN 59 r).2)
 | d+1,r=>if(aN 59 r).1=2 then
   (⟨(aN 59 r).1,(aR (jN (aT d)) (aN 59 (aN 59 r).2).1 9 10 [] (aN 59 (aN 59 r).2).2).1⟩,(aR (jN (aT d)) (aN 59 (aN 59 r).2).1 9 10 [] (aN 59 (aN 59 r).2).2).2)
  else(⟨(aN 59 r).1,[]⟩,(aN 59 r).2)
theorem jR:∀(d:Nat){r:Rs},jE r->jE (aT d r).2
 |0,r,h=>fI 59 h
 |d+1,r,h=>by
  rw[aT];split
  ·exact ol (one:=jN (aT d)) (fun r hr=>jR d (jQ hr)) _ _ _ _ _ (fI 59 (fI 59 h))
  ·exact fI 59 h
def fY(r:Rs):Sig×Rs:=
 let a:=bb r;let m:=aN 59 a.2;let p:=aR (aT 4) m.1 9 10 [] m.2;let t:=aT 4 p.2;let e:=aN 59 t.2
 (⟨a.1,p.1,t.1,e.1⟩,e.2)
def Ef{r:Rs}(h:jE r):jE (fY r).2:=
 fI 59 (jR 4 (ol (fun _ hr=>jR 4 hr) _ _ _ _ _ (fI 59 (jQ h))))
def g7(s:aQ):Face:=
 let a:=bb (s,false);let n:=aN 59 a.2
 ⟨a.1,(aR fY n.1 39 40 [] n.2).1⟩
theorem mK:∀(d:Nat)(t:Ty),bw d t=true->∀r,aT d (bT t++r,false)=(t,(r,false))
 |0,t,h,r=>by simp[bw]at h
 | d+1,t,h,r=>by
  rw[cG]at h;simp only[M5,M8,NU,NW,Nl]at h;obtain⟨⟨⟨⟨h0,h1⟩,h2⟩,h3⟩,h4,_⟩:=h;rw[ka,aT];by_cases hk:t.kind=2
  ·have e:(bW t.kind++(if t.kind=2 then bW t.fields.length++t.fields.flatMap d7 else[]))++r=bW t.kind++(bW t.fields.length++(t.fields.flatMap d7++r)):=by rw[Nn hk];simp
   have hi:=fQ (jN (aT d)) d7 9 10 t.fields [] r (fun f hf=>by
    obtain⟨g1,g2⟩:=h4 f hf;refine⟨by rw[gE];simp[pH],fun r=>?_⟩;have hn:=cL g1;have e2:d7 f++r=eD f.1++(bT f.2++r):=by rw[gE];simp
    unfold jN;rw[e2,iM (by omega),mK d f.2 g2 r]) (by simp;omega) (by omega)
   rw[NF]at hi;rw[e,dG h0 (by omega),Nn hk];simp only;rw[dG (by omega) (by omega)];simp only;rw[hi];obtain⟨k,fs⟩:=t;rfl
  ·have hf:t.fields=[]:=Om.1 (by rcases h3 with h3|h3;exact absurd h3 hk;exact h3);have e:(bW t.kind++(if t.kind=2 then bW t.fields.length++t.fields.flatMap d7 else[]))++r=bW t.kind++r:=by rw[M9 hk];simp
   rw[e,dG h0 (by omega),M9 hk];obtain⟨k,fs⟩:=t;change fs=[]at hf;subst hf;rfl
def A4{s:Sig}(h:cH s=true)(he:0<=s.effects/\s.effects<=15)(r:aQ):fY (gh s++r,false)=(s,(r,false)):=by
 unfold cH at h;simp only[M5,M8,Nl]at h;obtain⟨⟨⟨⟨h1,h2⟩,_⟩,h4⟩,h5⟩:=h;have hn:=cL h1;have hi:=fQ (aT 4) bT 9 10 s.params [] (bT s.result++(bW s.effects++r)) (fun t ht=>by
  have hr:=h5 t ht;have hk:0<=t.kind:=by
   have:bw 4 t=true:=hr;rw[cG]at this;simp only[M5,M8]at this;exact this.1.1.1.1
  exact⟨xc hk,mK 4 t hr⟩) (by simp;omega) (by omega)
 rw[NF]at hi;have e:gh s++r=eD s.name++(bW s.params.length++(s.params.flatMap bT++(bT s.result++(bW s.effects++r)))):=by simp[gh]
 unfold fY;rw[e,iM (by omega)];simp only;rw[dG (by omega) (by omega)];simp only;rw[hi];simp only;rw[mK 4 _ h4];simp only;rw[dG he.1 (by omega)]
def xK{f:Face}(h:cI f=true)(he:∀s∈f.funcs,0<=s.effects/\s.effects<=15)(r:aQ):g7 (iV f++r)=f:=by
 unfold cI at h;simp only[M5,M8,Nl]at h;obtain⟨⟨h1,h2⟩,h3,_⟩:=h;have hn:=cL h1;have hi:=fQ fY gh 39 40 f.funcs [] r (fun s hs=>⟨by unfold gh;simp[pH],A4 (h3 s hs) (he s hs)⟩) (by simp;omega) (by omega);rw[NF]at hi;have e:iV f++r=eD f.module++(bW f.funcs.length++(f.funcs.flatMap gh++r)):=by simp[iV]
 unfold g7;rw[e,iM (by omega)];simp only;rw[dG (by omega) (by omega)];simp only;rw[hi]
def ly(s:aQ):Face×Int:=if(fk (g7 s)).2=0/\(fk (g7 s)).1=s then(g7 s,0)else(⟨[],[]⟩,2)
def wZ{f:Face}{s:aQ}:((fk f).2=0/\(fk f).1=s)↔(cI f=true/\iV f=s):=by
 unfold fk;split<;>simp_all
def CQ(s:aQ)(hx:cI (g9 s)=true->∀g∈(g9 s).funcs,0<=g.effects/\g.effects<=15)(hr:cI (g7 s)=true->∀g∈(g7 s).funcs,0<=g.effects/\g.effects<=15):ly s=fG s:=by
 unfold ly;split
 ·rename_i h;obtain⟨h1,h2⟩:=wZ.1 h
  have:=AW h1 (hr h1)
  rw[h2]at this;exact this.symm
 ·rename_i h;unfold fG;rw[M9];intro h';obtain⟨h1,h2⟩:=wZ.1 h'
  have:=xK h1 (hx h1) []
  rw[Og,h2]at this;exact h (this▸h')
def tM(a b:Int):Int:=IntKind.i64.wrap (BitVec.ofInt 64 a &&& BitVec.ofInt 64 b).toNat
theorem wrap64(n:Nat)(h:n<18446744073709551616):IntKind.i64.wrap (n:Int)=if 9223372036854775808<=n then(n:Int)-18446744073709551616 else(n:Int):=by
 have e:IntKind.i64.wrap (n:Int)=if decide ((n:Int) % 18446744073709551616 >= 9223372036854775808)=true then(n:Int) % 18446744073709551616-18446744073709551616 else(n:Int) % 18446744073709551616:=rfl
 grind
def EJ(v:BitVec 64):BitVec.ofInt 64 (IntKind.i64.wrap (v.toNat:Int))=v:=by
 have hv:=v.isLt
 grind [wrap64,BitVec.eq_of_toNat_eq,BitVec.toNat_ofInt]
def zH{a:Int}(h1:-9223372036854775808<=a)(h2:a<=9223372036854775807):IntKind.i64.wrap ((BitVec.ofInt 64 a).toNat:Int)=a:=by
 grind [wrap64,BitVec.toNat_ofInt]
def pS{a b:Int}(h1:-9223372036854775808<=a)(h2:a<=9223372036854775807)(h:(dB a b== 0)=true):tM a b=a:=by
 rw[oS]at h;have:BitVec.ofInt 64 a &&& BitVec.ofInt 64 b=BitVec.ofInt 64 a:=by
  generalize BitVec.ofInt 64 a=x at *;generalize BitVec.ofInt 64 b=y at *;apply PH;intro i hi;have e1:=Nq (·.getLsbD i) h;simp only[BitVec.getLsbD_and,BitVec.getLsbD_not,hi,Nf,Nx,BitVec.getLsbD_zero]at e1 |-;generalize x.getLsbD i=p at *;generalize y.getLsbD i=q at *;clear h;revert p q;decide
 unfold tM;rw[this,zH h1 h2]
theorem jG{α:Type}(F:α->α->Bool):(l:List α)->eK F l l=l.all fun x=>F x x
 |[]=>rfl
 |x:: l=>by simp[eK,jG F l]
def fD(l:List cO)(k:Nat):Bool:=l.all (fun f=>bu f.2)&&(decide (l.length<=k)&&ir [] (l.map (·.1)))
theorem qV:∀(l:List cO)(seen:List aQ),rV seen l=(ir seen (l.map (·.1))&&l.all (fun f=>bu f.2))
 |[],seen=>rfl
 |f:: l,seen=>by
  simp only[rV,NL,ir,N0,qV l];cases seen.contains f.1<;>cases bg f.1<;>cases bu f.2<;>simp
def og(l:List cO)(k:Nat):fD l k=cJ l k:=by
 unfold fD cJ;rw[qV];have e:decide ((l.length:Int)<=(k:Int))=decide (l.length<=k):=by rw[N3];omega
 rw[e];generalize ir [] (l.map (·.1))=a;generalize l.all (fun f=>bu f.2)=b;cases a<;>cases b<;>cases decide (l.length<=k)<;>rfl
def sU(f:Fun):Bool:=fD f.params 6&&bu f.result&&(decide (0<=f.effects)&&decide (f.effects<=15))&&lU f.body
theorem pd:∀(l:List Fun)(seen:List aQ),(∀f∈l,(dB f.effects 15== 0)=(decide (0<=f.effects)&&decide (f.effects<=15)))->mg seen l=(ir seen (l.map (·.name))&&l.all sU)
 |[],seen,_=>rfl
 |f:: l,seen,h=>by
  have hf:=h f (by simp);have e:fD f.params 6=cJ f.params 6:=og _ 6;simp only[mg,NL,ir,N0,pd l _ (fun g hg=>h g (by simp[hg])),xQ,sU,e,hf];cases seen.contains f.name<;>cases bg f.name<;>cases cJ f.params 6<;>cases bu f.result<;>cases lU f.body<;>cases (decide (0<=f.effects)&&decide (f.effects<=15))<;>simp
def moveF(m:Mod):Bool:=
 if m.moves=true then fD m.old 8&&decide (m.forward.length=m.vars.length)&&decide (m.back.length=m.old.length)&&m.forward.all lU&&m.back.all lU
 else decide (m.old.length+m.forward.length+m.back.length=0)
def Ca(m:Mod):Bool:=bg m.name&&decide (m.uses.length<=12)&&ir [] m.uses&&fD m.vars 8&&decide (m.init.length=m.vars.length)&&m.init.all lU&&decide (m.funcs.length<=30)
def uw(m:Mod):Bool:=Ca m&&(m.funcs.all sU&&(ir [] (m.funcs.map (·.name))&&moveF m))
theorem AY(m:Mod)(h:∀f∈m.funcs,(dB f.effects 15== 0)=(decide (0<=f.effects)&&decide (f.effects<=15))):uw m=jc m:=by
 have e1:fD m.vars 8=cJ m.vars 8:=og _ 8;have e2:fD m.old 8=cJ m.old 8:=og _ 8;unfold uw jc Ca rc moveF;rw[pd _ _ h,e1,e2];generalize ir [] m.uses=a1;generalize ir [] (m.funcs.map (·.name))=a2;generalize m.funcs.all sU=a3;generalize bg m.name=a4;generalize cJ m.vars 8=a5;generalize m.init.all lU=a6;have e3:((m.init.length:Int)== (m.vars.length:Int))=decide (m.init.length=m.vars.length):=by rw[N1];simp
 rw[e3];generalize decide (m.init.length=m.vars.length)=a7;generalize decide (m.uses.length<=12)=a8;generalize decide (m.funcs.length<=30)=a9;cases hm:m.moves with
 |true=>
  have e4:((m.forward.length:Int)== (if true=true then(m.vars.length:Int)else 0))=decide (m.forward.length=m.vars.length):=by rw[Nn rfl,N1];simp
  have e5:((m.back.length:Int)== (m.old.length:Int))=decide (m.back.length=m.old.length):=by rw[N1];simp
  rw[Nn rfl,e4,e5];generalize cJ m.old 8=b1;generalize decide (m.forward.length=m.vars.length)=b2;generalize decide (m.back.length=m.old.length)=b3;generalize m.forward.all lU=b4;generalize m.back.all lU=b5;cases a1<;>cases a2<;>cases a3<;>cases a4<;>simp;cases a5<;>cases a6<;>cases a7<;>cases a8<;>cases a9<;>simp;cases b1<;>cases b2<;>cases b3<;>cases b4<;>cases b5<;>rfl
 | false=>
  rw[M9 (by decide)];by_cases h0:m.old.length+m.forward.length+m.back.length=0
  ·have o0:m.old=[]:=Om.1 (by omega);have f0:m.forward=[]:=Om.1 (by omega);have b0:m.back=[]:=Om.1 (by omega);have r0:cJ [] 8=true:=rfl;rw[o0,f0,b0,r0];cases a1<;>cases a2<;>cases a3<;>cases a4<;>simp;cases a5<;>cases a6<;>cases a7<;>cases a8<;>cases a9<;>rfl
  ·rw[NV h0];have hz:((false||decide (m.old.length=0))&&(cJ m.old 8&&(m.forward.all lU&&((m.forward.length:Int)== (if false=true then(m.vars.length:Int)else 0)))&&(m.back.all lU&&((m.back.length:Int)== (m.old.length:Int)))))=false:=by
    rw[Ow];intro hc;simp only[M5,PP,M8,NW]at hc;have h1:=hc.1;have h2:=hc.2.1.2.2;have h3:=hc.2.2.2;rw[M9 (by decide)]at h2;omega
   have hz2:∀x:Bool,(x&&(false||decide (m.old.length=0))&&(cJ m.old 8&&(m.forward.all lU&&((m.forward.length:Int)== (if false=true then(m.vars.length:Int)else 0)))&&(m.back.all lU&&((m.back.length:Int)== (m.old.length:Int)))))=false:=fun x=>by
    rw[Bool.and_assoc,hz,Oe]
   rw[hz2];simp
open Go.RowKit Go.Sort Go.Proofs in
theorem HG(keys:List aQ)(n i j:Nat):ltOf (Du keys n) i j=aG keys[i % n]! keys[j % n]!:=by
 unfold ltOf Du xy
 grind
open Go.RowKit Go.Sort Go.Proofs in
def KN(keys:List aQ)(n:Nat):SWO (ltOf (Du keys n)):=by
 refine⟨fun x=>?_,fun x y z=>?_,fun x y z=>?_⟩
 ·rw[HG,eA]
 ·grind [HG,dn]
 ·rw[HG,HG,HG];intro h1 h2;cases h3:aG keys[x % n]! keys[z % n]! with
  |false=>rfl
  |true=>
   grind [dn,eb]
open Go.RowKit Go.Sort Go.Proofs in
def q7(keys:List aQ):(gn keys).Perm (List.range keys.length)/\(gn keys).Pairwise fun i j=>aG keys[j % keys.length]! keys[i % keys.length]! = false:=by
 have h:=pdq_sorts (ltOf (Du keys keys.length)) (KN keys keys.length) (Array.range keys.length) 0 (Array.range keys.length).size (Lib.bitLen (Array.range keys.length).size) true true (Nz _) (M7 _) (Or.inl rfl);obtain⟨⟨hs,_,hp⟩,ho⟩:=h;unfold gn;generalize pdq (ltOf (Du keys keys.length)) (Array.range keys.length) 0 (Array.range keys.length).size (Lib.bitLen (Array.range keys.length).size) true true=d at hs hp ho;refine⟨?_,?_⟩
 ·grind [Array.extract_size]
 ·rw[List.pairwise_iff_getElem];intro i j hi hj hij;simp only[NZ]at hi hj
  have:=ho i j (Nz _) hij (by omega)
  grind [HG]
def eZ(l:List Sig):List Sig:=(gn (l.map (·.name))).map fun i=>l[i % l.length]!
def je(l:List Sig):(eZ l).Perm l:=by
 have h:=(q7 (l.map (·.name))).1;rw[N7]at h;have h2:=h.map fun i=>l[i % l.length]!;refine h2.trans ?_;have e:(List.range l.length).map (fun i=>l[i % l.length]!)=l:=by
  apply Pr
  ·simp
  ·grind [Nat.mod_eq_of_lt]
 rw[e]
def uC(l:List Sig):(eZ l).Pairwise fun a b=>aG b.name a.name=false:=by
 have h:=(q7 (l.map (·.name))).2;unfold eZ;rw[Pz];rw[N7]at h;refine h.imp fun{i j} h=>?_;have e:∀i:Nat,(l.map (·.name))[i % l.length]! = (l[i % l.length]!).name:=fun i=>by
  by_cases hl:i % l.length<l.length
  ·grind
  ·have h0:l=[]:=by
    rcases NO l.length with h|h
    ·grind
    ·exact absurd (PO i h) hl
   subst h0;rfl
 grind
def wS(f:Fun):Sig:=⟨f.name,f.params.map (·.2),f.result,f.effects⟩
def eQ(l:List Fun):List Sig:=(l.filter (·.pub)).map wS
def lh:Face:=⟨[],[]⟩
def EH(m:Mod):Face:=if jc m=true then⟨m.name,eZ (eQ m.funcs)⟩else lh
def yo{l:List Fun}(hn:(l.map (·.name)).Nodup):((eQ l).map (·.name)).Nodup:=by
 have e:(eQ l).map (·.name)=(l.filter (·.pub)).map (·.name):=by
  unfold eQ;rw[O1];rfl
 grind
def uD{l:List Sig}(hn:(l.map (·.name)).Nodup):(eZ l).Pairwise fun a b=>aG a.name b.name=true:=by
 have h1:=uC l;have h2:((eZ l).map (·.name)).Nodup:=((je l).map _).nodup_iff.2 hn;have h3:(eZ l).Pairwise fun a b=>a.name≠b.name:=by
  have:=h2
  unfold List.Nodup at this;rw[Pz]at this;exact this
 exact h1.imp₂ (fun a b x y=>eb _ _ x (PL y)) h3
theorem tB:(l l':List Sig)->(l.Pairwise fun a b=>aG a.name b.name=true)->(l'.Pairwise fun a b=>aG a.name b.name=true)->(∀x,x∈l↔x∈l')->l=l'
 |[],[],_,_,_=>rfl
 |[],y:: l',_,_,h=>by grind [List.mem_cons_self]
 |x:: l,[],_,_,h=>by grind [List.mem_cons_self]
 | x:: l,y:: l',h1,h2,h=>by
  obtain⟨a1,a2⟩:=OY.1 h1;obtain⟨b1,b2⟩:=OY.1 h2;have no:∀ {s:Sig},aG s.name s.name=true->False:=fun hs=>by rw[eA]at hs;cases hs
  have e:x=y:=by
   rcases NT.1 ((h x).1 List.mem_cons_self)with e|e
   ·exact e
   ·grind [dn]
  subst e;congr 1;refine tB l l' a2 b2 fun z=>⟨fun hz=>?_,fun hz=>?_⟩
  all_goals grind
def EI{m:Mod}(hm:m.Lim):(EH m).Lim:=by
 unfold EH;split
 ·rename_i hr;have hl:(eZ (eQ m.funcs)).length<=30:=by
   rw[(je _).length_eq];unfold eQ;rw[N7];exact NK (O4 _ _) (yj hr).flen
  refine⟨by grind,fun s hs=>?_⟩;have hs':s∈eQ m.funcs:=(je _).mem_iff.1 hs;unfold eQ at hs';obtain⟨f,hf,rfl⟩:=Ou.1 hs';have hf':=hm.fns f (List.mem_filter.1 hf).1;refine⟨?_,fun t ht=>?_,hf'.result⟩
  ·show (f.params.map (·.2)).length<=_;rw[N7];exact hf'.params
  ·obtain⟨z,hz,rfl⟩:=Ou.1 ht;exact hf'.pty z hz
 ·exact⟨by decide,fun s hs=>by cases hs⟩
def eH(s:Sig)(P:List Sig):Nat->List Sig
 |0=>s:: P
 |k+1=>match P[k]? with
  |some p=>if aG s.name p.name=true then eH s P k else P.take (k+1)++s:: P.drop (k+1)
  |none=>s:: P
theorem tc(s:Sig)(P:List Sig):∀(k:Nat)(x:Sig),x∈eH s P k↔x=s\/x∈P
 |0,x=>by simp[eH]
 | k+1,x=>by
  rw[eH];split
  ·split
   ·exact tc s P k x
   ·have:x∈P↔x∈P.take (k+1)\/x∈P.drop (k+1):=by rw[<- N5,List.take_append_drop]
    rw[this];simp only[N5,NT]
    grind
  ·simp
theorem lO(s:Sig)(P:List Sig):∀(k:Nat),(eH s P k).length=P.length+1
 |0=>by simp[eH]
 | k+1=>by
  rw[eH];split
  ·split
   ·exact lO s P k
   ·simp;omega
  ·simp
theorem nH(s:Sig)(P:List Sig)(hP:P.Pairwise fun a b=>aG a.name b.name=true)(hs:∀p∈P,p.name≠s.name):∀(k:Nat),k<=P.length->(∀p∈P.drop k,aG s.name p.name=true)->(eH s P k).Pairwise fun a b=>aG a.name b.name=true
 |0,_,h=>by
  rw[eH,OY];exact⟨fun p hp=>h p (by simpa using hp),hP⟩
 | k+1,hk,h=>by
  have hlt:k<P.length:=hk;have hd:P.drop k=P[k]:: P.drop (k+1):=Ng hlt;rw[eH,Ns hlt];simp only;split
  ·rename_i hc;exact nH s P hP hs k (by omega) (fun p hp=>by
    rw[hd]at hp;rcases NT.1 hp with rfl|hp
    ·exact hc
    ·exact h p hp)
  ·rename_i hc;rw[OG]at hc;have hps:aG P[k].name s.name=true:=eb _ _ hc (PL (hs _ (Ni hlt)));have hsplit:P.take (k+1)++P.drop (k+1)=P:=List.take_append_drop _ _;have hP2:=hP;rw[<- hsplit,OQ]at hP2;rw[OQ,OY];have hlast:∀a∈P.take (k+1),aG a.name s.name=true:=by
    intro a ha;have ht:P.take (k+1)=P.take k++[P[k]]:=by rw[Pl,Ns hlt];rfl
    have hq:=hP2.1;rw[ht,OQ]at hq;rw[ht]at ha;rcases N5.1 ha with ha|ha
    ·exact dn _ _ _ (hq.2.2 a ha _ (by simp)) hps
    ·rw[OL]at ha;rw[ha];exact hps
   refine⟨hP2.1,⟨h,hP2.2.1⟩,fun a ha b hb=>?_⟩;rcases NT.1 hb with rfl|hb
   ·exact hlast a ha
   ·exact hP2.2.2 a ha b hb
def iY(l:List Sig):List Sig:=l.foldl (fun P s=>eH s P P.length) []
theorem sX:∀(l P:List Sig),(P.map (·.name)++l.map (·.name)).Nodup->(P.Pairwise fun a b=>aG a.name b.name=true)->
  (l.foldl (fun P s=>eH s P P.length) P).Pairwise (fun a b=>aG a.name b.name=true)/\∀x,x∈l.foldl (fun P s=>eH s P P.length) P↔x∈P\/x∈l
 |[],P,_,h=>⟨h,fun x=>by simp⟩
 | s :: l,P,hn,h=>by
  rw[PI];have hs:∀p∈P,p.name≠s.name:=by
   intro p hp e;rw[List.nodup_append]at hn;exact hn.2.2 p.name (List.mem_map_of_mem hp) s.name (by simp) e
  have hn':((eH s P P.length).map (·.name)++l.map (·.name)).Nodup:=by
   have hperm:((eH s P P.length).map (·.name)++l.map (·.name)).Perm (P.map (·.name)++(s:: l).map (·.name)):=by
    have hp:∀k,(eH s P k).Perm (s:: P):=by
     intro k
     induction k with
     |zero=>exact List.Perm.refl _
     | succ k ih=>
      rw[eH];split
      ·split
       ·exact ih
       ·exact List.perm_middle.trans (by rw[List.take_append_drop])
      ·exact List.Perm.refl _
    have h1:=((hp P.length).map (·.name)).append_right (l.map (·.name));refine h1.trans ?_;simp only[NL,NQ];exact List.perm_middle.symm
   exact hperm.nodup_iff.2 hn
  obtain⟨r1,r2⟩:=sX l (eH s P P.length) hn' (nH s P h hs P.length (M7 _) (by simp));refine⟨r1,fun x=>?_⟩;rw[r2,tc];simp only[NT]
  grind
def vZ{l:List Sig}(hn:(l.map (·.name)).Nodup):iY l=eZ l:=by
 obtain⟨r1,r2⟩:=sX l [] (by simpa using hn) List.Pairwise.nil;refine tB _ _ r1 (uD hn) fun x=>?_;rw[show iY l=l.foldl (fun P s=>eH s P P.length) []from rfl,r2];simp[(je l).mem_iff]
end Go.Av.Ap
namespace Go.Av.Ap
mutual
def fj:Ty->Ty->Bool
 |.mk k fs,.mk k' fs'=>k== k'&&uz fs fs'
def uz:List cO->List cO->Bool
 |[],[]=>true
 |f:: l,g:: m=>CV f g&&uz l m
 |_,_=>false
def CV:aQ×Ty->aQ×Ty->Bool
 |(s,t),(s',t')=>s== s'&&fj t t'
end
def A0(f g:cO):CV f g=(f.1== g.1&&fj f.2 g.2):=by
 obtain⟨s,t⟩:=f;obtain⟨s',t'⟩:=g;rfl
theorem pi:(a b:List cO)->uz a b=eK (fun x y=>x.1== y.1&&fj x.2 y.2) a b
 |[],[]=>rfl
 |[],_:: _=>rfl
 |_:: _,[]=>rfl
 |v:: a,w:: b=>by simp only[uz,eK,pi a b,A0]
def rk(a b:Ty):fj a b=(a.kind== b.kind&&eK (fun x y=>x.1== y.1&&fj x.2 y.2) a.fields b.fields):=by
 cases a;cases b;simp only[fj,pi,Ty.kind,Ty.fields]
mutual
def KD:Exp->Exp->Bool
 |.mk o n s m ns es,.mk o' n' s' m' ns' es'=>o== o'&&n== n'&&s== s'&&m== m'&&ns== ns'&&CU es es'
def CU:List Exp->List Exp->Bool
 |[],[]=>true
 |f:: l,g:: m=>KD f g&&CU l m
 |_,_=>false
end
def Dk{e:Ty}{x:cO}(h:x∈e.fields):SizeOf.sizeOf x.2<SizeOf.sizeOf e:=by
 cases e with
 |mk k fs=>
  have h1:=List.sizeOf_lt_of_mem h;have h2:SizeOf.sizeOf x.2<SizeOf.sizeOf x:=by cases x;simp;omega
  have h3:SizeOf.sizeOf x<SizeOf.sizeOf fs:=h1;simp only[Ty.mk.sizeOf_spec];show SizeOf.sizeOf x.2<1+SizeOf.sizeOf k+SizeOf.sizeOf fs;omega
end Go.Av.Ap
