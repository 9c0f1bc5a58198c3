/- What the functions compute, part 5. Conditions: bounds. -/
import Derived.Test.YtighgcgmocboaaaGreatDoorTd
import Derived.Test.YtighgcgmocboaaaGreatDoorLd
set_option linter.defProp false
set_option linter.unusedSimpArgs false
set_option linter.unusedVariables false
namespace Go.Proofs.YtighgcgmocboaaaGreatDoor
open Go Go.Av Go.Av.Ap
set_option maxRecDepth 100000
@[simp] theorem JE(t:Nat)(a b:Int):bo T .geq t (.int .u8 a) (.int .u8 b)=some (.bool (decide (b<=a))):=rfl
@[simp] theorem JF(t:Nat)(a b:Int):bo T .leq t (.int .u8 a) (.int .u8 b)=some (.bool (decide (a<=b))):=rfl
@[simp] theorem K5(t:Nat)(a b:aQ):bo T .leq t (.str a) (.str b)=some (.bool (aG a b||a== b)):=rfl
def Ev(f:AV)(F:cO->Bool)(l:List cO)(hb:l.length<=4611686018427387904)(hf:∀x∈l,dO (ab pg) f [bm x]=am (.bool (F x))):∀(n:Nat)(i:Int),l.length-i.toNat=n->0<=i->i<=l.length->
  ak (L154_0 (ab pg) ak) [aO l,f,.int .i64 l.length,.int .i64 i]=am (.int .i64 (cV F (l.drop i.toNat) i)):=by
 intro n
 induction n with
 |zero=>
  intro i hn hi hl;rw[FL154_0];simp only[L154_0];have h1:¬(i<(l.length:Int)):=by omega
  have h2:l.drop i.toNat=[]:=Nc (by omega);simp[h1,h2,cV]
 |succ n ih=>
  intro i hn hi hl;have h1:i<(l.length:Int):=by omega
  have hlt:i.toNat<l.length:=by omega
  have h2:cV F (l.drop i.toNat) i=if F l[i.toNat]=true then i else cV F (l.drop (i.toNat+1)) (i+1):=by rw[Ng hlt];rfl
  have h3:=hf l[i.toNat] (Ni hlt);have h4:=ih (i+1) (by omega) (by omega) (by omega);rw[show (i+1).toNat=i.toNat+1 by omega]at h4;rw[FL154_0];simp only[L154_0];simp (disch:=omega) [h1,bE,kK,h3,h2];simp_all
def t154(f:AV)(F:cO->Bool)(l:List cO)(hb:l.length<=4611686018427387904)(hc:∀g,cl g f=f)(hf:∀x∈l,dO (ab pg) f [bm x]=am (.bool (F x))):ab pg 154 [aO l,f]=am (.int .i64 (cV F l 0)):=by
 rw[C154];simp[S154,hc,Ev f F l hb hf l.length 0 rfl (by omega) (by omega)]
def t135(f:AV)(F:cO->Bool)(l:List cO)(hb:l.length<=4611686018427387904)(hc:∀g,cl g f=f)(hf:∀x∈l,dO (ab pg) f [bm x]=am (.bool (F x))):ab pg 135 [aO l,f]=am (.bool (l.any F)):=by
 rw[C135];simp[S135,hc,t154 f F l hb hc hf,oi]
def Er(f:AV)(F:Ty->Bool)(l:List Ty)(hb:l.length<=4611686018427387904)(hf:∀x∈l,dO (ab pg) f [Ty.av x]=am (.bool (F x))):∀(n:Nat)(i:Int),l.length-i.toNat=n->0<=i->i<=l.length->
  ak (L118_0 (ab pg) ak) [ig l,f,.int .i64 l.length,.int .i64 i]=am (.int .i64 (cV F (l.drop i.toNat) i)):=by
 intro n
 induction n with
 |zero=>
  intro i hn hi hl;rw[FL118_0];simp only[L118_0];have h1:¬(i<(l.length:Int)):=by omega
  have h2:l.drop i.toNat=[]:=Nc (by omega);simp[h1,h2,cV]
 |succ n ih=>
  intro i hn hi hl;have h1:i<(l.length:Int):=by omega
  have hlt:i.toNat<l.length:=by omega
  have h2:cV F (l.drop i.toNat) i=if F l[i.toNat]=true then i else cV F (l.drop (i.toNat+1)) (i+1):=by rw[Ng hlt];rfl
  have h3:=hf l[i.toNat] (Ni hlt);have h4:=ih (i+1) (by omega) (by omega) (by omega);rw[show (i+1).toNat=i.toNat+1 by omega]at h4;rw[FL118_0];simp only[L118_0];simp (disch:=omega) [h1,bE,uN,h3,h2];simp_all
def t118(f:AV)(F:Ty->Bool)(l:List Ty)(hb:l.length<=4611686018427387904)(hc:∀g,cl g f=f)(hf:∀x∈l,dO (ab pg) f [Ty.av x]=am (.bool (F x))):ab pg 118 [ig l,f]=am (.int .i64 (cV F l 0)):=by
 rw[C118];simp[S118,hc,Er f F l hb hf l.length 0 rfl (by omega) (by omega)]
def t83(f:AV)(F:Ty->Bool)(l:List Ty)(hb:l.length<=4611686018427387904)(hc:∀g,cl g f=f)(hf:∀x∈l,dO (ab pg) f [Ty.av x]=am (.bool (F x))):ab pg 83 [ig l,f]=am (.bool (l.any F)):=by
 rw[C83];simp[S83,hc,t118 f F l hb hc hf,oi]
def GW(f:AV)(F:Sig->Bool)(l:List Sig)(hb:l.length<=4611686018427387904)(hf:∀x∈l,dO (ab pg) f [Sig.av x]=am (.bool (F x))):∀(n:Nat)(i:Int),l.length-i.toNat=n->0<=i->i<=l.length->
  ak (L46_0 (ab pg) ak) [sigs l,f,.int .i64 l.length,.int .i64 i]=am (.int .i64 (cV F (l.drop i.toNat) i)):=by
 intro n
 induction n with
 |zero=>
  intro i hn hi hl;rw[FL46_0];simp only[L46_0];have h1:¬(i<(l.length:Int)):=by omega
  have h2:l.drop i.toNat=[]:=Nc (by omega);simp[h1,h2,cV]
 |succ n ih=>
  intro i hn hi hl;have h1:i<(l.length:Int):=by omega
  have hlt:i.toNat<l.length:=by omega
  have h2:cV F (l.drop i.toNat) i=if F l[i.toNat]=true then i else cV F (l.drop (i.toNat+1)) (i+1):=by rw[Ng hlt];rfl
  have h3:=hf l[i.toNat] (Ni hlt);have h4:=ih (i+1) (by omega) (by omega) (by omega);rw[show (i+1).toNat=i.toNat+1 by omega]at h4;rw[FL46_0];simp only[L46_0];simp (disch:=omega) [h1,bE,pM,h3,h2];simp_all
def t46(f:AV)(F:Sig->Bool)(l:List Sig)(hb:l.length<=4611686018427387904)(hc:∀g,cl g f=f)(hf:∀x∈l,dO (ab pg) f [Sig.av x]=am (.bool (F x))):ab pg 46 [sigs l,f]=am (.int .i64 (cV F l 0)):=by
 rw[C46];simp[S46,hc,GW f F l hb hf l.length 0 rfl (by omega) (by omega)]
def t112(b:UInt8):ab pg 112 [.int .u8 b.toNat]=am (.bool (fJ b)):=by
 rw[C112];have e:decide ((b.toNat:Int)<=122)=decide (b.toNat<=122):=N3.2 (by omega);have e2:decide (97<=(b.toNat:Int))=decide (97<=b.toNat):=N3.2 (by omega);simp[S112,fJ,e,e2]
def t115(b:UInt8):ab pg 115 [.int .u8 b.toNat]=am (.bool (kZ b)):=by
 rw[C115];have e:decide ((b.toNat:Int)<=57)=decide (b.toNat<=57):=N3.2 (by omega);have e2:decide (48<=(b.toNat:Int))=decide (48<=b.toNat):=N3.2 (by omega);simp[S115,kZ,e,e2]
def t114(b:UInt8):ab pg 114 [.int .u8 b.toNat]=am (.bool (iO b)):=by
 simp_all[C114,S114,t112,t115,iO]
theorem zd{s:aQ}{i:Nat}(h:i<s.length):bN T 9 (.str s) (.int .i64 (i:Int))=some (.int .u8 (s[i].toNat:Int)):=by
 have e1:bN T 9 (.str s) (.int .i64 (i:Int))=(if(i:Int)<0 then none else s[(i:Int).toNat]?.map fun b=>.int .u8 b.toNat):=rfl
 grind
def Ep(F:UInt8->Bool)(f:AV)(s:aQ)(hb:s.length<=4611686018427387904)(hf:∀b:UInt8,dO (ab pg) f [.int .u8 b.toNat]=am (.bool (F b))):∀(n i:Nat),s.length-i=n->i<=s.length->
  ak (L113_0 (ab pg) ak) [.str s,f,.int .i64 i]=am (.int .i64 ((i+((s.drop i).takeWhile F).length:Nat):Int)):=by
 intro n
 induction n with
 |zero=>
  intro i hn hi;rw[FL113_0];simp only[L113_0];have h1:¬((i:Int)<(s.length:Int)):=by omega
  have h2:s.drop i=[]:=Nc (by omega);simp[h1,h2]
 | succ n ih=>
  intro i hn hi;have hlt:i<s.length:=by omega
  have h1:(i:Int)<(s.length:Int):=by omega
  have h2:s.drop i=s[i]:: s.drop (i+1):=Ng hlt;have h4:=ih (i+1) (by omega) (by omega);have hw:IntKind.i64.wrap ((i:Int)+1)=((i+1:Nat):Int):=aE (by omega);rw[FL113_0];simp only[L113_0,aj,ao,K8,ae,ax,h1,Nf,au,zd hlt,hf,ai,aw,ah,ba,hw,h4,h2,List.takeWhile_cons];cases F s[i]
  ·simp
  ·rw[Nn rfl,Nn rfl];congr 3
   grind
def t80(s:aQ):ab pg 80 [.str s]=am (.bool (iA s)):=by
 rw[C80];by_cases hs:s=[]
 ·subst hs;simp[S80,iA]
 ·have hs':(s== [])=false:=Ny.2 hs;have hpos:0<s.length:=Oh.2 hs;have h0:=zd (s:=s) (i:=0) hpos;have hd:s[0]=s.headD 0:=by cases s with|nil=>grind|cons c s=>rfl
  rw[hd]at h0;simp at h0;by_cases hl:s.length<=20
  ·have h1:=Ep iO (.fn (.func 114) [] []) s (by omega) (fun b=>t114 b) s.length 0 (by simp) (by simp);have hsp:ab pg 113 [.str s,.fn (.func 114) [] []]=am (.int .i64 (((s.takeWhile iO).length:Nat):Int)):=by
    rw[C113];simp only[S113,cl,fo];rw[show (AV.int .i64 0)=AV.int .i64 ((0:Nat):Int)from rfl,h1];simp
   have e1:decide (20<(s.length:Int))=false:=by rw[NC];omega
   have e3:decide (20<s.length)=false:=by rw[NC];omega
   have e4:decide (s.length<=20)=true:=by simpa using hl
   simp[S80,hs',h0,t112,hsp,e1,e3,e4,iA]
  ·have e1:decide (20<(s.length:Int))=true:=by rw[M8];omega
   have e3:decide (20<s.length)=true:=by rw[M8];omega
   have e4:decide (s.length<=20)=false:=by simpa using hl
   simp[S80,hs',h0,t112,e1,e3,e4,iA]
def t81(s:aQ):ab pg 81 [.str jZ,.str s]=am (.bool (Lib.contains jZ s)):=by
 rw[cE hOther (E:=jJ) rfl];rfl
theorem zF(t:Nat)(a b:aQ):bo T .add t (.str a) (.str b)=if a.length+b.length<=4611686018427387904 then some (.str (a++b))else none:=rfl
def t51(s:aQ):ab pg 51 [.str s]=am (.bool (bg s)):=by
 rw[C51];have h1:=t80 s;unfold bg;cases hw:iA s with
 |false=>
  rw[hw]at h1;simp[S51,h1]
 |true=>
  have hl:=tD hw;rw[hw]at h1;have h2:=t81 ([32]++s++[32]);unfold jZ at h2;have e1:bo T .add 9 (.str [32]) (.str s)=some (.str ([32]++s)):=by rw[zF,Nn (by simp;omega)]
  have e2:bo T .add 9 (.str ([32]++s)) (.str [32])=some (.str ([32]++s++[32])):=by rw[zF,Nn (by simp;omega)]
  simp only[S51,qa,h1,ai,au,e1,ae,e2,h2,bp,aj,aw,gJ,Nx];rfl
def ze{t:Ty}(h:t.Lim)(k:Nat)(hk:k<t.fields.length):(t.fields[k]!).2.Lim:=by
 rw[Nt t.fields k hk];exact h.kid (Ni hk)
theorem t117:∀(d:Nat),d<=4->∀(t:Ty),t.Lim->ab pg 117 [t.av,.int .i64 d]=am (.bool (bw d t))
 |0,_,t,_=>by
  rw[C117];simp[S117,bw]
 | d + 1,hd,t,ht=>by
  have ih:=t117 d (by omega);have hlen:=ht.len;have hd1:IntKind.i64.wrap ((((d+1:Nat)):Int)-1)=(d:Int):=eS (by omega);have hloop:=ko (F:=L117_0 (ab pg) ak) (FL117_0 (ab pg)) (fun k=>[.int .i64 ((d+1:Nat):Int),.ip (af t.av),aO t.fields,.int .i64 t.fields.length,.int .i64 k]) t.fields.length
   (fun k=>(bg (t.fields[k]!).1&&bw d (t.fields[k]!).2)&&(decide (k=0)||dp (t.fields[k-1]!).1 (t.fields[k]!).1))
   (by simp[L117_0]) (fun k hk=>by
    have h1:(k:Int)<(t.fields.length:Int):=by omega
    have hix:=kK (l:=t.fields) (n:=(k:Int)) (by omega) h1;rw[Nb]at hix;have hm:t.fields[k]! ∈t.fields:=by rw[Nt t.fields k hk];exact Ni hk
    have h2:=t51 (t.fields[k]!).1;have h3:=ih (t.fields[k]!).2 (ze ht k hk);have hw:IntKind.i64.wrap ((k:Int)+1)=(k:Int)+1:=by rw[aE (by omega)];simp
    have hd0:IntKind.i64.wrap (d:Int)=(d:Int):=Do (by omega);generalize t.fields[k]! = f at hix h2 h3 hm |-;rcases NO k with hk0|hk0
    ·subst hk0;have hix0:aL T 23 (aO t.fields) (.int .i64 0)=some (.ip (af (bm f))):=hix;have hw0:IntKind.i64.wrap 1=1:=rfl;simp[L117_0,hix0,h2,h3,hw0,hd0,hk];cases bg f.1<;>cases bw d f.2<;>simp
    ·have hp:IntKind.i64.wrap ((k:Int)-1)=((k-1:Nat):Int):=by
      rw[bE (by omega) (by omega)];omega
     have h4:((k-1:Nat):Int)<(t.fields.length:Int):=by omega
     have hix2:=kK (l:=t.fields) (n:=((k-1:Nat):Int)) (by omega) h4;rw[Nb]at hix2;generalize t.fields[k-1]! = g at hix2 |-;have hk1:¬k=0:=by omega
     simp[L117_0,h1,hix,h2,h3,hw,hd0,hp,hix2,hk0,hk1,hk];cases bg f.1<;>simp
     grind [dp]) 0 (Nz _)
  have hall:((List.range' 0 t.fields.length).all fun k=>(bg (t.fields[k]!).1&&bw d (t.fields[k]!).2)&&(decide (k=0)||dp (t.fields[k-1]!).1 (t.fields[k]!).1))=(t.fields.all (fun f=>bg f.1&&bw d f.2)&&gz (fun a b=>dp a.1 b.1) t.fields):=
   mT (fun f:cO=>bg f.1&&bw d f.2) (fun a b=>dp a.1 b.1) t.fields
  rw[OI,hall]at hloop;rw[C117];have h0:¬((d:Int)+1=0):=by omega
  have hl2:ak (L117_0 (ab pg) ak) [.int .i64 ((d:Int)+1),.ip [.int .i64 t.kind,aO t.fields],aO t.fields,.int .i64 t.fields.length,.int .i64 0]=am (.bool (t.fields.all (fun f=>bg f.1&&bw d f.2)&&gz (fun a b=>dp a.1 b.1) t.fields)):=by
   simpa using hloop
  have hR:bw (d+1) t=if((t.kind<0\/3<=t.kind)\/8<(t.fields.length:Int))\/¬t.kind=2/\0<t.fields.length then false else(t.fields.all (fun f=>bg f.1&&bw d f.2)&&gz (fun a b=>dp a.1 b.1) t.fields):=by
   rw[cG];generalize (t.fields.all (fun f=>bg f.1&&bw d f.2)&&gz (fun a b=>dp a.1 b.1) t.fields)=q;generalize t.fields.length=n;generalize t.kind=k;split
   ·grind
   ·grind
  rw[hR];simp[S117,h0,hl2]
def t82(t:Ty)(ht:t.Lim):ab pg 82 [t.av]=am (.bool (bu t)):=by
 rw[C82];have:ab pg 117 [t.av,.int .i64 4]=am (.bool (bw 4 t)):=t117 4 (by omega) t ht;simp[S82,this]
def t100(t:Ty)(ht:t.Lim):ab pg 100 [t.av]=am (.bool (bu t)):=by
 rw[C100];simp[S100,t82 t ht]
theorem oX:(l:List cO)->gF (eV l)=some (l.map fun f=>(f.1,f.2.kind,eV f.2.fields))
 |[]=>rfl
 |f:: l=>by simp[eV,gF,oX l,fg,vI,aO]
theorem s6{α β:Type}(g:α->β)(p:β->Bool):(l:List α)->cC p (l.map g)=(cC (fun x=>p (g x)) l).map g
 |[]=>rfl
 |x:: l=>by
  simp only[NL,cC,s6 g p l]
  grind
def ty0:Ty:=.mk 0 []
def t137(l:List cO)(hl:l.length<=1000000000)(s:aQ):ab pg 137 [aO l,.str s]=am (.tup [((cC (fun f=>f.1== s) l).map (·.2)).getD ty0 |>.av,.bool (cC (fun f=>f.1== s) l).isSome]):=by
 rw[cE hOther (E:=lP) rfl];unfold lP aO;simp only[oX,N7,hl,Nf,M6,yc,s6];cases cC (fun f:cO=>f.1== s) l with
 |none=>rfl
 |some f=>simp[bF,am,Ty.av,Ty.cells_eq,aO];rfl
def Ty.Short:Nat->Ty->Prop
 |0,_=>True
 |n+1,t=>t.fields.length<=1000000000/\∀f∈t.fields,Ty.Short n f.2
theorem kB:∀(d:Nat)(t:Ty),bw d t=true->∀n,Ty.Short n t
 |0,t,h,_=>by cases h
 |d+1,t,h,0=>trivial
 |d+1,t,h,n+1=>by
  rw[cG]at h;simp only[M5,M8,Nl]at h;exact⟨by omega,fun f hf=>kB d f.2 (h.2.1 f hf).2 n⟩
theorem s7{α:Type}{p:α->Bool}:{l:List α} ->{x:α} ->cC p l=some x->x∈l/\p x=true
 |[],x,h=>by cases h
 | y:: l,x,h=>by
  simp only[cC]at h;cases h2:cC p l with
  |some z=>
   rw[h2]at h;cases h
   have:=s7 h2
   grind
  |none=>
   grind
def wA{α:Type}(P:α->Bool)(l:List α):(!l.any fun x=>!P x)=l.all P:=by grind
theorem t101:∀(n:Nat)(b a:Ty),Ty.Short n a->Ty.Short n b->bw n b=true->ab pg 101 [a.av,b.av]=am (.bool (iP a b))
 |0,b,a,_,_,h=>by cases h
 | n+1,b,a,ha,hb,h=>by
  have ih:=t101 n;rw[cG]at h;simp only[M5,M8,Nl]at h;have hf:∀f∈b.fields,dO (ab pg) (.fn (.func 136) [] [.ip (af a.av)]) [bm f]=am (.bool (!(match cC (fun z=>z.1== f.1) a.fields with|some z=>iP z.2 f.2|none=>false))):=by
   intro f hfm;show ab pg 136 [bm f,.ip (af a.av)]=_;have h1:=t137 a.fields ha.1 f.1;rw[C136];cases hl:cC (fun z:cO=>z.1== f.1) a.fields with
   |none=>
    simp_all[S136,cl,fo]
   |some z=>
    rw[hl]at h1;have h2:=ih f.2 z.2 (ha.2 z (s7 hl).1) (hb.2 f hfm) (h.2.1 f hfm).2;simp[S136,h1,cl,fo,h2]
  have h2:=t135 (.fn (.func 136) [] [.ip (af a.av)]) _ b.fields (by grind) (fun g=>by simp[cl,fo]) hf;rw[C101,sA];simp at h2;simp[S101,h2]
  grind
def t61(a b:Ty)(ha:a.Lim)(hb:b.Lim):ab pg 61 [a.av,b.av]=am (.bool (lC a b)):=by
 rw[C61];unfold lC;have h1:=t100 a ha;have h2:=t100 b hb;cases r1:bu a with
 |false=>
  rw[r1]at h1;simp[S61,h1]
 | true=>
  cases r2:bu b with
  |false=>
   rw[r1]at h1;rw[r2]at h2;simp[S61,h1,h2]
  |true=>
   rw[r1]at h1;rw[r2]at h2;have h3:=t101 4 b a (kB 4 a r1 4) (kB 4 b r2 4) r2;simp[S61,h1,h2,h3]
def t60(f:AV)(F:Ty->Ty->Bool)(a b:List Ty)(hb:a.length<=4611686018427387904)(hc:∀g,cl g f=f)(hf:∀x∈a,∀y∈b,dO (ab pg) f [x.av,y.av]=am (.bool (F x y))):ab pg 60 [ig a,ig b,f]=am (.bool (eK F a b)):=by
 rw[C60];by_cases h:a.length=b.length
 ·have hloop:=ko (FL60_0 (ab pg)) (fun k=>[ig b,f,ig a,.int .i64 a.length,.int .i64 (k:Int)]) a.length (fun k=>F a[k]! b[k]!)
   (by simp[L60_0]) (fun k hk=>by
    have h1:(k:Int)<(a.length:Int):=by omega
    have h1b:(k:Int)<(b.length:Int):=by omega
    have hixa:=uN (l:=a) (n:=(k:Int)) (by omega) h1;have hixb:=uN (l:=b) (n:=(k:Int)) (by omega) h1b;rw[Nb]at hixa hixb;have hma:a[k]! ∈a:=by rw[Nt a k hk];exact Ni hk
    have hmb:b[k]! ∈b:=by rw[Nt b k (by omega)];exact Ni (by omega)
    have h3:=hf _ hma _ hmb;have hw:IntKind.i64.wrap ((k:Int)+1)=(k:Int)+1:=by rw[aE (by omega)];simp
    generalize a[k]! = x at hixa h3 |-;generalize b[k]! = y at hixb h3 |-;simp[L60_0,hk,hixa,hixb,h3,hw];cases F x y<;>simp) 0 (Nz _)
  rw[OI,pR F a b h]at hloop;simp[S60,h,hc]at hloop |-;simp[hloop]
 ·have h2:=eF F a b h;have h3:(a.length != b.length)=true:=by simp[h]
  simp[S60,h3,hc,h2]
@[simp] theorem Gg(t:Nat)(a b:Int):bo T .andNot t (.int .i64 a) (.int .i64 b)=some (.int .i64 (dB a b)):=rfl
def t20(a b:Sig)(ha:a.Lim)(hb:b.Lim):ab pg 20 [a.av,b.av]=am (.bool (Dg a b)):=by
 rw[C20];have h1:=t60 (.fn (.func 61) [] []) lC b.params a.params (by have:=hb.plen;omega) (fun g=>rfl) (fun x hx y hy=>t61 x y (hb.ptys x hx) (ha.ptys y hy));have h2:=t61 a.result b.result ha.result hb.result;unfold Dg;cases r1:eK lC b.params a.params with
 |false=>
  rw[r1]at h1;simp[S20,h1]
 | true=>
  cases r2:lC a.result b.result with
  |false=>
   rw[r1]at h1;rw[r2]at h2;simp[S20,h1,h2]
  |true=>
   rw[r1]at h1;rw[r2]at h2;simp[S20,h1,h2]
def t84(t:Ty)(ht:t.Lim):ab pg 84 [t.av]=am (.bool (!(bu t))):=by
 rw[C84];simp[S84,t82 t ht]
def t52(s:Sig)(hs:s.Lim):ab pg 52 [s.av]=am (.bool (cH s)):=by
 rw[C52];have h1:=t51 s.name;have h2:=t82 s.result hs.result;have h3:=t83 (.fn (.func 84) [] []) (fun t=>!(bu t)) s.params (by have:=hs.plen;omega) (fun g=>rfl) (fun x hx=>t84 x (hs.ptys x hx));unfold cH;rw[<- wA bu s.params];generalize (s.params.any fun x=>!bu x)=q at h3 |-;by_cases g1:bg s.name=true
 ·rw [g1]at h1;by_cases g2:s.params.length<=6
  ·have g2':¬(6<(s.params.length:Int)):=by omega
   have g2n:¬(6<s.params.length):=by omega
   by_cases g3:dB s.effects 15=0
   ·by_cases g4:bu s.result=true
    ·rw[g4]at h2;simp[S52,h1,h2,h3,g1,g2,g2',g2n,g3,g4]
    ·rw[OG]at g4;rw[g4]at h2;simp[S52,h1,h2,h3,g1,g2,g2',g2n,g3,g4]
   ·have g3':(dB s.effects 15== 0)=false:=Ny.2 g3;simp[S52,h1,h2,h3,g1,g2,g2',g2n,g3,g3']
  ·have g2':6<(s.params.length:Int):=by omega
   have g2n:6<s.params.length:=by omega
   simp[S52,h1,h2,h3,g1,g2,g2',g2n]
 ·rw[OG]at g1;rw[g1]at h1;simp[S52,h1,h2,h3,g1]
theorem t16(f:Face)(hf:f.Lim):ab pg 16 [f.av]=am (.bool (cI f)):=by
 have hlen:=hf.len;have hloop:=ko (FL16_0 (ab pg)) (fun k=>[.ip (af f.av),sigs f.funcs,.int .i64 f.funcs.length,.int .i64 (k:Int)]) f.funcs.length
  (fun k=>cH f.funcs[k]! && (decide (k=0)||aG (f.funcs[k-1]!).name (f.funcs[k]!).name))
  (by simp[L16_0]) (fun k hk=>by
   have h1:(k:Int)<(f.funcs.length:Int):=by omega
   have hix:=pM (l:=f.funcs) (n:=(k:Int)) (by omega) h1;rw[Nb]at hix;have hm:f.funcs[k]! ∈f.funcs:=by rw[Nt f.funcs k hk];exact Ni hk
   have h2:=t52 _ (hf.sigs _ hm);have hw:IntKind.i64.wrap ((k:Int)+1)=(k:Int)+1:=by rw[aE (by omega)];simp
   generalize f.funcs[k]! = x at hix h2 hm |-;rcases NO k with hk0|hk0
   ·subst hk0;have hix0:aL T 30 (sigs f.funcs) (.int .i64 0)=some (.ip (af x.av)):=hix;have hw0:IntKind.i64.wrap 1=1:=rfl;simp[L16_0,hix0,h2,hw0,hk];cases cH x<;>simp
   ·have hp:IntKind.i64.wrap ((k:Int)-1)=((k-1:Nat):Int):=by
     rw[bE (by omega) (by omega)];omega
    have h4:((k-1:Nat):Int)<(f.funcs.length:Int):=by omega
    have hix2:=pM (l:=f.funcs) (n:=((k-1:Nat):Int)) (by omega) h4;rw[Nb]at hix2;generalize f.funcs[k-1]! = g at hix2 |-;have hk1:¬k=0:=by omega
    simp[L16_0,h1,hix,h2,hw,hp,hix2,hk0,hk1,hk];cases cH x<;>cases aG g.name x.name<;>simp) 0 (Nz _)
 have hall:((List.range' 0 f.funcs.length).all fun k=>cH f.funcs[k]! && (decide (k=0)||aG (f.funcs[k-1]!).name (f.funcs[k]!).name))=(f.funcs.all cH&&gz (fun a b=>aG a.name b.name) f.funcs):=
  mT cH (fun a b=>aG a.name b.name) f.funcs
 rw[OI,hall]at hloop;have hl2:ak (L16_0 (ab pg) ak) [.ip [.str f.module,sigs f.funcs],sigs f.funcs,.int .i64 f.funcs.length,.int .i64 0]=am (.bool (f.funcs.all cH&&gz (fun a b=>aG a.name b.name) f.funcs)):=by
  simpa using hloop
 rw[C16];have h1:=t51 f.module;unfold cI;by_cases g1:bg f.module=true
 ·rw[g1]at h1;by_cases g2:f.funcs.length<=30
  ·have g2':¬(30<(f.funcs.length:Int)):=by omega
   have g2n:¬(30<f.funcs.length):=by omega
   simp[S16,h1,g1,g2,g2',g2n,hl2]
  ·have g2':30<(f.funcs.length:Int):=by omega
   have g2n:30<f.funcs.length:=by omega
   simp[S16,h1,g1,g2,g2',g2n]
 ·rw[OG]at g1;rw[g1]at h1;simp[S16,h1,g1]
theorem BP(k:Int)(es:List Exp):cv T false 56 [(0,.int .i64 k),(5,dC es)]=some (Exp.mk k 0 [] [] [] es).av:=rfl
def xx(e:Exp):cy 6 e.av=am e.av:=by simp_all
def BE(e:Exp):aI 6 [] e.av=am e.av:=by simp_all
def f6(o n:Int)(s m:aQ)(ns:List aQ)(es:List Exp):AV.agg [.int .i64 o,.int .i64 n,.str s,.str m,strs ns,dC es]=(Exp.mk o n s m ns es).av:=lj (Exp.mk o n s m ns es)
def L3(o n:Int)(s m:aQ)(es:List Exp):AV.agg [.int .i64 o,.int .i64 n,.str s,.str m,.sl [],dC es]=(Exp.mk o n s m [] es).av:=lj (Exp.mk o n s m [] es)
def zb(e:Exp)(n:Int):aP (am (.tup [e.av,.int .i64 n]))=am (.tup [e.av,.int .i64 n]):=bD fun g=>by simp[cl,fo]
def gw(o n:Int)(s m:aQ)(ns:List aQ)(es:List Exp):af (Exp.mk o n s m ns es).av=[.int .i64 o,.int .i64 n,.str s,.str m,strs ns,dC es]:=gu _
def t146(e:Exp):ab pg 146 [e.av]=am (.tup [(gC e).1.av,.int .i64 (gC e).2]):=by
 have hc1:∀n:Int,cw (.int .i64 n)=am (.int .i64 n):=fun n=>rfl;have hc2:∀s:aQ,cw (.str s)=am (.str s):=fun s=>rfl;have hc3:∀s:List aQ,cw (strs s)=am (strs s):=fun s=>rfl;rw[C146];obtain⟨o,n,s,m,ns,es⟩:=e;have ho:o=0\/o=1\/o=2\/o=17\/o=18\/o=14\/o=16\/o=10\/o=12\/o=11\/o=13\/o=15\/(o≠0/\o≠1/\o≠2/\o≠17/\o≠18/\o≠14/\o≠16/\o≠10/\o≠12/\o≠11/\o≠13/\o≠15):=by omega
 rcases ho with rfl|rfl|rfl|rfl|rfl|rfl|rfl|rfl|rfl|rfl|rfl|rfl|⟨h0,h1,h2,h17,h18,h14,h16,h10,h12,h11,h13,h15⟩
 all_goals first
  | (simp[S146,K146_0,K146_1,K146_2,BP,BE,gw,f6,L3,hc1,hc2,hc3,gC,Exp.op,Exp.n,Exp.s,Exp.m,Exp.names,Exp.args]
     exact zb _ _)
  | (simp[S146,K146_0,K146_1,K146_2,BP,BE,gw,f6,L3,hc1,hc2,hc3,gC,Exp.op,Exp.n,Exp.s,Exp.m,Exp.names,Exp.args,h0,h1,h2,h17,h18,h14,h16,h10,h12,h11,h13,h15]
     exact zb _ _)
theorem Ct(e:Exp)(he:e.Lim):ak (L147_0 (ab pg) ak) [.ip (af e.av),strs e.names,.int .i64 e.names.length,.int .i64 0]=am (.bool (uj e.names)):=by
 have hlen:=he.names
 have hloop:∀(m i:Nat),e.names.length-i=m->i<=e.names.length->ak (L147_0 (ab pg) ak) [.ip (af e.av),strs e.names,.int .i64 e.names.length,.int .i64 i]=am (.bool ((List.range' i (e.names.length-i)).all (fun k=>bg e.names[k]! && (decide (k=0)||dp e.names[k-1]! e.names[k]!))&&decide (e.names.length<=8))):=by
  intro m
  induction m with
  |zero=>
   intro i hm hi;rw[FL147_0,hm];have h1:¬((i:Int)<(e.names.length:Int)):=by omega
   have h2:decide ((e.names.length:Int)<=8)=decide (e.names.length<=8):=by rw[N3];omega
   simp[L147_0,h1,h2]
  | succ m ih=>
   intro i hm hi;have hlt:i<e.names.length:=by omega
   have h1:(i:Int)<(e.names.length:Int):=by omega
   have ih':=ih (i+1) (by omega) (by omega);have er:List.range' i (e.names.length-i)=i:: List.range' (i+1) (e.names.length-(i+1)):=by
    rw[show e.names.length-i=(e.names.length-(i+1))+1 by omega,List.range'_succ]
   have hix:=xd (l:=e.names) (n:=(i:Int)) (by omega) h1;rw[Nb]at hix;have hw:IntKind.i64.wrap ((i:Int)+1)=((i+1:Nat):Int):=aE (by omega);have h2:=t51 e.names[i]!;rw[FL147_0,er,N0];generalize e.names[i]! = s at hix h2 |-;cases hn:bg s with
   |false=>
    simp_all[L147_0]
   | true=>
    rw[hn]at h2;rcases NO i with hk0|hk0
    ·subst hk0;have hix0:aL T 22 (strs e.names) (.int .i64 0)=some (.ip (af (.str s))):=hix;have hw0:IntKind.i64.wrap 1=1:=rfl;simp_all[L147_0]
    ·have hp:IntKind.i64.wrap ((i:Int)-1)=((i-1:Nat):Int):=by
      rw[bE (by omega) (by omega)];omega
     have h4:((i-1:Nat):Int)<(e.names.length:Int):=by omega
     have hix2:=xd (l:=e.names) (n:=((i-1:Nat):Int)) (by omega) h4;rw[Nb]at hix2;generalize e.names[i-1]! = g at hix2 |-;have hk2:0<(i:Int):=by omega
     have hk3:¬i=0:=by omega
     have hle:bo T .leq 9 (.str s) (.str g)=some (.bool (!(dp g s))):=by
      have:bo T .leq 9 (.str s) (.str g)=some (.bool (aG s g||s== g)):=rfl;rw[this];simp[dp]
     cases hs:dp g s with
     |false=>
      simp_all[L147_0]
     |true=>
      simp_all[L147_0]
 have h:=hloop e.names.length 0 rfl (Nz _);rw[OI,mT]at h;exact h
theorem t147(e:Exp)(he:e.Lim):ab pg 147 [e.av]=am (.bool (gm e)):=by
 rw[C147];have hs:=t51 e.s;have hm:=t51 e.m;have hbn:=Ct e he;obtain⟨o,n,s,m,ns,es⟩:=e;simp only[gw,Exp.names]at hbn;simp only[Exp.s,Exp.m]at hs hm;have ho:o=0\/o=1\/o=2\/o=17\/o=18\/o=14\/o=16\/o=12\/o=13\/o=15\/(o≠0/\o≠1/\o≠2/\o≠17/\o≠18/\o≠14/\o≠16/\o≠12/\o≠13/\o≠15):=by omega
 rcases ho with rfl|rfl|rfl|rfl|rfl|rfl|rfl|rfl|rfl|rfl|⟨h0,h1,h2,h17,h18,h14,h16,h12,h13,h15⟩
 ·simp[S147,K147_0,gw,gm,Exp.op,Exp.n,Exp.s,Exp.m,Exp.names,Exp.args];rfl
 ·simp_all[S147,gm,Exp.op]
 ·simp_all[S147,K147_0,gm,Exp.op,Exp.s]
 ·simp_all[S147,K147_0,gm,Exp.op,Exp.s]
 ·simp_all[S147,K147_0,gm,Exp.op,Exp.s]
 ·simp_all[S147,K147_0,gm,Exp.op,Exp.s]
 ·simp_all[S147,gm,Exp.op]
 ·simp_all[S147,K147_0,gm,Exp.op,Exp.s]
 ·simp_all[S147,K147_0,gm,Exp.op,Exp.n,Exp.s,Exp.m,Exp.names,Exp.args]
 ·have e6:bo T .leq 3 (.int .i64 es.length) (.int .i64 6)=some (.bool (decide (es.length<=6))):=by
   have:bo T .leq 3 (.int .i64 es.length) (.int .i64 6)=some (.bool (decide ((es.length:Int)<=6))):=rfl;rw[this];exact Nq (fun b=>some (AV.bool b)) (N3.2 (by omega))
  cases ha:bg s with
  |false=>simp_all[S147,K147_0,gm,Exp.op,Exp.s]
  | true=>
   rw[ha]at hs;by_cases hme:m=[]
   ·simp[S147,K147_0,gw,gm,Exp.op,Exp.n,Exp.s,Exp.m,Exp.names,Exp.args,hs,ha,hme,e6,-bY];try rfl
   ·cases hb:bg m with
    |false=>rw[hb]at hm;simp[S147,K147_0,gw,gm,Exp.op,Exp.n,Exp.s,Exp.m,Exp.names,Exp.args,hs,hm,ha,hb,hme,e6,-bY];try rfl
    |true=>rw[hb]at hm;simp[S147,K147_0,gw,gm,Exp.op,Exp.n,Exp.s,Exp.m,Exp.names,Exp.args,hs,hm,ha,hb,hme,e6,-bY];try rfl
 simp_all[S147,K147_0,gm,Exp.op]
theorem t123:∀(d:Nat),d<=100->∀(e:Exp),e.Lim->ab pg 123 [e.av,.int .i64 d]=am (.bool (d9 d e))
 |0,_,e,_=>by
  rw[C123];simp[S123,d9]
 | d+1,hd,e,he=>by
  have hlen:=he.len;have hd1:IntKind.i64.wrap (((d+1:Nat):Int)-1)=(d:Int):=eS (by omega);have hloop:∀(m i:Nat),e.args.length-i=m->i<=e.args.length->ak (L123_0 (ab pg) ak) [.int .i64 ((d+1:Nat):Int),dC e.args,.int .i64 e.args.length,.int .i64 i]=am (.bool ((e.args.drop i).all (d9 d))):=by
   intro m
   induction m with
   |zero=>
    intro i hm hi;have h1:¬((i:Int)<(e.args.length:Int)):=by omega
    have h2:e.args.drop i=[]:=Nc (by omega);rw[FL123_0,h2];simp[L123_0,h1]
   |succ m ih=>
    intro i hm hi;have hlt:i<e.args.length:=by omega
    have h1:(i:Int)<(e.args.length:Int):=by omega
    have h2:e.args.drop i=e.args[i]:: e.args.drop (i+1):=Ng hlt;have hix:=zI (l:=e.args) (n:=(i:Int)) (by omega) h1;rw[Nb,Nt e.args i hlt]at hix;have hw:IntKind.i64.wrap ((i:Int)+1)=((i+1:Nat):Int):=aE (by omega);have hb:=t123 d (by omega) e.args[i] (he.kid (Ni hlt));have ih':=ih (i+1) (by omega) (by omega);rw[h2,N0,FL123_0];generalize e.args[i]=x at hix hb |-;cases hr:d9 d x<;>rw[hr]at hb <;>
    simp only[L123_0,aj,ao,ax,ae,h1,Nf,ah,Nj,hix,gu,LD56,Nr,Nu,NB,Nat.reduceAdd,M7,NI,NM,lj,xx,ai,fl,hd1,hb,bp,Nw,Nv,M3,Na,ba,hw,ih',NG,Nx]
  have hx':ak (L123_0 (ab pg) ak) [.int .i64 ((d:Int)+1),dC e.args,.int .i64 e.args.length,.int .i64 0]=am (.bool (e.args.all (d9 d))):=hloop e.args.length 0 rfl (Nz _);have hc:=t146 e;have hl:=t147 e he;rw[C123,pf];unfold oC;generalize (gC e).1=c at hc |-;generalize (gC e).2=n at hc |-;have g1:(((d:Int)+1)== 0)=false:=by rw[Ny];omega
  have x0:dw (.tup [c.av,.int .i64 n]) 0=some c.av:=rfl;have x1:dw (.tup [c.av,.int .i64 n]) 1=some (.int .i64 n):=rfl;have e1:bo T .neq 3 (.int .i64 c.n) (.int .i64 e.n)=some (.bool (!(c.n== e.n))):=rfl;have e2:bo T .neq 9 (.str c.s) (.str e.s)=some (.bool (!(c.s== e.s))):=rfl;have e3:bo T .neq 9 (.str c.m) (.str e.m)=some (.bool (!(c.m== e.m))):=rfl;have e4:bo T .neq 3 (.int .i64 c.names.length) (.int .i64 e.names.length)=some (.bool (!((c.names.length:Int)== (e.names.length:Int)))):=rfl;have e5:bo T .neq 3 (.int .i64 n) (.int .i64 e.args.length)=some (.bool (!(n== (e.args.length:Int)))):=rfl;have e6:bo T .geq 3 (.int .i64 n) (.int .i64 0)=some (.bool (!(decide (n<0)))):=by
   have:bo T .geq 3 (.int .i64 n) (.int .i64 0)=some (.bool (decide (0<=n))):=rfl;rw[this,<- decide_not];exact Nq (fun b=>some (AV.bool b)) (N3.2 (by omega))
  have e7:bo T .lss 3 (.int .i64 e.op) (.int .i64 0)=some (.bool (!(decide (0<=e.op)))):=by
   have:bo T .lss 3 (.int .i64 e.op) (.int .i64 0)=some (.bool (decide (e.op<0))):=rfl;rw[this,<- decide_not];exact Nq (fun b=>some (AV.bool b)) (N3.2 (by omega))
  have e8:bo T .geq 3 (.int .i64 e.op) (.int .i64 19)=some (.bool (!(decide (e.op<19)))):=by
   have:bo T .geq 3 (.int .i64 e.op) (.int .i64 19)=some (.bool (decide (19<=e.op))):=rfl;rw[this,<- decide_not];exact Nq (fun b=>some (AV.bool b)) (N3.2 (by omega))
  generalize (c.n== e.n)=b1 at e1 |-;generalize (c.s== e.s)=b2 at e2 |-;generalize (c.m== e.m)=b3 at e3 |-;generalize ((c.names.length:Int)== (e.names.length:Int))=b4 at e4 |-;generalize (n== (e.args.length:Int))=b5 at e5 |-;generalize decide (n<0)=b6 at e6 |-;generalize decide (0<=e.op)=b7 at e7 |-;generalize decide (e.op<19)=b8 at e8 |-;generalize gm e=bl at hl |-;generalize e.args.all (d9 d)=bx at hx' |-;cases b7 with
  |false=>simp[S123,g1,e7,-ax]
  | true=>
   cases b8 with
   |false=>simp_all[S123]
   |true=>
    cases b6<;>cases b5<;>cases b1<;>cases b2<;>cases b3<;>cases b4<;>cases bl<;>simp[S123,g1,hc,x0,x1,xx,hl,hx',e1,e2,e3,e4,e5,e6,e7,e8,-ax,-pw,-DK]
def t90(e:Exp)(he:e.Lim):ab pg 90 [e.av]=am (.bool (lU e)):=by
 have hb':ab pg 123 [e.av,.int .i64 12]=am (.bool (d9 12 e)):=t123 12 (by omega) e he;rw[C90];simp[S90,hb']
def t119(b:UInt8):ab pg 119 [.int .u8 b.toNat]=am (.bool (fJ b)):=by
 rw[C119];have e:decide ((b.toNat:Int)<=122)=decide (b.toNat<=122):=N3.2 (by omega);have e2:decide (97<=(b.toNat:Int))=decide (97<=b.toNat):=N3.2 (by omega);simp[S119,fJ,e,e2]
def t120(b:UInt8):ab pg 120 [.int .u8 b.toNat]=am (.bool (kZ b)):=by
 rw[C120];have e:decide ((b.toNat:Int)<=57)=decide (b.toNat<=57):=N3.2 (by omega);have e2:decide (48<=(b.toNat:Int))=decide (48<=b.toNat):=N3.2 (by omega);simp[S120,kZ,e,e2]
theorem G3(s:aQ)(hb:s.length<=4611686018427387904):∀(n i:Nat),s.length-i=n->i<=s.length->ak (L85_0 (ab pg) ak) [.str s,.int .i64 i]=am (.bool ((s.drop i).all iO)):=by
 intro n
 induction n with
 |zero=>
  intro i hn hi;rw[FL85_0];have h1:¬((i:Int)<(s.length:Int)):=by omega
  have h2:s.drop i=[]:=Nc (by omega);simp[L85_0,h1,h2]
 |succ n ih=>
  intro i hn hi;have hlt:i<s.length:=by omega
  have h1:(i:Int)<(s.length:Int):=by omega
  have h2:s.drop i=s[i]:: s.drop (i+1):=Ng hlt;have h4:=ih (i+1) (by omega) (by omega);have hw:IntKind.i64.wrap ((i:Int)+1)=((i+1:Nat):Int):=aE (by omega);have hx:=zd hlt;rw[h2,FL85_0];generalize s[i]=c at hx;have h5:=t119 c;have h6:=t120 c;have e:iO c=(fJ c||kZ c):=rfl;rw[N0,e];cases hl:fJ c<;>cases hd:kZ c<;>rw[hl]at h5<;>rw[hd]at h6<;>simp[L85_0,h1,hlt,hx,h5,h6,hw]
  all_goals simpa using h4
def t85(s:aQ):ab pg 85 [.str s]=am (.bool (iA s)):=by
 rw[C85,Dn];by_cases hs:s=[]
 ·subst hs;simp[S85]
 ·have hs':(s== [])=false:=Ny.2 hs;have hpos:0<s.length:=Oh.2 hs;have h0:=zd (s:=s) (i:=0) hpos;have hd:s[0]=s.headD 0:=by cases s with|nil=>exact absurd rfl hs|cons c s=>rfl
  rw[hd]at h0;clear hd;have e0:¬((s.length:Int)<1):=by omega
  have hlet:=t119 (s.headD 0);generalize s.headD 0=c at h0 hlet |-;have h0':bN T 9 (.str s) (.int .i64 0)=some (.int .u8 (c.toNat:Int)):=h0;clear h0;by_cases hl:s.length<=20
  ·have h1:=G3 s (by omega) (s.length-1) 1 rfl (by omega);have h1':ak (L85_0 (ab pg) ak) [.str s,.int .i64 1]=am (.bool ((s.drop 1).all iO)):=h1;generalize (s.drop 1).all iO=q at h1' |-;have e1:¬(20<(s.length:Int)):=by omega
   rw[hs',NJ hl];cases hh:fJ c with
   |false=>rw[hh]at hlet;simp[S85,e0,e1,h0',hlet]
   |true=>rw[hh]at hlet;simp[S85,e0,e1,h0',hlet,h1']
  ·have e1:20<(s.length:Int):=by omega
   have e4:decide (s.length<=20)=false:=by simpa using hl
   simp[S85,e0,e1,e4]
def G4(l:List aQ)(s:aQ)(hb:l.length<=4611686018427387904):∀(n i:Nat),l.length-i=n->i<=l.length->ak (L86_0 (ab pg) ak) [strs l,.str s,.int .i64 i]=am (.int .i64 (cV (fun x=>x== s) (l.drop i) i)):=by
 intro n
 induction n with
 |zero=>
  intro i hn hi;rw[FL86_0];have h1:¬((i:Int)<(l.length:Int)):=by omega
  have h2:l.drop i=[]:=Nc (by omega);simp[L86_0,h1,h2,cV]
 | succ n ih=>
  intro i hn hi;have hlt:i<l.length:=by omega
  have h1:(i:Int)<(l.length:Int):=by omega
  have h2:l.drop i=l[i]:: l.drop (i+1):=Ng hlt;have h4:=ih (i+1) (by omega) (by omega);have hw:IntKind.i64.wrap ((i:Int)+1)=((i+1:Nat):Int):=aE (by omega);have hix:=xd (l:=l) (n:=(i:Int)) (by omega) h1;rw[Nb,Nt l i hlt]at hix;rw[h2,FL86_0];generalize l[i]=c at hix;simp only[cV];by_cases hc:c=s
  ·subst hc;simp[L86_0,h1,hlt,hix]
  ·have hc':(c== s)=false:=Ny.2 hc;simp only[L86_0,aj,ao,gp,ae,ax,h1,Nf,ah,Nj,hix,kd,LD9,nJ,hc',M3,Na,ba,hw,h4];simp
def t86(l:List aQ)(s:aQ)(hb:l.length<=4611686018427387904):ab pg 86 [strs l,.str s]=am (.int .i64 (cV (fun x=>x== s) l 0)):=by
 rw[C86];have h:=G4 l s hb l.length 0 rfl (Nz _);rw[Nk]at h;have h':ak (L86_0 (ab pg) ak) [strs l,.str s,.int .i64 0]=am (.int .i64 (cV (fun x=>x== s) l 0)):=h;simp[S86,h']
def t87:ab pg 87 []=am (strs iL):=by
 rw[C87];rfl
def za(l:List aQ)(s:aQ):decide (cV (fun x=>x== s) l 0<0)= !(l.contains s):=by
 have h:=oi (fun x=>x== s) l;have e:l.contains s=l.any fun x=>x== s:=by
  rw[List.contains_eq_any_beq];congr 1;funext x;rw[N1,NW,NW];exact eq_comm
 rw[e,<- h];by_cases hi:cV (fun x=>x== s) l 0<0
 ·have:¬0<=cV (fun x=>x== s) l 0:=by omega
  simp[hi,this]
 ·have:0<=cV (fun x=>x== s) l 0:=by omega
  simp[hi,this]
def t53(s:aQ):ab pg 53 [.str s]=am (.bool (bg s)):=by
 rw[C53,AE];have h1:=t85 s;have h2:=t86 iL s (by decide);have h3:=za iL s;generalize cV (fun x=>x== s) iL 0=i at h2 h3;cases hw:iA s with
 |false=>rw[hw]at h1;simp[S53,h1]
 |true=>rw[hw]at h1;simp[S53,h1,t87,h2,h3]
def t98(a b c:Int):ab pg 98 [.int .i64 a,.int .i64 b,.int .i64 c]=am (.bool (decide (b<=a)&&decide (a<=c))):=by
 rw[C98];by_cases h:b<=a<;>simp[S98,h]
theorem Es(l:List cO)(hb:l.length<=8):∀(n i:Nat),l.length-i=n->i<=l.length->∀o:List aQ,o.length=i->ak (L122_0 (ab pg) ak) [aO l,strs o,.int .i64 i]=am (strs (o++(l.drop i).map (·.1))):=by
 intro n
 induction n with
 |zero=>
  intro i hn hi o ho;rw[FL122_0];have h1:¬((i:Int)<(l.length:Int)):=by omega
  have h2:l.drop i=[]:=Nc (by omega);simp[L122_0,h1,h2]
 |succ n ih=>
  intro i hn hi o ho;have hlt:i<l.length:=by omega
  have h1:(i:Int)<(l.length:Int):=by omega
  have h2:l.drop i=l[i]:: l.drop (i+1):=Ng hlt;have h4:=ih (i+1) (by omega) (by omega) (o++[(l[i]).1]) (by simp[ho]);have hw:IntKind.i64.wrap ((i:Int)+1)=((i+1:Nat):Int):=aE (by omega);have hix:=kK (l:=l) (n:=(i:Int)) (by omega) h1;rw[Nb,Nt l i hlt]at hix;rw[OA,List.singleton_append]at h4;rw[h2,NL,<- h4,FL122_0];generalize l[i]=c at hix;have hbs:bP T 22 1 [(0,.str c.1)]=some (strs [c.1]):=rfl;have hap:=HZ (a:=o) (b:=[c.1]) (by simp;omega);simp only[L122_0,aj,ao,cu,ae,ax,h1,Nf,ah,Nj,hix,ck,FA54_0,Nk,LD9,hbs,hap,ba,hw]
def t122(l:List cO)(hb:l.length<=8):ab pg 122 [aO l]=am (strs (l.map (·.1))):=by
 rw[C122];have h:=Es l hb l.length 0 rfl (Nz _) [] rfl;rw[Nk,NF]at h;have h':ak (L122_0 (ab pg) ak) [aO l,.sl [],.int .i64 0]=am (strs (l.map (·.1))):=h;simp only[S122,kk,h'];exact bD fun g=>D4 _ _
def pW(l:List aQ):Bool:=l.all bg&&gz (fun a b=>aG a b) l
theorem t121(l:List aQ)(hb:l.length<=8):ab pg 121 [strs l]=am (.bool (pW l)):=by
 have hloop:=ko (F:=L121_0 (ab pg) ak) (FL121_0 (ab pg)) (fun k=>[strs l,.int .i64 k]) l.length
  (fun k=>bg l[k]! && (decide (k=0)||aG l[k-1]! l[k]!))
  (by simp[L121_0]) (fun k hk=>by
   have h1:(k:Int)<(l.length:Int):=by omega
   have hix:=xd (l:=l) (n:=(k:Int)) (by omega) h1;rw[Nb]at hix;have h2:=t53 l[k]!;have hw:IntKind.i64.wrap ((k:Int)+1)=(k:Int)+1:=by rw[aE (by omega)];simp
   generalize l[k]! = f at hix h2 |-;rcases NO k with hk0|hk0
   ·subst hk0;have hix0:aL T 22 (strs l) (.int .i64 0)=some (.ip (af (.str f))):=hix;have hw0:IntKind.i64.wrap 1=1:=rfl;cases hn:bg f<;>rw[hn]at h2<;>simp[L121_0,hix0,h2,hw0,hk]
   ·have hp:IntKind.i64.wrap ((k:Int)-1)=((k-1:Nat):Int):=by
     rw[bE (by omega) (by omega)];omega
    have h4:((k-1:Nat):Int)<(l.length:Int):=by omega
    have hix2:=xd (l:=l) (n:=((k-1:Nat):Int)) (by omega) h4;rw[Nb]at hix2;generalize l[k-1]! = g at hix2 |-;have hk1:¬k=0:=by omega
    have hk2:0<(k:Int):=by omega
    cases hn:bg f<;>rw[hn]at h2<;>cases hs:aG g f<;>simp[L121_0,h1,hix,h2,hw,hp,hix2,hk0,hk1,hk2,hk,hs]) 0 (Nz _)
 rw[OI,mT bg (fun a b=>aG a b) l]at hloop;rw[C121];have h':ak (L121_0 (ab pg) ak) [strs l,.int .i64 0]=am (.bool (pW l)):=hloop;simp[S121,h']
def pX(l:List cO):pW (l.map (·.1))=(l.all (fun f=>bg f.1)&&gz (fun a b:cO=>dp a.1 b.1) l):=by
 unfold pW;rw[List.all_map];congr 1
 induction l with
 |nil=>rfl
 | cons x l ih=>
  cases l with
  |nil=>rfl
  |cons y r=>
   simp only[NL,gz]at ih |-;rw[ih];congr 1;rw[N1];exact (pQ _ _).symm
def wI(d:Nat)(t:Ty):bw (d+1) t=(decide (0<=t.kind)&&decide (t.kind<=2)&&!(!(t.kind== 2)&&decide (0<t.fields.length))&&decide (t.fields.length<=8)&&pW (t.fields.map (·.1))&&t.fields.all fun f=>bw d f.2):=by
 rw[cG,pX];have e1:decide (t.kind<3)=decide (t.kind<=2):=N3.2 (by omega);have e2:t.fields.all (fun f=>bg f.1&&bw d f.2)=(t.fields.all (fun f=>bg f.1)&&t.fields.all fun f=>bw d f.2):=by
  induction t.fields with
  |nil=>rfl
  |cons x l ih=>
   simp only[N0,ih];cases bg x.1<;>cases bw d x.2<;>cases l.all (fun f=>bg f.1)<;>simp
 have e3:(t.kind== 2||t.fields.length== 0)= !(!(t.kind== 2)&&decide (0<t.fields.length)):=by
  rcases NO t.fields.length with h|h
  ·simp[h]
  ·have h1:(t.fields.length== 0)=false:=Ny.2 (by omega);simp[h,h1]
 rw[e1,e2,e3];generalize decide (0<=t.kind)=a1;generalize decide (t.kind<=2)=a2;generalize decide (t.fields.length<=8)=a3;generalize (!(!(t.kind== 2)&&decide (0<t.fields.length)))=a4;generalize t.fields.all (fun f=>bg f.1)=a5;generalize (t.fields.all fun f=>bw d f.2)=a6;generalize gz (fun a b:cO=>dp a.1 b.1) t.fields=a7;revert a1 a2 a3 a4 a5 a6 a7;decide
def Cl{t:Ty}(h:t.Lim)(k:Nat)(hk:k<t.fields.length):(t.fields[k]!).2.Lim:=ze h k hk
theorem t88:∀(d:Nat),d<=4->∀(t:Ty),t.Lim->ab pg 88 [t.av,.int .i64 d]=am (.bool (bw d t))
 |0,_,t,_=>by
  rw[C88];simp[S88,bw]
 | d + 1,hd,t,ht=>by
  have ih:=t88 d (by omega);have hlen:=ht.len;have hd1:IntKind.i64.wrap (((d+1:Nat):Int)-1)=(d:Int):=eS (by omega);have hloop:=ko (F:=L88_0 (ab pg) ak) (FL88_0 (ab pg)) (fun k=>[.int .i64 ((d+1:Nat):Int),.ip (af t.av),.int .i64 k]) t.fields.length
   (fun k=>bw d (t.fields[k]!).2)
   (by simp[L88_0]) (fun k hk=>by
    have h1:(k:Int)<(t.fields.length:Int):=by omega
    have hix:=kK (l:=t.fields) (n:=(k:Int)) (by omega) h1;rw[Nb]at hix;have h3:=ih (t.fields[k]!).2 (Cl ht k hk);have hw:IntKind.i64.wrap ((k:Int)+1)=((k+1:Nat):Int):=aE (by omega);generalize t.fields[k]! = f at hix h3 |-;cases hr:bw d f.2<;>rw[hr]at h3<;>simp only[L88_0,aj,ao,bd,FA35_1,ae,NH,Nk,LD23,cu,ax,h1,Nf,ah,Nj,hix,ck,FA54_1,LD35,Nr,Nu,NB,Nat.reduceAdd,M7,NI,NM,cq,fl,hd1,h3,ai,bp,Nw,Nv,M3,Na,ba,hw]) 0 (Nz _)
  rw[OI]at hloop;have e:(List.range' 0 t.fields.length).all (fun k=>bw d (t.fields[k]!).2)=t.fields.all fun f=>bw d f.2:=mm (fun f:cO=>bw d f.2) t.fields;rw[e]at hloop;have h':ak (L88_0 (ab pg) ak) [.int .i64 ((d+1:Nat):Int),.ip (af t.av),.int .i64 0]=am (.bool (t.fields.all fun f=>bw d f.2)):=hloop;rw[wI];generalize (t.fields.all fun f=>bw d f.2)=q at h' |-;rw[C88];have hin:=t98 t.kind 0 2;have hne':((d:Int)+1== 0)=false:=by rw[Ny];omega
  have h'':ak (L88_0 (ab pg) ak) [.int .i64 ((d:Int)+1),.ip [.int .i64 t.kind,aO t.fields],.int .i64 0]=am (.bool q):=by
   simp only[bd]at h';exact h'
  by_cases k1:0<=t.kind
  ·by_cases k2:t.kind<=2
   ·by_cases h2:t.kind=2
    ·by_cases h8:t.fields.length<=8
     ·have h8':¬(8<(t.fields.length:Int)):=by omega
      have hlab:=t122 t.fields h8;have hasc:=t121 (t.fields.map (·.1)) (by rw[N7];exact h8);rw[h2]at hin;generalize t.fields.map (·.1)=ls at hlab hasc |-;generalize pW ls=a at hasc |-;rw[h2]at h'';cases a<;>simp[S88,hne',hin,h2,h8,h8',hlab,hasc,h'']
     ·have h8':8<(t.fields.length:Int):=by omega
      rw[h2]at hin;simp[S88,hne',hin,h2,h8,h8']
    ·have hin':ab pg 98 [.int .i64 t.kind,.int .i64 0,.int .i64 2]=am (.bool true):=by rw[hin,NJ k1,NJ k2];rfl
     by_cases h0:0<t.fields.length
     ·have h0':0<(t.fields.length:Int):=by omega
      have h2b:(t.kind != 2)=true:=by simpa using h2
      have h2c:(t.kind== 2)=false:=Ny.2 h2;simp[S88,hne',hin',h2b,h2c,h0,h0']
     ·have h0':¬0<(t.fields.length:Int):=by omega
      have h8:t.fields.length<=8:=by omega
      have h8':¬(8<(t.fields.length:Int)):=by omega
      have hlab:=t122 t.fields h8;have hasc:=t121 (t.fields.map (·.1)) (by rw[N7];exact h8);generalize t.fields.map (·.1)=ls at hlab hasc |-;generalize pW ls=a at hasc |-;have h2b:(t.kind != 2)=true:=by simpa using h2
      cases a<;>simp[S88,hne',hin',h2,h2b,h0,h0',h8,h8',hlab,hasc,h'',k1,k2]
   ·have hin':ab pg 98 [.int .i64 t.kind,.int .i64 0,.int .i64 2]=am (.bool false):=by rw[hin,NJ k1,NV k2];rfl
    simp[S88,hne',hin',k2]
  ·have hin':ab pg 98 [.int .i64 t.kind,.int .i64 0,.int .i64 2]=am (.bool false):=by rw[hin,NV k1];rfl
   simp[S88,hne',hin',k1]
def t54(t:Ty)(ht:t.Lim):ab pg 54 [t.av]=am (.bool (bu t)):=by
 have h:=t88 4 (by omega) t ht;have h':ab pg 88 [t.av,.int .i64 4]=am (.bool (bu t)):=h;rw[C54];simp[S54,h']
def t102(t:Ty)(ht:t.Lim):ab pg 102 [t.av]=am (.bool (bu t)):=by
 have h:=t54 t ht;rw[C102];simp[S102,h]
def az{α β:Type}{m:M α}{a:α}{h h':Hp}(e:m h= .ok a h')(f:α->M β):ap m f h=f a h':=by simp only[ap,e]
def jk(h:Hp)(l:Nat)(r:Rs):Prop:=h[l]? = some [.str r.1,.bool r.2]
def dh(h:Hp)(l:Nat)(r:Rs):Hp:=h.set l [.str r.1,.bool r.2]
def jk.lt{h:Hp}{l:Nat}{r:Rs}(H:jk h l r):l<h.length:=by
 unfold jk at H;rcases NE l h.length with h1|h1
 ·exact h1
 ·rw[Oq h1]at H;cases H
def jk.put{h:Hp}{l:Nat}{r:Rs}(H:jk h l r)(r':Rs):jk (dh h l r') l r':=by
 unfold jk dh;rw[NP,Nn rfl,Nn H.lt]
def bA(h:Hp)(l:Nat)(r r':Rs):dh (dh h l r) l r'=dh h l r':=by
 unfold dh;rw[List.set_set]
def iK{h:Hp}{l:Nat}{r:Rs}(H:jk h l r):dh h l r=h:=by
 unfold dh jk at *;exact OP fun i=>by
  rw[NP];split
  ·rename_i hi;subst hi;split
   ·exact H.symm
   ·rename_i hl;rw[Oq (by omega)]
  ·rfl
section
variable {h:Hp} {l:Nat} {r:Rs} {β:Type}
theorem jk.ld0(H:jk h l r)(f:AV->M β):ap (eI T 9 (.hp l 0)) f h=f (.str r.1) h:=az (t6 (T:=T) (t:=9) rfl rfl H rfl) f
theorem jk.ld1(H:jk h l r)(f:AV->M β):ap (eI T 4 (.hp l 1)) f h=f (.bool r.2) h:=az (t6 (T:=T) (t:=4) rfl rfl H rfl) f
theorem jk.st0(H:jk h l r)(s:aQ)(f:AV->M β):ap (da T 9 (.hp l 0) (.str s)) f h=f (.tup []) (dh h l (s,r.2)):=
 az (pG (T:=T) (t:=9) rfl (v:=.str s) H rfl (show 0+1<=2 by omega) (by decide)) f
theorem jk.st1(H:jk h l r)(b:Bool)(f:AV->M β):ap (da T 4 (.hp l 1) (.bool b)) f h=f (.tup []) (dh h l (r.1,b)):=
 az (pG (T:=T) (t:=4) rfl (v:=.bool b) H rfl (show 1+1<=2 by omega) (by decide)) f
end
theorem kw(l:Nat):iF (.hp l 0)=some (.hp l 0):=rfl
theorem fR0(l:Nat):aB T 98 (.hp l 0) 0=some (.hp l 0):=rfl
theorem fR1(l:Nat):aB T 98 (.hp l 0) 1=some (.hp l 1):=rfl
theorem gl(s:aQ):kM T 9 (.str s)=some (.int .i64 s.length):=rfl
def lW(s:aQ){n:Int}(h0:0<=n)(h1:n<=s.length):dl T 9 (.str s) none (some (.int .i64 n)) none=some (.str (s.take n.toNat)):=by
 show (match ct (some (.int .i64 n)) s.length s.length with|none=>none|some h=>match ct none 0 h with|none=>none|some l=>some (AV.str ((s.take h).drop l)))=_;simp[ct,h0,h1]
def lX(s:aQ){n:Int}(h0:0<=n)(h1:n<=s.length):dl T 9 (.str s) (some (.int .i64 n)) none none=some (.str (s.drop n.toNat)):=by
 show (match ct none s.length s.length with|none=>none|some h=>match ct (some (.int .i64 n)) 0 h with|none=>none|some l=>some (AV.str ((s.take h).drop l)))=_;have:n<=((s.length:Nat):Int):=h1;simp[ct,h0,this]
def t74{h:Hp}{l:Nat}{r:Rs}(H:jk h l r):ab pg 74 [.hp l 0] h= .ok (.tup []) (dh h l ep):=by
 rw[C74];simp only[S74,kw,ae,fR0,fR1,H.st0,(H.put _).st1,bA];rfl
def t69(n:Int)(h0:-9223372036854775808<=n)(h1:n<=9223372036854775807):ab pg 69 [.int .i64 n]=am (.str (bG n)):=by
 rw[cE hOther (E:=sZ) rfl];simp only[sZ,NJ h0,NJ h1,O9,M6];rfl
def t109(s:aQ)(h:s.length<=281474976710656):ab pg 109 [.str s]=am (oK 168 s):=by
 rw[cE hOther (E:=sr 168) rfl];simp only[sr,NJ h,M6];rfl
def t108(s:aQ)(e:UInt8):ab pg 108 [.str s,.int .u8 e.toNat]=am (.int .i64 (Lib.indexByte s e)):=by
 rw[cE hOther (E:=gI) rfl];simp[gI]
theorem index_le:∀(s:aQ)(e:UInt8),Lib.indexByte s e<s.length
 |[],e=>by simp[Lib.indexByte]
 |x:: s,e=>by
  have:=index_le s e
  simp only[Lib.indexByte,Nr];split
  ·omega
  ·split<;>omega
def Di(s:aQ):s.take (min (s.length:Int) 21).toNat=s.take 21:=by
 rcases Nat.le_total s.length 21 with h|h
 ·rw[Od (by omega),Od (by omega)]
 ·congr 1;omega
theorem t73{h:Hp}{l:Nat}{r:Rs}(H:jk h l r)(hb:r.1.length<=1000000000)(e:UInt8):ab pg 73 [.hp l 0,.int .u8 e.toNat,.int .i64 0] h= .ok (.int .i64 (aN e r).1) (dh h l (aN e r).2):=by
 have hmin:iz false [.int .i64 (r.1.length:Int),.int .i64 21]=some (.int .i64 (min (r.1.length:Int) 21)):=by
  rw[iz,AD];simp only[Nh,iz];congr 2;omega
 have hs1:=lW r.1 (n:=min (r.1.length:Int) 21) (by omega) (by omega);rw[Di]at hs1;have hix:=t108 (r.1.take 21) e;have hle:=index_le (r.1.take 21) e;have hge:=Lib.indexByte_ge (r.1.take 21) e;have hlen:(r.1.take 21).length<=21:=by rw[N8];omega
 have hlen2:(r.1.take 21).length<=r.1.length:=by rw[N8];omega
 have hF:=t74 H;rw[C73];unfold aN;generalize r.1.take 21=hd at *;generalize Lib.indexByte hd e=a at *;simp only[S73,kw,ae,fR0,H.ld0,gl,hmin,hs1,hix,ai,ax];by_cases ha:a<0
 ·simp only[ha,Nf,ah,Nj,az hF];rfl
 ·have hs2:=lW hd (n:=a) (by omega) (by omega);have hat:=t109 (hd.take a.toNat) (by rw[N8];omega);have nn:∀x:AV,bo T .neq 69 (.iface 168 x) .nili=some (.bool true):=fun _=>rfl;have nz:bo T .neq 69 .nili .nili=some (.bool false):=rfl;simp only[ha,Nm,ah,M3,Na,hs2,ae,hat,ai];cases hv:Lib.atoiAll (hd.take a.toNat)with
  | ok n=>
   have hr:=Lib.atoiAll_bounds hv;have hit:=t69 n hr.1 hr.2;have hw:IntKind.i64.wrap (a+1)=a+1:=bE (by omega) (by omega);have hs3:=lX r.1 (n:=a+1) (by omega) (by omega);have ns:∀x y:aQ,bo T .neq 9 (.str x) (.str y)=some (.bool (x != y)):=fun _ _=>rfl;simp only[oK,hv,cR,ND,NX,ae,nz,au,hit,ai,ns,aj,aC,ax,aF,cX];by_cases hq:bG n=hd.take a.toNat/\0<=n
   ·have h1:(bG n != hd.take a.toNat||decide (n<0))=false:=by simp[hq.1];omega
    rw[Nn hq];simp only[h1,ah,M3,Na,H.ld0,ba,ae,hw,hs3,H.st0];rw[show (a+1).toNat=a.toNat+1 by omega];rfl
   ·have h1:(bG n != hd.take a.toNat||decide (n<0))=true:=by
     rw[NU,OR,M8];by_cases h2:bG n=hd.take a.toNat
     ·exact .inr (by have:¬0<=n:=fun h=>hq ⟨h2,h⟩;omega)
     ·exact .inl h2
    rw[M9 hq];simp only[h1,ah,Nj,az hF];rfl
  |range=>
   simp only[oK,hv,cR,ND,NX,ae,nn,dF,ai,aw,ah,Nj,az hF];rfl
  |_=>
   simp only[oK,hv,cR,ND,NX,ae,nn,dF,ai,aw,ah,Nj,az hF];rfl
def t38{h:Hp}{l:Nat}{r:Rs}(H:jk h l r)(hb:r.1.length<=1000000000):ab pg 38 [.hp l 0] h= .ok (.int .i64 (aN 59 r).1) (dh h l (aN 59 r).2):=by
 have hn:=t73 H hb 59;rw[C38];have hn':ab pg 73 [.hp l 0,.int .u8 59,.int .i64 0] h= .ok (.int .i64 (aN 59 r).1) (dh h l (aN 59 r).2):=hn;simp only[S38,az hn',ae];rfl
def t39{h:Hp}{l:Nat}{r:Rs}(H:jk h l r):ab pg 39 [.hp l 0] h= .ok (.int .i64 r.1.length) h:=by
 rw[C39];simp only[S39,kw,ae,fR0,H.ld0,gl];rfl
def gb(s p:aQ):Bool:=decide ((p.length:Int)<=s.length)&&(s.take p.length== p)
def t166(s p:aQ):ab pg 166 [.str s,.str p]=am (.bool (gb s p)):=by
 have es:∀x y:aQ,bo T .eql 9 (.str x) (.str y)=some (.bool (x== y)):=fun _ _=>rfl;have eg:∀x y:Int,bo T .geq 3 (.int .i64 x) (.int .i64 y)=some (.bool (decide (y<=x))):=fun _ _=>rfl;rw[C166,show cl aA (.str s)= .str s from rfl,show cl aA (.str p)= .str p from rfl];have e:S166 (ab pg) ak (.str s) (.str p)=am (.bool (gb s p)):=by
  unfold gb;by_cases h:(p.length:Int)<=s.length
  ·have hs:=lW s (n:=(p.length:Int)) (by omega) h;rw[Nb]at hs;simp only[S166,gl,ae,eg,h,Nf,au,hs,es,ai,aj,aw,Nx]
  ·simp only[S166,gl,ae,eg,h,Nm,bn,ai,aC,NG]
 rw[e];exact gJ _
def t143(s p:aQ):ab pg 143 [.str s,.str p]=am (.tup [.str (if gb s p=true then s.drop p.length else s),.bool (gb s p)]):=by
 rw[C143,show cl aA (.str s)= .str s from rfl,show cl aA (.str p)= .str p from rfl];have e:S143 (ab pg) ak (.str s) (.str p)=am (.tup [.str (if gb s p=true then s.drop p.length else s),.bool (gb s p)]):=by
  simp only[S143,t166,ai,bp,ae,ah];cases hh:gb s p with
  |false=>simp
  | true=>
   have hle:(p.length:Int)<=s.length:=by
    unfold gb at hh;rw[M5,M8]at hh;exact hh.1
   have hs:=lX s (n:=(p.length:Int)) (by omega) hle;rw[Nb]at hs;simp only[Nv,M3,Na,Nj,gl,ae,hs]
 rw[e];exact bD fun g=>rfl
def t110(s p:aQ):ab pg 110 [.str s,.str p]=am (.tup [.str (if gb s p=true then s.drop p.length else s),.bool (gb s p)]):=by
 rw[C110,show cl aA (.str s)= .str s from rfl,show cl aA (.str p)= .str p from rfl];have e:S110 (ab pg) ak (.str s) (.str p)=am (.tup [.str (if gb s p=true then s.drop p.length else s),.bool (gb s p)]):=by
  simp only[S110,t143,ai,cR,ND,NX,ae]
 rw[e];exact bD fun g=>rfl
def ga(r:Rs):Rs:=match r.1 with
 |c:: s=>if c=44 then(s,r.2)else ep
 |[]=>ep
def t75{h:Hp}{l:Nat}{r:Rs}(H:jk h l r):ab pg 75 [.hp l 0,.str [44]] h= .ok (.tup []) (dh h l (ga r)):=by
 have hc:=t110 r.1 [44];have hf:∀s,ab pg 74 [.hp l 0] (dh h l (s,r.2))= .ok (.tup []) (dh h l ep):=fun s=>by rw[t74 (H.put _),bA]
 rw[C75];simp only[S75,kw,ae,fR0,H.ld0,hc,ai,cR,ND,NX,H.st0,bp,ah];obtain⟨s,b⟩:=r;unfold ga gb;cases s with
 |nil=>
  simp only[Nu,Nr];simp[az (hf _)];rfl
 | cons c s=>
  by_cases hc44:c=44
  ·subst hc44;simp[am];have g1:¬((s.length:Int)+1<1):=by omega
   have g2:(1:Int)<=(s.length:Int)+1:=by omega
   rw[M9 g1,Nn g2];rfl
  ·have:(c== 44)=false:=by simpa using hc44
   simp[hc44,az (hf _),am]
def rB(r:Rs):bb r=if(aN 58 r).1>((aN 58 r).2.1.length:Int)then([],ep)else
  (if(ga ((aN 58 r).2.1.drop (aN 58 r).1.toNat,(aN 58 r).2.2)).2=true then[]else(aN 58 r).2.1.take (aN 58 r).1.toNat,ga ((aN 58 r).2.1.drop (aN 58 r).1.toNat,(aN 58 r).2.2)):=by
 unfold bb ga;generalize aN 58 r=x;obtain⟨n,s,b⟩:=x;simp only;split
 ·rfl
 ·cases s.drop n.toNat with
  |nil=>simp[ep]
  |cons c t=>
   by_cases hc:c=44
   ·cases b<;>simp[hc]
   ·simp[hc,ep]
def pD(e:UInt8)(r:Rs):0<=(aN e r).1:=by
 unfold aN;split
 ·exact Int.le_refl 0
 ·split
  ·split
   ·rename_i h;exact h.2
   ·exact Int.le_refl 0
  ·exact Int.le_refl 0
def bS(e:UInt8)(r:Rs):(aN e r).2.1.length<=r.1.length:=by
 unfold aN ep;split
 ·simp
 ·split
  ·split
   ·simp
   ·simp
  ·simp
def xw(r:Rs):(ga r).1.length<=r.1.length:=by
 obtain⟨s,b⟩:=r;unfold ga ep;cases s with
 |nil=>simp
 |cons c s=>simp only;split<;>simp
def eB(r:Rs):(bb r).2.1.length<=r.1.length:=by
 rw[rB];have h1:=bS 58 r;split
 ·simp[ep]
 ·have:=xw ((aN 58 r).2.1.drop (aN 58 r).1.toNat,(aN 58 r).2.2)
  simp only[Pq]at this |-;omega
def t37{h:Hp}{l:Nat}{r:Rs}(H:jk h l r)(hb:r.1.length<=1000000000):ab pg 37 [.hp l 0] h= .ok (.str (bb r).1) (dh h l (bb r).2):=by
 have hn:=t73 H hb 58;have hn':ab pg 73 [.hp l 0,.int .u8 58,.int .i64 0] h= .ok (.int .i64 (aN 58 r).1) (dh h l (aN 58 r).2):=hn;have hge:=pD 58 r;rw[C37,rB];generalize aN 58 r=x at *;obtain⟨n,q⟩:=x;have H1:=H.put q;have gt:∀x y:Int,bo T .gtr 3 (.int .i64 x) (.int .i64 y)=some (.bool (decide (y<x))):=fun _ _=>rfl;simp only[S37,az hn',kw,ae,fR0,H1.ld0,gl,gt,ah];by_cases hq:n>(q.1.length:Int)
 ·have hf:=t74 H1;rw[bA]at hf;have hq':(q.1.length:Int)<n:=hq;rw[Nn hq];simp only[hq',Nf,Nj,az hf];rfl
 ·have s1:=lW q.1 (n:=n) hge (by omega);have s2:=lX q.1 (n:=n) hge (by omega);have hq':¬(q.1.length:Int)<n:=hq;have H2:=H1.put (q.1.drop n.toNat,q.2);have hc:=t75 H2;rw[bA,bA]at hc;rw[M9 hq];simp only[hq',Nm,M3,Na,H1.ld0,s1,s2,ae,H1.st0,bA];rw[az hc];have H3:=H.put (ga (q.1.drop n.toNat,q.2));simp only[kw,ae,fR1,H3.ld1,ah];split
  ·rename_i hz;simp[hz,am]
  ·rename_i hz;simp[hz,am]
def l9(s:aQ):List AV:=s.map fun b=>AV.int .u8 b.toNat
def jH(s:aQ):List AV:=s.map fun b=>AV.byt 5 b.toNat
def Bp(h:Hp)(l:Nat)(s:aQ):Prop:=(s=[]/\(h[l]? = some [.nilb 67,.hn]\/h[l]? = some [.hp l 0,.hn]))\/(s≠[]/\∃lb,lb≠l/\h[l]? = some [.hp l 0,.hs lb 0 s.length 1 false]/\h[lb]? = some (jH s))
def vj(s:aQ):pZ 5 (l9 s)=some (jH s):=by
 induction s with
 |nil=>rfl
 |cons b s ih=>
  show (pZ 5 (l9 s)).map (AV.byt 5 b.toNat:: ·)=_;rw[ih];rfl
def zX(s:aQ):jv 5 (jH s)=some s:=by
 induction s with
 |nil=>rfl
 | cons b s ih=>
  show (match sE 5 (.byt 5 b.toNat),jv 5 (jH s)with|some b,some l=>some (b:: l)|_,_=>none)=_;have hb:sE 5 (.byt 5 (b.toNat:Int))=some b:=by
   have h1:(b.toNat:Int)<256:=by have:=b.toNat_lt;omega
   simp[sE,h1]
  rw[ih,hb]
def DF(s:aQ):(jH s).all (o9 5)=true:=by
 rw[Nl];intro x hx;obtain⟨b,_,rfl⟩:=Ou.1 hx;rfl
def lQ{h:Hp}{l:Nat}{cs:List AV}(H:h[l]? = some cs):l<h.length:=by
 rcases NE l h.length with h1|h1
 ·exact h1
 ·rw[Oq h1]at H;cases H
def Bl(s:aQ)(hs:s≠[])(hb:s.length<=140737488355328)(h:Hp):pT T 65 .hn (.str s) h= .ok (.hs h.length 0 s.length 1 false) (h++[jH s]):=by
 show (match pZ 5 (l9 s)with
  |none=>R.fail
  |some cs'=>bif (l9 s).isEmpty then R.ok AV.hn h else bif decide ((l9 s).length<=140737488355328)then R.ok (AV.hs h.length 0 (l9 s).length 1 false) (h++[cs'])else .fail)=_
 rw[vj];have e:(l9 s).isEmpty=false:=by cases s with|nil=>exact absurd rfl hs|cons=>rfl
 have e2:(l9 s).length=s.length:=by simp[l9]
 simp[e,e2,hb]
theorem zN(h:Hp):pT T 65 .hn (.str []) h= .ok .hn h:=rfl
theorem zO(s t:aQ)(hs:s≠[])(hb:s.length+t.length<=140737488355328)(h:Hp)(lb:Nat)(hl:h[lb]? = some (jH s)):pT T 65 (.hs lb 0 s.length 1 false) (.str t) h=
  if t=[]then R.ok (AV.hs lb 0 s.length 1 false) h else .ok (AV.hs h.length 0 (s.length+t.length) 1 false) ((h.set lb [])++[jH (s++t)]):=by
 show (match pZ 5 (l9 t)with
  |none=>R.fail
  |some cs'=>match h[lb]? with
   |none=>.fail
   | some cs=>bif cs.all (o9 5)&&decide (s.length<=cs.length)&&decide (0<s.length)&&decide (s.length+(l9 t).length<=140737488355328)then
     (bif (l9 t).isEmpty then R.ok (AV.hs lb 0 s.length 1 false) h
     else .ok (AV.hs h.length 0 (s.length+(l9 t).length) 1 false) ((h.set lb [])++[cs.take s.length++cs']))else .fail)=_
 have h0:0<s.length:=Oh.2 hs;have hlen:(jH s).length=s.length:=by simp[jH]
 have hlt:(l9 t).length=t.length:=by simp[l9]
 rw[vj,hl];simp only[DF,hlen,hlt,h0,hb,Nf,M7,O9,M6];have htk:(jH s).take s.length=jH s:=by rw[<- hlen,OE]
 cases t with
 |nil=>rfl
 |cons c t=>
  have e:(l9 (c:: t)).isEmpty=false:=rfl;simp only[e,Nh,htk];rw[M9 (by simp)];simp[jH]
theorem LP(l:Nat):iF (.hp l 0)=some (.hp l 0):=rfl
theorem fB1(l:Nat):aB T 67 (.hp l 0) 1=some (.hp l 1):=rfl
def t28{h:Hp}{l:Nat}{s:aQ}(H:Bp h l s)(t:aQ)(hb:s.length+t.length<=140737488355328):∃h',ab pg 28 [.hp l 0,.str t] h= .ok (.tup [.int .i64 t.length,.nili]) h'/\Bp h' l (s++t):=by
 have hcc:∀y:AV,(h[l]? = some [.nilb 67,y]\/h[l]? = some [.hp l 0,y])->ab pg 68 [.hp l 0] h= .ok (.tup []) (h.set l [.hp l 0,y]):=by
  intro y hy;rw[cE hOther (E:=iT [(67,2)]) rfl];show (match h[l]? with|some cs=>(match JL [(67,2)] l cs with|some cs'=>R.ok (AV.tup []) (h.set l cs')|none=>.fail)|none=>.fail)=_;rcases hy with hy|hy<;>rw[hy]
  ·rfl
  ·show (match (bif Nat.beq l l&&Nat.beq 0 0 then some [AV.hp l 0,y]else none)with|some cs'=>R.ok (AV.tup []) (h.set l cs')|none=>.fail)=_;rw[Nat.beq_refl];rfl
 have hgo:∀(y z:AV)(h1 h2:Hp),ab pg 68 [.hp l 0] h= .ok (.tup []) h1->h1[l]? = some [.hp l 0,y]->pT T 65 y (.str t) h1= .ok z h2->h2[l]? = some [.hp l 0,y]->cM 1 z=true->af z=[z]->
   ab pg 28 [.hp l 0,.str t] h= .ok (.tup [.int .i64 t.length,.nili]) (h2.set l [.hp l 0,z]):=by
  intro y z h1 h2 e1 r1 e2 r2 ok ac;have ld:eI T 65 (.hp l 1) h1= .ok y h1:=t6 (T:=T) (t:=65) rfl rfl r1 rfl;have stt:=pG (T:=T) (t:=65) rfl (v:=z) r2 ok (show 1+1<=2 by omega) (by decide);rw[C28];simp only[S28,az e1,LP,ae,fB1];rw[az ld,az e2,az stt,ac];rfl
 rcases H with⟨rfl,H⟩|⟨hs,lb,hne,H,Hb⟩
 ·have e1:=hcc .hn H;have hl:l<h.length:=by rcases H with H|H<;>exact lQ H
  have r1:(h.set l [AV.hp l 0,.hn])[l]? = some [.hp l 0,.hn]:=by rw[NP,Nn rfl,Nn hl]
  by_cases ht:t=[]
  ·subst ht;refine⟨_,hgo .hn .hn _ _ e1 r1 (zN _) r1 rfl rfl,.inl ⟨rfl,.inr ?_⟩⟩;rw[NP,Nn rfl,Nn (by simpa using hl)]
  ·have e2:=Bl t ht (by simpa using hb) (h.set l [AV.hp l 0,.hn]);have r2:(h.set l [AV.hp l 0,.hn]++[jH t])[l]? = some [.hp l 0,.hn]:=by rw[N4 (by simpa using hl)];exact r1
   refine⟨_,hgo .hn _ _ _ e1 r1 e2 r2 rfl rfl,.inr ⟨by simpa using ht,h.length,by omega,?_,?_⟩⟩
   ·rw[NP,Nn rfl,Nn (by simp;omega)];simp
   ·rw[NP,M9 (by omega),NS (by simp)];simp
 ·have e1:=hcc _ (.inr H);have hl:l<h.length:=lQ H;have hlb:lb<h.length:=lQ Hb;have hsame:h.set l [AV.hp l 0,.hs lb 0 s.length 1 false]=h:=OP fun i=>by
   rw[NP];split
   ·rename_i hi;subst hi;exact H.symm
   ·rfl
  rw[hsame]at e1;have e2:=zO s t hs hb h lb Hb;by_cases ht:t=[]
  ·subst ht;rw[Nn rfl]at e2;refine⟨_,hgo _ _ _ _ e1 H e2 H rfl rfl,.inr ⟨by simpa using hs,lb,hne,?_,?_⟩⟩
   ·rw[NP,Nn rfl,Nn hl];simp
   ·rw[NP,M9 (by omega),Hb];simp
  ·rw[M9 ht]at e2;have r2:(h.set lb []++[jH (s++t)])[l]? = some [.hp l 0,.hs lb 0 s.length 1 false]:=by
    rw[N4 (by simpa using hl),NP,M9 hne,H]
   refine⟨_,hgo _ _ _ _ e1 H e2 r2 rfl rfl,.inr ⟨by simp[hs],h.length,by omega,?_,?_⟩⟩
   ·rw[NP,Nn rfl,Nn (by simp;omega)];simp
   ·rw[NP,M9 (by omega),NS (by simp)];simp
def t32{h:Hp}{l:Nat}{s:aQ}(H:Bp h l s)(hb:s.length<=140737488355328):∃h',ab pg 32 [.hp l 0] h= .ok (.str s) h':=by
 rw[cE hOther (E:=ff 5) rfl];rcases H with⟨rfl,H⟩|⟨hs,lb,hne,H,Hb⟩
 ·refine⟨h,?_⟩;show (match h[l]? with|some cs=>_|none=>R.fail)=_;rcases H with H|H<;>rw[H]<;>rfl
 ·refine⟨h.set lb [],?_⟩;have h0:0<s.length:=Oh.2 hs;have hst:stA [AV.hp l 0,.hs lb 0 s.length 1 false]=some (some (lb,s.length)):=by
   show (bif (Nat.beq 0 0&&Nat.beq 1 1&&!false&&Nat.blt 0 s.length&&Nat.ble s.length 140737488355328)then some (some (lb,s.length))else none)=_;have h1:Nat.blt 0 s.length=true:=Ps h0;have h2:Nat.ble s.length 140737488355328=true:=Ps hb;rw[h1,h2];rfl
  show (match h[l]? with|some cs=>(match stA cs with|some none=>R.ok (AV.str []) h|some (some (lb,len))=>(match h[lb]? with|some bs=>(match (bif Nat.ble len bs.length then jv 5 (bs.take len)else none)with|some s=>.ok (.str s) (h.set lb [])|none=>.fail)|none=>.fail)|none=>.fail)|none=>R.fail)=_;rw[H];simp only[hst,Hb];have hlen:(jH s).length=s.length:=by simp[jH]
  have h2:Nat.ble s.length (jH s).length=true:=Ps (by omega);have htk:(jH s).take s.length=jH s:=by rw[<- hlen,OE]
  simp only[h2,M6,htk,zX]
def jg(a b:aQ)(h:a.length+b.length<=4611686018427387904):bo T .add 9 (.str a) (.str b)=some (.str (a++b)):=by
 show EW .add a b=_;simp[EW,h]
def t70(n:Int)(h0:-9223372036854775808<=n)(h1:n<=9223372036854775807):ab pg 70 [.int .i64 n]=am (.str (bG n++[59])):=by
 have hi:=t69 n h0 h1;have hl:=jS n;have hc:=jg (bG n) [59] (by simp;omega);rw[C70,show cl aA (.int .i64 n)= .int .i64 n from rfl];simp only[S70,hi,ai,hc,ae,ni]
def t30(n:Int)(h0:-9223372036854775808<=n)(h1:n<=9223372036854775807):ab pg 30 [.int .i64 n]=am (.str (bW n)):=by
 have hi:=t70 n h0 h1;rw[C30,show cl aA (.int .i64 n)= .int .i64 n from rfl];unfold bW;by_cases hn:n<0
 ·simp only[S30,ax,ae,hn,Nf,ah,Nj,ni]
 ·simp only[S30,ax,ae,hn,Nm,ah,M3,Na,hi,ai,ni]
def t29(s:aQ)(hb:s.length<=1000000000):ab pg 29 [.str s]=am (.str (eD s)):=by
 have hi:=t69 (s.length:Int) (by omega) (by omega);have hl:=jS (s.length:Int);have c1:=jg (bG (s.length:Int)) [58] (by simp;omega);have c2:=jg (bG (s.length:Int)++[58]) s (by simp;omega);have c3:=jg (bG (s.length:Int)++[58]++s) [44] (by simp;omega);rw[C29,show cl aA (.str s)= .str s from rfl];simp only[S29,gl,ae,hi,ai,c1,c2,c3,ni,eD]
theorem nq(x y:Int):bo T .neq 3 (.int .i64 x) (.int .i64 y)=some (.bool (x != y)):=rfl
theorem fT0(cs:List AV):aB T 35 (.ip cs) 0=some (.ip (cs.drop 0)):=rfl
theorem fT1(cs:List AV):aB T 35 (.ip cs) 1=some (.ip (cs.drop 1)):=rfl
def Ei(t:Ty):aX T 3 (.ip ((af t.av).drop 0))=some (.int .i64 t.kind):=by simp
def Ej(t:Ty):aX T 23 (.ip ((af t.av).drop 1))=some (aO t.fields):=by simp
theorem fF0(cs:List AV):aB T 54 (.ip cs) 0=some (.ip (cs.drop 0)):=rfl
theorem fF1(cs:List AV):aB T 54 (.ip cs) 1=some (.ip (cs.drop 1)):=rfl
def Kk(f:cO):aX T 9 (.ip ((af (bm f)).drop 0))=some (.str f.1):=by simp
def K0(f:cO):aX T 35 (.ip ((af (bm f)).drop 1))=some f.2.av:=by simp
def ME(f:cO):aX T 54 (.ip (af (bm f)))=some (bm f):=by simp
abbrev ug:Nat:=140737488355328
def Dz(l:Nat)(t:Ty):Prop:=∀(h:Hp)(s:aQ),Bp h l s->(s++bT t).length<=ug->∃h',ab pg 31 [.hp l 0,t.av] h= .ok (.tup []) h'/\Bp h' l (s++bT t)
def GR(l:Nat)(fs:List cO)(hn:∀f∈fs,f.1.length<=20/\Dz l f.2)(hlen:fs.length<=8):∀(n i:Nat),fs.length-i=n->i<=fs.length->∀(h:Hp)(s:aQ),Bp h l s->(s++(fs.drop i).flatMap d7).length<=ug->
  ∃h',ak (L31_0 (ab pg) ak) [.hp l 0,aO fs,.int .i64 fs.length,.int .i64 i] h= .ok (.tup []) h'/\Bp h' l (s++(fs.drop i).flatMap d7):=by
 intro n
 induction n with
 | zero=>
  intro i hi hle h s H hb;have g:¬((i:Int)<(fs.length:Int)):=by omega
  rw[FL31_0];refine⟨h,?_,?_⟩
  ·simp only[L31_0,aj,ao,ax,ae,g,Nm,ah,M3,Na];rfl
  ·rw[Nc (by omega)];simpa using H
 |succ n ih=>
  intro i hi hle h s H hb;have hlt:i<fs.length:=by omega
  have g:(i:Int)<(fs.length:Int):=by omega
  have hw:IntKind.i64.wrap ((i:Int)+1)=((i+1:Nat):Int):=aE (by omega);have hix:=kK (l:=fs) (n:=(i:Int)) (by omega) g;rw[Nb,Nt fs i hlt]at hix;obtain⟨h1,h2⟩:=hn _ (Ni hlt);rw[Ng hlt,Ol,gE]at hb |-;generalize fs[i]=f at *;have hwt:=t29 f.1 (by omega);obtain⟨q1,e1,B1⟩:=t28 H (eD f.1) (by simp only[Np,ug]at hb;omega);obtain⟨q2,e2,B2⟩:=h2 q1 _ B1 (by simp only[Np]at hb |-;omega);obtain⟨q3,e3,B3⟩:=ih (i+1) (by omega) (by omega) q2 _ B2 (by simp only[Np]at hb |-;omega);refine⟨q3,?_,by simpa using B3⟩;rw[FL31_0];simp only[L31_0,aj,ao,ax,ae,g,Nf,ah,Nj,hix,ME,mn,ai,fF0,fF1,Kk,K0,hwt];rw[az e1];rw[az e2];simp only[ba,ae,hw];exact e3
theorem t31(l:Nat):∀(d:Nat)(t:Ty),bw d t=true->Dz l t
 |0,t,hr=>by simp[bw]at hr
 | d+1,t,hr=>by
  intro h s H hb;rw[cG]at hr;simp only[M5,M8,NU,NW,Nl]at hr;obtain⟨⟨⟨⟨h0,h1⟩,h2⟩,h3⟩,h4,_⟩:=hr;have n1:=t30 t.kind (by omega) (by omega);rw[ka]at hb |-;obtain⟨q1,e1,B1⟩:=t28 H (bW t.kind) (by simp only[Np,ug]at hb;omega);rw[C31];by_cases hk:t.kind=2
  ·rw[Nn hk]at hb |-;have hk':(t.kind != 2)=false:=by rw[hk];rfl
   have n2:=t30 (t.fields.length:Int) (by omega) (by omega);obtain⟨q2,e2,B2⟩:=t28 B1 (bW t.fields.length) (by simp only[Np,ug]at hb |-;omega);obtain⟨q3,e3,B3⟩:=GR l t.fields (fun f hf=>⟨cL (h4 f hf).1,t31 l d f.2 (h4 f hf).2⟩) h2 t.fields.length 0 rfl (by omega) q2 _ B2 (by simp only[Nk,Np]at hb |-;omega);refine⟨q3,?_,by simpa using B3⟩;have e3':ak (L31_0 (ab pg) ak) [.hp l 0,aO t.fields,.int .i64 t.fields.length,.int .i64 0] q2= .ok (.tup []) q3:=e3;simp only[S31,fT0,ae,Ei,n1,ai];rw[az e1];simp only[nq,hk',ae,ah,M3,Na,fT1,Ej,cu,n2,ai];rw[az e2];exact e3'
  ·rw[M9 hk,Og]at hb |-;have hk':(t.kind != 2)=true:=by rw[OR];exact hk
   refine⟨q1,?_,B1⟩;simp only[S31,fT0,ae,Ei,n1,ai];rw[az e1];simp only[nq,hk',ae,ah,Nj];rfl
theorem fS0(cs:List AV):aB T 37 (.ip cs) 0=some (.ip (cs.drop 0)):=rfl
theorem fS1(cs:List AV):aB T 37 (.ip cs) 1=some (.ip (cs.drop 1)):=rfl
theorem fS2(cs:List AV):aB T 37 (.ip cs) 2=some (.ip (cs.drop 2)):=rfl
theorem fS3(cs:List AV):aB T 37 (.ip cs) 3=some (.ip (cs.drop 4)):=rfl
def Kl(t:Sig):aX T 9 (.ip ((af t.av).drop 0))=some (.str t.name):=by simp
def Az(t:Sig):aX T 33 (.ip ((af t.av).drop 1))=some (ig t.params):=by simp
def GI(t:Sig):aX T 35 (.ip ((af t.av).drop 2))=some t.result.av:=by simp
def Km(t:Sig):aX T 3 (.ip ((af t.av).drop 4))=some (.int .i64 t.effects):=by simp
def GJ(t:Sig):aX T 37 (.ip (af t.av))=some t.av:=by simp
def HF(t:Ty):aX T 35 (.ip (af t.av))=some t.av:=by simp
def G1(l:Nat)(x:Sig)(fs:AV)(n k:Int)(hk0:0<=k)(hk:k<=1000)(hp:∀t∈x.params,Dz l t)(hr:Dz l x.result)(he:-9223372036854775808<=x.effects/\x.effects<=9223372036854775807)(hlen:x.params.length<=6)(cont:List AV->M AV):
  ∀(m j:Nat),x.params.length-j=m->j<=x.params.length->∀(h:Hp)(s:aQ),Bp h l s->(s++((x.params.drop j).flatMap bT++bT x.result++bW x.effects)).length<=ug->
  ∃h',ak (L8_0 (ab pg) ak cont) [.hp l 0,.ip (af x.av),fs,.int .i64 n,.int .i64 k,ig x.params,.int .i64 x.params.length,.int .i64 j] h=cont [.hp l 0,fs,.int .i64 n,.int .i64 (k+1)] h'/\Bp h' l (s++((x.params.drop j).flatMap bT++bT x.result++bW x.effects)):=by
 intro m
 induction m with
 |zero=>
  intro j hj hle h s H hb;have g:¬((j:Int)<(x.params.length:Int)):=by omega
  have hw:IntKind.i64.wrap (k+1)=k+1:=bE (by omega) (by omega);rw[Nc (by omega),OW,NF]at hb |-;obtain⟨q1,e1,B1⟩:=hr h s H (by simp only[Np]at hb |-;omega);have n1:=t30 x.effects he.1 he.2;obtain⟨q2,e2,B2⟩:=t28 B1 (bW x.effects) (by simp only[Np,ug]at hb |-;omega);refine⟨q2,?_,by simpa using B2⟩;rw[FL8_0];simp only[L8_0,aj,ao,ax,ae,g,Nm,ah,M3,Na,fS2,GI];rw[az e1];simp only[fS3,ae,Km,n1,ai];rw[az e2];simp only[ba,ae,hw]
 |succ m ih=>
  intro j hj hle h s H hb;have hlt:j<x.params.length:=by omega
  have g:(j:Int)<(x.params.length:Int):=by omega
  have hw:IntKind.i64.wrap ((j:Int)+1)=((j+1:Nat):Int):=aE (by omega);have hix:=uN (l:=x.params) (n:=(j:Int)) (by omega) g;rw[Nb,Nt x.params j hlt]at hix;have h2:=hp _ (Ni hlt);rw[Ng hlt,Ol]at hb |-;generalize x.params[j]=t at *;obtain⟨q1,e1,B1⟩:=h2 h s H (by simp only[Np]at hb |-;omega);obtain⟨q2,e2,B2⟩:=ih (j+1) (by omega) (by omega) q1 _ B1 (by simp only[Np]at hb |-;omega);refine⟨q2,?_,by simpa using B2⟩;rw[FL8_0];simp only[L8_0,aj,ao,ax,ae,g,Nf,ah,Nj,hix,HF,gB,ai];rw[az e1];simp only[ba,ae,hw];exact e2
def tQ(s:Sig):Prop:=-9223372036854775808<=s.effects/\s.effects<=9223372036854775807
def G2(l:Nat)(fs:List Sig)(hf:∀s∈fs,cH s=true/\tQ s)(hlen:fs.length<=30):∀(m i:Nat),fs.length-i=m->i<=fs.length->∀(h:Hp)(s:aQ),Bp h l s->(s++(fs.drop i).flatMap gh).length<=ug->
  ∃h',ak (L8_1 (ab pg) ak) [.hp l 0,sigs fs,.int .i64 fs.length,.int .i64 i] h= .ok (.tup [.str (s++(fs.drop i).flatMap gh),.int .i64 0]) h':=by
 intro m
 induction m with
 |zero=>
  intro i hi hle h s H hb;have g:¬((i:Int)<(fs.length:Int)):=by omega
  rw[Nc (by omega),OW,Og]at hb |-;obtain⟨q,e⟩:=t32 H hb;refine⟨q,?_⟩;rw[FL8_1];simp only[L8_1,aj,ao,ax,ae,g,Nm,ah,M3,Na];rw[az e];rfl
 | succ m ih=>
  intro i hi hle h s H hb;have hlt:i<fs.length:=by omega
  have g:(i:Int)<(fs.length:Int):=by omega
  have hix:=pM (l:=fs) (n:=(i:Int)) (by omega) g;rw[Nb,Nt fs i hlt]at hix;obtain⟨h1,h2⟩:=hf _ (Ni hlt);rw[Ng hlt,Ol]at hb |-;have ih':=ih (i+1) (by omega) (by omega);generalize fs[i]=x at *;have hS:=h1;unfold cH at h1;simp only[M5,M8,Nl]at h1;obtain⟨⟨⟨⟨g1,g2⟩,_⟩,g4⟩,g5⟩:=h1;have hnl:=cL g1;have hwt:=t29 x.name (by omega);have n1:=t30 (x.params.length:Int) (by omega) (by omega);have hc:=jg (eD x.name) (bW x.params.length) (by have:=gk hnl;have:=ew (x.params.length:Int);omega);have eT:gh x=(eD x.name++bW x.params.length)++(x.params.flatMap bT++bT x.result++bW x.effects):=by simp[gh]
  rw[eT]at hb |-;obtain⟨q1,e1,B1⟩:=t28 H (eD x.name++bW x.params.length) (by simp only[Np,ug]at hb |-;omega);obtain⟨q2,e2,B2⟩:=G1 l x (sigs fs) fs.length i (by omega) (by omega) (fun t ht=>t31 l 4 t (g5 t ht)) (t31 l 4 _ g4) h2 g2 (ak (L8_1 (ab pg) ak)) x.params.length 0 rfl (by omega) q1 _ B1 (by simp only[Nk,Np]at hb |-;omega);rw[Nk]at B2;obtain⟨q3,e3⟩:=ih' q2 _ B2 (by simp only[Np]at hb |-;omega);refine⟨q3,?_⟩;have e3':ak (L8_1 (ab pg) ak) [.hp l 0,sigs fs,.int .i64 fs.length,.int .i64 ((i:Int)+1)] q2= .ok (.tup [.str (s++(eD x.name++bW x.params.length++(x.params.flatMap bT++bT x.result++bW x.effects)++(fs.drop (i+1)).flatMap gh)),.int .i64 0]) q3:=by
   rw[show ((i:Int)+1)=((i+1:Nat):Int) by omega,e3];simp
  rw[FL8_1];simp only[L8_1,aj,ao,ax,ae,g,Nf,ah,Nj,hix,GJ,mo,ai,fS0,fS1,Kl,Az,hwt,bQ,ej,n1,hc];rw[az e1];exact e2.trans e3'
theorem fA0(cs:List AV):aB T 32 (.ip cs) 0=some (.ip (cs.drop 0)):=rfl
theorem fA1(cs:List AV):aB T 32 (.ip cs) 1=some (.ip (cs.drop 1)):=rfl
def HD(t:Face):aX T 9 (.ip ((af t.av).drop 0))=some (.str t.module):=by simp
def Ay(t:Face):aX T 30 (.ip ((af t.av).drop 1))=some (sigs t.funcs):=by simp
def HE(t:Face):aX T 32 (.ip (af t.av))=some t.av:=by simp
theorem t8(f:Face)(hL:f.Lim)(he:∀s∈f.funcs,tQ s):ab pg 8 [f.av]=am (.tup [.str (fk f).1,.int .i64 (fk f).2]):=by
 have hR:=t16 f hL;rw[C8,eM];unfold fk;cases hr:cI f with
 | false=>
  rw[hr]at hR;have e:S8 (ab pg) ak f.av=am (.tup [.str [],.int .i64 1]):=by
   simp only[S8,HE,ae,hR,ai,bp,Nw,ah,Nj]
  rw[e];exact bD fun g=>rfl
 | true=>
  rw[hr]at hR;have hlen:=BQ hr;have hr':=hr;unfold cI at hr';simp only[M5,M8,Nl]at hr';obtain⟨⟨h1,h2⟩,h3,_⟩:=hr';have hnl:=cL h1;have hwt:=t29 f.module (by omega);have n1:=t30 (f.funcs.length:Int) (by omega) (by omega);have hc:=jg (eD f.module) (bW f.funcs.length) (by have:=gk hnl;have:=ew (f.funcs.length:Int);omega);have B0:Bp [[AV.nilb 67,.hn]] 0 []:=.inl ⟨rfl,.inl rfl⟩;have l1:=gk hnl;have l2:=ew (f.funcs.length:Int);obtain⟨q1,e1,B1⟩:=t28 B0 (eD f.module++bW f.funcs.length) (by simp;omega);rw[NF]at B1;obtain⟨q2,e2⟩:=G2 0 f.funcs (fun s hs=>⟨h3 s hs,he s hs⟩) h2 f.funcs.length 0 rfl (by omega) q1 _ B1 (by
   have:eD f.module++bW f.funcs.length++f.funcs.flatMap gh=iV f:=rfl;rw[Nk,this];exact NK hlen (by decide))
  rw[Nk]at e2;have key:S8 (ab pg) ak f.av []= .ok (.tup [.str (iV f),.int .i64 0]) q2:=by
   have nb:wx 67 [.nilp,.hn] []= .ok (.hp 0 0) [[AV.nilb 67,.hn]]:=rfl;simp only[S8,HE,ae,hR,ai,bp,Nv,ah,M3,Na];rw[az nb];simp only[fA0,fA1,HD,Ay,ae,hwt,bQ,ai,eJ,n1,hc];rw[az e1];exact e2
  rw[Nn rfl];funext h;unfold aP;rw[key];rfl
end Go.Proofs.YtighgcgmocboaaaGreatDoor
