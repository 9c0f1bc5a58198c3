/- What the functions of the seat compute, part 7: the texts of the claim, one behind the other. Conditions: bounds, as each theorem names them. -/
import Derived.Test.YtihmmkncokjbaaaGreatDoorTf
import Derived.Test.YtihmmkncokjbaaaGreatDoorLd
set_option linter.defProp false
set_option linter.unusedSimpArgs false
set_option linter.unusedVariables false
namespace Go.Proofs.YtihmmkncokjbaaaGreatDoor
open Go Go.Av Go.Av.Ap
set_option maxRecDepth 100000
@[simp] theorem LU(t:Nat)(a b:Int):am T .geq t (.int .u8 a) (.int .u8 b)=some (.bool (decide (b<=a))):=rfl
@[simp] theorem LV(t:Nat)(a b:Int):am T .leq t (.int .u8 a) (.int .u8 b)=some (.bool (decide (a<=b))):=rfl
@[simp] theorem Bv(t:Nat)(a b:a7):am T .leq t (.str a) (.str b)=some (.bool (bH a b||a== b)):=rfl
def t96(f:AV)(F:bd->Bool)(l:List bd)(hb:l.length<=4611686018427387904)(hc:∀g,cl g f=f)(hf:∀x∈l,bu (ai pg) f [bw x]=M.pure (.bool (F x))):ai pg 96 [aK l,f]=M.pure (.bool (l.any F)):=by
 rw[C96];simp[S96,hc,t81 f F l hb hc hf,jL]
def HD(f:AV)(F:Ty->Bool)(l:List Ty)(hb:l.length<=4611686018427387904)(hf:∀x∈l,bu (ai pg) f [Ty.av x]=M.pure (.bool (F x))):∀(n:Nat)(i:Int),l.length-i.toNat=n->0<=i->i<=l.length->
  aj (L157_0 (ai pg) aj) [im l,f,.int .i64 l.length,.int .i64 i]=M.pure (.int .i64 (aV F (l.drop i.toNat) i)):=by
 intro n
 induction n with
 |zero=>
  intro i hn hi hl;rw[FL157_0];simp only[L157_0];have h1:¬(i<(l.length:Int)):=by omega
  have h2:l.drop i.toNat=[]:=PD (by omega);simp[h1,h2,aV]
 |succ n ih=>
  intro i hn hi hl;have h1:i<(l.length:Int):=by omega
  have hlt:i.toNat<l.length:=by omega
  have h2:aV F (l.drop i.toNat) i=if F l[i.toNat]=true then i else aV F (l.drop (i.toNat+1)) (i+1):=by rw[PC hlt];rfl
  have h3:=hf l[i.toNat] (Px hlt);have h4:=ih (i+1) (by omega) (by omega) (by omega);rw[show (i+1).toNat=i.toNat+1 by omega]at h4;rw[FL157_0];simp only[L157_0];simp (disch:=omega) [h1,bq,tT,h3,h2];cases F l[i.toNat]
  ·simpa using h4
  ·simp
def t157(f:AV)(F:Ty->Bool)(l:List Ty)(hb:l.length<=4611686018427387904)(hc:∀g,cl g f=f)(hf:∀x∈l,bu (ai pg) f [Ty.av x]=M.pure (.bool (F x))):ai pg 157 [im l,f]=M.pure (.int .i64 (aV F l 0)):=by
 rw[C157];simp[S157,hc,HD f F l hb hf l.length 0 rfl (by omega) (by omega)]
def t117(f:AV)(F:Ty->Bool)(l:List Ty)(hb:l.length<=4611686018427387904)(hc:∀g,cl g f=f)(hf:∀x∈l,bu (ai pg) f [Ty.av x]=M.pure (.bool (F x))):ai pg 117 [im l,f]=M.pure (.bool (l.any F)):=by
 rw[C117];simp[S117,hc,t157 f F l hb hc hf,jL]
def HI(f:AV)(F:Sig->Bool)(l:List Sig)(hb:l.length<=4611686018427387904)(hf:∀x∈l,bu (ai pg) f [Sig.av x]=M.pure (.bool (F x))):∀(n:Nat)(i:Int),l.length-i.toNat=n->0<=i->i<=l.length->
  aj (L214_0 (ai pg) aj) [sigs l,f,.int .i64 l.length,.int .i64 i]=M.pure (.int .i64 (aV F (l.drop i.toNat) i)):=by
 intro n
 induction n with
 |zero=>
  intro i hn hi hl;rw[FL214_0];simp only[L214_0];have h1:¬(i<(l.length:Int)):=by omega
  have h2:l.drop i.toNat=[]:=PD (by omega);simp[h1,h2,aV]
 |succ n ih=>
  intro i hn hi hl;have h1:i<(l.length:Int):=by omega
  have hlt:i.toNat<l.length:=by omega
  have h2:aV F (l.drop i.toNat) i=if F l[i.toNat]=true then i else aV F (l.drop (i.toNat+1)) (i+1):=by rw[PC hlt];rfl
  have h3:=hf l[i.toNat] (Px hlt);have h4:=ih (i+1) (by omega) (by omega) (by omega);rw[show (i+1).toNat=i.toNat+1 by omega]at h4;rw[FL214_0];simp only[L214_0];simp (disch:=omega) [h1,bq,Dc,h3,h2];cases F l[i.toNat]
  ·simpa using h4
  ·simp
def t214(f:AV)(F:Sig->Bool)(l:List Sig)(hb:l.length<=4611686018427387904)(hc:∀g,cl g f=f)(hf:∀x∈l,bu (ai pg) f [Sig.av x]=M.pure (.bool (F x))):ai pg 214 [sigs l,f]=M.pure (.int .i64 (aV F l 0)):=by
 rw[C214];simp[S214,hc,HI f F l hb hf l.length 0 rfl (by omega) (by omega)]
def t205(b:UInt8):ai pg 205 [.int .u8 b.toNat]=M.pure (.bool (pP b)):=by
 rw[C205];have e:decide ((b.toNat:Int)<=122)=decide (b.toNat<=122):=QP.2 (by omega);have e2:decide (97<=(b.toNat:Int))=decide (97<=b.toNat):=QP.2 (by omega);simp[S205,pP,e,e2]
def t208(b:UInt8):ai pg 208 [.int .u8 b.toNat]=M.pure (.bool (yY b)):=by
 rw[C208];have e:decide ((b.toNat:Int)<=57)=decide (b.toNat<=57):=QP.2 (by omega);have e2:decide (48<=(b.toNat:Int))=decide (48<=b.toNat):=QP.2 (by omega);simp[S208,yY,e,e2]
def t207(b:UInt8):ai pg 207 [.int .u8 b.toNat]=M.pure (.bool (qg b)):=by
 rw[C207];simp[S207,t205,t208,qg]
theorem Jl{s:a7}{i:Nat}(h:i<s.length):gD T 9 (.str s) (.int .i64 (i:Int))=some (.int .u8 (s[i].toNat:Int)):=by
 have e1:gD T 9 (.str s) (.int .i64 (i:Int))=(if(i:Int)<0 then none else s[(i:Int).toNat]?.map fun b=>.int .u8 b.toNat):=rfl;rw[e1,if_neg (by omega),PH,Pv h];rfl
def HG(F:UInt8->Bool)(f:AV)(s:a7)(hb:s.length<=4611686018427387904)(hf:∀b:UInt8,bu (ai pg) f [.int .u8 b.toNat]=M.pure (.bool (F b))):∀(n i:Nat),s.length-i=n->i<=s.length->
  aj (L206_0 (ai pg) aj) [.str s,f,.int .i64 i]=M.pure (.int .i64 ((i+((s.drop i).takeWhile F).length:Nat):Int)):=by
 intro n
 induction n with
 |zero=>
  intro i hn hi;rw[FL206_0];simp only[L206_0];have h1:¬((i:Int)<(s.length:Int)):=by omega
  have h2:s.drop i=[]:=PD (by omega);simp[h1,h2]
 | succ n ih=>
  intro i hn hi;have hlt:i<s.length:=by omega
  have h1:(i:Int)<(s.length:Int):=by omega
  have h2:s.drop i=s[i]:: s.drop (i+1):=PC hlt;have h4:=ih (i+1) (by omega) (by omega);have hw:IntKind.i64.wrap ((i:Int)+1)=((i+1:Nat):Int):=bz (by omega);rw[FL206_0];simp only[L206_0,aH,aM,Nk,ao,bV,h1,Qi,bp,Jl hlt,hf,aB,cw,au,dj,hw,h4,h2,List.takeWhile_cons];cases F s[i]
  ·simp
  ·rw[Ps rfl,Ps rfl];congr 3;simp;omega
def t158(s:a7):ai pg 158 [.str s]=M.pure (.bool (pC s)):=by
 rw[C158];by_cases hs:s=[]
 ·subst hs;simp[S158,pC]
 ·have hs':(s== [])=false:=PP.2 hs;have hpos:0<s.length:=Rf.2 hs;have h0:=Jl (s:=s) (i:=0) hpos;have hd:s[0]=s.headD 0:=by cases s with|nil=>exact absurd rfl hs|cons c s=>rfl
  rw[hd]at h0;simp at h0;by_cases hl:s.length<=20
  ·have h1:=HG qg (.fn (.func 207) [] []) s (by omega) (fun b=>t207 b) s.length 0 (by simp) (by simp);have hsp:ai pg 206 [.str s,.fn (.func 207) [] []]=M.pure (.int .i64 (((s.takeWhile qg).length:Nat):Int)):=by
    rw[C206];simp only[S206,cl,dp];rw[show (AV.int .i64 0)=AV.int .i64 ((0:Nat):Int)from rfl,h1];simp
   have e1:decide (20<(s.length:Int))=false:=by rw[QV];omega
   have e3:decide (20<s.length)=false:=by rw[QV];omega
   have e4:decide (s.length<=20)=true:=by simpa using hl
   simp[S158,hs',h0,t205,hsp,e1,e3,e4,pC]
  ·have e1:decide (20<(s.length:Int))=true:=by rw[Pt];omega
   have e3:decide (20<s.length)=true:=by rw[Pt];omega
   have e4:decide (s.length<=20)=false:=by simpa using hl
   simp[S158,hs',h0,t205,e1,e3,e4,pC]
def t159(s:a7):ai pg 159 [.str l5,.str s]=M.pure (.bool (Lib.contains l5 s)):=by
 rw[fN aF (E:=jF) rfl];rfl
theorem Bu(t:Nat)(a b:a7):am T .add t (.str a) (.str b)=if a.length+b.length<=4611686018427387904 then some (.str (a++b))else none:=rfl
def t119(s:a7):ai pg 119 [.str s]=M.pure (.bool (cX s)):=by
 rw[C119];have h1:=t158 s;unfold cX;cases hw:pC s with
 |false=>
  rw[hw]at h1;simp[S119,h1]
 |true=>
  have hl:=C4 hw;rw[hw]at h1;have h2:=t159 ([32]++s++[32]);unfold l5 at h2;have e1:am T .add 9 (.str [32]) (.str s)=some (.str ([32]++s)):=by rw[Bu,Ps (by simp;omega)]
  have e2:am T .add 9 (.str ([32]++s)) (.str [32])=some (.str ([32]++s++[32])):=by rw[Bu,Ps (by simp;omega)]
  simp only[S119,yT,h1,aB,bp,e1,ao,e2,h2,gn,aH,cw,lV,QJ];rfl
def Hy{t:Ty}(h:t.Lim)(k:Nat)(hk:k<t.fields.length):(t.fields[k]!).2.Lim:=by
 rw[Pz t.fields k hk];exact h.kid (Px hk)
theorem t99:∀(d:Nat),d<=4->∀(t:Ty),t.Lim->ai pg 99 [t.av,.int .i64 d]=M.pure (.bool (dm d t))
 |0,_,t,_=>by
  rw[C99];simp[S99,dm]
 | d + 1,hd,t,ht=>by
  have ih:=t99 d (by omega);have hlen:=ht.len;have hd1:IntKind.i64.wrap ((((d+1:Nat)):Int)-1)=(d:Int):=tQ (by omega);have hloop:=Hr (F:=L99_0 (ai pg) aj) (FL99_0 (ai pg)) (fun k=>[.int .i64 ((d+1:Nat):Int),.ip (ab t.av),aK t.fields,.int .i64 t.fields.length,.int .i64 k]) t.fields.length
   (fun k=>(cX (t.fields[k]!).1&&dm d (t.fields[k]!).2)&&(decide (k=0)||eH (t.fields[k-1]!).1 (t.fields[k]!).1))
   (by simp[L99_0]) (fun k hk=>by
    have h1:(k:Int)<(t.fields.length:Int):=by omega
    have hix:=iK (l:=t.fields) (n:=(k:Int)) (by omega) h1;rw[PH]at hix;have hm:t.fields[k]! ∈t.fields:=by rw[Pz t.fields k hk];exact Px hk
    have h2:=t119 (t.fields[k]!).1;have h3:=ih (t.fields[k]!).2 (Hy ht k hk);have hw:IntKind.i64.wrap ((k:Int)+1)=(k:Int)+1:=by rw[bz (by omega)];simp
    have hd0:IntKind.i64.wrap (d:Int)=(d:Int):=GF (by omega);generalize t.fields[k]! = f at hix h2 h3 hm |-;rcases Qj k with hk0|hk0
    ·subst hk0;have hix0:ak T 23 (aK t.fields) (.int .i64 0)=some (.ip (ab (bw f))):=hix;have hw0:IntKind.i64.wrap 1=1:=rfl;simp[L99_0,hix0,h2,h3,hw0,hd0,hk];cases cX f.1<;>cases dm d f.2<;>simp
    ·have hp:IntKind.i64.wrap ((k:Int)-1)=((k-1:Nat):Int):=by
      rw[bq (by omega) (by omega)];omega
     have h4:((k-1:Nat):Int)<(t.fields.length:Int):=by omega
     have hix2:=iK (l:=t.fields) (n:=((k-1:Nat):Int)) (by omega) h4;rw[PH]at hix2;generalize t.fields[k-1]! = g at hix2 |-;have hk1:¬k=0:=by omega
     simp[L99_0,h1,hix,h2,h3,hw,hd0,hp,hix2,hk0,hk1,hk];cases cX f.1<;>simp;cases h5:bH f.1 g.1<;>cases dm d f.2<;>by_cases h6:f.1=g.1<;>simp[eH,h5,h6]) 0 (P8 _)
  have hall:((List.range' 0 t.fields.length).all fun k=>(cX (t.fields[k]!).1&&dm d (t.fields[k]!).2)&&(decide (k=0)||eH (t.fields[k-1]!).1 (t.fields[k]!).1))=(t.fields.all (fun f=>cX f.1&&dm d f.2)&&kV (fun a b=>eH a.1 b.1) t.fields):=
   An (fun f:bd=>cX f.1&&dm d f.2) (fun a b=>eH a.1 b.1) t.fields
  rw[Sr,hall]at hloop;rw[C99];have h0:¬((d:Int)+1=0):=by omega
  have hl2:aj (L99_0 (ai pg) aj) [.int .i64 ((d:Int)+1),.ip [.int .i64 t.kind,aK t.fields],aK t.fields,.int .i64 t.fields.length,.int .i64 0]=M.pure (.bool (t.fields.all (fun f=>cX f.1&&dm d f.2)&&kV (fun a b=>eH a.1 b.1) t.fields)):=by
   simpa using hloop
  have hR:dm (d+1) t=if((t.kind<0\/3<=t.kind)\/8<(t.fields.length:Int))\/¬t.kind=2/\0<t.fields.length then false else(t.fields.all (fun f=>cX f.1&&dm d f.2)&&kV (fun a b=>eH a.1 b.1) t.fields):=by
   rw[fR];generalize (t.fields.all (fun f=>cX f.1&&dm d f.2)&&kV (fun a b=>eH a.1 b.1) t.fields)=q;generalize t.fields.length=n;generalize t.kind=k;split
   ·rename_i hc;cases q
    ·simp
    ·simp only[QB,RY,QV,Q6,PP];rcases hc with((h|h)|h)|h
     ·exact .inl (.inl (.inl (by omega)))
     ·exact .inl (.inl (.inr (by omega)))
     ·exact .inl (.inr (by omega))
     ·exact .inr ⟨h.1,by omega⟩
   ·rename_i hc;have e1:decide (0<=k)=true:=by rw[Pt];omega
    have e2:decide (k<3)=true:=by rw[Pt];omega
    have e3:decide (n<=8)=true:=by rw[Pt];omega
    have e4:(k== 2||n== 0)=true:=by
     rw[Qn,PR,PR];omega
    rw[e1,e2,e3,e4];simp
  rw[hR];simp[S99,h0,hl2]
def t56(t:Ty)(ht:t.Lim):ai pg 56 [t.av]=M.pure (.bool (bg t)):=by
 rw[C56];have:ai pg 99 [t.av,.int .i64 4]=M.pure (.bool (dm 4 t)):=t99 4 (by omega) t ht;simp[S56,this]
def t23(t:Ty)(ht:t.Lim):ai pg 23 [t.av]=M.pure (.bool (bg t)):=by
 rw[C23];simp[S23,t56 t ht]
theorem pd:(l:List bd)->gB (fE l)=some (l.map fun f=>(f.1,f.2.kind,fE f.2.fields))
 |[]=>rfl
 |f:: l=>by simp[fE,gB,pd l,lk,wL,aK]
theorem s8{α β:Type}(g:α->β)(p:β->Bool):(l:List α)->bW p (l.map g)=(bW (fun x=>p (g x)) l).map g
 |[]=>rfl
 |x:: l=>by
  simp only[Qu,bW,s8 g p l];cases bW (fun x=>p (g x)) l with
  |some y=>rfl
  |none=>cases p (g x)<;>rfl
def ty0:Ty:=.mk 0 []
def t112(l:List bd)(hl:l.length<=1000000000)(s:a7):ai pg 112 [aK l,.str s]=M.pure (.tup [((bW (fun f=>f.1== s) l).map (·.2)).getD ty0 |>.av,.bool (bW (fun f=>f.1== s) l).isSome]):=by
 rw[fN aF (E:=lW) rfl];unfold lW aK;simp only[pd,Q1,hl,Qi,Pq,zx,s8];cases bW (fun f:bd=>f.1== s) l with
 |none=>rfl
 |some f=>simp[af,M.pure,Ty.av,Ty.cells_eq,aK];rfl
def Ty.Short:Nat->Ty->Prop
 |0,_=>True
 |n+1,t=>t.fields.length<=1000000000/\∀f∈t.fields,Ty.Short n f.2
theorem nL:∀(d:Nat)(t:Ty),dm d t=true->∀n,Ty.Short n t
 |0,t,h,_=>by cases h
 |d+1,t,h,0=>trivial
 |d+1,t,h,n+1=>by
  rw[fR]at h;simp only[Po,Pt,PG]at h;exact⟨by omega,fun f hf=>nL d f.2 (h.2.1 f hf).2 n⟩
theorem iD{α:Type}{p:α->Bool}:{l:List α} ->{x:α} ->bW p l=some x->x∈l/\p x=true
 |[],x,h=>by cases h
 | y:: l,x,h=>by
  simp only[bW]at h;cases h2:bW p l with
  |some z=>
   rw[h2]at h;cases h
   have:=iD h2
   exact⟨PU _ this.1,this.2⟩
  |none=>
   rw[h2]at h;cases h3:p y with
   |true=>rw[h3]at h;cases h;exact⟨P2,h3⟩
   |false=>rw[h3]at h;cases h
def xC{α:Type}(P:α->Bool)(l:List α):(!l.any fun x=>!P x)=l.all P:=by simp[RL]
theorem t72:∀(n:Nat)(b a:Ty),Ty.Short n a->Ty.Short n b->dm n b=true->ai pg 72 [a.av,b.av]=M.pure (.bool (cd a b))
 |0,b,a,_,_,h=>by cases h
 | n+1,b,a,ha,hb,h=>by
  have ih:=t72 n;rw[fR]at h;simp only[Po,Pt,PG]at h;have hf:∀f∈b.fields,bu (ai pg) (.fn (.func 111) [] [.ip (ab a.av)]) [bw f]=M.pure (.bool (!(match bW (fun z=>z.1== f.1) a.fields with|some z=>cd z.2 f.2|none=>false))):=by
   intro f hfm;show ai pg 111 [bw f,.ip (ab a.av)]=_;have h1:=t112 a.fields ha.1 f.1;rw[C111];cases hl:bW (fun z:bd=>z.1== f.1) a.fields with
   |none=>
    rw[hl]at h1;simp[S111,h1,cl,dp]
   |some z=>
    rw[hl]at h1;have h2:=ih f.2 z.2 (ha.2 z (iD hl).1) (hb.2 f hfm) (h.2.1 f hfm).2;simp[S111,h1,cl,dp,h2]
  have h2:=t96 (.fn (.func 111) [] [.ip (ab a.av)]) _ b.fields (by have:=hb.1;omega) (fun g=>by simp[cl,dp]) hf;rw[C72,sI];simp at h2;simp[S72,h2];rw[xC];rfl
@[simp] theorem qk(t:Nat)(a b:Int):am T .andNot t (.int .i64 a) (.int .i64 b)=some (.int .i64 (eU a b)):=rfl
def KC(f:AV)(F:bd->bd->Bool)(a:List bd)(b:List bd)(hb:a.length<=4611686018427387904)(hab:a.length=b.length)(hf:∀x∈a,∀y∈b,bu (ai pg) f [bw x,bw y]=M.pure (.bool (F x y))):∀(n:Nat)(i:Int),a.length-i.toNat=n->0<=i->i<=a.length->
  aj (L83_0 (ai pg) aj) [aK b,f,aK a,.int .i64 a.length,.int .i64 i]=M.pure (.bool (cj F (a.drop i.toNat) (b.drop i.toNat))):=by
 intro n
 induction n with
 |zero=>
  intro i hn hi hl;rw[FL83_0];simp only[L83_0];have h1:¬(i<(a.length:Int)):=by omega
  have h2:a.drop i.toNat=[]:=PD (by omega);have h3:b.drop i.toNat=[]:=PD (by omega);simp[h1,h2,h3,cj]
 |succ n ih=>
  intro i hn hi hl;have h1:i<(a.length:Int):=by omega
  have h1':i<(b.length:Int):=by omega
  have hlt:i.toNat<a.length:=by omega
  have hlt':i.toNat<b.length:=by omega
  have h3:=hf a[i.toNat] (Px hlt) b[i.toNat] (Px hlt');have h4:=ih (i+1) (by omega) (by omega) (by omega);rw[show (i+1).toNat=i.toNat+1 by omega]at h4;rw[FL83_0,nW F a b i.toNat hlt hlt'];simp only[L83_0];simp (disch:=omega) [h1,bq,iK,iK,h4];rw[h3];cases F a[i.toNat] b[i.toNat]<;>simp
def t83(f:AV)(F:bd->bd->Bool)(a:List bd)(b:List bd)(hb:a.length<=4611686018427387904)(hc:∀g,cl g f=f)(hf:∀x∈a,∀y∈b,bu (ai pg) f [bw x,bw y]=M.pure (.bool (F x y))):ai pg 83 [aK a,aK b,f]=M.pure (.bool (cj F a b)):=by
 rw[C83];by_cases h:a.length=b.length
 ·have:=KC f F a b hb h hf a.length 0 rfl (by omega) (by omega)
  simp[S83,h,hc]at this |-;simp[this]
 ·have h3:(a.length != b.length)=true:=by simp[h]
  simp[S83,h3,kS F a b h]
def t79:∀(N:Nat)(a b:Ty),SizeOf.sizeOf a<=N->a.Lim->ai pg 79 [a.av,b.av]=M.pure (.bool (jT a b)):=by
 intro N
 induction N with
 |zero=>intro a b h;cases a;simp at h
 | succ N ih=>
  intro a b hN hL;have hlen:=hL.len;have h1:=t83 (.fn (.func 129) [] []) (fun x y=>x.1== y.1&&jT x.2 y.2) a.fields b.fields (by omega) (fun _=>rfl) (fun x hx y _=>by
   have:=ih x.2 y.2 (by have:=Js hx;omega) (hL.kid hx)
   show ai pg 129 [bw x,bw y]=_;rw[C129];simp[S129,this])
  rw[C79,Gi];simp[S79,h1]
theorem E6:∀ {n:Nat} {v:Val},bF n v=true->v.names.length=v.values.length/\v.names.length<=8/\∀x∈v.values,∃m,bF m x=true
 |0,v,h=>by simp[bF]at h
 | n+1,v,h=>by
  unfold bF at h;split at h
  ·simp only[Po,PR]at h;have h1:v.values=[]:=List.length_eq_zero_iff.1 h.1.2;refine⟨by omega,by omega,fun x hx=>by rw[h1]at hx;cases hx⟩
  ·simp only[Po,PR,Pt,PG]at h;exact⟨h.1.1.1.2,h.1.1.2,fun x hx=>⟨n,h.2 x hx⟩⟩
theorem oo{α:Type}(F:α->Bool):(l:List α)->(i:Int)->aV F l i= -1\/(i<=aV F l i/\aV F l i<i+l.length)
 |[],i=>.inl rfl
 | x:: l,i=>by
  simp only[aV];split
  ·right;simp;omega
  ·rcases oo F l (i+1)with h|h
   ·exact .inl h
   ·right;simp only[PW];omega
def Et{α:Type}(F:α->Bool)(l:List α):(l.any fun x=>!F x)= !(l.all F):=by
 induction l with
 |nil=>rfl
 |cons x l ih=>simp only[Si,P5,ih];cases F x<;>simp
theorem MY:∀(d:Nat)(t:Ty)(n:Nat)(v:Val),dm d t=true->bF n v=true->v.sz<=1099511627776->ai pg 55 [t.av,v.av]=M.pure (.bool (li d t v))
 |0,t,n,v,h,_,_=>by simp[dm]at h
 | d+1,t,n,v,h,hv,hz=>by
  have hr:=h;rw[fR]at hr;simp only[Po,PG,Pt]at hr;obtain⟨hl,h8,hk⟩:=E6 hv;have hcl:∀g,cl g (.fn (.func 97) [] [.ip (ab v.av)])= .fn (.func 97) [] [.ip (ab v.av)]:=fun g=>by simp[cl,dp]
  have hany:=t96 (.fn (.func 97) [] [.ip (ab v.av)]) (fun f=>!(decide (0<=iU v.names f.1)&&li d f.2 v.values[(iU v.names f.1).toNat]!)) t.fields (by have:=hr.1.1.2;omega) hcl (fun f hf=>by
   show ai pg 97 [bw f,.ip (ab v.av)]=_;have hi:=t98 v.names f.1 (by omega);have hfr:=(hr.2.1 f hf).2;have hix:aV (fun x=>f.1== x) v.names 0=iU v.names f.1:=rfl;rw[hix]at hi;rw[C97];rcases oo (fun x=>f.1== x) v.names 0 with h1|h1
   ·rw[hix]at h1;have h2:iU v.names f.1<0:=by omega
    have h3:¬(0<=iU v.names f.1):=by omega
    simp[S97,cl,dp,hi,h2,h3]
   ·rw[hix]at h1;have h2:¬iU v.names f.1<0:=by omega
    have h3:0<=iU v.names f.1:=by omega
    have hlt:(iU v.names f.1).toNat<v.values.length:=by omega
    have hvx:=p8 (l:=v.values) (n:=iU v.names f.1) h3 (by omega);have hmem:v.values[(iU v.names f.1).toNat]! ∈v.values:=by rw[Pz v.values _ hlt];exact Px hlt
    obtain⟨m,hm⟩:=hk _ hmem;have ih:=MY d f.2 m v.values[(iU v.names f.1).toNat]! hfr hm (by have:=OZ hmem;omega);generalize v.values[(iU v.names f.1).toNat]! = x at hvx ih |-;simp[S97,cl,dp,hi,h2,h3,hvx,ih])
  rw[Et]at hany;have ea:ab v.av=[.int .i64 v.kind,.int .i64 v.n,strs v.names,vals v.values]:=by simp
  rw[ea]at hany;rw[C55,show li (d+1) t v=(t.kind== v.kind&&t.fields.all fun f=>decide (0<=iU v.names f.1)&&li d f.2 v.values[(iU v.names f.1).toNat]!)from rfl];generalize (t.fields.all fun f=>decide (0<=iU v.names f.1)&&li d f.2 v.values[(iU v.names f.1).toNat]!)=b at hany |-;simp[S55,hany]
def t20(t:Ty)(v:Val)(ht:t.Lim)(hz:v.sz<=1099511627776):ai pg 20 [t.av,v.av]=M.pure (.bool (fp t v)):=by
 have h1:=t23 t ht;have h2:=t49 v (by omega);rw[C20];unfold fp;cases hr:bg t with
 |false=>simp[S20,h1,hr]
 | true=>
  cases hv:bF 4 v with
  |false=>simp[S20,h1,hr,h2,hv]
  |true=>
   have h3:=MY 4 t 4 v hr hv hz;simp[S20,h1,hr,h2,hv,h3]
theorem FH(l:List bd)(vs:List Val)(hl:l.length<=140737488355328)(hlen:l.length=vs.length)(ht:∀f∈l,f.2.Lim)(hz:∀v∈vs,v.sz<=1099511627776):∀n k:Nat,l.length-k=n->k<=l.length->aj (L43_0 (ai pg) aj) [vals vs,aK l,.int .i64 l.length,.int .i64 (k:Int)]=M.pure (.bool (cj (fun f v=>fp f.2 v) (l.drop k) (vs.drop k)))
 |0,k,hn,hk=>by
  have h1:¬((k:Int)<(l.length:Int)):=by omega
  have h2:l.drop k=[]:=PD (by omega);have h3:vs.drop k=[]:=PD (by omega);rw[FL43_0];simp[L43_0,h1,h2,h3,cj]
 | n+1,k,hn,hk=>by
  have h1:(k:Int)<(l.length:Int):=by omega
  have hkl:k<l.length:=by omega
  have hkv:k<vs.length:=by omega
  have hix:=iK (l:=l) (n:=(k:Int)) (by omega) h1;have hiv:=p8 (l:=vs) (n:=(k:Int)) (by omega) (by omega);rw[PH,Pz l k hkl]at hix;rw[PH,Pz vs k hkv]at hiv;have hh:=t20 l[k].2 vs[k] (ht _ (Px hkl)) (hz _ (Px hkv));have hw:IntKind.i64.wrap ((k:Int)+1)=((k+1:Nat):Int):=by rw[bq (by omega) (by omega)];omega
  have ih:=FH l vs hl hlen ht hz n (k+1) (by omega) (by omega);rw[nW _ l vs k hkl hkv];generalize l[k]=f at hix hh;generalize vs[k]=v at hiv hh;rw[FL43_0];cases hx:fp f.2 v with
  |false=>
   rw[hx]at hh;simp[L43_0,h1,hix,hiv,hh,hkl]
  |true=>
   rw[hx]at hh;simp[L43_0,h1,hix,hiv,hh,hkl,hw];simpa using ih
def t43(l:List bd)(vs:List Val)(hl:l.length<=140737488355328)(ht:∀f∈l,f.2.Lim)(hz:∀v∈vs,v.sz<=1099511627776):ai pg 43 [aK l,vals vs]=M.pure (.bool (cL l vs)):=by
 rw[C43];by_cases h:l.length=vs.length
 ·have:=FH l vs hl h ht hz l.length 0 rfl (P8 _)
  simp only[PT,Sw]at this;have h3:((l.length:Int) != (vs.length:Int))=false:=by simp[h]
  have h4:(l.length != vs.length)=false:=by simp[h]
  unfold cL;rw[h]at this;simp[S43,h3,h4,h,this]
 ·have h3:((l.length:Int) != (vs.length:Int))=true:=by simp;omega
  have h4:(l.length != vs.length)=true:=by simp[h]
  unfold cL;simp[S43,h3,h4,h]
def HZ(t:Bool)(p:List Mod):AV:=if t=true then(match p with|[]=>.hn|_=>fZ p)else fZ p
def pR{t:Bool}{p:List Mod}(h:p≠[]):HZ t p=fZ p:=by
 cases t with
 |false=>rfl
 |true=>cases p with
  |nil=>exact absurd rfl h
  |cons _ _=>rfl
def C5(t:Bool)(w:List Int):AV:=if t=true then .hn else ints w
def rowP(p:List Mod)(t:Bool)(m:Ms)(dv cv sv:AV):List AV:=[HZ t p,C5 t m.world,.int .i64 m.fuel,.int .i64 m.frames,.int .i64 0,.int .i64 0,.int .i64 0,.hn,.hn,dv,cv,sv]
abbrev fu(p:List Mod)(nm:SNm):=Oy (rowP p nm.told) nm
structure LimP (p:List Mod):Prop where
 len:p.length<=1099511627776
 funcs:∀m∈p,m.funcs.length<=1099511627776/\m.vars.length<=1099511627776
def LimP.funcsAt{p:List Mod}(L:LimP p)(i:Nat):(p[i]?.getD default).funcs.length<=1099511627776/\(p[i]?.getD default).vars.length<=1099511627776:=by
 cases h:p[i]? with
 |none=>exact⟨P8 _,P8 _⟩
 |some m=>exact L.funcs m (Qf h)
theorem nk{α:Type}(F:α->Bool):(l:List α)->(i:Int)->aV F l i= -1\/(i<=aV F l i/\aV F l i<i+l.length)
 |[],i=>.inl rfl
 | x:: l,i=>by
  simp only[aV];split
  ·exact .inr ⟨QX _,by simp;omega⟩
  ·rcases nk F l (i+1)with h|h
   ·exact .inl h
   ·exact .inr ⟨by omega,by simp;omega⟩
def t221{p:List Mod}{nm:SNm}{m:Ms}{h:Hp}(R:fu p nm m h)(L:LimP p)(s:a7):ai pg 221 [.hp 0 0,.str s] h= .ok (.int .i64 (tn p s)) h:=by
 obtain⟨tag,dv,cv,sv,R⟩:=R;have h0:aW T 92 (.hp 0 (0+0)) h= .ok (HZ nm.told p) h:=dq rfl rfl R.r0 rfl;have hpv:∀f:AV,ai pg 193 [HZ nm.told p,f]=ai pg 193 [fZ p,f]:=fun f=>by
  by_cases hp:p=[]
  ·subst hp;cases nm.told with
   |false=>rfl
   |true=>rw[C193,C193];rfl
  ·rw[pR hp]
 rw[C221];simp only[S221,eQ,ao,FH164_0];rw[cI h0,hpv]
 have:=MW p (by have:=L.len;omega) s
 simp only[gw,this,aB];rfl
def zm:Option Fun->AV
 |some f=>.tup [f.av,.bool true]
 |none=>.tup [Fun.av default,.bool false]
theorem t222{p:List Mod}{nm:SNm}{m:Ms}{h:Hp}(R:fu p nm m h)(L:LimP p)(a:Int)(ha:a<p.length)(s:a7):ai pg 222 [.hp 0 0,.int .i64 a,.str s] h= .ok (zm (jI p a s)) h:=by
 obtain⟨tag,dv,cv,sv,R⟩:=R;have h0:p≠[]->aW T 92 (.hp 0 (0+0)) h= .ok (fZ p) h:=fun hp=>dq rfl rfl R.r0 (by rw[<- pR (t:=nm.told) hp];rfl);have hz:aU T false 68 []=some (Fun.av default):=rfl;have hzz:∀f:Fun,AV.agg [nth (ab f.av) 0,nth (ab f.av) 1,nth (ab f.av) 2,nth (ab f.av) 3,nth (ab f.av) 4,nth (ab f.av) 5,nth (ab f.av) 6,nth (ab f.av) 7,nth (ab f.av) 8,nth (ab f.av) 9,nth (ab f.av) 10,nth (ab f.av) 11]=f.av:=fun f=>by simp
 have hcf:∀f:Fun,ay 12 [] f.av=M.pure (.agg (ab f.av)):=fun f=>bB (i8 f);have hac:∀f:Fun,ab (.agg (ab f.av))=ab f.av:=fun _=>rfl;rw[C222];unfold jI;simp only[S222,bV,ao,au];by_cases h1:a<0
 ·simp only[h1,Qi,PF,hz,ao,hcf,aB,hac,hzz];rfl
 ·simp only[h1,QR,Pr,PE,eQ,ao,FH164_0];rw[cI (h0 (fun e=>by subst e;simp at ha;omega))];have hi:=BD (l:=p) (n:=a) (by omega) ha;have hlt:a.toNat<p.length:=by omega
  have e1:p[a.toNat]! = p[a.toNat]?.getD default:=by rw[Pz p a.toNat hlt,Pv hlt];rfl
  have hlen:=(L.funcsAt a.toNat).1;have hx:=MX (p[a.toNat]?.getD default).funcs (by omega) s;generalize hm:p[a.toNat]?.getD default=md at hx hlen e1;rw[hi,e1];simp only[ao,bE,FA29_4,P6,PT,LD25,gw,hx,aB,bV,au];by_cases h2:kD md.funcs s<0
  ·simp only[h2,Qi,PF,hz,ao,hcf,aB,hac,hzz];rfl
  ·simp only[h2,QR,Pr,PE];rcases nk (fun f=>f.name== s) md.funcs 0 with h3|h3
   ·exact absurd (show kD md.funcs s<0 by unfold kD;rw[h3];decide) h2
   ·have h4:kD md.funcs s<(md.funcs.length:Int):=by unfold kD;omega
    have h5:(kD md.funcs s).toNat<md.funcs.length:=by omega
    rw[yA (by omega) h4,Pz md.funcs _ h5,Pv h5];have hld:ah T 68 (.ip (ab (md.funcs[(kD md.funcs s).toNat]).av))=some (md.funcs[(kD md.funcs s).toNat]).av:=by simp
    simp only[ao,hld,hcf,aB,hac,hzz];rfl
def iw{α:Type}(p:List Mod)(nm:SNm)(enc:α->AV)(r:Rs α)(c:R AV):Prop:=match r with
 |.ok v s=>∃h',c= .ok (enc v) h'/\fu p nm s h'
 |.er e s=>∃h',c= .pan (m0 e) h'/\fu p nm s h'
def ci{α β:Type}{p:List Mod}{nm:SNm}{enc:α->AV}{enc':β->AV}{x:X α}{f:α->X β}{c:M AV}{d:AV->M AV}{m:Ms}{h:Hp}(H:iw p nm enc (x m) (c h))(K:∀a s h',x m= .ok a s->fu p nm s h'->iw p nm enc' (f a s) (d (enc a) h')):iw p nm enc' (x.bind f m) (ae c d h):=by
 unfold X.bind;cases hr:x m with
 |ok a s=>
  rw[hr]at H;obtain⟨h',h1,h2⟩:=H;rw[cI h1];exact K a s h' hr h2
 |er e s=>
  rw[hr]at H;obtain⟨h',h1,h2⟩:=H;exact⟨h',Au h1,h2⟩
def dN{α:Type}{p:List Mod}{nm:SNm}{enc:α->AV}{a:α}{m:Ms}{h:Hp}(R:fu p nm m h):iw p nm enc (X.ok a m) (M.pure (enc a) h):=⟨h,rfl,R⟩
def eR{α:Type}{p:List Mod}{nm:SNm}{enc:α->AV}{e:Int}{m:Ms}{h:Hp}(R:fu p nm m h):iw p nm enc (X.er e m) (d9 (m0 e) h):=⟨h,rfl,R⟩
def Ju(v:Val):ae (ay 4 [] v.av) (fun w=>M.pure (AV.agg [nth (ab w) 0,nth (ab w) 1,nth (ab w) 2,nth (ab w) 3]))=M.pure v.av:=by simp
def iv(m:Ms):Ms:={ m with fuel:=m.fuel-1 }
def Gb{p:List Mod}{nm:SNm}{tag:Nat->Nat}{dv cv sv:AV}{m:Ms}{h:Hp}(R:RepT (rowP p nm.told) nm tag dv cv sv m h):RepT (rowP p nm.told) nm tag dv cv sv (iv m) (h.set 0 (rowP p nm.told (iv m) dv cv sv)):=R.set0 rfl rfl rfl id
def step0{p:List Mod}{nm:SNm}{m:Ms}{h:Hp}(R:fu p nm m h):∃h1,fu p nm (iv m) h1/\
  (∀f:AV->M AV,ae (aW T 3 (.hp 0 2)) f h=f (.int .i64 m.fuel) h)/\(∀f:AV->M AV,ae (bP T 3 (.hp 0 2) (.int .i64 (m.fuel-1))) f h=f (.tup []) h1):=by
 obtain⟨tag,dv,cv,sv,R⟩:=R;refine⟨_,⟨tag,dv,cv,sv,Gb R⟩,fun f=>cI (dq rfl rfl R.r0 rfl),fun f=>cI (iI rfl R.r0 rfl (show 2+1<=12 by decide) (by decide))⟩
def E1{p:List Mod}{nm:SNm}{m:Ms}{h:Hp}(R:fu p nm m h)(hf:¬0<m.fuel)(sc:AV)(e:Exp):ai pg 134 [.hp 0 0,sc,e.av] h= .pan (m0 16) h:=by
 obtain⟨tag,dv,cv,sv,R⟩:=R;have h0:∀f:AV->M AV,ae (aW T 3 (.hp 0 2)) f h=f (.int .i64 m.fuel) h:=fun f=>cI (dq rfl rfl R.r0 rfl);rw[C134];simp[S134,h0,hf,be,cy,d9]
def oR(e:Exp):Prop:=¬aQ e.op= -2/\(aQ e.op= -1\/aQ e.op=e.args.length)
def Kc{p:List Mod}{nm:SNm}{m:Ms}{h:Hp}(R:fu p nm m h)(G:GoodM p m)(hf:0<m.fuel)(sc:AV)(e:Exp)(hc:¬oR e):∃h1,fu p nm (iv m) h1/\ai pg 134 [.hp 0 0,sc,e.av] h= .pan (m0 13) h1:=by
 obtain⟨h1,R1,hl,hs⟩:=step0 R;refine⟨h1,R1,?_⟩;have hw:IntKind.i64.wrap (m.fuel-1)=m.fuel-1:=bq (by omega) (by have:=G.bud;simp only[mu]at this;omega);unfold oR at hc;rw[C134];simp[S134,hl,hs,hf,be,cy,hw,t167,hc];rfl
mutual
def a8:Exp->Prop
 |.mk _ _ _ _ ns es=>ns.length<=8796093022208/\es.length<=274877906944/\m7 es
def m7:List Exp->Prop
 |[]=>True
 |e:: es=>a8 e/\m7 es
end
theorem o6:{l:List Exp} ->m7 l->∀e∈l,a8 e
 |[],_,_,h=>by cases h
 |x:: l,H,e,h=>by
  simp only[m7]at H;rcases P0.1 h with rfl|h
  ·exact H.1
  ·exact o6 H.2 e h
def br{e x:Exp}(H:a8 e)(h:x∈e.args):a8 x:=by
 obtain⟨o,n,s,m,ns,es⟩:=e;simp only[a8]at H;exact o6 H.2.2 x h
def ka{e:Exp}(H:a8 e):e.names.length<=8796093022208/\e.args.length<=274877906944:=by
 obtain⟨o,n,s,m,ns,es⟩:=e;simp only[a8]at H;exact⟨H.1,H.2.1⟩
structure LimB (p:List Mod):Prop where
 lim:LimP p
 body:∀m∈p,∀f∈m.funcs,a8 f.body/\f.params.length<=274877906944
structure Sc (p:List Mod) (own:Int) (ns:List a7) (vs:List Val) (m:Ms):Prop where
 own:own<p.length
 right:kP ns vs
 len:(ns.length:Int)+m.fuel<=549755813888
def pE(p:List Mod)(nm:SNm)(n:Nat):Prop:=∀own ns vs e m h,fu p nm m h->GoodM p m->m.fuel<=n->Sc p own ns vs m->a8 e->iw p nm Val.av (bR p n own ns vs e m) (ai pg 134 [.hp 0 0,bD own ns vs,e.av] h)
def Jz(p:List Mod)(nm:SNm)(n:Nat):Prop:=∀own ns vs e m h,fu p nm m h->GoodM p m->m.fuel<=n->Sc p own ns vs m->a8 e->iw p nm AV.bool (boolX (bR p n own ns vs e) m) (ai pg 171 [.hp 0 0,bD own ns vs,e.av] h)
def Il(p:List Mod)(nm:SNm)(n:Nat):Prop:=∀own ns vs e m h,fu p nm m h->GoodM p m->m.fuel<=n->Sc p own ns vs m->a8 e->iw p nm Val.av (gV (bR p n own ns vs) e m) (ai pg 173 [.hp 0 0,bD own ns vs,e.av] h)
def Db(p:List Mod)(nm:SNm)(n:Nat):Prop:=∀own ns vs e m h,fu p nm m h->GoodM p m->mu m<1000000->m.fuel<=n->Sc p own ns vs m->a8 e->iw p nm Val.av (me p (bR p n) own ns vs e m) (ai pg 174 [.hp 0 0,bD own ns vs,e.av] h)
def rW(p:List Mod)(r:Exp->X Val)(own:Int)(e:Exp):X Val:=if e.op=16 then r6 (r e.args[0]!) e else rV p r own e
def Al(p:List Mod)(nm:SNm)(n:Nat):Prop:=∀own ns vs e m h,e.op=16\/e.op=17\/e.op=18->oR e->fu p nm m h->GoodM p m->mu m<1000000->m.fuel<=n->Sc p own ns vs m->a8 e->iw p nm Val.av (rW p (bR p n own ns vs) own e m) (ai pg 175 [.hp 0 0,bD own ns vs,e.av] h)
def Sc.less{p:List Mod}{own:Int}{ns:List a7}{vs:List Val}{m s:Ms}(H:Sc p own ns vs m)(h:s.fuel<=m.fuel):Sc p own ns vs s:=⟨H.own,H.right,by have:=H.len;omega⟩
theorem t171{p:List Mod}{nm:SNm}{n:Nat}(IH:pE p nm n):Jz p nm n:=by
 intro own ns vs e m h R G hn hs he;unfold boolX;have hsc:ah T 168 (.ip (ab (bD own ns vs)))=some (bD own ns vs):=rfl;have hex:ah T 66 (.ip (ab e.av))=some e.av:=by simp
 rw[C171];simp only[S171,hsc,hex,ao];refine ci (IH own ns vs e m h R G hn hs he) fun v s h' hv Rs=>?_;simp only[aY (dL v),aB,cD,eq,FA45_0,FA45_1,PT,LD3,ao,gQ,be,cy,P6];by_cases hk:v.kind=1
 ·simp only[hk,QG,PF];exact dN Rs
 ·have:(v.kind== 1)=false:=by simpa using hk
  simp only[hk,this,PE,Pr];exact eR Rs
theorem tg:∀(ns:List a7)(vs:List Val)(n:a7)(v:Val)(s:a7),ns.length=vs.length->gq (ns++[n]) (vs++[v]) s=if n=s then some v else gq ns vs s
 |[],[],n,v,s,_=>by simp[gq]
 |a:: ns,b:: vs,n,v,s,h=>by
  simp only[Qb,gq,tg ns vs n v s (by simpa using h)];by_cases hn:n=s
  ·simp[hn]
  ·simp[hn]
 |[],_:: _,_,_,_,h=>by simp at h
 |_:: _,[],_,_,_,h=>by simp at h
def FF(o:Option Val):M AV:=match o with
 |some v=>M.pure v.av
 |none=>d9 (m0 12)
theorem xw(kk:List AV->M AV)(own:Int)(ns:List a7)(vs:List Val)(e:Exp)(x1 x2 x3 x4:AV)(hl:ns.length=vs.length)(hb:ns.length<=1099511627776):∀(i:Nat),i<=ns.length->
  aj (L134_0 (ai pg) aj kk) [.hp 0 0,.ip [.int .i64 own,strs ns,vals vs],.ip (ab e.av),.int .i64 ((i:Int)-1),x1,x2,x3,x4]=FF (gq (ns.take i) (vs.take i) e.s)
 |0,_=>by
  have hi:jQ T 39 (.int .i64 12)=some (m0 12):=rfl;rw[FL134_0];simp only[L134_0,aH,aM,jZ,ao,au,hi];simp[gq,FF,HX];rfl
 |i+1,hi=>by
  have ih:=xw kk own ns vs e x1 x2 x3 x4 hl hb i (by omega);have h1:i<ns.length:=by omega
  have h2:i<vs.length:=by omega
  have h3:(ns.take (i+1))=ns.take i++[ns[i]]:=by simp
  have h4:(vs.take (i+1))=vs.take i++[vs[i]]:=by simp
  rw[h3,h4,tg _ _ _ _ _ (by simp;omega),FL134_0];have e1:((i+1:Nat):Int)-1=(i:Int):=by omega
  rw[e1];simp only[L134_0];simp (disch:=omega) [bq,p7,p8,h1,h2];simp only[a6]at ih;by_cases hs:ns[i]=e.s
  ·simp[hs,FF]
  ·simp[hs,ih]
end Go.Proofs.YtihmmkncokjbaaaGreatDoor
namespace Go.Proofs.YtihmmkncokjbaaaGreatDoor
open Go Go.Av Go.Av.Ap
set_option maxRecDepth 100000
@[simp] theorem My(a:Exp)(l:List Exp):ak T 24 (bX (a:: l)) (.int .i64 0)=some (.ip (ab a.av)):=by
 have:=kH (l:=a:: l) (n:=0) (by omega) (by simp<;>omega)
 simpa using this
@[simp] theorem OC(a b:Exp)(l:List Exp):ak T 24 (bX (a:: b:: l)) (.int .i64 1)=some (.ip (ab b.av)):=by
 have:=kH (l:=a:: b:: l) (n:=1) (by omega) (by simp<;>omega)
 simpa using this
@[simp] theorem OD(a b c:Exp)(l:List Exp):ak T 24 (bX (a:: b:: c:: l)) (.int .i64 2)=some (.ip (ab c.av)):=by
 have:=kH (l:=a:: b:: c:: l) (n:=2) (by omega) (by simp<;>omega)
 simpa using this
section
variable (o n:Int) (s m:a7) (ns:List a7) (es:List Exp)
@[simp] theorem lA:(Exp.mk o n s m ns es).op=o:=rfl
@[simp] theorem sn:(Exp.mk o n s m ns es).n=n:=rfl
@[simp] theorem zO:(Exp.mk o n s m ns es).s=s:=rfl
@[simp] theorem CB:(Exp.mk o n s m ns es).m=m:=rfl
@[simp] theorem eP:(Exp.mk o n s m ns es).names=ns:=rfl
@[simp] theorem gP:(Exp.mk o n s m ns es).args=es:=rfl
end
def jH(o n:Int)(s m:a7)(ns:List a7)(es:List Exp):AV.agg [.int .i64 o,.int .i64 n,.str s,.str m,strs ns,bX es]=(Exp.mk o n s m ns es).av:=by rw[Exp.av,Exp.cells_eq];rfl
theorem iR:∀(ns:List a7)(vs:List Val)(s:a7)(i:Int),ns.length=vs.length->(aV (fun x=>s== x) ns i= -1/\dQ ns vs s=none)\/(∃(k:Nat)(h:k<vs.length),aV (fun x=>s== x) ns i=i+k/\dQ ns vs s=some vs[k])
 |[],[],s,i,_=>.inl ⟨rfl,rfl⟩
 | n:: ns,v:: vs,s,i,h=>by
  simp only[aV,dQ];by_cases hn:n=s
  ·right;exact⟨0,by simp,by simp[hn],by simp[hn]⟩
  ·have hn':(s== n)=false:=by simpa using fun e=>hn e.symm
   simp only[if_neg hn,hn',Pr,PE];rcases iR ns vs s (i+1) (by simpa using h)with⟨h1,h2⟩|⟨k,hk,h1,h2⟩
   ·left;exact⟨by simpa using h1,h2⟩
   ·right;exact⟨k+1,by simp;omega,by simp[h1];omega,by simpa using h2⟩
 |[],_:: _,_,_,h=>by simp at h
 |_:: _,[],_,_,h=>by simp at h
def jR{p:List Mod}{nm:SNm}{x:X Val}(hx:(∃v,x= .ok v)\/(∃e,x= .er e)){m:Ms}{h:Hp}(R:fu p nm m h):iw p nm Val.av (x m) (cYm0 x h):=by
 rcases hx with⟨v,rfl⟩|⟨e,rfl⟩
 ·exact dN R
 ·exact eR R
def jz(op:Int)(a b:Val):(∃v,kJ op a b= .ok v)\/(∃e,kJ op a b= .er e):=by
 unfold kJ;split
 ·split
  ·exact .inl ⟨_,rfl⟩
  ·exact .inr ⟨_,rfl⟩
 ·split
  ·split
   ·exact .inl ⟨_,rfl⟩
   ·split
    ·exact .inl ⟨_,rfl⟩
    ·split
     ·exact .inl ⟨_,rfl⟩
     ·exact .inl ⟨_,rfl⟩
  ·exact .inr ⟨_,rfl⟩
def Kq{l:List Exp}(h:l.length=1):∃a,l=[a]:=by
 match l,h with
 |[a],_=>exact⟨a,rfl⟩
def xp{l:List Exp}(h:l.length=2):∃a b,l=[a,b]:=by
 match l,h with
 |[a,b],_=>exact⟨a,b,rfl⟩
def NN{l:List Exp}(h:l.length=3):∃a b c,l=[a,b,c]:=by
 match l,h with
 |[a,b,c],_=>exact⟨a,b,c,rfl⟩
def Bg{α:Type}{p:List Mod}{nm:SNm}{enc:α->AV}{c:Prop}[Decidable c]{x y:X α}{a b:M AV}{m:Ms}{h:Hp}(h1:c->iw p nm enc (x m) (a h))(h2:¬c->iw p nm enc (y m) (b h)):iw p nm enc ((if c then x else y) m) ((if c then a else b) h):=by
 split
 ·exact h1 ‹_›
 ·exact h2 ‹_›
def AB(a b:Bool):am T .eql 4 (.bool a) (.bool b)=some (.bool (a== b)):=by cases a<;>cases b<;>rfl
def oQ(v:Val)(h:Hp):ae (ay 4 [] v.av) (fun w=>M.pure (AV.agg [nth (ab w) 0,nth (ab w) 1,nth (ab w) 2,nth (ab w) 3])) h=M.pure v.av h:=by rw[Ju]
def dw{p:List Mod}{nm:SNm}{r:Rs Val}{c:M AV}{h:Hp}(H:iw p nm Val.av r (c h)):iw p nm Val.av r (ae c (fun v=>ae (ay 4 [] v) fun w=>M.pure (AV.agg [nth (ab w) 0,nth (ab w) 1,nth (ab w) 2,nth (ab w) 3])) h):=by
 cases r with
 |ok v s=>
  obtain⟨h',h1,h2⟩:=H;refine⟨h',?_,h2⟩;rw[cI h1,Ju];rfl
 |er e s=>
  obtain⟨h',h1,h2⟩:=H;exact⟨h',Au h1,h2⟩
theorem B9{p:List Mod}{nm:SNm}{n:Nat}(IH:pE p nm n)(IR:Il p nm n)(IC:Db p nm n)(IW:Al p nm n):pE p nm (n+1):=by
 intro own ns vs e m h R G hn hs he;have IB:=t171 IH;by_cases hf:0<m.fuel
 rotate_left
 ·have e1:bR p (n+1) own ns vs e m= .er 16 m:=by
   show kF p (bR p n) own ns vs e m=_;unfold kF X.get;simp only;rw[Ps (by omega)];rfl
  rw[e1];exact⟨h,E1 R hf _ e,R⟩
 have hspec:bR p (n+1) own ns vs e m=(if aQ e.op= -2\/(aQ e.op≠-1/\aQ e.op≠e.args.length)then .er 13
   else if e.op=0 then .ok (lu e.n)
   else if e.op=1 then(if e.n=0\/e.n=1 then .ok (fI (e.n== 1))else .er 13)
   else if e.op=2 then(match gq ns vs e.s with|some v=>.ok v|none=>.er 12)
   else if e.op=3\/e.op=4\/e.op=5\/e.op=6\/e.op=7 then(bR p n own ns vs e.args[0]!).bind fun a=>(bR p n own ns vs e.args[1]!).bind fun b=>kJ e.op a b
   else if e.op=8\/e.op=9 then(boolX (bR p n own ns vs e.args[0]!)).bind fun x=>if x=(e.op== 9)then .ok (fI (e.op== 9))else(boolX (bR p n own ns vs e.args[1]!)).bind fun y=>.ok (fI y)
   else if e.op=10 then(boolX (bR p n own ns vs e.args[0]!)).bind fun x=>.ok (fI !x)
   else if e.op=11 then(boolX (bR p n own ns vs e.args[0]!)).bind fun x=>if x=true then bR p n own ns vs e.args[1]! else bR p n own ns vs e.args[2]!
   else if e.op=12 then(bR p n own ns vs e.args[0]!).bind fun v=>bR p n own (ns++[e.s]) (vs++[v]) e.args[1]!
   else if e.op=13 then gV (bR p n own ns vs) e
   else if e.op=14 then(bR p n own ns vs e.args[0]!).bind fun v=>(match dQ v.names v.values e.s with|some x=>if v.kind=2 then .ok x else .er 13|none=>.er 13)
   else if e.op=15 then me p (bR p n) own ns vs e
   else rW p (bR p n own ns vs) own e:X Val) (iv m):=by
  show kF p (bR p n) own ns vs e m=_;unfold kF X.get;simp only;rw[if_neg (by omega)];have hw:(if e.op=16 then r6 (bR p n own ns vs e.args[0]!) e else rV p (bR p n own ns vs) own e)=rW p (bR p n own ns vs) own e:=rfl;rw[hw];rfl
 have hbm:=G.bud;have G1:GoodM p (iv m):=⟨G.right,by simp only[mu,iv]at hbm |-;omega,G.fr,by simp only[iv];omega,G.shape⟩;have hmu:mu (iv m)<1000000:=by simp only[mu,iv]at hbm |-;omega
 have hn1:(iv m).fuel<=n:=by simp only[iv];omega
 have hft:(iv m).fuel<=m.fuel:=by simp only[iv];omega
 have hs1:Sc p own ns vs (iv m):=hs.less hft;by_cases hc:oR e
 rotate_left
 ·obtain⟨h1,R1,e1⟩:=Kc R G hf (bD own ns vs) e hc;have hc':aQ e.op= -2\/(aQ e.op≠-1/\aQ e.op≠e.args.length):=by
   unfold oR at hc;by_cases k:aQ e.op= -2
   ·exact .inl k
   ·right;exact⟨fun k2=>hc ⟨k,.inl k2⟩,fun k2=>hc ⟨k,.inr k2⟩⟩
  rw[hspec,Ps hc'];exact⟨h1,e1,R1⟩
 obtain⟨h1,R1,hl,hst⟩:=step0 R;have hw:IntKind.i64.wrap (m.fuel-1)=m.fuel-1:=bq (by omega) (by simp only[mu]at hbm;omega);have hc':¬(aQ e.op= -2\/(aQ e.op≠-1/\aQ e.op≠e.args.length)):=by
  unfold oR at hc;rintro (k|⟨k1,k2⟩)
  ·exact hc.1 k
  ·rcases hc.2 with k|k
   ·exact k1 k
   ·exact k2 k
 rw[hspec,if_neg hc'];have hcc:=hc;have hce:=hc.2;obtain⟨op,en,es,em,en2,ea⟩:=e;simp only[lA,sn,zO,gP]at hce |-;unfold oR at hc;simp only[lA,gP]at hc;generalize hcode:ai pg 134 [.hp 0 0,bD own ns vs,(Exp.mk op en es em en2 ea).av] h=code;rw[C134]at hcode;have hW:∀v:Val,∀h,ae (ay 4 [] v.av) (fun w=>M.pure (AV.agg [nth (ab w) 0,nth (ab w) 1,nth (ab w) 2,nth (ab w) 3])) h=M.pure v.av h:=oQ;by_cases k0:op=0
 ·subst k0;have hlen:ea.length=0:=by simp[aQ]at hce;omega
  obtain rfl:=PL hlen;simp[S134,hl,hst,hf,be,cy,hw,t167,aQ,K134_2,K134_1,K134_0,bO,t168]at hcode;simp;rw[<- hcode];exact dN (a:=lu en) R1
 by_cases k1:op=1
 ·subst k1;have hlen:ea.length=0:=by simp[aQ]at hce;omega
  obtain rfl:=PL hlen;simp[S134,hl,hst,hf,be,cy,hw,t167,aQ,K134_2,K134_1,K134_0,bO,t169]at hcode;simp;rw[<- hcode];exact Bg (fun _=>dN (a:=fI (en== 1)) R1) (fun _=>eR R1)
 by_cases k2:op=2
 ·subst k2;have hlen:ea.length=0:=by simp[aQ]at hce;omega
  obtain rfl:=PL hlen;have hnl:=hs.right.1;have hns:(ns.length:Int)<=549755813888:=by have:=hs.len;omega
  have hloop:=xw (K134_0 (ai pg) aj) own ns vs (.mk 2 en es em en2 []) (.int .i64 0) (.int .i64 0) (.sl []) (.sl []) hnl (by omega) ns.length (Pw _);have hwl:IntKind.i64.wrap ((ns.length:Int)-1)=(ns.length:Int)-1:=bq (by omega) (by omega);rw[Rc,hnl,Rc]at hloop;simp only[a6,lA,sn,zO,CB,eP,gP]at hloop;simp[S134,hl,hst,hf,be,cy,hw,t167,aQ,hwl]at hcode;rw[hnl,hloop]at hcode;simp;rw[<- hcode];cases gq ns vs es with
  |none=>exact eR R1
  |some v=>exact dN R1
 by_cases k3:op=3
 ·subst k3;have hlen:ea.length=2:=by simp[aQ]at hce;omega
  obtain⟨a,b,rfl⟩:=xp hlen;have ha:a8 a:=br he (by simp);have hb:a8 b:=br he (by simp);simp[S134,hl,hst,hf,be,cy,hw,t167,aQ,K134_2,K134_1,K134_0,bO]at hcode;simp;rw[<- hcode];refine ci (IH own ns vs a _ _ R1 G1 hn1 hs1 ha) fun x s1 h2 hx R2=>?_;obtain⟨G2,_,f2⟩:=G1.eval hs1.right hx;refine ci (IH own ns vs b _ _ R2 G2 (by omega) (hs1.less f2) hb) fun y s2 h3 hy R3=>?_;rw[t170 3 x y (by simp)];exact dw (c:=cYm0 (kJ 3 x y)) (jR (jz _ _ _) R3)
 by_cases k4:op=4
 ·subst k4;have hlen:ea.length=2:=by simp[aQ]at hce;omega
  obtain⟨a,b,rfl⟩:=xp hlen;have ha:a8 a:=br he (by simp);have hb:a8 b:=br he (by simp);simp[S134,hl,hst,hf,be,cy,hw,t167,aQ,K134_2,K134_1,K134_0,bO]at hcode;simp;rw[<- hcode];refine ci (IH own ns vs a _ _ R1 G1 hn1 hs1 ha) fun x s1 h2 hx R2=>?_;obtain⟨G2,_,f2⟩:=G1.eval hs1.right hx;refine ci (IH own ns vs b _ _ R2 G2 (by omega) (hs1.less f2) hb) fun y s2 h3 hy R3=>?_;rw[t170 4 x y (by simp)];exact dw (c:=cYm0 (kJ 4 x y)) (jR (jz _ _ _) R3)
 by_cases k5:op=5
 ·subst k5;have hlen:ea.length=2:=by simp[aQ]at hce;omega
  obtain⟨a,b,rfl⟩:=xp hlen;have ha:a8 a:=br he (by simp);have hb:a8 b:=br he (by simp);simp[S134,hl,hst,hf,be,cy,hw,t167,aQ,K134_2,K134_1,K134_0,bO]at hcode;simp;rw[<- hcode];refine ci (IH own ns vs a _ _ R1 G1 hn1 hs1 ha) fun x s1 h2 hx R2=>?_;obtain⟨G2,_,f2⟩:=G1.eval hs1.right hx;refine ci (IH own ns vs b _ _ R2 G2 (by omega) (hs1.less f2) hb) fun y s2 h3 hy R3=>?_;rw[t170 5 x y (by simp)];exact dw (c:=cYm0 (kJ 5 x y)) (jR (jz _ _ _) R3)
 by_cases k6:op=6
 ·subst k6;have hlen:ea.length=2:=by simp[aQ]at hce;omega
  obtain⟨a,b,rfl⟩:=xp hlen;have ha:a8 a:=br he (by simp);have hb:a8 b:=br he (by simp);simp[S134,hl,hst,hf,be,cy,hw,t167,aQ,K134_2,K134_1,K134_0,bO]at hcode;simp;rw[<- hcode];refine ci (IH own ns vs a _ _ R1 G1 hn1 hs1 ha) fun x s1 h2 hx R2=>?_;obtain⟨G2,_,f2⟩:=G1.eval hs1.right hx;refine ci (IH own ns vs b _ _ R2 G2 (by omega) (hs1.less f2) hb) fun y s2 h3 hy R3=>?_;rw[t170 6 x y (by simp)];exact dw (c:=cYm0 (kJ 6 x y)) (jR (jz _ _ _) R3)
 by_cases k7:op=7
 ·subst k7;have hlen:ea.length=2:=by simp[aQ]at hce;omega
  obtain⟨a,b,rfl⟩:=xp hlen;have ha:a8 a:=br he (by simp);have hb:a8 b:=br he (by simp);simp[S134,hl,hst,hf,be,cy,hw,t167,aQ,K134_2,K134_1,K134_0,bO]at hcode;simp;rw[<- hcode];refine ci (IH own ns vs a _ _ R1 G1 hn1 hs1 ha) fun x s1 h2 hx R2=>?_;obtain⟨G2,_,f2⟩:=G1.eval hs1.right hx;refine ci (IH own ns vs b _ _ R2 G2 (by omega) (hs1.less f2) hb) fun y s2 h3 hy R3=>?_;rw[t170 7 x y (by simp)];exact dw (c:=cYm0 (kJ 7 x y)) (jR (jz _ _ _) R3)
 by_cases k8:op=8
 ·subst k8;have hlen:ea.length=2:=by simp[aQ]at hce;omega
  obtain⟨a,b,rfl⟩:=xp hlen;have ha:a8 a:=br he (by simp);have hb:a8 b:=br he (by simp);simp[S134,hl,hst,hf,be,cy,hw,t167,aQ,K134_2,K134_1,K134_0,bO]at hcode;simp;rw[<- hcode];refine ci (IB own ns vs a _ _ R1 G1 hn1 hs1 ha) fun x s1 h2 hx R2=>?_;obtain⟨G2,f2⟩:=G1.bool hs1.right hx;rw[AB];simp only[ao,au];cases x
  ·simp[t169];exact dN R2
  ·simp[t169];refine ci (IB own ns vs b _ _ R2 G2 (by omega) (hs1.less f2) hb) fun y s2 h3 hy R3=>?_;simp only[t169,dc,aB,hW];exact dN R3
 by_cases k9:op=9
 ·subst k9;have hlen:ea.length=2:=by simp[aQ]at hce;omega
  obtain⟨a,b,rfl⟩:=xp hlen;have ha:a8 a:=br he (by simp);have hb:a8 b:=br he (by simp);simp[S134,hl,hst,hf,be,cy,hw,t167,aQ,K134_2,K134_1,K134_0,bO]at hcode;simp;rw[<- hcode];refine ci (IB own ns vs a _ _ R1 G1 hn1 hs1 ha) fun x s1 h2 hx R2=>?_;obtain⟨G2,f2⟩:=G1.bool hs1.right hx;rw[AB];simp only[ao,au];cases x
  ·simp[t169];refine ci (IB own ns vs b _ _ R2 G2 (by omega) (hs1.less f2) hb) fun y s2 h3 hy R3=>?_;simp only[t169,dc,aB,hW];exact dN R3
  ·simp[t169];exact dN R2
 by_cases k10:op=10
 ·subst k10;have hlen:ea.length=1:=by simp[aQ]at hce;omega
  obtain⟨a,rfl⟩:=Kq hlen;have ha:a8 a:=br he (by simp);simp[S134,hl,hst,hf,be,cy,hw,t167,aQ,K134_2,K134_1,K134_0,bO]at hcode;simp;rw[<- hcode];refine ci (IB own ns vs a _ _ R1 G1 hn1 hs1 ha) fun x s1 h2 hx R2=>?_;simp only[gn,ao,t169,dc,aB,hW];exact dN R2
 by_cases k11:op=11
 ·subst k11;have hlen:ea.length=3:=by simp[aQ]at hce;omega
  obtain⟨a,b,c,rfl⟩:=NN hlen;have ha:a8 a:=br he (by simp);have hb:a8 b:=br he (by simp);have hc3:a8 c:=br he (by simp);simp[S134,hl,hst,hf,be,cy,hw,t167,aQ,K134_2,K134_1,K134_0,bO]at hcode;simp;rw[<- hcode];refine ci (IB own ns vs a _ _ R1 G1 hn1 hs1 ha) fun x s1 h2 hx R2=>?_;obtain⟨G2,f2⟩:=G1.bool hs1.right hx;simp only[au];exact Bg (fun _=>dw (IH own ns vs b _ _ R2 G2 (by omega) (hs1.less f2) hb)) (fun _=>dw (IH own ns vs c _ _ R2 G2 (by omega) (hs1.less f2) hc3))
 by_cases k12:op=12
 ·subst k12;have hlen:ea.length=2:=by simp[aQ]at hce;omega
  obtain⟨a,b,rfl⟩:=xp hlen;have ha:a8 a:=br he (by simp);have hb:a8 b:=br he (by simp);simp[S134,hl,hst,hf,be,cy,hw,t167,aQ,K134_2,K134_1,K134_0,bO]at hcode;simp;rw[<- hcode];refine ci (IH own ns vs a _ _ R1 G1 hn1 hs1 ha) fun x s1 h2 hx R2=>?_;obtain⟨G2,rx,f2⟩:=G1.eval hs1.right hx;have hsl:=hs1.len;have hrl:=hs1.right.1;have hfu:=G1.fuel;rw[t172 own ns vs es x (by omega) (by omega)];simp only[dc,aB];refine dw (IH own (ns++[es]) (vs++[x]) b _ _ R2 G2 (by omega) ⟨hs1.own,⟨by simp[hrl],fun w hw=>?_⟩,?_⟩ hb)
  ·rcases PZ.1 hw with k|k
   ·exact hs1.right.2 w k
   ·simp only[Qd]at k;subst k;exact rx
  ·have:(iv m).fuel=m.fuel-1:=rfl
   have:=hs.len
   simp only[P1,QD];omega
 by_cases k13:op=13
 ·subst k13;simp[S134,hl,hst,hf,be,cy,hw,t167,aQ,K134_2,K134_1,K134_0,bO,jH]at hcode;simp;rw[<- hcode];exact dw (IR own ns vs _ _ _ R1 G1 hn1 hs1 he)
 by_cases k14:op=14
 ·subst k14;have hlen:ea.length=1:=by simp[aQ]at hce;omega
  obtain⟨a,rfl⟩:=Kq hlen;have ha:a8 a:=br he (by simp);simp[S134,hl,hst,hf,be,cy,hw,t167,aQ,K134_2,K134_1,K134_0,bO]at hcode;simp;rw[<- hcode];refine ci (IH own ns vs a _ _ R1 G1 hn1 hs1 ha) fun x s1 h2 hx R2=>?_;obtain⟨G2,rx,f2⟩:=G1.eval hs1.right hx;have hrl:=zN rx;have h8:=zM rx;have hi:=t98 x.names es (by omega);rw[aY (dL x)];simp only[aB,cD,eq,P6,PT,LD22,LD30,LD3,ao,hi,gQ,jZ,eW,aH,oG,be,cy];rcases iR x.names x.values es 0 hrl with⟨j1,j2⟩|⟨k,hk,j1,j2⟩
  ·rw[j1,j2];simp only[show decide ((0:Int)<=-1)=false by decide,R8,Pr,PE];exact eR R2
  ·rw[j1,j2];have hk0:decide ((0:Int)<=0+(k:Int))=true:=by simp
   rw[hk0];simp only[QB];by_cases hk2:x.kind=2
   ·have hix:=p8 (l:=x.values) (n:=0+(k:Int)) (by omega) (by omega);have e5:(0+(k:Int)).toNat=k:=by omega
    rw[e5,Pz x.values k hk]at hix;have hld:ah T 45 (.ip (ab (x.values[k]).av))=some (x.values[k]).av:=by simp
    simp only[hk2,QG,PF,hix,ao,hld,hW];exact dN R2
   ·have hk2':(x.kind== 2)=false:=by simpa using hk2
    simp only[hk2,hk2',Pr,PE];exact eR R2
 by_cases k15:op=15
 ·subst k15;simp[S134,hl,hst,hf,be,cy,hw,t167,aQ,K134_2,K134_1,K134_0,bO,jH]at hcode;simp;rw[<- hcode];exact dw (IC own ns vs _ _ _ R1 G1 hmu hn1 hs1 he)
 by_cases k16:op=16
 ·subst k16;simp[S134,hl,hst,hf,be,cy,hw,t167,aQ,K134_2,K134_1,K134_0,bO,jH]at hcode;have hce':aQ 16=ea.length:=by simp only[aQ]at hce |-;simpa using hce
  simp only[aQ]at hce';simp at hce';simp[<- hce']at hcode;simp;rw[<- hcode];exact dw (IW own ns vs (.mk 16 en es em en2 ea) _ _ (by simp) hcc R1 G1 hmu hn1 hs1 he)
 by_cases k17:op=17
 ·subst k17;simp[S134,hl,hst,hf,be,cy,hw,t167,aQ,K134_2,K134_1,K134_0,bO,jH]at hcode;have hce':aQ 17=ea.length:=by simp only[aQ]at hce |-;simpa using hce
  simp only[aQ]at hce';simp at hce';simp[<- hce']at hcode;simp;rw[<- hcode];exact dw (IW own ns vs (.mk 17 en es em en2 ea) _ _ (by simp) hcc R1 G1 hmu hn1 hs1 he)
 by_cases k18:op=18
 ·subst k18;simp[S134,hl,hst,hf,be,cy,hw,t167,aQ,K134_2,K134_1,K134_0,bO,jH]at hcode;have hce':aQ 18=ea.length:=by simp only[aQ]at hce |-;simpa using hce
  simp only[aQ]at hce';simp at hce';simp[<- hce']at hcode;simp;rw[<- hcode];exact dw (IW own ns vs (.mk 18 en es em en2 ea) _ _ (by simp) hcc R1 G1 hmu hn1 hs1 he)
 exfalso;apply hc.1;simp[aQ,k0,k1,k2,k3,k4,k5,k6,k7,k8,k9,k10,k11,k12,k13,k14,k15,k16,k17,k18]
end Go.Proofs.YtihmmkncokjbaaaGreatDoor
namespace Go.Proofs.YtihmmkncokjbaaaGreatDoor
open Go Go.Av Go.Av.Ap
set_option maxRecDepth 100000
def pD{α β γ:Type}(x:X α)(f:α->X β)(g:β->X γ):(x.bind f).bind g=x.bind fun a=>(f a).bind g:=by
 funext m;unfold X.bind;cases x m<;>rfl
theorem nS{α β:Type}(a:α)(f:α->X β):(X.ok a).bind f=f a:=rfl
def t219(l:List a7)(h:l.length<=8796093022208):ai pg 219 [strs l]=M.pure (strs l):=by
 have e:ai pg 219 [strs l]=fe T 22 (ai pg) [strs l]:=fN aF rfl _;rw[e];show af (cQ T 22 (.sl []) (strs l))=_
 have:=Jw (a:=[]) (b:=l) (by simp;omega)
 simp only[P7]at this;show af (cQ T 22 (strs []) (strs l))=_;rw[this];rfl
theorem xu{p:List Mod}{nm:SNm}{n:Nat}(IH:pE p nm n)(own:Int)(ns:List a7)(vs:List Val)(en:List a7)(es:List Exp)(x5 x6 x7 x8:AV)(hes:∀e∈es,a8 e)(h8:es.length<=8):
  ∀(B A:List Exp)(acc:List Val)(m:Ms)(h:Hp),A++B=es->acc.length=A.length->(∀v∈acc,Rv v)->en.length<=8->fu p nm m h->GoodM p m->m.fuel<=n->Sc p own ns vs m->
  iw p nm Val.av ((listX (bR p n own ns vs) B).bind (fun ws=>if fh (.mk 2 0 en (acc++ws))<=4 then .ok (.mk 2 0 en (acc++ws))else .er 6) m)
   (aj (L173_0 (ai pg) aj) [.hp 0 0,.ip (ab (bD own ns vs)),bX es,.int .i64 es.length,.int .i64 A.length,x5,x6,x7,x8,.int .i64 2,.int .i64 0,strs en,vals acc] h)
 | [],A,acc,m,h,e,ha,hr,hen,R,G,hn,hs=>by
  simp only[Qm]at e;subst e;have hsz:(Val.mk 2 0 en acc).sz<=1099511627776:=by
   have h2:bY acc<=acc.length*200000:=by
    have key:∀l:List Val,(∀v∈l,Rv v)->bY l<=l.length*200000:=by
     intro l
     induction l with
     |nil=>intro _;simp[bY]
     |cons v l ih=>
      intro h;have h1:=rD (h v P2);have h2:=ih fun w hw=>h w (PU _ hw);simp only[bY,PW];omega
    exact key acc hr
   simp only[Val.sz];have:acc.length*200000<=8*200000:=PQ _ (by omega);omega
  have hlv:=t220 _ (.mk 2 0 en acc) (Pw _) hsz;rw[Val.av_eq]at hlv;simp only[O5,Pk,O0,OY]at hlv;have hw:∀h,ae (ay 4 [] (AV.agg [.int .i64 2,.int .i64 0,strs en,vals acc])) (fun w=>M.pure (AV.agg [nth (ab w) 0,nth (ab w) 1,nth (ab w) 2,nth (ab w) 3])) h=M.pure (Val.mk 2 0 en acc).av h:=fun h=>by
   have:=oQ (Val.mk 2 0 en acc) h
   rw[Val.av_eq]at this |-;exact this
  rw[FL173_0];simp only[listX,nS,Qm];simp only[L173_0,aH,aM,bV,ao,au,RS,QR,Pr,PE,hlv,aB,mV,be,cy,hw];by_cases h4:fh (.mk 2 0 en acc)<=4
  ·have h4':decide (((fh (.mk 2 0 en acc):Nat):Int)<=4)=true:=by simp;omega
   simp only[h4,h4',PF,hw];exact dN R
  ·have h4':decide (((fh (.mk 2 0 en acc):Nat):Int)<=4)=false:=by simp;omega
   simp only[h4,h4',Pr,PE];exact eR R
 | x:: B,A,acc,m,h,e,ha,hr,hen,R,G,hn,hs=>by
  have hll:A.length+(B.length+1)=es.length:=by rw[<- e];simp
  have h1:(A.length:Int)<(es.length:Int):=by omega
  have hx:es[A.length]'(by omega)=x:=by subst e;simp
  have hm:x∈es:=by rw[<- e];simp
  have hi:=kH (l:=es) (n:=(A.length:Int)) (by omega) h1;rw[show ((A.length:Int)).toNat=A.length by omega,Pz es A.length (by omega),hx]at hi;have hsc:ah T 168 (.ip (ab (bD own ns vs)))=some (bD own ns vs):=rfl;have hex:ah T 66 (.ip (ab x.av))=some x.av:=by simp
  rw[FL173_0];simp only[listX,pD,nS];simp only[L173_0,aH,aM,bV,ao,au,h1,Qi,PF,hi,hex,aY (g9 x),aB,hsc,cD];refine ci (IH own ns vs x m h R G hn hs (hes x hm)) fun v s h' hv Rs=>?_;obtain⟨G2,rv,f2⟩:=G.eval hs.right hv;have hb2:aJ T 30 1 [(0,v.av)]=some (vals [v]):=by rw[v.av_eq];simp[vals,eb,v.av_eq];rfl
  have ha2:cQ T 30 (vals acc) (vals [v])=some (vals (acc++[v])):=BC (by simp;omega);have hc1:cU (vals (acc++[v]))=M.pure (vals (acc++[v])):=rfl;have hw:IntKind.i64.wrap ((A.length:Int)+1)=((A.length+1:Nat):Int):=bz (by omega);simp only[hb2,ao,ha2,hc1,aB,dj,hw];have ih:=xu IH own ns vs en es x5 x6 x7 x8 hes h8 B (A++[x]) (acc++[v]) s h' (by rw[<- e];simp) (by simp[ha]) (fun w hw=>by
   rcases PZ.1 hw with k|k
   ·exact hr w k
   ·simp only[Qd]at k;subst k;exact rv) hen Rs G2 (by omega) (hs.less f2)
  simp only[Qq,Rp,P1,QD]at ih;exact ih
theorem t173{p:List Mod}{nm:SNm}{n:Nat}(IH:pE p nm n):Il p nm n:=by
 intro own ns vs e m h R G hn hs he;obtain⟨l1,l2⟩:=ka he;unfold gV;have ha:=t135 e.names (by omega);have hcl:=t219 e.names (by omega);have hB:aU T true 45 [(0,.int .i64 2),(2,strs e.names)]=some (.agg [.int .i64 2,.int .i64 0,strs e.names,.hn]):=rfl;have hC:ay 4 [3] (.agg [.int .i64 2,.int .i64 0,strs e.names,.hn])=M.pure (.agg [.int .i64 2,.int .i64 0,strs e.names,.hn]):=rfl;rw[C173];simp only[S173,a6,FA66_4,FA66_5,P6,PT,LD22,LD24,nU,tU,ao,gQ,ha,aB,eW,aH,aM,oG,be,cy,mV,hcl,hB,hC,cD];have hsc:(AV.ip (ab (bD own ns vs)))= .ip [.int .i64 own,strs ns,vals vs]:=rfl;by_cases hl:e.names.length=e.args.length
 ·by_cases hasc:yH e.names=true
  ·have e1:((e.names.length:Int)== (e.args.length:Int)&&yH e.names)=true:=by simp[hl,hasc]
   simp only[hl,hasc,e1,RG,PF];by_cases h8:e.args.length<=8
   ·have h8':decide ((e.args.length:Int)<=8)=true:=by simp;omega
    have e2:((e.args.length:Int)== (e.args.length:Int)&&true)=true:=by simp
    simp only[h8,h8',e2,PF]
    have:=xu IH own ns vs e.names e.args (.int .i64 0) (.int .i64 0) (.sl []) (.sl []) (fun x hx=>br he hx) h8 e.args [] [] m h rfl rfl (fun v hv=>by cases hv) (by omega) R G hn hs
    simp only[P7]at this;exact this
   ·have h8':decide ((e.args.length:Int)<=8)=false:=by simp;omega
    have e2:((e.args.length:Int)== (e.args.length:Int)&&true)=true:=by simp
    simp only[h8,h8',e2,PF,Pr,PE];exact eR R
  ·have e1:((e.names.length:Int)== (e.args.length:Int)&&false)=false:=by simp
   have hasc':yH e.names=false:=by simpa using hasc
   simp only[e1,hasc',and_false,Pr,PE];exact eR R
 ·have e1:((e.names.length:Int)== (e.args.length:Int)&&yH e.names)=false:=by
   have:((e.names.length:Int)== (e.args.length:Int))=false:=by
    rw[PP];omega
   rw[this];rfl
  simp only[e1,hl,false_and,Pr,PE];exact eR R
def zD(s t:a7)(v:AV)(h:ba v=true):b9 3 (.agg [.str s,.str t,v])=true:=by
 simp only[b9,cM,ab,P5,QZ];rw[h];rfl
def yW{p:List Mod}{nm:SNm}{tag:Nat->Nat}{dv cv sv:AV}{m:Ms}{h:Hp}(R:RepT (rowP p nm.told) nm tag dv cv sv m h)(l:List Val)(hb:l.length<=274877906944):
  ∃av h1 tag1,ai pg 249 [vals l] h= .ok av h1/\RepT (rowP p nm.told) nm tag1 dv cv sv m h1/\tR tag1 4 h1 l av/\ba av=true:=by
 have e0:ai pg 249 [vals l]=fV T 30 (ai pg) [vals l]:=fN aF rfl _;have e1:=wn (T:=T) (t:=30) rfl rfl rfl rfl rfl (by decide) (ai pg) l (show l.length*64<=140737488355328 by omega) h;rw[e0];by_cases hl:l=[]
 ·rw[Ps hl]at e1;exact⟨_,h,tag,e1,R,.inl (by rw[hl]),rfl⟩
 ·rw[if_neg hl]at e1;refine⟨_,_,_,e1,(R.more (bK l) 4).1,.inr ⟨h.length,rfl,by simp,by simp⟩,rfl⟩
def CL{p:List Mod}{nm:SNm}{tag:Nat->Nat}{dv cv sv:AV}{m:Ms}{h:Hp}(R:RepT (rowP p nm.told) nm tag dv cv sv m h)(c:Ap.Call)(av:AV)(ha:tR tag 4 h c.args av)(hok:ba av=true)(hb:m.calls.length<=2000000):
  ∃cv' h1 h2,appH T 160 false cv (.sl [.agg [.str c.module,.str c.func,av]]) h= .ok cv' h1/\bP T 160 (.hp 0 10) cv' h1= .ok (.tup []) h2/\fu p nm { m with calls:=m.calls++[c] } h2:=by
 obtain⟨h1,cv',tag',e1,K,H,hc⟩:=xI (T:=T) (t:=160) rfl rfl rfl rfl (by decide) rfl (by decide) (x:=.agg [.str c.module,.str c.func,av]) R.cs (fun h0=>by
  have:m.calls=[]:=PL h0;rw[this];rfl) (fun cs h=>h.ok.1) (zD _ _ _ hok) (show (m.calls.length+1)*56<=140737488355328 by omega)
 have h0:=(K 0 _ R.r0 (by rw[R.t0];decide)).1;refine⟨cv',h1,_,e1,iI rfl h0 (i6 hc).1 (show 10+1<=12 by decide) (by decide),?_⟩;have hac:ab cv'=[cv']:=(i6 hc).2.1
 have:=R.pushCall (m':={ m with calls:=m.calls++[c] }) K ha H rfl rfl rfl id
 refine⟨tag',dv,cv',sv,?_⟩;rw[hac];exact this
def rM{p:List Mod}{nm:SNm}{m:Ms}{h:Hp}(R:fu p nm m h)(x:Int):∃h1,fu p nm { m with frames:=x } h1/\(∀f:AV->M AV,ae (aW T 3 (.hp 0 3)) f h=f (.int .i64 m.frames) h)/\
  (∀f:AV->M AV,ae (bP T 3 (.hp 0 3) (.int .i64 x)) f h=f (.tup []) h1):=by
 obtain⟨tag,dv,cv,sv,R⟩:=R;exact⟨_,⟨tag,dv,cv,sv,R.set0 rfl rfl rfl id⟩,fun f=>cI (dq rfl rfl R.r0 rfl),fun f=>cI (iI rfl R.r0 rfl (show 3+1<=12 by decide) (by decide))⟩
theorem tj(f:Fun)(a:Int)(ps:List bd)(l:List Val)(x6 x7 x8 x9:AV)(hb:ps.length<=274877906944)(hl:l.length=ps.length):∀(B A:List bd)(lb la:List Val),A++B=ps->la++lb=l->la.length=A.length->
  aj (L223_0 (ai pg) aj) [.hp 0 0,vals l,.ip (ab f.av),aK ps,.int .i64 ps.length,.int .i64 A.length,x6,x7,x8,x9,.int .i64 a,strs (A.map (·.1)),vals la]=
  aj (L223_0 (ai pg) aj) [.hp 0 0,vals l,.ip (ab f.av),aK ps,.int .i64 ps.length,.int .i64 ps.length,x6,x7,x8,x9,.int .i64 a,strs (ps.map (·.1)),vals l]
 | [],A,lb,la,e,e2,hla=>by
  simp only[Qm]at e;subst e;have hz:lb=[]:=by
   apply PL;have:(la++lb).length=l.length:=by rw[e2]
   rw[P1]at this;omega
  rw[hz,Qm]at e2;rw[e2]
 | x:: B,A,lb,la,e,e2,hla=>by
  have hll:A.length+(B.length+1)=ps.length:=by rw[<- e];simp
  have h1:(A.length:Int)<(ps.length:Int):=by omega
  have hx:ps[A.length]'(by omega)=x:=by subst e;simp
  obtain⟨v,lb',rfl⟩:∃v lb',lb=v:: lb':=by
   cases lb with
   |nil=>
    have:(la++([]:List Val)).length=l.length:=by rw[e2]
    simp at this;omega
   |cons v lb'=>exact⟨v,lb',rfl⟩
  have hv:l[A.length]'(by omega)=v:=by
   subst e2;rw[List.getElem_append_right (by omega)];simp[hla]
  have hi:=iK (l:=ps) (n:=(A.length:Int)) (by omega) h1;rw[show ((A.length:Int)).toNat=A.length by omega,Pz ps A.length (by omega),hx]at hi;have hj:=p8 (l:=l) (n:=(A.length:Int)) (by omega) (by omega);rw[show ((A.length:Int)).toNat=A.length by omega,Pz l A.length (by omega),hv]at hj;have hfl:ah T 37 (.ip [.str x.1,.int .i64 x.2.kind,aK x.2.fields])=some (bw x):=by simp
  have hvl:ah T 45 (.ip (ab v.av))=some v.av:=by simp
  have hw:IntKind.i64.wrap ((A.length:Int)+1)=((A.length+1:Nat):Int):=bz (by omega);have hbd:=t172 a (A.map (·.1)) la x.1 v (by simp;omega) (by omega);have ih:=tj f a ps l x6 x7 x8 x9 hb hl B (A++[x]) lb' (la++[v]) (by rw[<- e];simp) (by rw[<- e2];simp) (by simp[hla]);simp only[Sz,Qu,Sq,P1,QD]at ih;rw[<- ih,FL223_0];simp only[L223_0,aH,aM,bV,ao,au,h1,Qi,PF,hi,hfl,aY (i7 x),aB,cD,fA,FA37_0,PT,LD9,hj,hvl,bO,hbd,dc,bB (mN _ _ _),ek,dj,hw]
def Ah(p:List Mod)(nm:SNm)(n:Nat):Prop:=∀(a:Int) (f:Fun) (l:List Val) m h,0<=a->a<p.length->f∈(p[a.toNat]?.getD default).funcs->l.length=f.params.length->(∀v∈l,Rv v)->fu p nm m h->GoodM p m->mu m<1000000->m.fuel<=n->
 iw p nm Val.av (fD p (bR p n) a f l m) (ai pg 223 [.hp 0 0,.int .i64 a,f.av,vals l] h)
def yN(s t:a7)(v:AV)(h:ba v=true):aU T false 260 [(0,.str s),(1,.str t),(2,v)]=some (.agg [.str s,.str t,v]):=by
 have hc:=i6 h;show (o7 _ _ [(0,.str s),(1,.str t),(2,v)]).map AV.agg=_;simp only[o7];have h2:=hc.2.2;have h3:=hc.2.1;cases v with
 |any=>cases h
 |agg _=>cases h
 |tup _=>cases h
 |_=>rfl
theorem wa(x:AV)(hx:cM x=some 3):aJ T 160 1 [(0,x)]=some (.sl [x]):=by
 have h1:aJ T 160 1 [(0,x)]=(kd 3 (List.replicate 1 (.agg [.str [],.str [],.sl []])) [(0,x)]).map .sl:=rfl;rw[h1];simp only[kd,hx,List.length_replicate];rfl
theorem za{p:List Mod}{nm:SNm}{n:Nat}(LB:LimB p)(IH:pE p nm n)(a:Int)(f:Fun)(l:List Val)(m:Ms)(h0:0<=a)(ha:a<p.length)(hf:f∈(p[a.toNat]?.getD default).funcs)(hl:l.length=f.params.length)(hr:∀v∈l,Rv v)(G:GoodM p m)(hmu:mu m<1000000)(hn:m.fuel<=n):
  ∀ (m1:Ms) (h1:Hp),fu p nm m1 h1->m1= { m with calls:=if f.pub=true then m.calls++[⟨(p[a.toNat]?.getD default).name,f.name,l⟩]else m.calls } ->m.frames<60->
   iw p nm Val.av (((bR p n a (f.params.map (·.1)) l f.body).bind fun v=>.upd (fun m=>{ m with frames:=m.frames-1 }) (.ok v)) (kK p a f l m))
    (K223_0 (ai pg) aj [.hp 0 0,.int .i64 a,vals l,.ip (ab f.av),.int .i64 0,.int .i64 0,.sl [],.sl []] h1):=by
 have hlt:a.toNat<p.length:=by omega
 have hmp:p[a.toNat]?.getD default∈p:=by rw[Pv hlt];exact Px hlt
 obtain⟨hbody,hparams⟩:=LB.body _ hmp f hf;have hfb:=G.bud;have hfu:=G.fuel;have hfr:=G.fr;intro m1 h1 R1 e1 h60;have hB:aU T false 168 [(0,.int .i64 a)]=some (bD a [] []):=rfl;have hcell:=bB (mN a [] []);have hloop:=tj f a f.params l (.int .i64 0) (.int .i64 0) (.sl []) (.sl []) hparams hl f.params [] l [] rfl rfl rfl;have hw1:IntKind.i64.wrap (m.frames+1)=m.frames+1:=bq (by omega) (by omega);obtain⟨h2,R2,l2,s2⟩:=rM R1 (m.frames+1);have e2:{ m1 with frames:=m.frames+1 } = kK p a f l m:=by rw[e1];rfl
 have hm1f:m1.frames=m.frames:=by rw[e1]
 rw[e2]at R2;rw[hm1f]at l2;have hld:ah T 23 (.ip (aK f.params:: [.int .i64 f.result.kind,aK f.result.fields,.int .i64 f.effects,.int .i64 f.body.op,.int .i64 f.body.n,.str f.body.s,.str f.body.m,strs f.body.names,bX f.body.args]))=some (aK f.params):=rfl;have hex:ah T 66 (.ip [.int .i64 f.body.op,.int .i64 f.body.n,.str f.body.s,.str f.body.m,strs f.body.names,bX f.body.args])=some f.body.av:=by
  have:ah T 66 (.ip (ab f.body.av))=some f.body.av:=by simp
  rwa [a6]at this
 simp only[Sq,Qa]at hloop;have hz:((0:Nat):Int)=0:=rfl;rw[hz]at hloop;have hm2:(if f.pub=true then m.calls++[(⟨(p[a.toNat]?.getD default).name,f.name,l⟩:Ap.Call)]else m.calls).length<=m.calls.length+1:=by
  split
  ·simp
  ·omega
 have G2:GoodM p (kK p a f l m):=by
  refine⟨⟨G.right.1,fun c hc=>?_⟩,?_,by simp only[kK];omega,hfu,G.shape⟩
  ·simp only[kK]at hc;split at hc
   ·rcases PZ.1 hc with k|k
    ·exact G.right.2 c k
    ·simp only[Qd]at k;subst k;exact hr
   ·exact G.right.2 c hc
  ·simp only[mu,kK]at hmu |-;omega
 simp only[K223_0,aH,aM,hB,ao,hcell,aB,cD,ek,fB,FA68_2,FA68_5,P6,PT,hld,dO]at hloop |-;rw[show strs []=strs []from rfl]at hloop;rw[hloop,FL223_0];simp only[L223_0,aH,aM,bV,ao,au,RS,QR,Pr,PE,eQ,FH164_3,PX,l2,dj,hw1,s2,FA68_5,P6,PT,hex,bO];have hns:((f.params.map (·.1)).length:Int)+(kK p a f l m).fuel<=549755813888:=by
  simp only[Q1,kK];simp only[mu]at hfb;omega
 refine ci (IH a (f.params.map (·.1)) l f.body _ _ R2 G2 hn ⟨ha,⟨by simp[hl],hr⟩,hns⟩ hbody) fun v s h3 hv R3=>?_;obtain⟨G3,_,_⟩:=G2.eval ⟨by simp[hl],hr⟩ hv;obtain⟨h4,R4,l4,s4⟩:=rM R3 (s.frames-1);have hfr3:=G3.fr;have hw2:IntKind.i64.wrap (s.frames-1)=s.frames-1:=bq (by omega) (by omega);have hvl:ah T 45 (.ip (ab v.av))=some v.av:=by simp
 simp only[aY (dL v),aB,cD,eQ,ao,FH164_3,PX,l4,ue,hw2,s4,hvl];have e9:_=Av.R.ok v.av h4:=oQ v h4;rw[e9];exact⟨h4,rfl,R4⟩
def t223{p:List Mod}{nm:SNm}{n:Nat}(LB:LimB p)(IH:pE p nm n):Ah p nm n:=by
 intro a f l m h h0 ha hf hl hr R G hmu hn;have hlt:a.toNat<p.length:=by omega
 have hmp:p[a.toNat]?.getD default∈p:=by rw[Pv hlt];exact Px hlt
 obtain⟨hbody,hparams⟩:=LB.body _ hmp f hf;have hfb:=G.bud;have hfu:=G.fuel;have hfr:=G.fr;have tail:=za LB IH a f l m h0 ha hf hl hr G hmu hn;simp only[fB]at tail;obtain⟨tag,dv,cv,sv,R0⟩:=R;have l3:∀g:AV->M AV,ae (aW T 3 (.hp 0 3)) g h=g (.int .i64 m.frames) h:=fun g=>cI (dq rfl rfl R0.r0 rfl);have lc:∀g:AV->M AV,ae (aW T 160 (.hp 0 10)) g h=g cv h:=fun g=>cI (dq rfl rfl R0.r0 rfl);have lm:∀g:AV->M AV,ae (aW T 92 (.hp 0 0)) g h=g (fZ p) h:=fun g=>cI (dq rfl rfl R0.r0 (by rw[<- pR (t:=nm.told) (fun e=>by subst e;simp at hlt)];rfl));generalize hcode:ai pg 223 [.hp 0 0,.int .i64 a,f.av,vals l] h=code;rw[C223]at hcode;simp -implicitDefEqProofs only[S223,eQ,ao,FH164_3,PX,l3,bV,be,qS]at hcode;by_cases h60:m.frames<60
 ·rw[oc,Ps h60];have hd:decide (m.frames<60)=true:=by simpa using h60
  simp only[hd,cy,PF]at hcode;simp -implicitDefEqProofs only[fB,FA68_1,FA68_0,P6,PT,LD4,LD9,ao,au]at hcode;by_cases hp:f.pub=true
  ·simp only[hp,PF]at hcode tail;have hi:=BD (l:=p) (n:=a) h0 ha;rw[Pz p a.toNat hlt]at hi;have e3:p[a.toNat]?.getD default=p[a.toNat]:=by rw[Pv hlt];rfl
   obtain⟨av,h1,tag1,c1,R1,A1,ok1⟩:=yW R0 l (by omega);obtain⟨cv',h2,h3,p1,p2,R3⟩:=CL R1 ⟨p[a.toNat].name,f.name,l⟩ av A1 ok1 (by simp only[mu]at hmu;omega);have hB:aU T false 260 [(0,.str p[a.toNat].name),(1,.str f.name),(2,av)]=some (.agg [.str p[a.toNat].name,.str f.name,av]):=yN _ _ _ ok1;have hBS:=wa (.agg [.str p[a.toNat].name,.str f.name,av]) rfl;have lc1:∀g:AV->M AV,ae (aW T 160 (.hp 0 10)) g h=g cv h:=lc;simp -implicitDefEqProofs only[lc,lm,hi,bE,FA29_0,FH164_0,FH164_4,FH162_3,PT,LD9,ao,PX,Nat.reduceAdd]at hcode;rw[cI c1]at hcode;simp only[hB,hBS,ao]at hcode;rw[cI p1]at hcode;rw[cI p2]at hcode;rw[<- hcode];exact tail _ h3 R3 (by rw[e3]) h60
  ·simp only[hp,Pr,PE]at hcode tail;rw[<- hcode];exact tail m h ⟨tag,dv,cv,sv,R0⟩ rfl h60
 ·rw[oc,if_neg h60];have hd:decide (m.frames<60)=false:=by simpa using h60
  simp only[hd,cy,Pr,PE]at hcode;rw[<- hcode];exact⟨h,rfl,tag,dv,cv,sv,R0⟩
theorem tk{p:List Mod}{nm:SNm}{n:Nat}(IH:pE p nm n)(IE:Ah p nm n)(own:Int)(ns:List a7)(vs:List Val)(at_:Int)(f:Fun)(es:List Exp)(x8 x9 x10 x11:AV)(ha:0<=at_)(hat:at_<p.length)(hf:f∈(p[at_.toNat]?.getD default).funcs)(hes:∀e∈es,a8 e)(h8:es.length<=274877906944)(hlen:es.length=f.params.length):
  ∀(B A:List Exp)(acc:List Val)(m:Ms)(h:Hp),A++B=es->acc.length=A.length->(∀v∈acc,Rv v)->fu p nm m h->GoodM p m->mu m<1000000->m.fuel<=n->Sc p own ns vs m->
  iw p nm Val.av ((listX (bR p n own ns vs) B).bind (fun ws=>fD p (bR p n) at_ f (acc++ws)) m)
   (aj (L174_0 (ai pg) aj) [.hp 0 0,.ip (ab (bD own ns vs)),.int .i64 at_,.ip (ab f.av),vals acc,bX es,.int .i64 es.length,.int .i64 A.length,x8,x9,x10,x11] h)
 |[],A,acc,m,h,e,hac,hr,R,G,hmu,hn,hs=>by
  simp only[Qm]at e;subst e;have hfl:ah T 68 (.ip (ab f.av))=some f.av:=by simp
  have IE':=IE at_ f acc m h ha hat hf (by omega) hr R G hmu hn;generalize hcode:aj (L174_0 (ai pg) aj) [.hp 0 0,.ip (ab (bD own ns vs)),.int .i64 at_,.ip (ab f.av),vals acc,bX A,.int .i64 A.length,.int .i64 A.length,x8,x9,x10,x11] h=code;rw[FL174_0]at hcode;simp -implicitDefEqProofs only[L174_0,aH,aM,bV,ao,au,RS,QR,Pr,PE,hfl]at hcode;simp only[listX,nS,Qm];rw[<- hcode];exact dw IE'
 | x:: B,A,acc,m,h,e,hac,hr,R,G,hmu,hn,hs=>by
  have hll:A.length+(B.length+1)=es.length:=by rw[<- e];simp
  have h1:(A.length:Int)<(es.length:Int):=by omega
  have hx:es[A.length]'(by omega)=x:=by subst e;simp
  have hm:x∈es:=by rw[<- e];simp
  have hi:=kH (l:=es) (n:=(A.length:Int)) (by omega) h1;rw[show ((A.length:Int)).toNat=A.length by omega,Pz es A.length (by omega),hx]at hi;have hsc:ah T 168 (.ip (ab (bD own ns vs)))=some (bD own ns vs):=rfl;have hex:ah T 66 (.ip (ab x.av))=some x.av:=by simp
  have hw:IntKind.i64.wrap ((A.length:Int)+1)=((A.length+1:Nat):Int):=bz (by omega);generalize hcode:aj (L174_0 (ai pg) aj) [.hp 0 0,.ip (ab (bD own ns vs)),.int .i64 at_,.ip (ab f.av),vals acc,bX es,.int .i64 es.length,.int .i64 A.length,x8,x9,x10,x11] h=code;rw[FL174_0]at hcode;simp -implicitDefEqProofs only[L174_0,aH,aM,bV,ao,au,h1,Qi,PF,hi,hex,aY (g9 x),aB,hsc]at hcode;have hex':ah T 66 (.ip (ab (.agg (ab x.av))))=some x.av:=hex;simp -implicitDefEqProofs only[hex',ao]at hcode;rw[<- hcode];simp only[listX,pD,nS];refine ci (IH own ns vs x m h R G hn hs (hes x hm)) fun v s h' hv Rs=>?_;obtain⟨G2,rv,f2⟩:=G.eval hs.right hv;obtain⟨t1,_⟩:=pY n own ns vs x m v s G.fuel hv;have hb2:aJ T 30 1 [(0,v.av)]=some (vals [v]):=by rw[v.av_eq];simp[vals,eb,v.av_eq];rfl
  have ha2:cQ T 30 (vals acc) (vals [v])=some (vals (acc++[v])):=BC (by simp;omega);have ih:=tk IH IE own ns vs at_ f es x8 x9 x10 x11 ha hat hf hes h8 hlen B (A++[x]) (acc++[v]) s h' (by rw[<- e];simp) (by simp[hac]) (fun w hw=>by
   rcases PZ.1 hw with k|k
   ·exact hr w k
   ·simp only[Qd]at k;subst k;exact rv) Rs G2 (by omega) (by omega) (hs.less f2)
  simp only[Qq,Rp,P1,QD]at ih;simp only[hb2,ao,ha2,dj,hw];exact ih
def mB(f:Fun):aN 12 f.av=M.pure (.agg (ab f.av)):=aY (i8 f)
theorem sK{p:List Mod}{nm:SNm}{n:Nat}(LB:LimB p)(IH:pE p nm n)(own:Int)(ns:List a7)(vs:List Val)(e:Exp)(at_:Int)(hat:at_<p.length)(m:Ms)(h:Hp)(R:fu p nm m h)(G:GoodM p m)(hmu:mu m<1000000)(hn:m.fuel<=n)(hs:Sc p own ns vs m)(he:a8 e)(y1 y2 y3 y4:AV):
  iw p nm Val.av ((match jI p at_ e.s with
   |none=>.er 12
   | some f=>if e.m=[]\/f.pub=true then
     (if e.args.length=f.params.length then(listX (bR p n own ns vs) e.args).bind fun l=>fD p (bR p n) at_ f l else .er 13)
    else .er 12:X Val) m)
   (K174_0 (ai pg) aj [.hp 0 0,.ip (ab (bD own ns vs)),.ip (ab e.av),.int .i64 at_,y1,y2,y3,y4] h):=by
 have IE:=t223 LB IH;obtain⟨l1,l2⟩:=ka he;have hfn:=t222 R LB.lim at_ hat e.s;generalize hcode:K174_0 (ai pg) aj [.hp 0 0,.ip (ab (bD own ns vs)),.ip (ab e.av),.int .i64 at_,y1,y2,y3,y4] h=code;simp -implicitDefEqProofs only[K174_0,aH,aM,a6,FA66_2,FA66_3,FA66_5,P6,PT,LD9,LD24,tU,ao]at hcode;rw[cI hfn]at hcode;cases hf:jI p at_ e.s with
 |none=>
  rw[hf]at hcode;simp -implicitDefEqProofs only[zm,aR,Pu,PM,ao,mB,aB,dC,List.replicate,aH,db,bS,be,cy,Pr,PE]at hcode;rw[<- hcode];exact eR R
 | some f=>
  rw[hf]at hcode;obtain⟨f1,f2,f3⟩:=qI hf;have hmp:p[at_.toNat]?.getD default∈p:=by rw[Pv f2];exact Px f2
  obtain⟨_,hparams⟩:=LB.body _ hmp f f3;have hac:∀f:Fun,ab (.agg (ab f.av))=ab f.av:=fun _=>rfl;simp -implicitDefEqProofs only[zm,aR,Pu,PM,ao,mB,aB,bp,vp,aH,hac]at hcode;have hpub:ah T 4 (.ip (List.drop 1 (ab f.av)))=some (.bool f.pub):=by simp
  have hpar:ah T 23 (.ip (List.drop 2 (ab f.av)))=some (aK f.params):=by simp
  have hgu:ax (.bool (e.m== [])) false 1 (M.pure [.bool f.pub])=M.pure [gv (e.m== []) false (.bool f.pub)]:=eW _ _ _;have hpk:aG (.bool (e.m== [])) (.bool true) (gv (e.m== []) false (.bool f.pub))=some (.bool ((e.m== [])||f.pub)):=rr _ _;simp -implicitDefEqProofs only[FA68_1,FA68_2,hpub,hpar,ao,hgu,aB,aH,hpk,cw,be,dO,gQ]at hcode;by_cases h1:e.m=[]\/f.pub=true
  ·have h1':(e.m== []||f.pub)=true:=by
    simp only[Qn,PR];exact h1
   simp only[h1',cy,PF]at hcode;simp only[Ps h1];by_cases h2:e.args.length=f.params.length
   ·have h2':((e.args.length:Int)== (f.params.length:Int))=true:=by simp[h2]
    simp only[h2',PF]at hcode;simp only[Ps h2];rw[<- hcode]
    have:=tk IH IE own ns vs at_ f e.args y1 y2 y3 y4 (by omega) hat f3 (fun x hx=>br he hx) (by omega) h2 e.args [] [] m h rfl rfl (fun v hv=>by cases hv) R G hmu hn hs
    simp only[P7]at this;exact this
   ·have h2':((e.args.length:Int)== (f.params.length:Int))=false:=by
     rw[PP];omega
    simp only[h2',Pr,PE]at hcode;simp only[if_neg h2];rw[<- hcode];exact eR R
  ·have h1':(e.m== []||f.pub)=false:=by
    rw[<- Rx];simp only[Qn,PR];exact h1
   simp only[h1',cy,Pr,PE]at hcode;simp only[if_neg h1];rw[<- hcode];exact eR R
theorem t174{p:List Mod}{nm:SNm}{n:Nat}(LB:LimB p)(IH:pE p nm n):Db p nm n:=by
 intro own ns vs e m h R G hmu hn hs he;unfold me;have hown:ah T 3 (.ip [.int .i64 own,strs ns,vals vs])=some (.int .i64 own):=rfl;have hmd:=t221 R LB.lim e.m;generalize hcode:ai pg 174 [.hp 0 0,bD own ns vs,e.av] h=code;rw[C174]at hcode;simp -implicitDefEqProofs only[S174,ek,a6,FA168_0,FA66_3,P6,PT,hown,LD9,ao,qS,Ib,au]at hcode;by_cases h0:e.m=[]
 ·have h0':(!(e.m== []))=false:=by simp[h0]
  simp only[h0',Pr,PE]at hcode;simp only[Ps h0];rw[<- hcode]
  have:=sK LB IH own ns vs e own hs.own m h R G hmu hn hs he (.int .i64 0) (.int .i64 0) (.sl []) (.sl [])
  simp only[ek,a6]at this;exact this
 ·have h0':(!(e.m== []))=true:=by simp[h0]
  simp only[h0',PF]at hcode;rw[cI hmd]at hcode;simp only[if_neg h0];rw[<- hcode];have hlt:tn p e.m<p.length:=by
   rcases nk (fun(x:Mod)=>x.name== e.m) p 0 with k|k
   ·show aV _ p 0<_;rw[k];omega
   ·show aV _ p 0<_;omega
  have:=sK LB IH own ns vs e (tn p e.m) hlt m h R G hmu hn hs he (.int .i64 0) (.int .i64 0) (.sl []) (.sl [])
  simp only[ek,a6]at this;exact this
end Go.Proofs.YtihmmkncokjbaaaGreatDoor
