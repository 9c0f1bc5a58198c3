/- What the functions compute, part 10. Conditions: bounds. -/
import Derived.Test.YtbndmpiddinalaaGreatDoorTi
import Derived.Lib.SmallJoins
set_option linter.defProp false
set_option linter.unusedSimpArgs false
set_option linter.unusedVariables false
namespace Go.Proofs.YtbndmpiddinalaaGreatDoor
open Go Go.Av Go.Av.Ap
set_option maxRecDepth 100000
def iL(p:List Ap.Mod)(s t:aW)(args:List Val)(w:List Int):Proc×Int:=match gu p s t args w with
 |.ok q=>(q,0)
 |.error e=>(p0,e)
theorem WU(x:Fnc):ax T 76 (.ip (aa x.av))=some x.av:=rfl
theorem t7(p:List Ap.Mod)(s t:aW)(args:List Val)(w:List Int)(hL:∀m∈p,m.Lim)(hc:∀m∈p,∀f∈m.funcs,dO 12 f.body<=1000)(ha:args.length<=1000000/\∀v∈args,v.sz<=4611686018427387904)(hw:w.length<=1000000):
  af pg 7 [mods p,.str s,.str t,vals args,ints w]=am (.tup [(iL p s t args w).1.av,.int .i64 (iL p s t args w).2]):=by
 have hld:=t20 [] hL hc;rw[C7,show cl aE (mods p)=mods p by simp,show cl aE (.str s)= .str s from rfl,show cl aE (.str t)= .str t from rfl,show cl aE (vals args)=vals args by simp,show cl aE (ints w)=ints w by simp];have zp:=jj;have zc:=kP;have nee:∀a b:Int,cz T .neq 30 (.int .i64 a) (.int .i64 b)=some (.bool (a != b)):=fun a b=>rfl;have bad:∀(h:Hp)(e:Int){m:M AV},m []= .ok (.tup [p0.av,.int .i64 e]) h->be m=am (.tup [p0.av,.int .i64 e]):=fun h e m hm=>gB hm rfl;by_cases hl:jv p=0
 ·have g1:af pg 20 [mods p] []= .ok (.tup [.hp 2 0,.int .i64 0]) (g8 [] [.tup (bh p 0)] [.tup (ck (aT 0 p))] (lC p 0)):=hld.1 hl;obtain⟨P,hnd,hho,hrm⟩:=pW hl hc;have hnl:¬jv p≠0:=ZL
  have h20:=P.len;have hfr:=t21 p ZL (fun m hm=>by
   have K:=uD (hrm m hm);have h1:=K.vlen;have h2:=K.ilen;exact⟨ZL,ZL,fun e he=>pJ 12 e (K.init e he) ((hL m hm).ies e he)⟩)
  have ne0:((0:Int) != 0)=false:=rfl;cases hf:lr p with
  | error e=>
   rw[hf]at hfr;have he:e≠0:=tW hf;have hne:(e != 0)=true:=by simpa using he
   have hs:iL p s t args w=(p0,e):=by
    unfold iL gu;rw[Xn hnl,hf]
   rw[hs];refine bad (g8 [] [.tup (bh p 0)] [.tup (ck (aT 0 p))] (lC p 0)) e ?_;rw[S7,ap g1];simp -implicitDefEqProofs only[vF,vG,ae,nee,ne0,ai,Xo,Xu,hfr,mD,aj,hne,XA,zp,zc];rfl
  | ok st=>
   rw[hf]at hfr;have MO:MapOk T 78 79 ⟨2,0,1,[.tup (bh p 0)],[.tup (ck (aT 0 p))]⟩ p:=map_ok rfl rfl hnd hho;have g2:bb T 79 (.hp 2 (0+14)) (g8 [] [.tup (bh p 0)] [.tup (ck (aT 0 p))] (lC p 0))= .ok (.mp 1) (g8 [] [.tup (bh p 0)] [.tup (ck (aT 0 p))] (lC p 0)):=bL rfl rfl rfl rfl;have g3:=MO.fn (g8 [] [.tup (bh p 0)] [.tup (ck (aT 0 p))] (lC p 0)) rfl s t;cases hx:fh p s t with
   | none=>
    rw[hx]at g3;have hs:iL p s t args w=(p0,4):=by
     unfold iL gu;rw[Xn hnl,hf];simp only[hx]
    rw[hs];have c1:cg 7 (kD none)=am (.agg (aa (kD none))):=aZ rfl;refine bad (g8 [] [.tup (bh p 0)] [.tup (ck (aT 0 p))] (lC p 0)) 4 ?_;rw[S7,ap g1];simp -implicitDefEqProofs only[vF,vG,ae,nee,ne0,ai,Xo,Xu,hfr,mD,aj,aJ,FH81_2];rw[ap g2,wo,ae,ap g3];simp -implicitDefEqProofs only[vF,vG,ae,c1,aj,Y8,bc,X3,ai,XA,zp,zc];rfl
   | some x=>
    rw[hx]at g3;have F:=lp hx;have cb:=P.code _ _ _ hx;have g3':d9 T 79 (.mp 1) (.agg [.str s,.str t]) true (g8 [] [.tup (bh p 0)] [.tup (ck (aT 0 p))] (lC p 0))= .ok (.tup [x.av,.bool true]) (g8 [] [.tup (bh p 0)] [.tup (ck (aT 0 p))] (lC p 0)):=g3;have r1:=t22 args x.cod.params ZN ha.2;cases hr:fp args x.cod.params with
    | false=>
     rw[hr]at r1;have hs:iL p s t args w=(p0,13):=by
      unfold iL gu;rw[Xn hnl,hf];simp only[hx,hr,Xo,Xu]
     rw[hs];refine bad (g8 [] [.tup (bh p 0)] [.tup (ck (aT 0 p))] (lC p 0)) 13 ?_;rw[S7,ap g1];simp -implicitDefEqProofs only[vF,vG,ae,nee,ne0,ai,Xo,Xu,hfr,mD,aj,aJ,FH81_2];rw[ap g2,wo,ae,ap g3'];simp -implicitDefEqProofs only[vF,vG,ae,cX,aj,bc,XH,ai,Xo,Xu,aI,fX2,Nq,NI,r1,X3,XA,zp,zc];rfl
    | true=>
     rw[hr]at r1;have hs:iL p s t args w=(FV ⟨p,st,[],w,⟨0,default,[],[],[]⟩,false⟩ [] s x args,0):=by
      unfold iL gu;rw[Xn hnl,hf];simp only[hx,hr,XA]
     rw[hs];have s1:bU T 28 (.hp 2 (0+0+1)) (br st) (g8 [] [.tup (bh p 0)] [.tup (ck (aT 0 p))] (lC p 0))= .ok (.tup []) (g8 [] [.tup (bh p 0)] [.tup (ck (aT 0 p))] [mods p,br st,.hn,.hn,.int .i64 0,.int .i64 0,.int .i64 0,.hn,.hn,.hn,.hn,.hn,.bool false,.mp 0,.mp 1]):=by
      rw[bX (T:=T) (t:=28) rfl (show (g8 [] [.tup (bh p 0)] [.tup (ck (aT 0 p))] (lC p 0))[2]? = some (lC p 0)from rfl) rfl (by show (_:Nat)<=15;decide) ZM];rfl
     have s2:bU T 24 (.hp 2 (0+0+3)) (ints w) (g8 [] [.tup (bh p 0)] [.tup (ck (aT 0 p))] [mods p,br st,.hn,.hn,.int .i64 0,.int .i64 0,.int .i64 0,.hn,.hn,.hn,.hn,.hn,.bool false,.mp 0,.mp 1])= .ok (.tup []) (g8 [] [.tup (bh p 0)] [.tup (ck (aT 0 p))] [mods p,br st,.hn,ints w,.int .i64 0,.int .i64 0,.int .i64 0,.hn,.hn,.hn,.hn,.hn,.bool false,.mp 0,.mp 1]):=by
      rw[bX (T:=T) (t:=24) rfl (show (g8 [] [.tup (bh p 0)] [.tup (ck (aT 0 p))] [mods p,br st,.hn,.hn,.int .i64 0,.int .i64 0,.int .i64 0,.hn,.hn,.hn,.hn,.hn,.bool false,.mp 0,.mp 1])[2]? = some [mods p,br st,.hn,.hn,.int .i64 0,.int .i64 0,.int .i64 0,.hn,.hn,.hn,.hn,.hn,.bool false,.mp 0,.mp 1]from rfl) rfl ZN ZM];rfl
     let L:MLay:=⟨2,0,1,[.tup (bh p 0)],[.tup (ck (aT 0 p))]⟩;let q:Proc:=⟨p,st,[],w,⟨0,default,[],[],[]⟩,false⟩;have R0:MRG W2 L (fun r=>if r=2 then 0 else 1) (br st) .hn .hn .hn [.int .i64 0,.int .i64 0,.hn,.hn] q (g8 [] [.tup (bh p 0)] [.tup (ck (aT 0 p))] [mods p,br st,.hn,ints w,.int .i64 0,.int .i64 0,.int .i64 0,.hn,.hn,.hn,.hn,.hn,.bool false,.mp 0,.mp 1]):=
      ⟨rfl,rfl,rfl,rfl,rfl,rfl,rfl,.inl ⟨rfl,.inl rfl,rfl⟩,.inl ⟨rfl,.inl rfl,rfl⟩,.inl ⟨rfl,.inl rfl,rfl⟩,.inr ⟨rfl,rfl⟩,rfl⟩
     obtain⟨h2,tag2,av,e2,K2,V2⟩:=mo (T:=T) (t:=23) (e:=33) rfl rfl rfl rfl rfl ZM (af pg) (fun r=>if r=2 then 0 else 1) (g8 [] [.tup (bh p 0)] [.tup (ck (aT 0 p))] [mods p,br st,.hn,ints w,.int .i64 0,.int .i64 0,.int .i64 0,.hn,.hn,.hn,.hn,.hn,.bool false,.mp 0,.mp 1]) args (XM (Xy _ ha.1) ZM) 11;have R2:=R0.keep K2 (fun k hk=>hk.elim);obtain⟨h3,e3,tag3,fv3,dv3,cv3,vc3,R3⟩:=t24 R2 s x V2 ZN cb.2 ha.1 ZN;have Q3:=R3.pr (zF (rP 5 h3) st) rfl;have g4:bb T 39 (.hp 2 (0+0)) h3= .ok (.agg ((fC L (FV q [] s x args) (br st) fv3 dv3 cv3 vc3).take 13)) h3:=Q3.load rfl rfl rfl;obtain⟨cn,c0,c1,c2,c3,c4,c5,c6,c7,c8,c9,c10,c11,c12,hcs⟩:=Q3.cells;refine gB (a:=.tup [.agg ((fC L (FV q [] s x args) (br st) fv3 dv3 cv3 vc3).take 13),.int .i64 0]) (h':=h3) ?_ (Q3.tup 0);rw[S7,ap g1];simp -implicitDefEqProofs only[vF,vG,ae,nee,ne0,ai,Xo,Xu,hfr,mD,aj,aJ,FH81_2];rw[ap g2,wo,ae,ap g3'];simp -implicitDefEqProofs only[vF,vG,ae,cX,aj,bc,XH,ai,Xo,Xu,aI,fX2,Nq,NI,r1,QK w hw,aJ,FH81_0,FH39_1,FH39_3,WU];rw[ap s1,ap s2,ap ((xI _ _).trans e2),ap e3,ap g4,cn,aj,aI,hcs];rfl
 ·obtain⟨h',g1⟩:=hld.2 hl;have hs:iL p s t args w=(p0,jv p):=by
   unfold iL gu;rw[Xr hl]
  rw[hs];have hne:(jv p != 0)=true:=by simpa using hl
  refine bad h' (jv p) ?_;rw[S7,ap g1];simp -implicitDefEqProofs only[vF,vG,ae,nee,hne,ai,XA,zp,zc,aj];rfl
def gO{F:(List AV->M AV)->List AV->M AV}(hF:∀vs,ak F vs=F (ak F) vs)(st:Nat->List AV)(n:Nat)(hend:F (ak F) (st n)=am (.bool true))(hstep:∀k,k<n->F (ak F) (st k)=ak F (st (k+1))):ak F (st 0)=am (.bool true):=by
 have h:=pN hF st n (fun _=>true) hend (fun k hk=>ZN) 0 (XJ _)
 grind
@[simp] theorem ol(t:Nat)(a b:aW):cz T .neq t (.str a) (.str b)=some (.bool !(a== b)):=rfl
def t54(l:List aW)(hb:l.length<=4611686018427387904):af pg 54 [strs l,strs l]=am (.bool true):=by
 have h:=gO (FL54_0 (af pg)) (fun k=>[strs l,strs l,.int .i64 (k:Int)]) l.length (by simp[L54_0]) (fun k hk=>by
  have h1:(k:Int)<(l.length:Int):=ZL
  have hix:=oO (l:=l) (n:=(k:Int)) ZL h1;have hw:IntKind.i64.wrap ((k:Int)+1)=((k+1:Nat):Int):=aV ZL;simp only[L54_0,ao,au,gW,ae,aB,h1,XP,ai,XA,hix,mf,LD9,ol,XR,XH,Xo,Xu,bj,hw])
 have h':ak (L54_0 (af pg) ak) [strs l,strs l,.int .i64 0]=am (.bool true):=h;rw[C54];simp[S54,h']
def t53(l:List Exp)(hb:l.length<=4611686018427387904)(hk:∀e∈l,af pg 110 [e.av,e.av]=am (.bool true)):af pg 53 [df l,df l]=am (.bool true):=by
 have h:=gO (FL53_0 (af pg)) (fun k=>[df l,df l,.int .i64 (k:Int)]) l.length (by simp[L53_0]) (fun k hk'=>by
  have h1:(k:Int)<(l.length:Int):=ZL
  have hix:=m7 (l:=l) (n:=(k:Int)) ZL h1;rw[Xw,Xv l k hk']at hix;have hm:=hk _ (XB hk');have hw:IntKind.i64.wrap ((k:Int)+1)=((k+1:Nat):Int):=aV ZL;generalize l[k]=e at hix hm;simp only[L53_0,ao,au,oP,ae,aB,h1,XP,ai,XA,hix,cd,LD108,XQ,X0,XE,Nat.reduceAdd,Xt,X4,X2,kE,hm,dq,aj,bc,XH,Xo,Xu,bj,hw])
 have h':ak (L53_0 (af pg) ak) [df l,df l,.int .i64 0]=am (.bool true):=h;rw[C53];simp[S53,h']
def GT{e:Exp}{x:Exp}(h:x∈e.args):SizeOf.sizeOf x<SizeOf.sizeOf e:=by
 cases e with
 |mk o n s m ns es=>
  have:=YN (show x∈es from h)
  grind
def t110:∀(n:Nat)(e:Exp),SizeOf.sizeOf e<=n->e.Lim->af pg 110 [e.av,e.av]=am (.bool true):=by
 intro n
 induction n with
 |zero=>intro e h;cases e;simp at h
 |succ n ih=>
  intro e hs he;have h1:=t54 e.names (by have:=he.names;omega);have h2:=t53 e.args (by have:=he.len;omega) (fun x hx=>ih x (by have:=GT hx;omega) (he.kid hx));rw[C110];simp[S110,h1,h2]
def t52(l:List fu)(hb:l.length<=4611686018427387904)(hk:∀f∈l,af pg 109 [f.2.av,f.2.av]=am (.bool true)):af pg 52 [bR l,bR l]=am (.bool true):=by
 have h:=gO (FL52_0 (af pg)) (fun k=>[bR l,bR l,.int .i64 (k:Int)]) l.length (by simp[L52_0]) (fun k hk'=>by
  have h1:(k:Int)<(l.length:Int):=ZL
  have hix:=vH (l:=l) (n:=(k:Int)) ZL h1;rw[Xw,Xv l k hk']at hix;have hm:=hk _ (XB hk');have hw:IntKind.i64.wrap ((k:Int)+1)=((k+1:Nat):Int):=aV ZL;generalize l[k]=f at hix hm;simp only[L52_0,ao,au,mc,ae,aB,h1,XP,ai,XA,hix,ku,FA158_0,FA158_1,XG,XK,LD9,ol,XR,XH,bn,LD106,XQ,X0,XE,Nat.reduceAdd,Xt,X4,X2,yn,hm,dq,aj,bc,ca,Xo,Xu,bj,hw])
 have h':ak (L52_0 (af pg) ak) [bR l,bR l,.int .i64 0]=am (.bool true):=h;rw[C52];simp[S52,h']
def Ky{t:Ty}{f:fu}(h:f∈t.fields):SizeOf.sizeOf f.2<SizeOf.sizeOf t:=by
 cases t with
 |mk k fs=>
  have h1:=YN (show f∈fs from h)
  grind
def t109:∀(n:Nat)(t:Ty),SizeOf.sizeOf t<=n->t.Lim->af pg 109 [t.av,t.av]=am (.bool true):=by
 intro n
 induction n with
 |zero=>intro t h;cases t;simp at h
 |succ n ih=>
  intro t hs ht;have h2:=t52 t.fields (by have:=ht.len;omega) (fun f hf=>ih f.2 (by have:=Ky hf;omega) (ht.kid hf));rw[C109];simp[S109,h2]
theorem t51(f:Fun)(hf:f.Lim):af pg 51 [f.av,f.av]=am (.bool true):=by
 have h1:=t52 f.params (by have:=hf.params;omega) (fun x hx=>t109 _ x.2 (Xt _) (hf.pty x hx));have h2:=t109 _ f.result (Xt _) hf.result;have h3:=t110 _ f.body (Xt _) hf.body;have hb:cz T .eql 4 (.bool f.pub) (.bool f.pub)=some (.bool (f.pub== f.pub)):=rfl;rw[C51];simp[S51,h1,h2,h3,hb]
theorem t27(m:Mod)(h:m.Lim):af pg 27 [m.av,m.av]=am (.bool true):=by
 have hfl:=h.funcs;have s1:=t54 m.uses (by have:=h.uses;omega);have s2:=t52 m.vars (by have:=h.vars;omega) (fun x hx=>t109 _ x.2 (Xt _) (h.vty x hx));have s3:=t53 m.init (by have:=h.init;omega) (fun x hx=>t110 _ x (Xt _) (h.ies x hx));have s4:=t52 m.old (by have:=h.old;omega) (fun x hx=>t109 _ x.2 (Xt _) (h.oty x hx));have s5:=t53 m.forward (by have:=h.forward;omega) (fun x hx=>t110 _ x (Xt _) (h.fes x hx));have s6:=t53 m.back (by have:=h.back;omega) (fun x hx=>t110 _ x (Xt _) (h.bes x hx));have hb:cz T .eql 4 (.bool m.moves) (.bool m.moves)=some (.bool (m.moves== m.moves)):=rfl;have hl:=gO (FL27_0 (af pg)) (fun k=>[.ip (aa m.av),.ip (aa m.av),.int .i64 (k:Int)]) m.funcs.length (by simp_all[L27_0]) (fun k hk'=>by
  have h1:(k:Int)<(m.funcs.length:Int):=ZL
  have hix:=Bu (l:=m.funcs) (n:=(k:Int)) ZL h1;rw[Xw,Xv m.funcs k hk']at hix;have hm:=t51 m.funcs[k] (h.fns _ (XB hk'));have hw:IntKind.i64.wrap ((k:Int)+1)=((k+1:Nat):Int):=aV ZL;generalize m.funcs[k]=f at hix hm;simp only[L27_0,ao,au,eW,FA53_4,ae,XK,XG,LD49,Bv,aB,h1,XP,ai,XA,hix,kv,LD110,XQ,X0,XE,Nat.reduceAdd,Xt,X4,X2,zZ,hm,dq,aj,bc,XH,Xo,Xu,bj,hw])
 have h':ak (L27_0 (af pg) ak) [.ip (aa m.av),.ip (aa m.av),.int .i64 0]=am (.bool true):=hl;simp_all[C27,S27]
theorem pC{α:Type}[BEq α][LawfulBEq α]:∀(a b:List α),iT (fun x y=>x== y) a b=(a== b)
 |[],[]=>rfl
 |[],_:: _=>rfl
 |_:: _,[]=>rfl
 |x:: a,y:: b=>by
  simp only[iT,pC a b];rfl
def W6(a b:List aW)(hb:a.length<=4611686018427387904):af pg 54 [strs a,strs b]=am (.bool (a== b)):=by
 have la:∀l:List aW,bm T 31 (strs l)=some (.int .i64 l.length):=fun l=>gW _;rw[C54,show cl aE (strs a)=strs a by simp,show cl aE (strs b)=strs b by simp];by_cases h:a.length=b.length
 ·have h0:((a.length:Int) != (b.length:Int))=false:=by simp[h]
  have hh:=pN (FL54_0 (af pg)) (fun k=>[strs a,strs b,.int .i64 (k:Int)]) a.length (fun k=>a[k]! == b[k]!) (by
   simp_all[L54_0]) (fun k hk=>by
   have h1:(k:Int)<(a.length:Int):=ZL
   have i1:=oO (l:=a) (n:=(k:Int)) ZL h1;have i2:=oO (l:=b) (n:=(k:Int)) ZL ZL;rw[Xw]at i1 i2;have hw:IntKind.i64.wrap ((k:Int)+1)=((k+1:Nat):Int):=aV ZL;simp_all[L54_0]) 0 (XJ _)
  have hh':ak (L54_0 (af pg) ak) [strs a,strs b,.int .i64 0]=_:=hh;rw[Y2,mh (fun x y:aW=>x== y) a b h,pC]at hh';simp_all[S54]
 ·have h0:((a.length:Int) != (b.length:Int))=true:=by simp;omega
  have h2:(a== b)=false:=by
   rw[YT];intro hh;exact h (by rw[hh])
  rw[h2];simp_all[S54]
def VH(v:Val):ax T 33 (.ip (aa v.av))=some v.av:=by cases v;rfl
def KZ(a b:List Val)(hb:a.length<=4611686018427387904)(hf:∀x∈a,∀y∈b,af pg 34 [x.av,y.av]=am (.bool (kL x y))):af pg 16 [vals a,vals b]=am (.bool (iT kL a b)):=by
 have la:∀l:List Val,bm T 23 (vals l)=some (.int .i64 l.length):=fun l=>qy _;rw[C16,show cl aE (vals a)=vals a by simp,show cl aE (vals b)=vals b by simp];by_cases h:a.length=b.length
 ·have h0:((a.length:Int) != (b.length:Int))=false:=by simp[h]
  have hh:=pN (FL16_0 (af pg)) (fun k=>[vals a,vals b,.int .i64 (k:Int)]) a.length (fun k=>kL a[k]! b[k]!) (by
   simp_all[L16_0]) (fun k hk=>by
   have h1:(k:Int)<(a.length:Int):=ZL
   have i1:=sY (l:=a) (n:=(k:Int)) ZL h1;have i2:=sY (l:=b) (n:=(k:Int)) ZL ZL;rw[Xw]at i1 i2;have hw:IntKind.i64.wrap ((k:Int)+1)=((k+1:Nat):Int):=aV ZL;have m1:a[k]! ∈a:=nz hk;have m2:b[k]! ∈b:=nz ZL;have f1:=hf _ m1 _ m2;generalize a[k]! = s at i1 f1;generalize b[k]! = t at i2 f1;simp -implicitDefEqProofs only[L16_0,ao,au,la,aB,ae,ai,Xp,Xr h1,i1,i2,VH,f1,dq,aj,bc,bj,hw]
   grind) 0 (XJ _)
  have hh':ak (L16_0 (af pg) ak) [vals a,vals b,.int .i64 0]=_:=hh;rw[Y2,mh kL a b h]at hh';simp_all[S16]
 simp_all[nh,S16]
def VZ:∀(n:Nat)(v w:Val),v.sz<=n->v.sz<=4611686018427387904->af pg 34 [v.av,w.av]=am (.bool (kL v w)):=by
 intro n
 induction n with
 |zero=>intro v w h;have:=v.sz_pos;omega
 |succ n ih=>
  intro v w h hv;have h1:=W6 v.names w.names (XM v.sz_names hv);have h2:=KZ v.values w.values (by have:=v.sz_len;omega) (fun x hx y _=>ih x y (by have:=W9 hx;omega) (by have:=W9 hx;omega));rw[C34,show cl aE v.av=v.av by simp,show cl aE w.av=w.av by simp,Ip];simp -implicitDefEqProofs only[S34,bH,Q9,R9,ae,aH,Ra,Sa,aG,aj,ao,bN,Rb,Sb,h1,Rc,Sd,h2];simp_all
def WB(v w:Val)(hv:v.sz<=4611686018427387904):af pg 34 [v.av,w.av]=am (.bool (kL v w)):=VZ v.sz v w (Xt _) hv
def W5(a b:List Val)(hb:a.length<=4611686018427387904)(hf:∀x∈a,x.sz<=4611686018427387904):af pg 16 [vals a,vals b]=am (.bool (iT kL a b)):=KZ a b hb fun x hx y _=>WB x y (hf x hx)
mutual
theorem uU:(v:Val)->kL v v=true
 |.mk k n ns vs=>by simp[kL,nN vs]
theorem nN:(l:List Val)->rb l l=true
 |[]=>rfl
 |v:: l=>by simp[rb,uU v,nN l]
end
def Eu(l:List Val):iT kL l l=true:=by rw[<- nM];exact nN l
def zf(l:List Val):Prop:=l.length<=4611686018427387904/\∀x∈l,x.sz<=4611686018427387904
def SD(l:List Val)(h:zf l):af pg 16 [vals l,vals l]=am (.bool true):=by rw[W5 l l h.1 h.2,Eu]
def CG(a:aW):cz T .neq 9 (.str a) (.str a)=some (.bool false):=ZP
def CF(a:Int):cz T .neq 3 (.int .i64 a) (.int .i64 a)=some (.bool false):=ZP
def NS(a:Int):cz T .neq 30 (.int .i64 a) (.int .i64 a)=some (.bool false):=ZP
theorem J5(a:Bool):cz T .neq 4 (.bool a) (.bool a)=some (.bool false):=by
 have e:cz T .neq 4 (.bool a) (.bool a)=some (.bool (a != a)):=rfl
 grind
def Wy(l:List Vars)(hl:l.length<=4611686018427387904)(h:∀w∈l,zf w.values):af pg 26 [br l,br l]=am (.bool true):=by
 have hh:=gO (FL26_0 (af pg)) (fun k=>[br l,br l,.int .i64 (k:Int)]) l.length (by
  simp_all[L26_0]) (fun k hk=>by
  have h1:(k:Int)<(l.length:Int):=ZL
  have i1:=Hl hk;have hw:IntKind.i64.wrap ((k:Int)+1)=((k+1:Nat):Int):=aV ZL;have m1:l[k]! ∈l:=by rw[Xv l k hk];exact XB hk
  have f1:=SD _ (h _ m1);generalize l[k]! = w at i1 f1;simp -implicitDefEqProofs only[L26_0,ao,au,Hy,aB,ae,ai,Xp,Xr h1,i1,Re,Se,CG,Np,NH,f1,dq,aj,bc,XH,aG,ao,dW,YQ,Xo,Xu,bj,hw])
 have hh':ak (L26_0 (af pg) ak) [br l,br l,.int .i64 0]=_:=hh;rw[C26,show cl aE (br l)=br l by simp];simp_all[S26]
section
variable (c:Ap.Call)
theorem UK:ah T 127 (.ip (aa c.av)) 0=some (.ip ((aa c.av).drop 0)):=rfl
theorem UL:ah T 127 (.ip (aa c.av)) 1=some (.ip ((aa c.av).drop 1)):=rfl
theorem Vo:ax T 9 (.ip ((aa c.av).drop 0))=some (.str c.module):=rfl
theorem Vp:ax T 9 (.ip ((aa c.av).drop 1))=some (.str c.func):=rfl
end
def W1(l:List Ap.Call)(hl:l.length<=4611686018427387904)(h:∀w∈l,zf w.args):af pg 35 [calls l,calls l]=am (.bool true):=by
 have hh:=gO (FL35_0 (af pg)) (fun k=>[calls l,calls l,.int .i64 (k:Int)]) l.length (by
  simp_all[L35_0]) (fun k hk=>by
  have h1:(k:Int)<(l.length:Int):=ZL
  have i1:=Ts (l:=l) (n:=(k:Int)) ZL h1;rw[Xw]at i1;have hw:IntKind.i64.wrap ((k:Int)+1)=((k+1:Nat):Int):=aV ZL;have m1:l[k]! ∈l:=by rw[Xv l k hk];exact XB hk
  have f1:=SD _ (h _ m1);generalize l[k]! = w at i1 f1;simp -implicitDefEqProofs only[L35_0,ao,au,Si,aB,ae,ai,Xp,Xr h1,i1,UK,Vo,CG,UL,Vp,UM,Vq,f1,dq,aj,bc,XH,aG,ao,dW,YQ,Xo,Xu,bj,hw])
 have hh':ak (L35_0 (af pg) ak) [calls l,calls l,.int .i64 0]=_:=hh;rw[C35,show cl aE (calls l)=calls l by simp];simp_all[S35]
def Wx(l:List Int)(hl:l.length<=4611686018427387904):af pg 17 [ints l,ints l]=am (.bool true):=by
 have hh:=gO (FL17_0 (af pg)) (fun k=>[ints l,ints l,.int .i64 (k:Int)]) l.length (by
  simp_all[L17_0]) (fun k hk=>by
  have h1:(k:Int)<(l.length:Int):=ZL
  have i1:=Hk hk;have hw:IntKind.i64.wrap ((k:Int)+1)=((k+1:Nat):Int):=aV ZL;simp_all[L17_0])
 have hh':ak (L17_0 (af pg) ak) [ints l,ints l,.int .i64 0]=_:=hh;rw[C17,show cl aE (ints l)=ints l by simp];simp_all[S17]
theorem QM(d:Deed):cz T .neq 102 d.av d.av=some (.bool false):=by
 have e2:∀n a,qI T (n+1) 3 (.int .i64 a) (.int .i64 a)=some true:=fun n a=>by
  have:qI T (n+1) 3 (.int .i64 a) (.int .i64 a)=some (a== a):=rfl
  grind
 have e:cz T .neq 102 d.av d.av=(qI T 20 102 d.av d.av).map fun b=>AV.bool !b:=rfl;have f:qI T 20 102 d.av d.av=(match qI T 18 3 (.int .i64 d.effect) (.int .i64 d.effect)with
   | some true=>(match qI T 17 3 (.int .i64 d.arg) (.int .i64 d.arg)with
    |some true=>(match qI T 16 3 (.int .i64 d.answer) (.int .i64 d.answer)with
     |some true=>some true
     |some false=>some false
     |none=>none)
    |some false=>some false
    |none=>none)
   |some false=>some false
   |none=>none):=rfl
 grind
structure CmpO (o:Out):Prop where
 value:o.value.sz<=4611686018427387904
 deeds:o.deeds.length<=4611686018427387904
 calls:o.calls.length<=4611686018427387904/\∀c∈o.calls,zf c.args
 state:o.state.length<=4611686018427387904/\∀w∈o.state,zf w.values
section
variable (o:Out)
theorem UQ:ah T 37 (.ip (aa o.av)) 0=some (.ip ((aa o.av).drop 0)):=rfl
theorem US:ah T 37 (.ip (aa o.av)) 1=some (.ip ((aa o.av).drop 1)):=rfl
theorem Nl:ah T 37 (.ip (aa o.av)) 2=some (.ip ((aa o.av).drop 5)):=rfl
theorem UT:ah T 37 (.ip (aa o.av)) 3=some (.ip ((aa o.av).drop 6)):=rfl
theorem UU:ah T 37 (.ip (aa o.av)) 4=some (.ip ((aa o.av).drop 7)):=rfl
theorem Vz:ax T 30 (.ip ((aa o.av).drop 0))=some (.int .i64 o.err):=rfl
theorem VA:ax T 33 (.ip ((aa o.av).drop 1))=some o.value.av:=by
 simp_all
theorem NF:ax T 34 (.ip ((aa o.av).drop 5))=some (deeds o.deeds):=rfl
theorem VB:ax T 35 (.ip ((aa o.av).drop 6))=some (calls o.calls):=rfl
theorem VD:ax T 28 (.ip ((aa o.av).drop 7))=some (br o.state):=rfl
end
theorem RY(d:Deed):ax T 102 (.ip (aa d.av))=some d.av:=rfl
def Ww(o:Out)(h:CmpO o):af pg 14 [o.av,o.av]=am (.bool true):=by
 have c1:=W1 o.calls h.calls.1 h.calls.2;have c2:=Wy o.state h.state.1 h.state.2;have c3:=WB o.value o.value h.value;rw[uU]at c3;have hd:=h.deeds;have hh:=gO (FL14_0 (af pg)) (fun k=>[.ip (aa o.av),.ip (aa o.av),.int .i64 (k:Int)]) o.deeds.length (by
  have h1:¬((o.deeds.length:Int)<(o.deeds.length:Int)):=ZL
  simp -implicitDefEqProofs only[L14_0,ao,au,Nl,NF,Hx,aB,ae,ai,Xp,Xn h1,UT,VB,c1,UU,VD,c2,aG,aj,bN,Ym]) (fun k hk=>by
  have h1:(k:Int)<(o.deeds.length:Int):=ZL
  have i1:=Tr (l:=o.deeds) (n:=(k:Int)) ZL h1;rw[Xw]at i1;have hw:IntKind.i64.wrap ((k:Int)+1)=((k+1:Nat):Int):=aV ZL;generalize o.deeds[k]! = w at i1;simp -implicitDefEqProofs only[L14_0,ao,au,Nl,NF,Hx,aB,ae,ai,Xp,Xr h1,i1,RY,QM,Xo,Xu,bj,hw])
 have hh':ak (L14_0 (af pg) ak) [.ip (aa o.av),.ip (aa o.av),.int .i64 0]=_:=hh;rw[C14,show cl aE o.av=o.av by simp];simp -implicitDefEqProofs only[S14,UQ,Vz,ae,NS,Nl,NF,Hx,CF,US,VA,c3,aj,bc,XH,aG,ao,dW,YQ,ai,Xo,Xu,hh'];simp_all
structure CmpP (p:Proc):Prop where
 mods:p.mods.length<=4611686018427387904/\∀m∈p.mods,m.Lim
 state:p.state.length<=4611686018427387904/\∀w∈p.state,zf w.values
 frames:p.frames.length<=4611686018427387904/\∀f∈p.frames,zf f.locals/\zf f.stack
 world:p.world.length<=4611686018427387904
 out:CmpO p.out
theorem R8(p:Proc):ax T 37 (.ip ((aa p.av).drop 4))=some p.out.av:=rfl
def r8(p:Proc)(h:CmpP p):af pg 8 [p.av,p.av]=am (.bool true):=by
 have c1:=Wx p.world h.world;have c2:=Wy p.state h.state.1 h.state.2;have c3:=Ww p.out h.out;have hf:=h.frames.1;have hm:=h.mods.1;have cf:∀f:Frm,cg 5 f.av=am (.agg (aa f.av)):=fun f=>aZ rfl;have h0:=gO (FL8_0 (af pg)) (fun k=>[.ip (aa p.av),.ip (aa p.av),.int .i64 (k:Int)]) p.frames.length (by
  have h1:¬((p.frames.length:Int)<(p.frames.length:Int)):=ZL
  simp -implicitDefEqProofs only[L8_0,ao,au,EV,Ff,uq,aB,ae,ai,Xp,Xn h1,Nn,R8,c3,aj]) (fun k hk=>by
  have h1:(k:Int)<(p.frames.length:Int):=ZL
  have i1:=Hj hk;have hw:IntKind.i64.wrap ((k:Int)+1)=((k+1:Nat):Int):=aV ZL;have m1:p.frames[k]! ∈p.frames:=by rw[Xv _ k hk];exact XB hk
  have f1:=SD _ (h.frames.2 _ m1).1;have f2:=SD _ (h.frames.2 _ m1).2;generalize p.frames[k]! = w at i1 f1 f2;simp -implicitDefEqProofs only[L8_0,ao,au,EV,Ff,uq,aB,ae,ai,Xp,Xr h1,i1,Vs,cf,aj,aI,Jz,JM,CG,Nj,ND,aG,dW,EU,Fc,CF,Q7,RZ,f1,bc,XH,GU,Hq,f2,YQ,Xo,Xu,bj,hw])
 have h0':ak (L8_0 (af pg) ak) [.ip (aa p.av),.ip (aa p.av),.int .i64 0]=_:=h0;have h2:=gO (FL8_1 (af pg)) (fun k=>[.ip (aa p.av),.ip (aa p.av),.int .i64 (k:Int)]) p.mods.length (by
  have h1:¬((p.mods.length:Int)<(p.mods.length:Int)):=ZL
  simp -implicitDefEqProofs only[L8_1,ao,au,GV,Ht,pU,aB,ae,ai,Xp,Xn h1,h0']) (fun k hk=>by
  have h1:(k:Int)<(p.mods.length:Int):=ZL
  have i1:=Ao hk;have hw:IntKind.i64.wrap ((k:Int)+1)=((k+1:Nat):Int):=aV ZL;have m1:p.mods[k]! ∈p.mods:=by rw[Xv _ k hk];exact XB hk
  have f1:=t27 _ (h.mods.2 _ m1);generalize p.mods[k]! = w at i1 f1;simp -implicitDefEqProofs only[L8_1,ao,au,GV,Ht,pU,aB,ae,ai,Xp,Xr h1,i1,Tg,f1,dq,aj,bc,XH,Xo,Xu,bj,hw])
 have h2':ak (L8_1 (af pg) ak) [.ip (aa p.av),.ip (aa p.av),.int .i64 0]=_:=h2;rw[C8,sL];simp -implicitDefEqProofs only[S8,GV,Ht,ae,pU,CF,EV,Ff,uq,aG,aj,ao,dW,GW,JN,J5,Rq,R7,c1,bc,XH,Nm,NG,c2,YQ,ai,Xo,Xu,h2'];simp_all
structure Goes (k:Nat) (p:Proc):Prop where
 right:RightP p
 lim:∀m∈p.mods,m.Lim
 few:∀m∈p.mods,∀f∈m.funcs,dO 12 f.body<=1000
 sz:SzP k p
def Goes.pbd{k:Nat}{p:Proc}(G:Goes k p):PBd p.mods:=(pW G.right.load G.few).1
def Goes.ostate{k:Nat}{p:Proc}(G:Goes k p):p.out.state.length<=1000000/\∀w∈p.out.state,w.values.length<=1000000/\∀v∈w.values,Rv v:=by
 rcases G.sz.ostate with h|h
 ·grind
 ·exact jz G.pbd h
def qj{v:Val}(h:Rv v):v.sz<=4611686018427387904:=XM (uQ h) ZM
def Goes.opB{k:Nat}{p:Proc}(G:Goes k p)(hk:k<=1000000):OpB p:=by
 have P:=G.pbd;have hst:=jz P G.right.st;have hfr:=mP G.right P;have hlen:=G.right.len;have hval:=sg G.sz.value;have h8:=pp G.sz.value;have hos:=G.ostate;exact⟨⟨P.len,⟨hst.1,fun w hw=>(hst.2 w hw).1⟩,⟨ZL,fun f hf=>⟨(hfr f hf).1.2,(hfr f hf).1.1⟩⟩,G.sz.world,by have:=G.sz.deeds;omega,by have:=G.sz.calls;omega,hos.1,fun w hw=>(hos.2 w hw).1⟩,G.lim,G.few,
  fun m hm=>by have:=P.vars m hm;omega,fun w hw v hv=>qj ((hst.2 w hw).2 v hv),fun f hf=>⟨fun v hv=>qj ((hfr f hf).2.2 v hv),fun v hv=>qj ((hfr f hf).2.1 v hv)⟩,ZL,ZL⟩
def Goes.cmp{k:Nat}{p:Proc}(G:Goes k p)(hk:k<=1000000):CmpP p:=by
 have P:=G.pbd;have hst:=jz P G.right.st;have hfr:=mP G.right P;have hlen:=G.right.len;have hos:=G.ostate;have hp:=P.len;exact⟨⟨ZL,G.lim⟩,⟨ZL,fun w hw=>⟨ZN,fun v hv=>qj ((hst.2 w hw).2 v hv)⟩⟩,⟨ZL,fun f hf=>⟨⟨ZN,fun v hv=>qj ((hfr f hf).2.2 v hv)⟩,⟨ZN,fun v hv=>qj ((hfr f hf).2.1 v hv)⟩⟩⟩,by have:=G.sz.world;omega,
  ⟨qj G.sz.value,by have:=G.sz.deeds;omega,⟨by have:=G.sz.calls;omega,fun c hc=>⟨by have:=(G.sz.args c hc).1;omega,fun v hv=>qj ((G.sz.args c hc).2 v hv)⟩⟩,ZL,fun w hw=>⟨ZN,fun v hv=>qj ((hos.2 w hw).2 v hv)⟩⟩⟩
def Goes.run{k:Nat}{p:Proc}(G:Goes k p)(n:Nat):Goes (k+n) (fc n p):=by
 obtain⟨a,b⟩:=Ij n G.right G.pbd G.sz;exact⟨vA n G.right,by rw[b];exact G.lim,by rw[b];exact G.few,a⟩
def Goes.step{k:Nat}{p:Proc}(G:Goes k p)(he:p.ended=false):Goes (k+1) (jW p):=by
 have:=G.run 1
 rw[show fc 1 p=jW p by rw[mb (by rw[he];decide)];rfl]at this;exact this
def Goes.rightB{k:Nat}{p:Proc}(G:Goes k p):gL p=true:=xq.2 G.right
def Goes.tRun{k:Nat}{p:Proc}(G:Goes k p)(hk:k<=400000){n:Nat}(hn:n<=100000):af pg 9 [p.av,.int .i64 n]=am (.tup [(fc n p).av,.int .i64 (if(fc n p).ended=true then 0 else 16)]):=by
 rw[t9 p n (G.opB ZL) (fun _ _=>G.sz.mono ZL)];unfold sJ;rw[Xr ⟨G.rightB,ZL,ZL⟩,Xw]
def Goes.tStep{k:Nat}{p:Proc}(G:Goes k p)(hk:k<=400000):af pg 11 [p.av]=am (.tup [(if p.ended=true then p else jW p).av,.int .i64 (if p.ended=true then 7 else 0)]):=by
 rw[t11 p (G.opB ZL) (fun _ _=>G.sz.mono ZL)];unfold Ei;rw[Xr G.rightB]
 grind
def Goes.tRight{k:Nat}{p:Proc}(G:Goes k p)(hk:k<=400000):af pg 10 [p.av]=am (.bool true):=by rw[t10 p (G.opB ZL),G.rightB]
def Goes.tSame{k:Nat}{p:Proc}(G:Goes k p)(hk:k<=400000):af pg 8 [p.av,p.av]=am (.bool true):=r8 p (G.cmp ZL)
def M4:CmpP p0:=⟨⟨XJ _,fun m hm=>(by cases hm)⟩,⟨XJ _,fun m hm=>(by cases hm)⟩,⟨XJ _,fun m hm=>(by cases hm)⟩,XJ _,⟨ZM,XJ _,⟨XJ _,fun m hm=>(by cases hm)⟩,⟨XJ _,fun m hm=>(by cases hm)⟩⟩⟩
def Km:af pg 8 [p0.av,p0.av]=am (.bool true):=r8 p0 M4
def Dn(p:Proc):cg 13 p.av=am (.agg (aa p.av)):=aZ rfl
theorem KO(a b:Int):cz T .eql 30 (.int .i64 a) (.int .i64 b)=some (.bool (a== b)):=rfl
theorem HK(a b:Int):cz T .neq 30 (.int .i64 a) (.int .i64 b)=some (.bool (a != b)):=rfl
def ve{p:List Ap.Mod}{s t:aW}{args:List Val}{w:List Int}{q:Proc}(h:gu p s t args w= .ok q)(hL:∀m∈p,m.Lim)(hc:∀m∈p,∀f∈m.funcs,∀d,dO d f.body<=120)(ha:args.length<=1000000)(hw:w.length<=1000000):Goes 1 q/\q.ended=false:=by
 obtain⟨H,he⟩:=Bd h;obtain⟨S,hm⟩:=Iw h ha hw;exact⟨⟨H,ZN,ZN,S⟩,he⟩
end Go.Proofs.YtbndmpiddinalaaGreatDoor
namespace Go.Proofs.YtbndmpiddinalaaGreatDoor
open Go Go.Av Go.Av.Ap
set_option maxRecDepth 1000000
def Is:List UInt8:=[109,111,100,117,108,101,32,109,32,59,32,118,97,114,32,110,32,105,110,116,32,61,32,53,32,59,32,112,117,98,32,102,110,32,102,32,40,32,107,32,105,110,116,32,41,32,105,110,116,32,33,32,110,101,116,32,61,32,115,101,116,32,110,32,103,101,116,32,110,32,43,32,110,101,116,32,40,32,107,32,41,32,59]
def I2:Ty:=.mk 0 []
def OP:Exp:=.mk 18 0 [110] [] [] [.mk 3 0 [] [] [] [.mk 17 0 [110] [] [] [],.mk 16 2 [] [] [] [.mk 2 0 [107] [] [] []]]]
def rk:Ap.Mod:=⟨[109],[],[([110],I2)],[.mk 0 5 [] [] [] []],[⟨[102],true,[([107],I2)],I2,2,OP⟩],false,[],[],[]⟩
noncomputable def WA:R AV:=eu pg 80 12 [.str Is] []
noncomputable def Oe:AV:=match WA with
 |.ok (.tup [_,v,_]) _=>v
 |_=>.any
noncomputable def Tk:Hp:=match WA with
 |.ok _ h=>h
 |_=>[]
def oA:AV:=.agg [.str [109],.sl [],bR rk.vars,df rk.init,iN rk.funcs,.bool false,.hn,.hn,.hn]
def HR:eu pg 80 12 [.str Is] []= .ok (.tup [oA,Oe,.int .i64 0]) Tk:=ZR
def Kc:af pg 12 [.str Is] []= .ok (.tup [oA,Oe,.int .i64 0]) Tk:=zB gZ HR ZO
def Od:Proc:=⟨[rk],[⟨[109],[cp 5]⟩],[⟨[109],[102],0,[cp 2],[]⟩],[7,8],⟨0,default,[],[⟨[109],[102],[cp 2]⟩],[]⟩,false⟩
def smA:Proc:=⟨[rk],[⟨[109],[cp 12]⟩],[],[8],⟨0,cp 12,[⟨2,2,7⟩],[⟨[109],[102],[cp 2]⟩],[⟨[109],[cp 12]⟩]⟩,true⟩
def Oc:Proc:=⟨[rk],[⟨[109],[cp 5]⟩],[⟨[109],[102],3,[cp 2],[cp 5,cp 7]⟩],[8],⟨0,default,[⟨2,2,7⟩],[⟨[109],[102],[cp 2]⟩],[]⟩,false⟩
def Bc:gu [rk] [109] [102] [cp 2] [7,8]= .ok Od:=ZR
def FH:gu [rk] [109] [102] [] []= .error 13:=ZR
def FI:gu [rk] [109] [103] [] []= .error 4:=ZR
def Eh:fc 6 Od=smA:=ZR
def Kq:fc 3 Od=Oc:=ZR
def FF:gL p0=false:=ZR
def FG:eu pg 80 15 [mods [rk],.str [109],.str [102],vals [cp 2],ints [7,8],.int .i64 100] []= .ok smA.out.av []:=ZR
theorem Eg:I2.Lim:=Ty.lim_mk ZM (fun v hv=>by cases hv)
def D3{x:fu}(h:x∈[(([110]:aW),I2)]\/x∈[(([107]:aW),I2)]):x.2.Lim:=by
 grind [Eg]
def Kn:OP.Lim:=by
 have e2:(Exp.mk 2 0 [107] [] [] []).Lim:=Exp.lim_mk ZM ZM (fun v hv=>by cases hv);have e17:(Exp.mk 17 0 [110] [] [] []).Lim:=Exp.lim_mk ZM ZM (fun v hv=>by cases hv);have e16:(Exp.mk 16 2 [] [] [] [.mk 2 0 [107] [] [] []]).Lim:=Exp.lim_mk ZM ZM (fun v hv=>ZN);have e3:(Exp.mk 3 0 [] [] [] [.mk 17 0 [110] [] [] [],.mk 16 2 [] [] [] [.mk 2 0 [107] [] [] []]]).Lim:=Exp.lim_mk ZM ZM (fun v hv=>by
  grind)
 exact Exp.lim_mk ZM ZM (fun v hv=>ZN)
def yR:∀m∈[rk],m.Lim:=by
 intro m hm;rw[Yk]at hm;subst hm;refine⟨ZM,ZM,fun x hx=>D3 (.inl hx),ZM,fun e he=>?_,ZM,fun f hf=>?_,ZM,fun x hx=>(by cases hx),ZM,fun x hx=>(by cases hx),ZM,fun x hx=>(by cases hx)⟩
 ·rw[show rk.init=[Exp.mk 0 5 [] [] [] []]from rfl,Yk]at he
  grind [Exp.lim_mk]
 ·rw[show rk.funcs=[⟨[102],true,[([107],I2)],I2,2,OP⟩]from rfl,Yk]at hf;subst hf;exact⟨ZM,fun x hx=>D3 (.inr hx),Eg,Kn⟩
def It:∀m∈[rk],∀f∈m.funcs,∀d,dO d f.body<=120:=by
 intro m hm f hf d;rw[Yk]at hm;subst hm;rw[show rk.funcs=[⟨[102],true,[([107],I2)],I2,2,OP⟩]from rfl,Yk]at hf;subst hf;show dO d OP<=120
 have h:∀d (e:Exp) (n:Nat),(∀x∈e.args,∀k,dO k x<=n)->e.args.length<=2->dO d e<=1+2*n:=by
  intro d e n hx hl;cases d with
  |zero=>simp[dO]
  | succ d=>
   have:(e.args.map (dO d)).sum<=e.args.length*n:=by
    have key:∀l:List Exp,(∀x∈l,∀k,dO k x<=n)->(l.map (dO d)).sum<=l.length*n:=by
     intro l
     induction l with
     |nil=>intro _;simp
     |cons x l ih=>
      grind [Nat.add_mul]
    exact key e.args hx
   have h2:e.args.length*n<=2*n:=Xy _ hl;simp only[dO];omega
 have l0:∀(a b:Int) (s:aW) k,dO k (.mk a b s [] [] [])<=1:=fun a b s k=>h k _ 0 (fun x hx=>by cases hx) ZP;have l1:∀k,dO k (.mk 16 2 [] [] [] [.mk 2 0 [107] [] [] []])<=3:=fun k=>h k _ 1 (fun x hx=>by
  simp_all) ZP
 have l2:∀k,dO k (.mk 3 0 [] [] [] [.mk 17 0 [110] [] [] [],.mk 16 2 [] [] [] [.mk 2 0 [107] [] [] []]])<=7:=fun k=>h k _ 3 (fun x hx j=>by
  have hx:x∈[Exp.mk 17 0 [110] [] [] [],.mk 16 2 [] [] [] [.mk 2 0 [107] [] [] []]]:=hx
  grind) ZP
 exact XM (h d OP 7 (fun x hx=>by
  have hx:x∈[Exp.mk 3 0 [] [] [] [.mk 17 0 [110] [] [] [],.mk 16 2 [] [] [] [.mk 2 0 [107] [] [] []]]]:=hx
  grind) (by show (1:Nat)<=2;decide)) ZM
def Ko:Goes 1 Od:=(ve Bc yR It ZM ZM).1
def Iu:af pg 15 [mods [rk],.str [109],.str [102],vals [cp 2],ints [7,8],.int .i64 100]=am smA.out.av:=by
 have h1:=zB gZ FG ZO;have e:=C15 (mods [rk]) (.str [109]) (.str [102]) (vals [cp 2]) (ints [7,8]) (.int .i64 100);rw[e]at h1 |-;funext h;generalize S15 (af pg) ak (cl aE (mods [rk])) (cl aE (.str [109])) (cl aE (.str [102])) (cl aE (vals [cp 2])) (cl aE (ints [7,8])) (cl aE (.int .i64 100))=m at h1 |-;unfold be at h1 |-;cases hm:m []with
 |ok v h'=>
  rw[hm]at h1;simp only[R.ok.injEq]at h1;show R.ok (frz 6 h' v) h=_;rw[h1.1];rfl
 |pan v h'=>grind
 |fail=>grind
def t13(n:Int):af pg 13 [.int .i64 n]=am (cp n).av:=by
 rw[C13];exact gB (h':=[]) rfl rfl
theorem FJ:af pg 4 []=am (.bool true):=by
 have hcl:cl aE (.sl [oA])=cl aE (mods [rk]):=by rfl
 have st1:∀a b c d,af pg 7 [.sl [oA],a,b,c,d]=af pg 7 [mods [rk],a,b,c,d]:=fun a b c d=>by rw[C7,C7,hcl]
 have rn1:∀a b c d e,af pg 15 [.sl [oA],a,b,c,d,e]=af pg 15 [mods [rk],a,b,c,d,e]:=fun a b c d e=>by rw[C15,C15,hcl]
 have hv2:∀v∈[cp 2],v.sz<=4611686018427387904:=fun v hv=>by rw[Yk]at hv;subst hv;decide
 have cn:=fun m hm f hf=>XM (It m hm f hf 12) (by decide:120<=1000);have e3:=t7 [rk] [109] [102] [cp 2] [7,8] yR cn ⟨ZM,hv2⟩ ZM;have e4:=t7 [rk] [109] [102] [] [] yR cn ⟨ZM,fun v hv=>(by cases hv)⟩ ZM;have e5:=t7 [rk] [109] [103] [] [] yR cn ⟨ZM,fun v hv=>(by cases hv)⟩ ZM;unfold iL at e3 e4 e5;rw[Bc]at e3;rw[FH]at e4;rw[FI]at e5;have e3:af pg 7 [mods [rk],.str [109],.str [102],vals [cp 2],ints [7,8]]=am (.tup [Od.av,.int .i64 0]):=e3;have e4:af pg 7 [mods [rk],.str [109],.str [102],.sl [],.sl []]=am (.tup [p0.av,.int .i64 13]):=e4;have e5:af pg 7 [mods [rk],.str [109],.str [103],.sl [],.sl []]=am (.tup [p0.av,.int .i64 4]):=e5;have G:=Ko;have GA:Goes 7 smA:=by have:=G.run 6;rw[Eh]at this;exact this
 have r6:=G.tRun ZM (n:=6) ZM;have r3:=G.tRun ZM (n:=3) ZM;rw[Eh]at r6;rw[Kq]at r3;have r6:af pg 9 [Od.av,.int .i64 6]=am (.tup [smA.av,.int .i64 0]):=r6;have r3:af pg 9 [Od.av,.int .i64 3]=am (.tup [Oc.av,.int .i64 16]):=r3;have sA:=GA.tStep ZM;have sA:af pg 11 [smA.av]=am (.tup [smA.av,.int .i64 7]):=sA;have q1:=G.tRight ZM;have q2:=GA.tRight ZM;have q3:af pg 10 [p0.av]=am (.bool false):=by
  rw[t10 p0 ⟨⟨ZM,⟨ZM,fun w hw=>(by cases hw)⟩,⟨ZM,fun w hw=>(by cases hw)⟩,ZM,ZM,ZM,⟨ZM,fun w hw=>(by cases hw)⟩⟩,fun m hm=>(by cases hm),fun m hm=>(by cases hm),fun m hm=>(by cases hm),fun m hm=>(by cases hm),fun m hm=>(by cases hm),⟨ZM,ZM⟩⟩,FF]
 have so:=Ww smA.out (GA.cmp ZM).out;have v57:=SD [cp 5,cp 7] ⟨ZM,fun v hv=>by
  rcases XZ.1 hv with rfl|hv
  ·decide
  ·rw[Yk]at hv;subst hv;decide⟩
 have i8:=Wx [8] ZM;have cMh:cg 9 oA=am oA:=aZ rfl;have bM:aP T 22 1 [(0,oA)]=some (.sl [oA]):=rfl;have bV:aP T 23 1 [(0,(cp 2).av)]=some (vals [cp 2]):=rfl;have bW:aP T 23 2 [(0,(cp 5).av),(1,(cp 7).av)]=some (vals [cp 5,cp 7]):=rfl;have bI:aP T 24 2 [(0,.int .i64 7),(1,.int .i64 8)]=some (ints [7,8]):=rfl;have bJ:aP T 24 1 [(0,.int .i64 8)]=some (ints [8]):=rfl;have lMh:ax T 53 (.ip (aa oA))=some oA:=rfl;have x0:dt (.tup [oA,Oe,.int .i64 0]) 0=some oA:=rfl;have x1:dt (.tup [oA,Oe,.int .i64 0]) 1=some Oe:=rfl;have x2:dt (.tup [oA,Oe,.int .i64 0]) 2=some (.int .i64 0):=rfl;have t1:S4 (af pg) ak []= .ok (.bool true) Tk:=by
  rw[S4];have pw:af pg 12 [.str [109,111,100,117,108,101,32,109,32,59,32,118,97,114,32,110,32,105,110,116,32,61,32,53,32,59,32,112,117,98,32,102,110,32,102,32,40,32,107,32,105,110,116,32,41,32,105,110,116,32,33,32,110,101,116,32,61,32,115,101,116,32,110,32,103,101,116,32,110,32,43,32,110,101,116,32,40,32,107,32,41,32,59]] []= .ok (.tup [oA,Oe,.int .i64 0]) Tk:=Kc;rw[ap pw];simp -implicitDefEqProofs only[x0,x1,x2,ae,cMh,aj,lMh,bM,t13,bV,bI,st1,e3,vF,vG,Dn,aI,DN,r6,r3,sA,e4,e5,q1,q2,jj,q3,rn1,Iu,dq,Nn,R8,so,bW,bJ];have y1:bm T 29 (lx Oc.frames)=some (.int .i64 1):=rfl;have y2:bm T 28 (br Oc.state)=some (.int .i64 1):=rfl;have y3:aA T 29 (lx Oc.frames) (.int .i64 0)=some (.ip (aa (Frm.av ⟨[109],[102],3,[cp 2],[cp 5,cp 7]⟩))):=rfl;have y4:aA T 28 (br Oc.state) (.int .i64 0)=some (.ip (aa (Vars.av ⟨[109],[cp 5]⟩))):=rfl;have y5:bm T 23 (vals [cp 5])=some (.int .i64 1):=rfl;have y6:aA T 23 (vals [cp 5]) (.int .i64 0)=some (.ip (aa (cp 5).av)):=rfl;have z1:((1:Int) != 1)=false:=rfl;simp -implicitDefEqProofs only[Nm,NG,EV,Ff,Rq,R7,ae,y1,y2,y3,y4,gw,z1,bn,aj,ao,ca,ai,Xo,Xu,Np,NH,y5,EU,Fc,GU,Hq,v57,i8,y6];have bt:∀(a:Int),(a== a)=true:=fun a=>XR a;have eA:smA.ended=true:=rfl;have wB:Oc.world=[8]:=rfl;have fV1:ah T 33 (.ip ((aa smA.av).drop 5)) 1=some (.ip ((aa smA.av).drop 6)):=rfl;have lV1:ax T 3 (.ip ((aa smA.av).drop 6))=some (.int .i64 12):=rfl;have fW1:ah T 33 (.ip (aa (cp 5).av)) 1=some (.ip ((aa (cp 5).av).drop 1)):=rfl;have lW1:ax T 3 (.ip ((aa (cp 5).av).drop 1))=some (.int .i64 5):=rfl;have un:Kz .not (.bool false)=some (.bool true):=rfl;simp -implicitDefEqProofs only[aH,bt,eA,fV1,lV1,bn,cw,ao,dq,GW,Q8,ae,aj,i8,wB,fW1,lW1,un];rfl
 rw[C4];exact gB t1 rfl
end Go.Proofs.YtbndmpiddinalaaGreatDoor
namespace Go.Proofs.YtbndmpiddinalaaGreatDoor
open Go Go.Av Go.Av.Ap
set_option maxRecDepth 100000
theorem t3(p:List Ap.Mod)(s t:aW)(args:List Val)(w:List Int)(n k:Int)(hp:p.length<=140737488355328)(hL:∀m∈p,m.Lim)(hA:Bw args):af pg 3 [mods p,.str s,.str t,vals args,ints w,.int .i64 n,.int .i64 k]=am (.bool true):=by
 obtain⟨b1,e1,q1⟩:=t5 p hp hL;obtain⟨b2,e2,q2⟩:=t6 args 8 ZM hA;have e2:af pg 6 [vals args,.int .i64 8]=am (.bool b2):=e2;rw[C3,show cl aE (mods p)=mods p by simp,show cl aE (.str s)= .str s from rfl,show cl aE (.str t)= .str t from rfl,show cl aE (vals args)=vals args by simp,show cl aE (ints w)=ints w by simp,show cl aE (.int .i64 n)= .int .i64 n from rfl,show cl aE (.int .i64 k)= .int .i64 k from rfl];have fin:S3 (af pg) ak (mods p) (.str s) (.str t) (vals args) (ints w) (.int .i64 n) (.int .i64 k)=am (.bool true):=by
  simp -implicitDefEqProofs only[S3,FJ,aj,e1,ae,bc,e2,aG,ao,dW,JP,dQ,aB];cases hg:(!b1||!b2||decide (30<(w.length:Int))||decide (n<0)||decide (100<n)||decide (k<0)||decide (100<k))with
  |true=>simp -implicitDefEqProofs only[ai,XA]
  | false=>
   simp only[YC,XX,Zq]at hg;obtain⟨⟨⟨⟨⟨⟨g1,g2⟩,g3⟩,g4⟩,g5⟩,g6⟩,g7⟩:=hg;obtain⟨_,hc⟩:=q1 g1;obtain⟨hal,hav⟩:=q2 g2;obtain⟨n',rfl⟩:∃m:Nat,n=(m:Int):=⟨n.toNat,ZL⟩;obtain⟨k',rfl⟩:∃m:Nat,k=(m:Int):=⟨k.toNat,ZL⟩;have hn:n'<=100:=ZL
   have hk:k'<=100:=ZL
   have hw:w.length<=1000000:=ZL
   have e3:=t7 p s t args w hL (fun m hm f hf=>XM (hc m hm f hf 12) ZM) ⟨ZL,fun v hv=>(hav v hv).1⟩ hw;unfold iL at e3;simp -implicitDefEqProofs only[ai,Xo,Xu];cases hs:gu p s t args w with
   | error e=>
    rw[hs]at e3;have e3:af pg 7 [mods p,.str s,.str t,vals args,ints w]=am (.tup [p0.av,.int .i64 e]):=e3;have hne:(e != 0)=true:=by
     have:=FK hs
     simpa using this
    simp -implicitDefEqProofs only[e3,aj,vF,vG,ae,Dn,HK,hne,ai,XA,aI,DN,jj,Km,aG,ao,bN,Ym]
   | ok q=>
    rw[hs]at e3;have e3:af pg 7 [mods p,.str s,.str t,vals args,ints w]=am (.tup [q.av,.int .i64 0]):=e3;obtain⟨G,hqe⟩:=ve hs hL hc ZL hw;have Ga:=G.run n';have Gb:=Ga.run k';have hadd:fc (n'+k') q=fc k' (fc n' q):=Bq n' k' q;have r1:=G.tRun ZL (n:=n') ZL;have r2:=Ga.tRun ZL (n:=k') ZL;have r3:=G.tRun ZL (n:=n'+k') ZL;rw[hadd]at r3;have hsum:IntKind.i64.wrap ((n':Int)+(k':Int))=((n'+k':Nat):Int):=by rw[aS ZL ZL];omega
    have s1:=Gb.tSame ZL;have p1:=G.tRight ZL;have p2:=Ga.tRight ZL;have p3:=Gb.tRight ZL;have d1:=Ga.tStep ZL;have d2:=Ga.tRun ZL (n:=1) ZL;have sa:=Ga.tSame ZL;have ne0:((0:Int) != 0)=false:=rfl;have hcast:((1:Nat):Int)=1:=rfl;rw[hcast]at d2;cases ha:(fc n' q).ended with
    |true=>
     have hb:fc k' (fc n' q)=fc n' q:=mQ k' ha;rw[mQ 1 ha]at d2;rw[hb]at r2 r3 p3 s1;rw[ha]at r1 r2 r3 d1 d2;generalize fc n' q=a at r1 r2 r3 s1 p2 p3 d1 d2 sa ha;have z0:((0:Int)== 0)=true:=rfl;have z7:((7:Int)== 7)=true:=rfl;simp -implicitDefEqProofs only[XA]at r1 r2 r3 d1 d2;simp -implicitDefEqProofs only[e3,aj,vF,vG,ae,Dn,HK,ne0,ai,Xo,Xu,aI,DN,r1,r2,bj,hsum,r3,p1,p2,bc,XH,aG,ao,dW,YQ,s1,KO,z0,sa,d1,d2,GW,JN,ha,XA,z7,bN,Ym];rfl
    |false=>
     have hb1:fc 1 (fc n' q)=jW (fc n' q):=by rw[mb (by rw[ha];decide)];rfl
     have Gc:=(Ga.step ha).tSame ZL;rw[hb1]at d2;rw[ha]at r1 d1;generalize hbq:fc k' (fc n' q)=b at r2 r3 p3 s1;generalize fc n' q=a at r1 r2 p2 d1 d2 sa ha Gc;have z0:((0:Int)== 0)=true:=rfl;have z16:((16:Int)== 0)=false:=rfl;have nee:∀x:Int,(x != x)=false:=fun x=>ZO
     simp -implicitDefEqProofs only[Xo,Xu]at r1 d1;simp -implicitDefEqProofs only[e3,aj,vF,vG,ae,Dn,HK,ne0,ai,Xo,Xu,aI,DN,r1,r2,bj,hsum,r3,p1,p2,p3,bc,XH,aG,ao,dW,YQ,nee,s1,KO,z16,d1,d2,GW,JN,ha,z0,Gc,XA,bN,Ym];rfl
 simp_all
end Go.Proofs.YtbndmpiddinalaaGreatDoor
namespace Go.Proofs.YtbndmpiddinalaaGreatDoor.vmSplits
open Go Go.Av Go.Av.Ap Go.ChangeShapes Go.WideShapes Go.ChangeAt Go.RowKit Go.Joins Go.Deep
set_option maxRecDepth 1000000
def kids:Kids Tryz.prog (· < Tryz.prog.types.size):=kids_rows ZR ZR
def Bb:∀t e,t<Tryz.prog.types.size->Tryz.prog.underlying t=some (.slice e)->0<Tryz.prog.cellsOf e:=slices_full_of Tryz.prog ZR
def GF(H:Type)(enc:TypeId×Value->H)(W:World)(base:Nat)(args:Array Value)(ds gs:List (DataW H))(before:List MemPlace)(hval:∀(j:Nat) t v,Tryz.f3.params[j]? = some t->args[j]? = some v->Value.okWide Tryz.prog W .any base t v)(hW:DataW.Whole enc Tryz.prog Tryz.f3.params.toList Rows.vmSplitsSpec.vars false W args.toList ds gs before)(hz:(DataW.weightsEach Tryz.prog (Tryz.f3.params.toList++Rows.vmSplitsSpec.plain.varTypes Tryz.prog) (ds++gs)).all (· <=reachBytes)=true)(hL:laidMetH Tryz.prog Rows.vmSplitsRow.laid W)(hS:W.ShapedOpen Tryz.prog):
  Calls Tryz.prog 3 args W fun e W'=>∃v,e= .returned v/\Rows.vmSplitsSpec.post enc Tryz.prog Tryz.f3 false true false false W args v W':=by
 have hW':=hW;obtain⟨p,q,hA0,hV,rfl,hfz,hnd⟩:=hW;have hA:DataW.TrodAll enc Tryz.prog W 0 (fun _=>true) true Tryz.f3.params.toList args.toList ds p:=hA0;have hA1:=hA;rw[Tryz.params3]at hA hval hz;obtain⟨v0,vs0,d0,ds0,p0,q0,ha0,rfl,rfl,h0,r0⟩:=trodAll_cons hA;obtain⟨v1,vs1,d1,ds1,p1,q1,ha1,rfl,rfl,h1,r1⟩:=trodAll_cons r0;obtain⟨v2,vs2,d2,ds2,p2,q2,ha2,rfl,rfl,h2,r2⟩:=trodAll_cons r1;obtain⟨v3,vs3,d3,ds3,p3,q3,ha3,rfl,rfl,h3,r3⟩:=trodAll_cons r2;obtain⟨v4,vs4,d4,ds4,p4,q4,ha4,rfl,rfl,h4,r4⟩:=trodAll_cons r3;obtain⟨v5,vs5,d5,ds5,p5,q5,ha5,rfl,rfl,h5,r5⟩:=trodAll_cons r4;obtain⟨v6,vs6,d6,ds6,p6,q6,ha6,rfl,rfl,h6,r6⟩:=trodAll_cons r5;obtain⟨hnil,rfl,rfl⟩:=trodAll_nil r6;subst hnil;subst ha6;subst ha5;subst ha4;subst ha3;subst ha2;subst ha1;obtain rfl:args= #[v0,v1,v2,v3,v4,v5,v6]:=ZN
 obtain⟨rfl,rfl⟩:=trodVars_none hV;obtain⟨x0,k0,o0⟩:=qA (fun N=>Ki N) Tryz.underlying22 (hval 0 22 v0 rfl rfl) h0 (gY hz (j:=0) rfl rfl);obtain⟨x1,k1,o1⟩:=Dg (fun N=>nL Tryz.underlying9) Tryz.underlying9 (hval 1 9 v1 rfl rfl) h1 (gY hz (j:=1) rfl rfl);obtain⟨x2,k2,o2⟩:=Dg (fun N=>nL Tryz.underlying9) Tryz.underlying9 (hval 2 9 v2 rfl rfl) h2 (gY hz (j:=2) rfl rfl);obtain⟨x3,k3,o3⟩:=qA (fun N=>Kj N) Tryz.underlying23 (hval 3 23 v3 rfl rfl) h3 (gY hz (j:=3) rfl rfl);obtain⟨x4,k4,o4⟩:=qA (fun N=>Kh N) Tryz.underlying24 (hval 4 24 v4 rfl rfl) h4 (gY hz (j:=4) rfl rfl);obtain⟨x5,k5,o5⟩:=Df (fun N=>mN Tryz.underlying3) Tryz.underlying3 (hval 5 3 v5 rfl rfl) h5 (gY hz (j:=5) rfl rfl);obtain⟨x6,k6,o6⟩:=Df (fun N=>mN Tryz.underlying3) Tryz.underlying3 (hval 6 3 v6 rfl rfl) h6 (gY hz (j:=6) rfl rfl);clear hA0;simp only[XN]at hW' hA1;have hlt:=hW'.lt;have hv:bA (ni W) [] [mods x0,.str x1,.str x2,vals x3,ints x4,.int .i64 x5,.int .i64 x6] [v0,v1,v2,v3,v4,v5,v6]:=by
  simp only[bA];exact⟨_,_,rfl,k0,_,_,rfl,k1,_,_,rfl,k2,_,_,rfl,k3,_,_,rfl,k4,_,_,rfl,k5,_,_,rfl,k6,rfl⟩
 refine (Fg U8 gZ (Nv hL hS) hv (by rw[t3 x0 x1 x2 x3 x4 x5 x6 o0.1 o0.2 o3];rfl)).mono fun e W' ⟨he,hb⟩=>?_;subst he;exact⟨_,rfl,vV (pv:=[]) hW' (fun _ _ _=>trodAll_cons_mk (shut_bool Tryz.underlying4 _) trodAll_mk0) (fun sp hsp=>
   BE kids Bb ZP hA1 hlt hb sp hsp) (fun _ _=>rfl) ZO
  hb (ok_one ZR rfl (okWide_bool_mk Tryz.underlying4 _))⟩
def reads(os:Os){H:Type}(enc:TypeId×Value->H):∃ds places,DataW.whole enc Tryz.prog ((qQ os).forCall (fun _ _=>0) ⟨#[],#[.slice none 0 0,.string ⟨#[]⟩,.string ⟨#[]⟩,.slice none 0 0,.slice none 0 0,.int .i64 0,.int .i64 0],[]⟩).memory Tryz.f3.params.toList Rows.vmSplitsSpec.vars false #[.slice none 0 0,.string ⟨#[]⟩,.string ⟨#[]⟩,.slice none 0 0,.slice none 0 0,.int .i64 0,.int .i64 0].toList 8=some (ds,[],places):=
 ⟨[.nil,.lit (.string []),.lit (.string []),.nil,.nil,.lit (.int .i64 0),.lit (.int .i64 0)],[],ZR⟩
def lifted(os:Os)(started:os.Started)(H:Type)(enc:TypeId×Value->H)(F:Stop.Interp):
  ReturnsInHanded {} Tryz.checked os 3 .any ((OpenSpec.ofChange Rows.vmSplitsSpec).preRow enc Tryz.prog Tryz.f3 Rows.vmSplitsRow.domain false Rows.vmSplitsRow.laid) (((OpenSpec.ofChange Rows.vmSplitsSpec).at F).post enc Tryz.prog Tryz.f3 false true false false):=by
 obtain⟨ds,places,hx⟩:=reads os enc;refine returnsInHanded_of_row (C:=Tryz.checked) (s:=OpenSpec.ofChange Rows.vmSplitsSpec) VN started ZR Tryz.func3
  (witness_row_atRef (enc:=enc) (C:=Tryz.checked) false (qQ os) #[.slice none 0 0,.string ⟨#[]⟩,.string ⟨#[]⟩,.slice none 0 0,.slice none 0 0,.int .i64 0,.int .i64 0] rfl ZR ZR ZR
   (OpenSpec.preRow_of_cond 8 hx ZR (fun k hk=>by cases hk) ZR (Hu os _))) ?_
 intro W base args ds gs before hval hW _ _ hz hL hS _;exact GF H enc W base args ds gs before hval hW hz hL hS
end Go.Proofs.YtbndmpiddinalaaGreatDoor.vmSplits
