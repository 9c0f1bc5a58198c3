/- What the functions of the seat compute, part 5: the texts of the claim, one behind the other. Conditions: bounds, as each theorem names them. -/
import Derived.Test.YtnipfhmghjdnmaaGreatTd
set_option linter.defProp false
set_option linter.unusedSimpArgs false
set_option linter.unusedVariables false
namespace Go.Proofs.YtnipfhmghjdnmaaGreat
open Go Go.Av Go.Av.Ap
set_option maxRecDepth 100000
def r8(t:Bool)(p:List Mod):AV:=if t=true then(match p with|[]=>.hn|_=>mods p)else mods p
def iD{t:Bool}{p:List Mod}(h:p≠[]):r8 t p=mods p:=by
 cases t with
 |false=>rfl
 |true=>cases p with
  |nil=>exact absurd rfl h
  |cons _ _=>rfl
def qf(t:Bool)(w:List Int):AV:=if t=true then .hn else ints w
def rowP(p:List Mod)(t:Bool)(m:Ms)(dv cv sv:AV):List AV:=[r8 t p,qf t m.world,.int .i64 m.fuel,.int .i64 m.frames,.int .i64 0,.int .i64 0,.int .i64 0,.hn,.hn,dv,cv,sv]
abbrev fo(p:List Mod)(nm:SNm):=M7 (rowP p nm.told) nm
structure LimP (p:List Mod):Prop where
 len:p.length<=1099511627776
 funcs:∀m∈p,m.funcs.length<=1099511627776/\m.vars.length<=1099511627776
def LimP.funcsAt{p:List Mod}(L:LimP p)(i:Nat):(p[i]?.getD default).funcs.length<=1099511627776/\(p[i]?.getD default).vars.length<=1099511627776:=by
 cases h:p[i]? with
 |none=>exact⟨OX _,OX _⟩
 |some m=>exact L.funcs m (Ov h)
theorem gO{α:Type}(F:α->Bool):(l:List α)->(i:Int)->bj F l i= -1\/(i<=bj F l i/\bj F l i<i+l.length)
 |[],i=>.inl rfl
 | x:: l,i=>by
  simp only[bj];split
  ·exact .inr ⟨PC _,by simp;omega⟩
  ·rcases gO F l (i+1)with h|h
   ·exact .inl h
   ·exact .inr ⟨by omega,by simp;omega⟩
def t97{p:List Mod}{nm:SNm}{m:Ms}{h:Hp}(R:fo p nm m h)(L:LimP p)(s:bk):ai pg 97 [.hp 0 0,.str s] h= .ok (.int .i64 (fG p s)) h:=by
 obtain⟨tag,dv,cv,sv,R⟩:=R;have h0:aX T 22 (.hp 0 (0+0)) h= .ok (r8 nm.told p) h:=bO rfl rfl R.r0 rfl;have hpv:∀f:AV,ai pg 72 [r8 nm.told p,f]=ai pg 72 [mods p,f]:=fun f=>by
  by_cases hp:p=[]
  ·subst hp;cases nm.told with
   |false=>rfl
   |true=>rw[C72,C72];rfl
  ·rw[iD hp]
 rw[C97];simp only[S97,aQ,am,FH141_0];rw[aZ h0,hpv]
 have:=M4 p (by have:=L.len;omega) s
 simp only[qE,this,aA];rfl
def zn:Option Fun->AV
 |some f=>.tup [f.av,.bool true]
 |none=>.tup [Fun.av default,.bool false]
theorem t98{p:List Mod}{nm:SNm}{m:Ms}{h:Hp}(R:fo p nm m h)(L:LimP p)(a:Int)(ha:a<p.length)(s:bk):ai pg 98 [.hp 0 0,.int .i64 a,.str s] h= .ok (zn (jm p a s)) h:=by
 obtain⟨tag,dv,cv,sv,R⟩:=R;have h0:p≠[]->aX T 22 (.hp 0 (0+0)) h= .ok (mods p) h:=fun hp=>bO rfl rfl R.r0 (by rw[<- iD (t:=nm.told) hp];rfl);have hz:aN T false 90 []=some (Fun.av default):=rfl;have hzz:∀f:Fun,AV.agg [nth (aa f.av) 0,nth (aa f.av) 1,nth (aa f.av) 2,nth (aa f.av) 3,nth (aa f.av) 4,nth (aa f.av) 5,nth (aa f.av) 6,nth (aa f.av) 7,nth (aa f.av) 8,nth (aa f.av) 9,nth (aa f.av) 10,nth (aa f.av) 11]=f.av:=fun f=>by simp
 have hcf:∀f:Fun,ap 12 [] f.av=M.pure (.agg (aa f.av)):=fun f=>bM (jY f);have hac:∀f:Fun,aa (.agg (aa f.av))=aa f.av:=fun _=>rfl;rw[C98];unfold jm;simp only[S98,bV,am,az];by_cases h1:a<0
 ·simp only[h1,OH,NS,hz,am,hcf,aA,hac,hzz];rfl
 ·simp only[h1,OU,NC,NK,aQ,am,FH141_0];rw[aZ (h0 (fun e=>by subst e;simp at ha;omega))];have hi:=fJ (l:=p) (n:=a) (by omega) ha;have hlt:a.toNat<p.length:=by omega
  have e1:p[a.toNat]! = p[a.toNat]?.getD default:=by rw[ND p a.toNat hlt,NH hlt];rfl
  have hlen:=(L.funcsAt a.toNat).1;have hx:=M5 (p[a.toNat]?.getD default).funcs (by omega) s;generalize hm:p[a.toNat]?.getD default=md at hx hlen e1;rw[hi,e1];simp only[am,gd,FA55_4,N5,NZ,LD51,qE,hx,aA,bV,az];by_cases h2:dX md.funcs s<0
  ·simp only[h2,OH,NS,hz,am,hcf,aA,hac,hzz];rfl
  ·simp only[h2,OU,NC,NK];rcases gO (fun f=>f.name== s) md.funcs 0 with h3|h3
   ·exact absurd (show dX md.funcs s<0 by unfold dX;rw[h3];decide) h2
   ·have h4:dX md.funcs s<(md.funcs.length:Int):=by unfold dX;omega
    have h5:(dX md.funcs s).toNat<md.funcs.length:=by omega
    rw[mr (by omega) h4,ND md.funcs _ h5,NH h5];have hld:af T 90 (.ip (aa (md.funcs[(dX md.funcs s).toNat]).av))=some (md.funcs[(dX md.funcs s).toNat]).av:=by simp
    simp only[am,hld,hcf,aA,hac,hzz];rfl
def iu{α:Type}(p:List Mod)(nm:SNm)(enc:α->AV)(r:Rs α)(c:R AV):Prop:=match r with
 |.ok v s=>∃h',c= .ok (enc v) h'/\fo p nm s h'
 |.er e s=>∃h',c= .pan (ni e) h'/\fo p nm s h'
def cg{α β:Type}{p:List Mod}{nm:SNm}{enc:α->AV}{enc':β->AV}{x:X α}{f:α->X β}{c:M AV}{d:AV->M AV}{m:Ms}{h:Hp}(H:iu p nm enc (x m) (c h))(K:∀a s h',x m= .ok a s->fo p nm s h'->iu p nm enc' (f a s) (d (enc a) h')):iu p nm enc' (x.bind f m) (ae c d h):=by
 unfold X.bind;cases hr:x m with
 |ok a s=>
  rw[hr]at H;obtain⟨h',h1,h2⟩:=H;rw[aZ h1];exact K a s h' hr h2
 |er e s=>
  rw[hr]at H;obtain⟨h',h1,h2⟩:=H;exact⟨h',Au h1,h2⟩
def dJ{α:Type}{p:List Mod}{nm:SNm}{enc:α->AV}{a:α}{m:Ms}{h:Hp}(R:fo p nm m h):iu p nm enc (X.ok a m) (M.pure (enc a) h):=⟨h,rfl,R⟩
def eT{α:Type}{p:List Mod}{nm:SNm}{enc:α->AV}{e:Int}{m:Ms}{h:Hp}(R:fo p nm m h):iu p nm enc (X.er e m) (ic (ni e) h):=⟨h,rfl,R⟩
def IZ(v:Val):ae (ap 4 [] v.av) (fun w=>M.pure (AV.agg [nth (aa w) 0,nth (aa w) 1,nth (aa w) 2,nth (aa w) 3]))=M.pure v.av:=by simp
def dB(m:Ms):Ms:={ m with fuel:=m.fuel-1 }
def Fu{p:List Mod}{nm:SNm}{tag:Nat->Nat}{dv cv sv:AV}{m:Ms}{h:Hp}(R:RepT (rowP p nm.told) nm tag dv cv sv m h):RepT (rowP p nm.told) nm tag dv cv sv (dB m) (h.set 0 (rowP p nm.told (dB m) dv cv sv)):=R.set0 rfl rfl rfl id
def step0{p:List Mod}{nm:SNm}{m:Ms}{h:Hp}(R:fo p nm m h):∃h1,fo p nm (dB m) h1/\
  (∀f:AV->M AV,ae (aX T 3 (.hp 0 2)) f h=f (.int .i64 m.fuel) h)/\(∀f:AV->M AV,ae (cj T 3 (.hp 0 2) (.int .i64 (m.fuel-1))) f h=f (.tup []) h1):=by
 obtain⟨tag,dv,cv,sv,R⟩:=R;refine⟨_,⟨tag,dv,cv,sv,Fu R⟩,fun f=>aZ (bO rfl rfl R.r0 rfl),fun f=>aZ (dx rfl R.r0 rfl (show 2+1<=12 by decide) (by decide))⟩
def Er{p:List Mod}{nm:SNm}{m:Ms}{h:Hp}(R:fo p nm m h)(hf:¬0<m.fuel)(sc:AV)(e:Exp):ai pg 90 [.hp 0 0,sc,e.av] h= .pan (ni 16) h:=by
 obtain⟨tag,dv,cv,sv,R⟩:=R;have h0:∀f:AV->M AV,ae (aX T 3 (.hp 0 2)) f h=f (.int .i64 m.fuel) h:=fun f=>aZ (bO rfl rfl R.r0 rfl);rw[C90];simp[S90,h0,hf,bv,cw,ic]
def pf(e:Exp):Prop:=¬aW e.op= -2/\(aW e.op= -1\/aW e.op=e.args.length)
def Jr{p:List Mod}{nm:SNm}{m:Ms}{h:Hp}(R:fo p nm m h)(G:GoodM p m)(hf:0<m.fuel)(sc:AV)(e:Exp)(hc:¬pf e):∃h1,fo p nm (dB m) h1/\ai pg 90 [.hp 0 0,sc,e.av] h= .pan (ni 13) h1:=by
 obtain⟨h1,R1,hl,hs⟩:=step0 R;refine⟨h1,R1,?_⟩;have hw:IntKind.i64.wrap (m.fuel-1)=m.fuel-1:=aF (by omega) (by have:=G.bud;simp only[mu]at this;omega);unfold pf at hc;rw[C90];simp[S90,hl,hs,hf,bv,cw,hw,t119,hc];rfl
mutual
def bc:Exp->Prop
 |.mk _ _ _ _ ns es=>ns.length<=8796093022208/\es.length<=274877906944/\lQ es
def lQ:List Exp->Prop
 |[]=>True
 |e:: es=>bc e/\lQ es
end
theorem pC:{l:List Exp} ->lQ l->∀e∈l,bc e
 |[],_,_,h=>by cases h
 |x:: l,H,e,h=>by
  simp only[lQ]at H;rcases NP.1 h with rfl|h
  ·exact H.1
  ·exact pC H.2 e h
def bg{e x:Exp}(H:bc e)(h:x∈e.args):bc x:=by
 obtain⟨o,n,s,m,ns,es⟩:=e;simp only[bc]at H;exact pC H.2.2 x h
def eY{e:Exp}(H:bc e):e.names.length<=8796093022208/\e.args.length<=274877906944:=by
 obtain⟨o,n,s,m,ns,es⟩:=e;simp only[bc]at H;exact⟨H.1,H.2.1⟩
structure LimB (p:List Mod):Prop where
 lim:LimP p
 body:∀m∈p,∀f∈m.funcs,bc f.body/\f.params.length<=274877906944
structure Sc (p:List Mod) (own:Int) (ns:List bk) (vs:List Val) (m:Ms):Prop where
 own:own<p.length
 right:kc ns vs
 len:(ns.length:Int)+m.fuel<=549755813888
def pX(p:List Mod)(nm:SNm)(n:Nat):Prop:=∀own ns vs e m h,fo p nm m h->GoodM p m->m.fuel<=n->Sc p own ns vs m->bc e->iu p nm Val.av (ba p n own ns vs e m) (ai pg 90 [.hp 0 0,aD own ns vs,e.av] h)
def I0(p:List Mod)(nm:SNm)(n:Nat):Prop:=∀own ns vs e m h,fo p nm m h->GoodM p m->m.fuel<=n->Sc p own ns vs m->bc e->iu p nm AV.bool (boolX (ba p n own ns vs e) m) (ai pg 123 [.hp 0 0,aD own ns vs,e.av] h)
def Hy(p:List Mod)(nm:SNm)(n:Nat):Prop:=∀own ns vs e m h,fo p nm m h->GoodM p m->m.fuel<=n->Sc p own ns vs m->bc e->iu p nm Val.av (gI (ba p n own ns vs) e m) (ai pg 125 [.hp 0 0,aD own ns vs,e.av] h)
def CH(p:List Mod)(nm:SNm)(n:Nat):Prop:=∀own ns vs e m h,fo p nm m h->GoodM p m->mu m<1000000->m.fuel<=n->Sc p own ns vs m->bc e->iu p nm Val.av (mb p (ba p n) own ns vs e m) (ai pg 127 [.hp 0 0,aD own ns vs,e.av] h)
def sD(p:List Mod)(r:Exp->X Val)(own:Int)(e:Exp):X Val:=if e.op=16 then sJ (r e.args[0]!) e else sX p r own e
def An(p:List Mod)(nm:SNm)(n:Nat):Prop:=∀own ns vs e m h,e.op=16\/e.op=17\/e.op=18->pf e->fo p nm m h->GoodM p m->mu m<1000000->m.fuel<=n->Sc p own ns vs m->bc e->iu p nm Val.av (sD p (ba p n own ns vs) own e m) (ai pg 128 [.hp 0 0,aD own ns vs,e.av] h)
def Sc.less{p:List Mod}{own:Int}{ns:List bk}{vs:List Val}{m s:Ms}(H:Sc p own ns vs m)(h:s.fuel<=m.fuel):Sc p own ns vs s:=⟨H.own,H.right,by have:=H.len;omega⟩
theorem t123{p:List Mod}{nm:SNm}{n:Nat}(IH:pX p nm n):I0 p nm n:=by
 intro own ns vs e m h R G hn hs he;unfold boolX;have hsc:af T 145 (.ip (aa (aD own ns vs)))=some (aD own ns vs):=rfl;have hex:af T 31 (.ip (aa e.av))=some e.av:=by simp
 rw[C123];simp only[S123,hsc,hex,am];refine cg (IH own ns vs e m h R G hn hs he) fun v s h' hv Rs=>?_;simp only[bG (eA v),aA,bd,bW,FA71_0,FA71_1,NZ,LD3,am,dj,bv,cw,N5];by_cases hk:v.kind=1
 ·simp only[hk,OB,NS];exact dJ Rs
 ·have:(v.kind== 1)=false:=by simpa using hk
  simp only[hk,this,NK,NC];exact eT Rs
theorem oP:∀(ns:List bk)(vs:List Val)(n:bk)(v:Val)(s:bk),ns.length=vs.length->ij (ns++[n]) (vs++[v]) s=if n=s then some v else ij ns vs s
 |[],[],n,v,s,_=>by simp[ij]
 |a:: ns,b:: vs,n,v,s,h=>by
  simp only[Ob,ij,oP ns vs n v s (by simpa using h)];by_cases hn:n=s
  ·simp[hn]
  ·simp[hn]
 |[],_:: _,_,_,_,h=>by simp at h
 |_:: _,[],_,_,_,h=>by simp at h
def EX(o:Option Val):M AV:=match o with
 |some v=>M.pure v.av
 |none=>ic (ni 12)
theorem xy(kk:List AV->M AV)(own:Int)(ns:List bk)(vs:List Val)(e:Exp)(x1 x2 x3 x4:AV)(hl:ns.length=vs.length)(hb:ns.length<=1099511627776):∀(i:Nat),i<=ns.length->
  aj (L90_0 (ai pg) aj kk) [.hp 0 0,.ip [.int .i64 own,strs ns,vals vs],.ip (aa e.av),.int .i64 ((i:Int)-1),x1,x2,x3,x4]=EX (ij (ns.take i) (vs.take i) e.s)
 |0,_=>by
  have hi:jU T 69 (.int .i64 12)=some (ni 12):=rfl;rw[FL90_0];simp only[L90_0,aL,aY,gB,am,az,hi];simp[ij,EX,Hd];rfl
 |i+1,hi=>by
  have ih:=xy kk own ns vs e x1 x2 x3 x4 hl hb i (by omega);have h1:i<ns.length:=by omega
  have h2:i<vs.length:=by omega
  have h3:(ns.take (i+1))=ns.take i++[ns[i]]:=by simp
  have h4:(vs.take (i+1))=vs.take i++[vs[i]]:=by simp
  rw[h3,h4,oP _ _ _ _ _ (by simp;omega),FL90_0];have e1:((i+1:Nat):Int)-1=(i:Int):=by omega
  rw[e1];simp only[L90_0];simp (disch:=omega) [aF,yE,ou,h1,h2];simp only[aO]at ih;by_cases hs:ns[i]=e.s
  ·simp[hs,EX]
  ·simp[hs,ih]
end Go.Proofs.YtnipfhmghjdnmaaGreat
namespace Go.Proofs.YtnipfhmghjdnmaaGreat
open Go Go.Av Go.Av.Ap
set_option maxRecDepth 100000
@[simp] theorem LM(a:Exp)(l:List Exp):ak T 29 (cb (a:: l)) (.int .i64 0)=some (.ip (aa a.av)):=by
 have:=kQ (l:=a:: l) (n:=0) (by omega) (by simp<;>omega)
 simpa using this
@[simp] theorem Nl(a b:Exp)(l:List Exp):ak T 29 (cb (a:: b:: l)) (.int .i64 1)=some (.ip (aa b.av)):=by
 have:=kQ (l:=a:: b:: l) (n:=1) (by omega) (by simp<;>omega)
 simpa using this
@[simp] theorem Nm(a b c:Exp)(l:List Exp):ak T 29 (cb (a:: b:: c:: l)) (.int .i64 2)=some (.ip (aa c.av)):=by
 have:=kQ (l:=a:: b:: c:: l) (n:=2) (by omega) (by simp<;>omega)
 simpa using this
section
variable (o n:Int) (s m:bk) (ns:List bk) (es:List Exp)
@[simp] theorem lF:(Exp.mk o n s m ns es).op=o:=rfl
@[simp] theorem qd:(Exp.mk o n s m ns es).n=n:=rfl
@[simp] theorem zU:(Exp.mk o n s m ns es).s=s:=rfl
@[simp] theorem Cd:(Exp.mk o n s m ns es).m=m:=rfl
@[simp] theorem dZ:(Exp.mk o n s m ns es).names=ns:=rfl
@[simp] theorem gA:(Exp.mk o n s m ns es).args=es:=rfl
end
def jO(o n:Int)(s m:bk)(ns:List bk)(es:List Exp):AV.agg [.int .i64 o,.int .i64 n,.str s,.str m,strs ns,cb es]=(Exp.mk o n s m ns es).av:=by rw[Exp.av,Exp.cells_eq];rfl
theorem qY:∀(ns:List bk)(vs:List Val)(s:bk)(i:Int),ns.length=vs.length->(bj (fun x=>s== x) ns i= -1/\eP ns vs s=none)\/(∃(k:Nat)(h:k<vs.length),bj (fun x=>s== x) ns i=i+k/\eP ns vs s=some vs[k])
 |[],[],s,i,_=>.inl ⟨rfl,rfl⟩
 | n:: ns,v:: vs,s,i,h=>by
  simp only[bj,eP];by_cases hn:n=s
  ·right;exact⟨0,by simp,by simp[hn],by simp[hn]⟩
  ·have hn':(s== n)=false:=by simpa using fun e=>hn e.symm
   simp only[if_neg hn,hn',NC,NK];rcases qY ns vs s (i+1) (by simpa using h)with⟨h1,h2⟩|⟨k,hk,h1,h2⟩
   ·left;exact⟨by simpa using h1,h2⟩
   ·right;exact⟨k+1,by simp;omega,by simp[h1];omega,by simpa using h2⟩
 |[],_:: _,_,_,h=>by simp at h
 |_:: _,[],_,_,h=>by simp at h
def jZ{p:List Mod}{nm:SNm}{x:X Val}(hx:(∃v,x= .ok v)\/(∃e,x= .er e)){m:Ms}{h:Hp}(R:fo p nm m h):iu p nm Val.av (x m) (il x h):=by
 rcases hx with⟨v,rfl⟩|⟨e,rfl⟩
 ·exact dJ R
 ·exact eT R
def jL(op:Int)(a b:Val):(∃v,jK op a b= .ok v)\/(∃e,jK op a b= .er e):=by
 unfold jK;split
 ·split
  ·exact .inl ⟨_,rfl⟩
  ·exact .inr ⟨_,rfl⟩
 ·split
  ·split
   ·exact .inl ⟨_,rfl⟩
   ·split
    ·exact .inl ⟨_,rfl⟩
    ·split
     ·exact .inl ⟨_,rfl⟩
     ·exact .inl ⟨_,rfl⟩
  ·exact .inr ⟨_,rfl⟩
def ES{l:List Exp}(h:l.length=1):∃a,l=[a]:=by
 match l,h with
 |[a],_=>exact⟨a,rfl⟩
def xq{l:List Exp}(h:l.length=2):∃a b,l=[a,b]:=by
 match l,h with
 |[a,b],_=>exact⟨a,b,rfl⟩
def MY{l:List Exp}(h:l.length=3):∃a b c,l=[a,b,c]:=by
 match l,h with
 |[a,b,c],_=>exact⟨a,b,c,rfl⟩
def A7{α:Type}{p:List Mod}{nm:SNm}{enc:α->AV}{c:Prop}[Decidable c]{x y:X α}{a b:M AV}{m:Ms}{h:Hp}(h1:c->iu p nm enc (x m) (a h))(h2:¬c->iu p nm enc (y m) (b h)):iu p nm enc ((if c then x else y) m) ((if c then a else b) h):=by
 split
 ·exact h1 ‹_›
 ·exact h2 ‹_›
def uG(a b:Bool):ao T .eql 4 (.bool a) (.bool b)=some (.bool (a== b)):=by cases a<;>cases b<;>rfl
def pe(v:Val)(h:Hp):ae (ap 4 [] v.av) (fun w=>M.pure (AV.agg [nth (aa w) 0,nth (aa w) 1,nth (aa w) 2,nth (aa w) 3])) h=M.pure v.av h:=by rw[IZ]
def dy{p:List Mod}{nm:SNm}{r:Rs Val}{c:M AV}{h:Hp}(H:iu p nm Val.av r (c h)):iu p nm Val.av r (ae c (fun v=>ae (ap 4 [] v) fun w=>M.pure (AV.agg [nth (aa w) 0,nth (aa w) 1,nth (aa w) 2,nth (aa w) 3])) h):=by
 cases r with
 |ok v s=>
  obtain⟨h',h1,h2⟩:=H;refine⟨h',?_,h2⟩;rw[aZ h1,IZ];rfl
 |er e s=>
  obtain⟨h',h1,h2⟩:=H;exact⟨h',Au h1,h2⟩
theorem BQ{p:List Mod}{nm:SNm}{n:Nat}(IH:pX p nm n)(IR:Hy p nm n)(IC:CH p nm n)(IW:An p nm n):pX p nm (n+1):=by
 intro own ns vs e m h R G hn hs he;have IB:=t123 IH;by_cases hf:0<m.fuel
 rotate_left
 ·have e1:ba p (n+1) own ns vs e m= .er 16 m:=by
   show j9 p (ba p n) own ns vs e m=_;unfold j9 X.get;simp only;rw[NE (by omega)];rfl
  rw[e1];exact⟨h,Er R hf _ e,R⟩
 have hspec:ba p (n+1) own ns vs e m=(if aW e.op= -2\/(aW e.op≠-1/\aW e.op≠e.args.length)then .er 13
   else if e.op=0 then .ok (jW e.n)
   else if e.op=1 then(if e.n=0\/e.n=1 then .ok (cC (e.n== 1))else .er 13)
   else if e.op=2 then(match ij ns vs e.s with|some v=>.ok v|none=>.er 12)
   else if e.op=3\/e.op=4\/e.op=5\/e.op=6\/e.op=7 then(ba p n own ns vs e.args[0]!).bind fun a=>(ba p n own ns vs e.args[1]!).bind fun b=>jK e.op a b
   else if e.op=8\/e.op=9 then(boolX (ba p n own ns vs e.args[0]!)).bind fun x=>if x=(e.op== 9)then .ok (cC (e.op== 9))else(boolX (ba p n own ns vs e.args[1]!)).bind fun y=>.ok (cC y)
   else if e.op=10 then(boolX (ba p n own ns vs e.args[0]!)).bind fun x=>.ok (cC !x)
   else if e.op=11 then(boolX (ba p n own ns vs e.args[0]!)).bind fun x=>if x=true then ba p n own ns vs e.args[1]! else ba p n own ns vs e.args[2]!
   else if e.op=12 then(ba p n own ns vs e.args[0]!).bind fun v=>ba p n own (ns++[e.s]) (vs++[v]) e.args[1]!
   else if e.op=13 then gI (ba p n own ns vs) e
   else if e.op=14 then(ba p n own ns vs e.args[0]!).bind fun v=>(match eP v.names v.values e.s with|some x=>if v.kind=2 then .ok x else .er 13|none=>.er 13)
   else if e.op=15 then mb p (ba p n) own ns vs e
   else sD p (ba p n own ns vs) own e:X Val) (dB m):=by
  show j9 p (ba p n) own ns vs e m=_;unfold j9 X.get;simp only;rw[if_neg (by omega)];have hw:(if e.op=16 then sJ (ba p n own ns vs e.args[0]!) e else sX p (ba p n own ns vs) own e)=sD p (ba p n own ns vs) own e:=rfl;rw[hw];rfl
 have hbm:=G.bud;have G1:GoodM p (dB m):=⟨G.right,by simp only[mu,dB]at hbm |-;omega,G.fr,by simp only[dB];omega,G.shape⟩;have hmu:mu (dB m)<1000000:=by simp only[mu,dB]at hbm |-;omega
 have hn1:(dB m).fuel<=n:=by simp only[dB];omega
 have hft:(dB m).fuel<=m.fuel:=by simp only[dB];omega
 have hs1:Sc p own ns vs (dB m):=hs.less hft;by_cases hc:pf e
 rotate_left
 ·obtain⟨h1,R1,e1⟩:=Jr R G hf (aD own ns vs) e hc;have hc':aW e.op= -2\/(aW e.op≠-1/\aW e.op≠e.args.length):=by
   unfold pf at hc;by_cases k:aW e.op= -2
   ·exact .inl k
   ·right;exact⟨fun k2=>hc ⟨k,.inl k2⟩,fun k2=>hc ⟨k,.inr k2⟩⟩
  rw[hspec,NE hc'];exact⟨h1,e1,R1⟩
 obtain⟨h1,R1,hl,hst⟩:=step0 R;have hw:IntKind.i64.wrap (m.fuel-1)=m.fuel-1:=aF (by omega) (by simp only[mu]at hbm;omega);have hc':¬(aW e.op= -2\/(aW e.op≠-1/\aW e.op≠e.args.length)):=by
  unfold pf at hc;rintro (k|⟨k1,k2⟩)
  ·exact hc.1 k
  ·rcases hc.2 with k|k
   ·exact k1 k
   ·exact k2 k
 rw[hspec,if_neg hc'];have hcc:=hc;have hce:=hc.2;obtain⟨op,en,es,em,en2,ea⟩:=e;simp only[lF,qd,zU,gA]at hce |-;unfold pf at hc;simp only[lF,gA]at hc;generalize hcode:ai pg 90 [.hp 0 0,aD own ns vs,(Exp.mk op en es em en2 ea).av] h=code;rw[C90]at hcode;have hW:∀v:Val,∀h,ae (ap 4 [] v.av) (fun w=>M.pure (AV.agg [nth (aa w) 0,nth (aa w) 1,nth (aa w) 2,nth (aa w) 3])) h=M.pure v.av h:=pe;by_cases k0:op=0
 ·subst k0;have hlen:ea.length=0:=by simp[aW]at hce;omega
  obtain rfl:=NV hlen;simp[S90,hl,hst,hf,bv,cw,hw,t119,aW,K90_2,K90_1,K90_0,bS,t120]at hcode;simp;rw[<- hcode];exact dJ (a:=jW en) R1
 by_cases k1:op=1
 ·subst k1;have hlen:ea.length=0:=by simp[aW]at hce;omega
  obtain rfl:=NV hlen;simp[S90,hl,hst,hf,bv,cw,hw,t119,aW,K90_2,K90_1,K90_0,bS,t121]at hcode;simp;rw[<- hcode];exact A7 (fun _=>dJ (a:=cC (en== 1)) R1) (fun _=>eT R1)
 by_cases k2:op=2
 ·subst k2;have hlen:ea.length=0:=by simp[aW]at hce;omega
  obtain rfl:=NV hlen;have hnl:=hs.right.1;have hns:(ns.length:Int)<=549755813888:=by have:=hs.len;omega
  have hloop:=xy (K90_0 (ai pg) aj) own ns vs (.mk 2 en es em en2 []) (.int .i64 0) (.int .i64 0) (.sl []) (.sl []) hnl (by omega) ns.length (NL _);have hwl:IntKind.i64.wrap ((ns.length:Int)-1)=(ns.length:Int)-1:=aF (by omega) (by omega);rw[Pp,hnl,Pp]at hloop;simp only[aO,lF,qd,zU,Cd,dZ,gA]at hloop;simp[S90,hl,hst,hf,bv,cw,hw,t119,aW,hwl]at hcode;rw[hnl,hloop]at hcode;simp;rw[<- hcode];cases ij ns vs es with
  |none=>exact eT R1
  |some v=>exact dJ R1
 by_cases k3:op=3
 ·subst k3;have hlen:ea.length=2:=by simp[aW]at hce;omega
  obtain⟨a,b,rfl⟩:=xq hlen;have ha:bc a:=bg he (by simp);have hb:bc b:=bg he (by simp);simp[S90,hl,hst,hf,bv,cw,hw,t119,aW,K90_2,K90_1,K90_0,bS]at hcode;simp;rw[<- hcode];refine cg (IH own ns vs a _ _ R1 G1 hn1 hs1 ha) fun x s1 h2 hx R2=>?_;obtain⟨G2,_,f2⟩:=G1.eval hs1.right hx;refine cg (IH own ns vs b _ _ R2 G2 (by omega) (hs1.less f2) hb) fun y s2 h3 hy R3=>?_;rw[t122 3 x y (by simp)];exact dy (c:=il (jK 3 x y)) (jZ (jL _ _ _) R3)
 by_cases k4:op=4
 ·subst k4;have hlen:ea.length=2:=by simp[aW]at hce;omega
  obtain⟨a,b,rfl⟩:=xq hlen;have ha:bc a:=bg he (by simp);have hb:bc b:=bg he (by simp);simp[S90,hl,hst,hf,bv,cw,hw,t119,aW,K90_2,K90_1,K90_0,bS]at hcode;simp;rw[<- hcode];refine cg (IH own ns vs a _ _ R1 G1 hn1 hs1 ha) fun x s1 h2 hx R2=>?_;obtain⟨G2,_,f2⟩:=G1.eval hs1.right hx;refine cg (IH own ns vs b _ _ R2 G2 (by omega) (hs1.less f2) hb) fun y s2 h3 hy R3=>?_;rw[t122 4 x y (by simp)];exact dy (c:=il (jK 4 x y)) (jZ (jL _ _ _) R3)
 by_cases k5:op=5
 ·subst k5;have hlen:ea.length=2:=by simp[aW]at hce;omega
  obtain⟨a,b,rfl⟩:=xq hlen;have ha:bc a:=bg he (by simp);have hb:bc b:=bg he (by simp);simp[S90,hl,hst,hf,bv,cw,hw,t119,aW,K90_2,K90_1,K90_0,bS]at hcode;simp;rw[<- hcode];refine cg (IH own ns vs a _ _ R1 G1 hn1 hs1 ha) fun x s1 h2 hx R2=>?_;obtain⟨G2,_,f2⟩:=G1.eval hs1.right hx;refine cg (IH own ns vs b _ _ R2 G2 (by omega) (hs1.less f2) hb) fun y s2 h3 hy R3=>?_;rw[t122 5 x y (by simp)];exact dy (c:=il (jK 5 x y)) (jZ (jL _ _ _) R3)
 by_cases k6:op=6
 ·subst k6;have hlen:ea.length=2:=by simp[aW]at hce;omega
  obtain⟨a,b,rfl⟩:=xq hlen;have ha:bc a:=bg he (by simp);have hb:bc b:=bg he (by simp);simp[S90,hl,hst,hf,bv,cw,hw,t119,aW,K90_2,K90_1,K90_0,bS]at hcode;simp;rw[<- hcode];refine cg (IH own ns vs a _ _ R1 G1 hn1 hs1 ha) fun x s1 h2 hx R2=>?_;obtain⟨G2,_,f2⟩:=G1.eval hs1.right hx;refine cg (IH own ns vs b _ _ R2 G2 (by omega) (hs1.less f2) hb) fun y s2 h3 hy R3=>?_;rw[t122 6 x y (by simp)];exact dy (c:=il (jK 6 x y)) (jZ (jL _ _ _) R3)
 by_cases k7:op=7
 ·subst k7;have hlen:ea.length=2:=by simp[aW]at hce;omega
  obtain⟨a,b,rfl⟩:=xq hlen;have ha:bc a:=bg he (by simp);have hb:bc b:=bg he (by simp);simp[S90,hl,hst,hf,bv,cw,hw,t119,aW,K90_2,K90_1,K90_0,bS]at hcode;simp;rw[<- hcode];refine cg (IH own ns vs a _ _ R1 G1 hn1 hs1 ha) fun x s1 h2 hx R2=>?_;obtain⟨G2,_,f2⟩:=G1.eval hs1.right hx;refine cg (IH own ns vs b _ _ R2 G2 (by omega) (hs1.less f2) hb) fun y s2 h3 hy R3=>?_;rw[t122 7 x y (by simp)];exact dy (c:=il (jK 7 x y)) (jZ (jL _ _ _) R3)
 by_cases k8:op=8
 ·subst k8;have hlen:ea.length=2:=by simp[aW]at hce;omega
  obtain⟨a,b,rfl⟩:=xq hlen;have ha:bc a:=bg he (by simp);have hb:bc b:=bg he (by simp);simp[S90,hl,hst,hf,bv,cw,hw,t119,aW,K90_2,K90_1,K90_0,bS]at hcode;simp;rw[<- hcode];refine cg (IB own ns vs a _ _ R1 G1 hn1 hs1 ha) fun x s1 h2 hx R2=>?_;obtain⟨G2,f2⟩:=G1.bool hs1.right hx;rw[uG];simp only[am,az];cases x
  ·simp[t121];exact dJ R2
  ·simp[t121];refine cg (IB own ns vs b _ _ R2 G2 (by omega) (hs1.less f2) hb) fun y s2 h3 hy R3=>?_;simp only[t121,cX,aA,hW];exact dJ R3
 by_cases k9:op=9
 ·subst k9;have hlen:ea.length=2:=by simp[aW]at hce;omega
  obtain⟨a,b,rfl⟩:=xq hlen;have ha:bc a:=bg he (by simp);have hb:bc b:=bg he (by simp);simp[S90,hl,hst,hf,bv,cw,hw,t119,aW,K90_2,K90_1,K90_0,bS]at hcode;simp;rw[<- hcode];refine cg (IB own ns vs a _ _ R1 G1 hn1 hs1 ha) fun x s1 h2 hx R2=>?_;obtain⟨G2,f2⟩:=G1.bool hs1.right hx;rw[uG];simp only[am,az];cases x
  ·simp[t121];refine cg (IB own ns vs b _ _ R2 G2 (by omega) (hs1.less f2) hb) fun y s2 h3 hy R3=>?_;simp only[t121,cX,aA,hW];exact dJ R3
  ·simp[t121];exact dJ R2
 by_cases k10:op=10
 ·subst k10;have hlen:ea.length=1:=by simp[aW]at hce;omega
  obtain⟨a,rfl⟩:=ES hlen;have ha:bc a:=bg he (by simp);simp[S90,hl,hst,hf,bv,cw,hw,t119,aW,K90_2,K90_1,K90_0,bS]at hcode;simp;rw[<- hcode];refine cg (IB own ns vs a _ _ R1 G1 hn1 hs1 ha) fun x s1 h2 hx R2=>?_;simp only[kH,am,t121,cX,aA,hW];exact dJ R2
 by_cases k11:op=11
 ·subst k11;have hlen:ea.length=3:=by simp[aW]at hce;omega
  obtain⟨a,b,c,rfl⟩:=MY hlen;have ha:bc a:=bg he (by simp);have hb:bc b:=bg he (by simp);have hc3:bc c:=bg he (by simp);simp[S90,hl,hst,hf,bv,cw,hw,t119,aW,K90_2,K90_1,K90_0,bS]at hcode;simp;rw[<- hcode];refine cg (IB own ns vs a _ _ R1 G1 hn1 hs1 ha) fun x s1 h2 hx R2=>?_;obtain⟨G2,f2⟩:=G1.bool hs1.right hx;simp only[az];exact A7 (fun _=>dy (IH own ns vs b _ _ R2 G2 (by omega) (hs1.less f2) hb)) (fun _=>dy (IH own ns vs c _ _ R2 G2 (by omega) (hs1.less f2) hc3))
 by_cases k12:op=12
 ·subst k12;have hlen:ea.length=2:=by simp[aW]at hce;omega
  obtain⟨a,b,rfl⟩:=xq hlen;have ha:bc a:=bg he (by simp);have hb:bc b:=bg he (by simp);simp[S90,hl,hst,hf,bv,cw,hw,t119,aW,K90_2,K90_1,K90_0,bS]at hcode;simp;rw[<- hcode];refine cg (IH own ns vs a _ _ R1 G1 hn1 hs1 ha) fun x s1 h2 hx R2=>?_;obtain⟨G2,rx,f2⟩:=G1.eval hs1.right hx;have hsl:=hs1.len;have hrl:=hs1.right.1;have hfu:=G1.fuel;rw[t124 own ns vs es x (by omega) (by omega)];simp only[cX,aA];refine dy (IH own (ns++[es]) (vs++[x]) b _ _ R2 G2 (by omega) ⟨hs1.own,⟨by simp[hrl],fun w hw=>?_⟩,?_⟩ hb)
  ·rcases N6.1 hw with k|k
   ·exact hs1.right.2 w k
   ·simp only[OA]at k;subst k;exact rx
  ·have:(dB m).fuel=m.fuel-1:=rfl
   have:=hs.len
   simp only[N3,Oy];omega
 by_cases k13:op=13
 ·subst k13;simp[S90,hl,hst,hf,bv,cw,hw,t119,aW,K90_2,K90_1,K90_0,bS,jO]at hcode;simp;rw[<- hcode];exact dy (IR own ns vs _ _ _ R1 G1 hn1 hs1 he)
 by_cases k14:op=14
 ·subst k14;have hlen:ea.length=1:=by simp[aW]at hce;omega
  obtain⟨a,rfl⟩:=ES hlen;have ha:bc a:=bg he (by simp);simp[S90,hl,hst,hf,bv,cw,hw,t119,aW,K90_2,K90_1,K90_0,bS]at hcode;simp;rw[<- hcode];refine cg (IH own ns vs a _ _ R1 G1 hn1 hs1 ha) fun x s1 h2 hx R2=>?_;obtain⟨G2,rx,f2⟩:=G1.eval hs1.right hx;have hrl:=sg rx;have h8:=sf rx;have hi:=t126 x.names es (by omega);rw[bG (eA x)];simp only[aA,bd,bW,N5,NZ,LD28,LD61,LD3,am,hi,dj,gB,bP,aL,ec,bv,cw];rcases qY x.names x.values es 0 hrl with⟨j1,j2⟩|⟨k,hk,j1,j2⟩
  ·rw[j1,j2];simp only[show decide ((0:Int)<=-1)=false by decide,Qe,NC,NK];exact eT R2
  ·rw[j1,j2];have hk0:decide ((0:Int)<=0+(k:Int))=true:=by simp
   rw[hk0];simp only[Qm];by_cases hk2:x.kind=2
   ·have hix:=ou (l:=x.values) (n:=0+(k:Int)) (by omega) (by omega);have e5:(0+(k:Int)).toNat=k:=by omega
    rw[e5,ND x.values k hk]at hix;have hld:af T 71 (.ip (aa (x.values[k]).av))=some (x.values[k]).av:=by simp
    simp only[hk2,OB,NS,hix,am,hld,hW];exact dJ R2
   ·have hk2':(x.kind== 2)=false:=by simpa using hk2
    simp only[hk2,hk2',NC,NK];exact eT R2
 by_cases k15:op=15
 ·subst k15;simp[S90,hl,hst,hf,bv,cw,hw,t119,aW,K90_2,K90_1,K90_0,bS,jO]at hcode;simp;rw[<- hcode];exact dy (IC own ns vs _ _ _ R1 G1 hmu hn1 hs1 he)
 by_cases k16:op=16
 ·subst k16;simp[S90,hl,hst,hf,bv,cw,hw,t119,aW,K90_2,K90_1,K90_0,bS,jO]at hcode;have hce':aW 16=ea.length:=by simp only[aW]at hce |-;simpa using hce
  simp only[aW]at hce';simp at hce';simp[<- hce']at hcode;simp;rw[<- hcode];exact dy (IW own ns vs (.mk 16 en es em en2 ea) _ _ (by simp) hcc R1 G1 hmu hn1 hs1 he)
 by_cases k17:op=17
 ·subst k17;simp[S90,hl,hst,hf,bv,cw,hw,t119,aW,K90_2,K90_1,K90_0,bS,jO]at hcode;have hce':aW 17=ea.length:=by simp only[aW]at hce |-;simpa using hce
  simp only[aW]at hce';simp at hce';simp[<- hce']at hcode;simp;rw[<- hcode];exact dy (IW own ns vs (.mk 17 en es em en2 ea) _ _ (by simp) hcc R1 G1 hmu hn1 hs1 he)
 by_cases k18:op=18
 ·subst k18;simp[S90,hl,hst,hf,bv,cw,hw,t119,aW,K90_2,K90_1,K90_0,bS,jO]at hcode;have hce':aW 18=ea.length:=by simp only[aW]at hce |-;simpa using hce
  simp only[aW]at hce';simp at hce';simp[<- hce']at hcode;simp;rw[<- hcode];exact dy (IW own ns vs (.mk 18 en es em en2 ea) _ _ (by simp) hcc R1 G1 hmu hn1 hs1 he)
 exfalso;apply hc.1;simp[aW,k0,k1,k2,k3,k4,k5,k6,k7,k8,k9,k10,k11,k12,k13,k14,k15,k16,k17,k18]
end Go.Proofs.YtnipfhmghjdnmaaGreat
namespace Go.Proofs.YtnipfhmghjdnmaaGreat
open Go Go.Av Go.Av.Ap
set_option maxRecDepth 100000
def eU{α β γ:Type}(x:X α)(f:α->X β)(g:β->X γ):(x.bind f).bind g=x.bind fun a=>(f a).bind g:=by
 funext m;unfold X.bind;cases x m<;>rfl
theorem gY{α β:Type}(a:α)(f:α->X β):(X.ok a).bind f=f a:=rfl
def t169(l:List bk)(h:l.length<=8796093022208):ai pg 169 [strs l]=M.pure (strs l):=by
 have e:ai pg 169 [strs l]=ki T 28 (ai pg) [strs l]:=eL hOther rfl _;rw[e];show ah (ck T 28 (.sl []) (strs l))=_
 have:=yC (a:=[]) (b:=l) (by simp;omega)
 simp only[N4]at this;show ah (ck T 28 (strs []) (strs l))=_;rw[this];rfl
theorem xx{p:List Mod}{nm:SNm}{n:Nat}(IH:pX p nm n)(own:Int)(ns:List bk)(vs:List Val)(en:List bk)(es:List Exp)(x5 x6 x7 x8:AV)(hes:∀e∈es,bc e)(h8:es.length<=8):
  ∀(B A:List Exp)(acc:List Val)(m:Ms)(h:Hp),A++B=es->acc.length=A.length->(∀v∈acc,Rv v)->en.length<=8->fo p nm m h->GoodM p m->m.fuel<=n->Sc p own ns vs m->
  iu p nm Val.av ((listX (ba p n own ns vs) B).bind (fun ws=>if cK (.mk 2 0 en (acc++ws))<=4 then .ok (.mk 2 0 en (acc++ws))else .er 6) m)
   (aj (L125_0 (ai pg) aj) [.hp 0 0,.ip (aa (aD own ns vs)),cb es,.int .i64 es.length,.int .i64 A.length,x5,x6,x7,x8,.int .i64 2,.int .i64 0,strs en,vals acc] h)
 | [],A,acc,m,h,e,ha,hr,hen,R,G,hn,hs=>by
  simp only[OE]at e;subst e;have hsz:(Val.mk 2 0 en acc).sz<=1099511627776:=by
   have h2:bJ acc<=acc.length*200000:=by
    have key:∀l:List Val,(∀v∈l,Rv v)->bJ l<=l.length*200000:=by
     intro l
     induction l with
     |nil=>intro _;simp[bJ]
     |cons v l ih=>
      intro h;have h1:=xW (h v Oq);have h2:=ih fun w hw=>h w (OC _ hw);simp only[bJ,Of];omega
    exact key acc hr
   simp only[Val.sz];have:acc.length*200000<=8*200000:=NY _ (by omega);omega
  have hlv:=t170 _ (.mk 2 0 en acc) (NL _) hsz;rw[Val.av_eq]at hlv;simp only[Nt,Ny,Nr,Nq]at hlv;have hw:∀h,ae (ap 4 [] (AV.agg [.int .i64 2,.int .i64 0,strs en,vals acc])) (fun w=>M.pure (AV.agg [nth (aa w) 0,nth (aa w) 1,nth (aa w) 2,nth (aa w) 3])) h=M.pure (Val.mk 2 0 en acc).av h:=fun h=>by
   have:=pe (Val.mk 2 0 en acc) h
   rw[Val.av_eq]at this |-;exact this
  rw[FL125_0];simp only[listX,gY,OE];simp only[L125_0,aL,aY,bV,am,az,Po,OU,NC,NK,hlv,aA,lN,bv,cw,hw];by_cases h4:cK (.mk 2 0 en acc)<=4
  ·have h4':decide (((cK (.mk 2 0 en acc):Nat):Int)<=4)=true:=by simp;omega
   simp only[h4,h4',NS,hw];exact dJ R
  ·have h4':decide (((cK (.mk 2 0 en acc):Nat):Int)<=4)=false:=by simp;omega
   simp only[h4,h4',NC,NK];exact eT R
 | x:: B,A,acc,m,h,e,ha,hr,hen,R,G,hn,hs=>by
  have hll:A.length+(B.length+1)=es.length:=by rw[<- e];simp
  have h1:(A.length:Int)<(es.length:Int):=by omega
  have hx:es[A.length]'(by omega)=x:=by subst e;simp
  have hm:x∈es:=by rw[<- e];simp
  have hi:=kQ (l:=es) (n:=(A.length:Int)) (by omega) h1;rw[show ((A.length:Int)).toNat=A.length by omega,ND es A.length (by omega),hx]at hi;have hsc:af T 145 (.ip (aa (aD own ns vs)))=some (aD own ns vs):=rfl;have hex:af T 31 (.ip (aa x.av))=some x.av:=by simp
  rw[FL125_0];simp only[listX,eU,gY];simp only[L125_0,aL,aY,bV,am,az,h1,OH,NS,hi,hex,bG (lC x),aA,hsc,bd];refine cg (IH own ns vs x m h R G hn hs (hes x hm)) fun v s h' hv Rs=>?_;obtain⟨G2,rv,f2⟩:=G.eval hs.right hv;have hb2:au T 61 1 [(0,v.av)]=some (vals [v]):=by rw[v.av_eq];simp[vals,dP,v.av_eq];rfl
  have ha2:ck T 61 (vals acc) (vals [v])=some (vals (acc++[v])):=sI (by simp;omega);have hc1:cI (vals (acc++[v]))=M.pure (vals (acc++[v])):=rfl;have hw:IntKind.i64.wrap ((A.length:Int)+1)=((A.length+1:Nat):Int):=fb (by omega);simp only[hb2,am,ha2,hc1,aA,dD,hw];have ih:=xx IH own ns vs en es x5 x6 x7 x8 hes h8 B (A++[x]) (acc++[v]) s h' (by rw[<- e];simp) (by simp[ha]) (fun w hw=>by
   rcases N6.1 hw with k|k
   ·exact hr w k
   ·simp only[OA]at k;subst k;exact rv) hen Rs G2 (by omega) (hs.less f2)
  simp only[Oz,Pl,N3,Oy]at ih;exact ih
theorem t125{p:List Mod}{nm:SNm}{n:Nat}(IH:pX p nm n):Hy p nm n:=by
 intro own ns vs e m h R G hn hs he;obtain⟨l1,l2⟩:=eY he;unfold gI;have ha:=t165 e.names (by omega);have hcl:=t169 e.names (by omega);have hB:aN T true 71 [(0,.int .i64 2),(2,strs e.names)]=some (.agg [.int .i64 2,.int .i64 0,strs e.names,.hn]):=rfl;have hC:ap 4 [3] (.agg [.int .i64 2,.int .i64 0,strs e.names,.hn])=M.pure (.agg [.int .i64 2,.int .i64 0,strs e.names,.hn]):=rfl;rw[C125];simp only[S125,aO,FA31_4,FA31_5,N5,NZ,LD28,LD29,kV,f7,am,dj,ha,aA,bP,aL,aY,ec,bv,cw,lN,hcl,hB,hC,bd];have hsc:(AV.ip (aa (aD own ns vs)))= .ip [.int .i64 own,strs ns,vals vs]:=rfl;by_cases hl:e.names.length=e.args.length
 ·by_cases hasc:sG e.names=true
  ·have e1:((e.names.length:Int)== (e.args.length:Int)&&sG e.names)=true:=by simp[hl,hasc]
   simp only[hl,hasc,e1,Qn,NS];by_cases h8:e.args.length<=8
   ·have h8':decide ((e.args.length:Int)<=8)=true:=by simp;omega
    have e2:((e.args.length:Int)== (e.args.length:Int)&&true)=true:=by simp
    simp only[h8,h8',e2,NS]
    have:=xx IH own ns vs e.names e.args (.int .i64 0) (.int .i64 0) (.sl []) (.sl []) (fun x hx=>bg he hx) h8 e.args [] [] m h rfl rfl (fun v hv=>by cases hv) (by omega) R G hn hs
    simp only[N4]at this;exact this
   ·have h8':decide ((e.args.length:Int)<=8)=false:=by simp;omega
    have e2:((e.args.length:Int)== (e.args.length:Int)&&true)=true:=by simp
    simp only[h8,h8',e2,NS,NC,NK];exact eT R
  ·have e1:((e.names.length:Int)== (e.args.length:Int)&&false)=false:=by simp
   have hasc':sG e.names=false:=by simpa using hasc
   simp only[e1,hasc',and_false,NC,NK];exact eT R
 ·have e1:((e.names.length:Int)== (e.args.length:Int)&&sG e.names)=false:=by
   have:((e.names.length:Int)== (e.args.length:Int))=false:=by
    rw[Oh];omega
   rw[this];rfl
  simp only[e1,hl,false_and,NC,NK];exact eT R
def zH(s t:bk)(v:AV)(h:bh v=true):cE 3 (.agg [.str s,.str t,v])=true:=by
 simp only[cE,cM,aa,OT,List.all_nil];rw[h];rfl
def yY{p:List Mod}{nm:SNm}{tag:Nat->Nat}{dv cv sv:AV}{m:Ms}{h:Hp}(R:RepT (rowP p nm.told) nm tag dv cv sv m h)(l:List Val)(hb:l.length<=274877906944):
  ∃av h1 tag1,ai pg 100 [vals l] h= .ok av h1/\RepT (rowP p nm.told) nm tag1 dv cv sv m h1/\ul tag1 4 h1 l av/\bh av=true:=by
 have e0:ai pg 100 [vals l]=fL T 61 (ai pg) [vals l]:=eL hOther rfl _;have e1:=wo (T:=T) (t:=61) rfl rfl rfl rfl rfl (by decide) (ai pg) l (show l.length*64<=140737488355328 by omega) h;rw[e0];by_cases hl:l=[]
 ·rw[NE hl]at e1;exact⟨_,h,tag,e1,R,.inl (by rw[hl]),rfl⟩
 ·rw[if_neg hl]at e1;refine⟨_,_,_,e1,(R.more (bF l) 4).1,.inr ⟨h.length,rfl,by simp,by simp⟩,rfl⟩
def Cn{p:List Mod}{nm:SNm}{tag:Nat->Nat}{dv cv sv:AV}{m:Ms}{h:Hp}(R:RepT (rowP p nm.told) nm tag dv cv sv m h)(c:Ap.Call)(av:AV)(ha:ul tag 4 h c.args av)(hok:bh av=true)(hb:m.calls.length<=2000000):
  ∃cv' h1 h2,appH T 24 false cv (.sl [.agg [.str c.module,.str c.func,av]]) h= .ok cv' h1/\cj T 24 (.hp 0 10) cv' h1= .ok (.tup []) h2/\fo p nm { m with calls:=m.calls++[c] } h2:=by
 obtain⟨h1,cv',tag',e1,K,H,hc⟩:=nV (T:=T) (t:=24) rfl rfl rfl rfl (by decide) rfl (by decide) (x:=.agg [.str c.module,.str c.func,av]) R.cs (fun h0=>by
  have:m.calls=[]:=NV h0;rw[this];rfl) (fun cs h=>h.ok.1) (zH _ _ _ hok) (show (m.calls.length+1)*56<=140737488355328 by omega)
 have h0:=(K 0 _ R.r0 (by rw[R.t0];decide)).1;refine⟨cv',h1,_,e1,dx rfl h0 (ep hc).1 (show 10+1<=12 by decide) (by decide),?_⟩;have hac:aa cv'=[cv']:=(ep hc).2.1
 have:=R.pushCall (m':={ m with calls:=m.calls++[c] }) K ha H rfl rfl rfl id
 refine⟨tag',dv,cv',sv,?_⟩;rw[hac];exact this
def sq{p:List Mod}{nm:SNm}{m:Ms}{h:Hp}(R:fo p nm m h)(x:Int):∃h1,fo p nm { m with frames:=x } h1/\(∀f:AV->M AV,ae (aX T 3 (.hp 0 3)) f h=f (.int .i64 m.frames) h)/\
  (∀f:AV->M AV,ae (cj T 3 (.hp 0 3) (.int .i64 x)) f h=f (.tup []) h1):=by
 obtain⟨tag,dv,cv,sv,R⟩:=R;exact⟨_,⟨tag,dv,cv,sv,R.set0 rfl rfl rfl id⟩,fun f=>aZ (bO rfl rfl R.r0 rfl),fun f=>aZ (dx rfl R.r0 rfl (show 3+1<=12 by decide) (by decide))⟩
theorem tL(f:Fun)(a:Int)(ps:List ie)(l:List Val)(x6 x7 x8 x9:AV)(hb:ps.length<=274877906944)(hl:l.length=ps.length):∀(B A:List ie)(lb la:List Val),A++B=ps->la++lb=l->la.length=A.length->
  aj (L102_0 (ai pg) aj) [.hp 0 0,vals l,.ip (aa f.av),di ps,.int .i64 ps.length,.int .i64 A.length,x6,x7,x8,x9,.int .i64 a,strs (A.map (·.1)),vals la]=
  aj (L102_0 (ai pg) aj) [.hp 0 0,vals l,.ip (aa f.av),di ps,.int .i64 ps.length,.int .i64 ps.length,x6,x7,x8,x9,.int .i64 a,strs (ps.map (·.1)),vals l]
 | [],A,lb,la,e,e2,hla=>by
  simp only[OE]at e;subst e;have hz:lb=[]:=by
   apply NV;have:(la++lb).length=l.length:=by rw[e2]
   rw[N3]at this;omega
  rw[hz,OE]at e2;rw[e2]
 | x:: B,A,lb,la,e,e2,hla=>by
  have hll:A.length+(B.length+1)=ps.length:=by rw[<- e];simp
  have h1:(A.length:Int)<(ps.length:Int):=by omega
  have hx:ps[A.length]'(by omega)=x:=by subst e;simp
  obtain⟨v,lb',rfl⟩:∃v lb',lb=v:: lb':=by
   cases lb with
   |nil=>
    have:(la++([]:List Val)).length=l.length:=by rw[e2]
    simp at this;omega
   |cons v lb'=>exact⟨v,lb',rfl⟩
  have hv:l[A.length]'(by omega)=v:=by
   subst e2;rw[List.getElem_append_right (by omega)];simp[hla]
  have hi:=un (l:=ps) (n:=(A.length:Int)) (by omega) h1;rw[show ((A.length:Int)).toNat=A.length by omega,ND ps A.length (by omega),hx]at hi;have hj:=ou (l:=l) (n:=(A.length:Int)) (by omega) (by omega);rw[show ((A.length:Int)).toNat=A.length by omega,ND l A.length (by omega),hv]at hj;have hfl:af T 105 (.ip [.str x.1,.int .i64 x.2.kind,di x.2.fields])=some (dW x):=by simp
  have hvl:af T 71 (.ip (aa v.av))=some v.av:=by simp
  have hw:IntKind.i64.wrap ((A.length:Int)+1)=((A.length+1:Nat):Int):=fb (by omega);have hbd:=t124 a (A.map (·.1)) la x.1 v (by simp;omega) (by omega);have ih:=tL f a ps l x6 x7 x8 x9 hb hl B (A++[x]) lb' (la++[v]) (by rw[<- e];simp) (by rw[<- e2];simp) (by simp[hla]);simp only[Ps,N8,PD,N3,Oy]at ih;rw[<- ih,FL102_0];simp only[L102_0,aL,aY,bV,am,az,h1,OH,NS,hi,hfl,bG (nR x),aA,bd,my,FA105_0,NZ,LD9,hj,hvl,bS,hbd,cX,bM (mX _ _ _),bu,dD,hw]
def Aj(p:List Mod)(nm:SNm)(n:Nat):Prop:=∀(a:Int) (f:Fun) (l:List Val) m h,0<=a->a<p.length->f∈(p[a.toNat]?.getD default).funcs->l.length=f.params.length->(∀v∈l,Rv v)->fo p nm m h->GoodM p m->mu m<1000000->m.fuel<=n->
 iu p nm Val.av (ff p (ba p n) a f l m) (ai pg 102 [.hp 0 0,.int .i64 a,f.av,vals l] h)
def qL(s t:bk)(v:AV)(h:bh v=true):aN T false 63 [(0,.str s),(1,.str t),(2,v)]=some (.agg [.str s,.str t,v]):=by
 have hc:=ep h;show (pD _ _ [(0,.str s),(1,.str t),(2,v)]).map AV.agg=_;simp only[pD];have h2:=hc.2.2;have h3:=hc.2.1;cases v with
 |any=>cases h
 |agg _=>cases h
 |tup _=>cases h
 |_=>rfl
theorem pt(x:AV)(hx:cM x=some 3):au T 24 1 [(0,x)]=some (.sl [x]):=by
 have h1:au T 24 1 [(0,x)]=(km 3 (List.replicate 1 (.agg [.str [],.str [],.sl []])) [(0,x)]).map .sl:=rfl;rw[h1];simp only[km,hx,List.length_replicate];rfl
theorem zc{p:List Mod}{nm:SNm}{n:Nat}(LB:LimB p)(IH:pX p nm n)(a:Int)(f:Fun)(l:List Val)(m:Ms)(h0:0<=a)(ha:a<p.length)(hf:f∈(p[a.toNat]?.getD default).funcs)(hl:l.length=f.params.length)(hr:∀v∈l,Rv v)(G:GoodM p m)(hmu:mu m<1000000)(hn:m.fuel<=n):
  ∀ (m1:Ms) (h1:Hp),fo p nm m1 h1->m1= { m with calls:=if f.pub=true then m.calls++[⟨(p[a.toNat]?.getD default).name,f.name,l⟩]else m.calls } ->m.frames<60->
   iu p nm Val.av (((ba p n a (f.params.map (·.1)) l f.body).bind fun v=>.upd (fun m=>{ m with frames:=m.frames-1 }) (.ok v)) (iy p a f l m))
    (K102_0 (ai pg) aj [.hp 0 0,.int .i64 a,vals l,.ip (aa f.av),.int .i64 0,.int .i64 0,.sl [],.sl []] h1):=by
 have hlt:a.toNat<p.length:=by omega
 have hmp:p[a.toNat]?.getD default∈p:=by rw[NH hlt];exact NW hlt
 obtain⟨hbody,hparams⟩:=LB.body _ hmp f hf;have hfb:=G.bud;have hfu:=G.fuel;have hfr:=G.fr;intro m1 h1 R1 e1 h60;have hB:aN T false 145 [(0,.int .i64 a)]=some (aD a [] []):=rfl;have hcell:=bM (mX a [] []);have hloop:=tL f a f.params l (.int .i64 0) (.int .i64 0) (.sl []) (.sl []) hparams hl f.params [] l [] rfl rfl rfl;have hw1:IntKind.i64.wrap (m.frames+1)=m.frames+1:=aF (by omega) (by omega);obtain⟨h2,R2,l2,s2⟩:=sq R1 (m.frames+1);have e2:{ m1 with frames:=m.frames+1 } = iy p a f l m:=by rw[e1];rfl
 have hm1f:m1.frames=m.frames:=by rw[e1]
 rw[e2]at R2;rw[hm1f]at l2;have hld:af T 50 (.ip (di f.params:: [.int .i64 f.result.kind,di f.result.fields,.int .i64 f.effects,.int .i64 f.body.op,.int .i64 f.body.n,.str f.body.s,.str f.body.m,strs f.body.names,cb f.body.args]))=some (di f.params):=rfl;have hex:af T 31 (.ip [.int .i64 f.body.op,.int .i64 f.body.n,.str f.body.s,.str f.body.m,strs f.body.names,cb f.body.args])=some f.body.av:=by
  have:af T 31 (.ip (aa f.body.av))=some f.body.av:=by simp
  rwa [aO]at this
 simp only[PD,Ot]at hloop;have hz:((0:Nat):Int)=0:=rfl;rw[hz]at hloop;have hm2:(if f.pub=true then m.calls++[(⟨(p[a.toNat]?.getD default).name,f.name,l⟩:Ap.Call)]else m.calls).length<=m.calls.length+1:=by
  split
  ·simp
  ·omega
 have G2:GoodM p (iy p a f l m):=by
  refine⟨⟨G.right.1,fun c hc=>?_⟩,?_,by simp only[iy];omega,hfu,G.shape⟩
  ·simp only[iy]at hc;split at hc
   ·rcases N6.1 hc with k|k
    ·exact G.right.2 c k
    ·simp only[OA]at k;subst k;exact hr
   ·exact G.right.2 c hc
  ·simp only[mu,iy]at hmu |-;omega
 simp only[K102_0,aL,aY,hB,am,hcell,aA,bd,bu,fp,FA90_2,FA90_5,N5,NZ,hld,qz]at hloop |-;rw[show strs []=strs []from rfl]at hloop;rw[hloop,FL102_0];simp only[L102_0,aL,aY,bV,am,az,Po,OU,NC,NK,aQ,FH141_3,NU,l2,dD,hw1,s2,FA90_5,N5,NZ,hex,bS];have hns:((f.params.map (·.1)).length:Int)+(iy p a f l m).fuel<=549755813888:=by
  simp only[Pn,iy];simp only[mu]at hfb;omega
 refine cg (IH a (f.params.map (·.1)) l f.body _ _ R2 G2 hn ⟨ha,⟨by simp[hl],hr⟩,hns⟩ hbody) fun v s h3 hv R3=>?_;obtain⟨G3,_,_⟩:=G2.eval ⟨by simp[hl],hr⟩ hv;obtain⟨h4,R4,l4,s4⟩:=sq R3 (s.frames-1);have hfr3:=G3.fr;have hw2:IntKind.i64.wrap (s.frames-1)=s.frames-1:=aF (by omega) (by omega);have hvl:af T 71 (.ip (aa v.av))=some v.av:=by simp
 simp only[bG (eA v),aA,bd,aQ,am,FH141_3,NU,l4,gD,hw2,s4,hvl];have e9:_=Av.R.ok v.av h4:=pe v h4;rw[e9];exact⟨h4,rfl,R4⟩
def t102{p:List Mod}{nm:SNm}{n:Nat}(LB:LimB p)(IH:pX p nm n):Aj p nm n:=by
 intro a f l m h h0 ha hf hl hr R G hmu hn;have hlt:a.toNat<p.length:=by omega
 have hmp:p[a.toNat]?.getD default∈p:=by rw[NH hlt];exact NW hlt
 obtain⟨hbody,hparams⟩:=LB.body _ hmp f hf;have hfb:=G.bud;have hfu:=G.fuel;have hfr:=G.fr;have tail:=zc LB IH a f l m h0 ha hf hl hr G hmu hn;simp only[fp]at tail;obtain⟨tag,dv,cv,sv,R0⟩:=R;have l3:∀g:AV->M AV,ae (aX T 3 (.hp 0 3)) g h=g (.int .i64 m.frames) h:=fun g=>aZ (bO rfl rfl R0.r0 rfl);have lc:∀g:AV->M AV,ae (aX T 24 (.hp 0 10)) g h=g cv h:=fun g=>aZ (bO rfl rfl R0.r0 rfl);have lm:∀g:AV->M AV,ae (aX T 22 (.hp 0 0)) g h=g (mods p) h:=fun g=>aZ (bO rfl rfl R0.r0 (by rw[<- iD (t:=nm.told) (fun e=>by subst e;simp at hlt)];rfl));generalize hcode:ai pg 102 [.hp 0 0,.int .i64 a,f.av,vals l] h=code;rw[C102]at hcode;simp -implicitDefEqProofs only[S102,aQ,am,FH141_3,NU,l3,bV,bv,eQ]at hcode;by_cases h60:m.frames<60
 ·rw[jN,NE h60];have hd:decide (m.frames<60)=true:=by simpa using h60
  simp only[hd,cw,NS]at hcode;simp -implicitDefEqProofs only[fp,FA90_1,FA90_0,N5,NZ,LD4,LD9,am,az]at hcode;by_cases hp:f.pub=true
  ·simp only[hp,NS]at hcode tail;have hi:=fJ (l:=p) (n:=a) h0 ha;rw[ND p a.toNat hlt]at hi;have e3:p[a.toNat]?.getD default=p[a.toNat]:=by rw[NH hlt];rfl
   obtain⟨av,h1,tag1,c1,R1,A1,ok1⟩:=yY R0 l (by omega);obtain⟨cv',h2,h3,p1,p2,R3⟩:=Cn R1 ⟨p[a.toNat].name,f.name,l⟩ av A1 ok1 (by simp only[mu]at hmu;omega);have hB:aN T false 63 [(0,.str p[a.toNat].name),(1,.str f.name),(2,av)]=some (.agg [.str p[a.toNat].name,.str f.name,av]):=qL _ _ _ ok1;have hBS:=pt (.agg [.str p[a.toNat].name,.str f.name,av]) rfl;have lc1:∀g:AV->M AV,ae (aX T 24 (.hp 0 10)) g h=g cv h:=lc;simp -implicitDefEqProofs only[lc,lm,hi,gd,FA55_0,FH141_0,FH141_4,FH75_3,NZ,LD9,am,NU,Nat.reduceAdd]at hcode;rw[aZ c1]at hcode;simp only[hB,hBS,am]at hcode;rw[aZ p1]at hcode;rw[aZ p2]at hcode;rw[<- hcode];exact tail _ h3 R3 (by rw[e3]) h60
  ·simp only[hp,NC,NK]at hcode tail;rw[<- hcode];exact tail m h ⟨tag,dv,cv,sv,R0⟩ rfl h60
 ·rw[jN,if_neg h60];have hd:decide (m.frames<60)=false:=by simpa using h60
  simp only[hd,cw,NC,NK]at hcode;rw[<- hcode];exact⟨h,rfl,tag,dv,cv,sv,R0⟩
theorem tM{p:List Mod}{nm:SNm}{n:Nat}(IH:pX p nm n)(IE:Aj p nm n)(own:Int)(ns:List bk)(vs:List Val)(at_:Int)(f:Fun)(es:List Exp)(x8 x9 x10 x11:AV)(ha:0<=at_)(hat:at_<p.length)(hf:f∈(p[at_.toNat]?.getD default).funcs)(hes:∀e∈es,bc e)(h8:es.length<=274877906944)(hlen:es.length=f.params.length):
  ∀(B A:List Exp)(acc:List Val)(m:Ms)(h:Hp),A++B=es->acc.length=A.length->(∀v∈acc,Rv v)->fo p nm m h->GoodM p m->mu m<1000000->m.fuel<=n->Sc p own ns vs m->
  iu p nm Val.av ((listX (ba p n own ns vs) B).bind (fun ws=>ff p (ba p n) at_ f (acc++ws)) m)
   (aj (L127_0 (ai pg) aj) [.hp 0 0,.ip (aa (aD own ns vs)),.int .i64 at_,.ip (aa f.av),vals acc,cb es,.int .i64 es.length,.int .i64 A.length,x8,x9,x10,x11] h)
 |[],A,acc,m,h,e,hac,hr,R,G,hmu,hn,hs=>by
  simp only[OE]at e;subst e;have hfl:af T 90 (.ip (aa f.av))=some f.av:=by simp
  have IE':=IE at_ f acc m h ha hat hf (by omega) hr R G hmu hn;generalize hcode:aj (L127_0 (ai pg) aj) [.hp 0 0,.ip (aa (aD own ns vs)),.int .i64 at_,.ip (aa f.av),vals acc,cb A,.int .i64 A.length,.int .i64 A.length,x8,x9,x10,x11] h=code;rw[FL127_0]at hcode;simp -implicitDefEqProofs only[L127_0,aL,aY,bV,am,az,Po,OU,NC,NK,hfl]at hcode;simp only[listX,gY,OE];rw[<- hcode];exact dy IE'
 | x:: B,A,acc,m,h,e,hac,hr,R,G,hmu,hn,hs=>by
  have hll:A.length+(B.length+1)=es.length:=by rw[<- e];simp
  have h1:(A.length:Int)<(es.length:Int):=by omega
  have hx:es[A.length]'(by omega)=x:=by subst e;simp
  have hm:x∈es:=by rw[<- e];simp
  have hi:=kQ (l:=es) (n:=(A.length:Int)) (by omega) h1;rw[show ((A.length:Int)).toNat=A.length by omega,ND es A.length (by omega),hx]at hi;have hsc:af T 145 (.ip (aa (aD own ns vs)))=some (aD own ns vs):=rfl;have hex:af T 31 (.ip (aa x.av))=some x.av:=by simp
  have hw:IntKind.i64.wrap ((A.length:Int)+1)=((A.length+1:Nat):Int):=fb (by omega);generalize hcode:aj (L127_0 (ai pg) aj) [.hp 0 0,.ip (aa (aD own ns vs)),.int .i64 at_,.ip (aa f.av),vals acc,cb es,.int .i64 es.length,.int .i64 A.length,x8,x9,x10,x11] h=code;rw[FL127_0]at hcode;simp -implicitDefEqProofs only[L127_0,aL,aY,bV,am,az,h1,OH,NS,hi,hex,bG (lC x),aA,hsc]at hcode;have hex':af T 31 (.ip (aa (.agg (aa x.av))))=some x.av:=hex;simp -implicitDefEqProofs only[hex',am]at hcode;rw[<- hcode];simp only[listX,eU,gY];refine cg (IH own ns vs x m h R G hn hs (hes x hm)) fun v s h' hv Rs=>?_;obtain⟨G2,rv,f2⟩:=G.eval hs.right hv;obtain⟨t1,_⟩:=lY n own ns vs x m v s G.fuel hv;have hb2:au T 61 1 [(0,v.av)]=some (vals [v]):=by rw[v.av_eq];simp[vals,dP,v.av_eq];rfl
  have ha2:ck T 61 (vals acc) (vals [v])=some (vals (acc++[v])):=sI (by simp;omega);have ih:=tM IH IE own ns vs at_ f es x8 x9 x10 x11 ha hat hf hes h8 hlen B (A++[x]) (acc++[v]) s h' (by rw[<- e];simp) (by simp[hac]) (fun w hw=>by
   rcases N6.1 hw with k|k
   ·exact hr w k
   ·simp only[OA]at k;subst k;exact rv) Rs G2 (by omega) (by omega) (hs.less f2)
  simp only[Oz,Pl,N3,Oy]at ih;simp only[hb2,am,ha2,dD,hw];exact ih
def iP(f:Fun):aK 12 f.av=M.pure (.agg (aa f.av)):=bG (jY f)
theorem td{p:List Mod}{nm:SNm}{n:Nat}(LB:LimB p)(IH:pX p nm n)(own:Int)(ns:List bk)(vs:List Val)(e:Exp)(at_:Int)(hat:at_<p.length)(m:Ms)(h:Hp)(R:fo p nm m h)(G:GoodM p m)(hmu:mu m<1000000)(hn:m.fuel<=n)(hs:Sc p own ns vs m)(he:bc e)(y1 y2 y3 y4:AV):
  iu p nm Val.av ((match jm p at_ e.s with
   |none=>.er 12
   | some f=>if e.m=[]\/f.pub=true then
     (if e.args.length=f.params.length then(listX (ba p n own ns vs) e.args).bind fun l=>ff p (ba p n) at_ f l else .er 13)
    else .er 12:X Val) m)
   (K127_0 (ai pg) aj [.hp 0 0,.ip (aa (aD own ns vs)),.ip (aa e.av),.int .i64 at_,y1,y2,y3,y4] h):=by
 have IE:=t102 LB IH;obtain⟨l1,l2⟩:=eY he;have hfn:=t98 R LB.lim at_ hat e.s;generalize hcode:K127_0 (ai pg) aj [.hp 0 0,.ip (aa (aD own ns vs)),.ip (aa e.av),.int .i64 at_,y1,y2,y3,y4] h=code;simp -implicitDefEqProofs only[K127_0,aL,aY,aO,FA31_2,FA31_3,FA31_5,N5,NZ,LD9,LD29,f7,am]at hcode;rw[aZ hfn]at hcode;cases hf:jm p at_ e.s with
 |none=>
  rw[hf]at hcode;simp -implicitDefEqProofs only[zn,nq,Od,Pw,am,iP,aA,tE,List.replicate,aL,zq,lG,bv,cw,NC,NK]at hcode;rw[<- hcode];exact eT R
 | some f=>
  rw[hf]at hcode;obtain⟨f1,f2,f3⟩:=rk hf;have hmp:p[at_.toNat]?.getD default∈p:=by rw[NH f2];exact NW f2
  obtain⟨_,hparams⟩:=LB.body _ hmp f f3;have hac:∀f:Fun,aa (.agg (aa f.av))=aa f.av:=fun _=>rfl;simp -implicitDefEqProofs only[zn,nq,Od,Pw,am,iP,aA,nB,vE,aL,hac]at hcode;have hpub:af T 4 (.ip (List.drop 1 (aa f.av)))=some (.bool f.pub):=by simp
  have hpar:af T 50 (.ip (List.drop 2 (aa f.av)))=some (di f.params):=by simp
  have hgu:aB (.bool (e.m== [])) false 1 (M.pure [.bool f.pub])=M.pure [gv (e.m== []) false (.bool f.pub)]:=bP _ _ _;have hpk:aM (.bool (e.m== [])) (.bool true) (gv (e.m== []) false (.bool f.pub))=some (.bool ((e.m== [])||f.pub)):=gT _ _;simp -implicitDefEqProofs only[FA90_1,FA90_2,hpub,hpar,am,hgu,aA,aL,hpk,zL,bv,qz,dj]at hcode;by_cases h1:e.m=[]\/f.pub=true
  ·have h1':(e.m== []||f.pub)=true:=by
    simp only[Ox,Ol];exact h1
   simp only[h1',cw,NS]at hcode;simp only[NE h1];by_cases h2:e.args.length=f.params.length
   ·have h2':((e.args.length:Int)== (f.params.length:Int))=true:=by simp[h2]
    simp only[h2',NS]at hcode;simp only[NE h2];rw[<- hcode]
    have:=tM IH IE own ns vs at_ f e.args y1 y2 y3 y4 (by omega) hat f3 (fun x hx=>bg he hx) (by omega) h2 e.args [] [] m h rfl rfl (fun v hv=>by cases hv) R G hmu hn hs
    simp only[N4]at this;exact this
   ·have h2':((e.args.length:Int)== (f.params.length:Int))=false:=by
     rw[Oh];omega
    simp only[h2',NC,NK]at hcode;simp only[if_neg h2];rw[<- hcode];exact eT R
  ·have h1':(e.m== []||f.pub)=false:=by
    rw[<- Pm];simp only[Ox,Ol];exact h1
   simp only[h1',cw,NC,NK]at hcode;simp only[if_neg h1];rw[<- hcode];exact eT R
theorem t127{p:List Mod}{nm:SNm}{n:Nat}(LB:LimB p)(IH:pX p nm n):CH p nm n:=by
 intro own ns vs e m h R G hmu hn hs he;unfold mb;have hown:af T 3 (.ip [.int .i64 own,strs ns,vals vs])=some (.int .i64 own):=rfl;have hmd:=t97 R LB.lim e.m;generalize hcode:ai pg 127 [.hp 0 0,aD own ns vs,e.av] h=code;rw[C127]at hcode;simp -implicitDefEqProofs only[S127,bu,aO,FA145_0,FA31_3,N5,NZ,hown,LD9,am,eQ,oe,az]at hcode;by_cases h0:e.m=[]
 ·have h0':(!(e.m== []))=false:=by simp[h0]
  simp only[h0',NC,NK]at hcode;simp only[NE h0];rw[<- hcode]
  have:=td LB IH own ns vs e own hs.own m h R G hmu hn hs he (.int .i64 0) (.int .i64 0) (.sl []) (.sl [])
  simp only[bu,aO]at this;exact this
 ·have h0':(!(e.m== []))=true:=by simp[h0]
  simp only[h0',NS]at hcode;rw[aZ hmd]at hcode;simp only[if_neg h0];rw[<- hcode];have hlt:fG p e.m<p.length:=by
   rcases gO (fun(x:Mod)=>x.name== e.m) p 0 with k|k
   ·show bj _ p 0<_;rw[k];omega
   ·show bj _ p 0<_;omega
  have:=td LB IH own ns vs e (fG p e.m) hlt m h R G hmu hn hs he (.int .i64 0) (.int .i64 0) (.sl []) (.sl [])
  simp only[bu,aO]at this;exact this
def Mb{t e:Nat}{ti ei:TI}(ht:T t=some ti)(hk:ti.kind= .slice e)(he:T e=some ei){l off len sz:Nat}{ag:Bool}{n:Int}(h0:0<=n)(h1:n<len):ak T t (.hs l off len sz ag) (.int .i64 n)=some (.hp l (off+n.toNat*ei.size)):=by
 simp[ak,ht,hk,he,h0,h1]
def Co{p:List Mod}{nm:SNm}{tag:Nat->Nat}{dv cv sv:AV}{m:Ms}{h:Hp}(R:RepT (rowP p nm.told) nm tag dv cv sv m h)(d:Deed)(hb:m.deeds.length<=2000000):
  ∃dv' h1 h2,appH T 72 false dv (.sl [d.av]) h= .ok dv' h1/\cj T 72 (.hp 0 9) dv' h1= .ok (.tup []) h2/\fo p nm { m with deeds:=m.deeds++[d] } h2:=by
 obtain⟨h1,dv',tag',e1,K,H,hc⟩:=nV (T:=T) (t:=72) rfl rfl rfl rfl (by decide) rfl (by decide) (x:=d.av) R.ds (fun h0=>by
  have:m.deeds=[]:=NV h0;rw[this];rfl) (fun cs h=>by rw[h];exact nf _) (lU d) (show (m.deeds.length+1)*24<=140737488355328 by omega)
 have h0:=(K 0 _ R.r0 (by rw[R.t0];decide)).1;refine⟨dv',h1,_,e1,dx rfl h0 (ep hc).1 (show 9+1<=12 by decide) (by decide),?_⟩;have hac:aa dv'=[dv']:=(ep hc).2.1
 have:=R.pushDeed (m':={ m with deeds:=m.deeds++[d] }) K H rfl rfl rfl id
 refine⟨tag',dv',cv,sv,?_⟩;rw[hac];exact this
theorem vT{p:List Mod}{nm:SNm}{m:Ms}{h:Hp}(R:fo p nm m h)(hb:m.deeds.length<=2000000)(e:Exp)(v:Val)(n:Int)(x1 x2 x3 x4:AV):
  iu p nm Val.av (X.ok (jW n) { m with deeds:=m.deeds++[⟨e.n,v.n,n⟩] }) (K128_0 (ai pg) aj [.hp 0 0,.ip (aa e.av),.ip (aa v.av),.int .i64 n,x1,x2,x3,x4] h):=by
 obtain⟨tag,dv,cv,sv,R0⟩:=R;obtain⟨dv',h1,h2,e1,e2,R2⟩:=Co R0 ⟨e.n,v.n,n⟩ hb;have hB:aN T false 80 [(0,.int .i64 e.n),(1,.int .i64 v.n),(2,.int .i64 n)]=some (Deed.av ⟨e.n,v.n,n⟩):=rfl;have hBS:au T 72 1 [(0,Deed.av ⟨e.n,v.n,n⟩)]=some (.sl [Deed.av ⟨e.n,v.n,n⟩]):=rfl;have ld:∀g:AV->M AV,ae (aX T 72 (.hp 0 9)) g h=g dv h:=fun g=>aZ (bO rfl rfl R0.r0 rfl);generalize hcode:K128_0 (ai pg) aj [.hp 0 0,.ip (aa e.av),.ip (aa v.av),.int .i64 n,x1,x2,x3,x4] h=code;simp -implicitDefEqProofs only[K128_0,aL,aY,aQ,am,FH141_4,FH75_2,NU,Nat.reduceAdd,ld,aO,FA31_1,N5,NZ,LD3,bW,FA71_1,hB,hBS]at hcode;rw[aZ e1]at hcode;rw[aZ e2]at hcode;simp -implicitDefEqProofs only[t120,aA]at hcode;rw[pe]at hcode;rw[<- hcode];exact dJ R2
def Cw{p:List Mod}{nm:SNm}{m:Ms}{h:Hp}(R:fo p nm m h)(w:List Int)(hw0:m.world=[]->w=[]):∃h1,(m.world≠[]->fo p nm { m with world:=w } h1)/\(∀f:AV->M AV,ae (aX T 45 (.hp 0 1)) f h=f (qf nm.told m.world) h)/\
  (m.world≠[]->∀f:AV->M AV,ae (cj T 45 (.hp 0 1) (ints w)) f h=f (.tup []) h1):=by
 obtain⟨tag,dv,cv,sv,R⟩:=R;refine⟨h.set 0 (setCells (rowP p nm.told m dv cv sv) 1 (aa (ints w))),fun hne=>⟨tag,dv,cv,sv,?_⟩,fun f=>aZ (bO rfl rfl R.r0 rfl),fun _ f=>aZ (dx rfl R.r0 rfl (show 1+1<=12 by decide) (by decide))⟩;have ht:nm.told=false:=by
  cases ht:nm.told with
  |false=>rfl
  |true=>exact absurd (R.wok ht) hne
 have e:setCells (rowP p nm.told m dv cv sv) 1 (aa (ints w))=rowP p nm.told { m with world:=w } dv cv sv:=by
  simp only[ht];rfl
 rw[e];exact R.set0 rfl rfl rfl hw0
theorem t128{p:List Mod}{nm:SNm}{n:Nat}(LB:LimB p)(IH:pX p nm n):An p nm n:=by
 intro own ns vs e m h hop hcn R G hmu hn hs he;obtain⟨l1,l2⟩:=eY he;have hscl:af T 145 (.ip [.int .i64 own,strs ns,vals vs])=some (aD own ns vs):=rfl;have hown:af T 3 (.ip [.int .i64 own,strs ns,vals vs])=some (.int .i64 own):=rfl;generalize hcode:ai pg 128 [.hp 0 0,aD own ns vs,e.av] h=code;rw[C128]at hcode;obtain⟨op,en,es,em,en2,ea⟩:=e;simp only[lF]at hop;unfold pf at hcn;simp only[lF,gA]at hcn;have hlen:op=16\/op=18->∃a,ea=[a]:=by
  intro h;apply ES;rcases h with rfl|rfl
  ·simp[aW]at hcn;omega
  ·simp[aW]at hcn;omega
 by_cases h16:op=16
 ·obtain⟨a,rfl⟩:=hlen (.inl h16);subst h16;have ha:bc a:=bg he (by simp);simp -implicitDefEqProofs only[S128,bu,aO,lF,qd,zU,Cd,dZ,gA,FA31_0,FA31_1,FA31_5,N5,NZ,LD3,LD29,am,dj,OB,az,NS,hscl,LM]at hcode;have hex:af T 31 (.ip [.int .i64 a.op,.int .i64 a.n,.str a.s,.str a.m,strs a.names,cb a.args])=some a.av:=by
   have:af T 31 (.ip (aa a.av))=some a.av:=by simp
   rwa [aO]at this
  simp -implicitDefEqProofs only[hex,am]at hcode;rw[<- hcode];simp only[sD,lF,NS,sJ];have e0:([a]:List Exp)[0]! = a:=rfl;simp only[gA,e0];refine cg (IH own ns vs a _ _ R G hn hs ha) fun v s1 h2 hv R2=>?_;obtain⟨G2,rv,f2⟩:=G.eval hs.right hv;generalize hcode2:ae (aK 4 v.av) _ h2=code2;simp -implicitDefEqProofs only[bG (eA v),aA,bd,bW,FA71_0,NZ,LD3,am,dj,bv,bP,aL,gT]at hcode2;by_cases hk:v.kind=0
  ·have hk':(v.kind== 0)=true:=by simp[hk]
   simp only[hk',cw,NS]at hcode2;simp only[NE hk];by_cases hn4':(Exp.mk 16 en es em en2 [a]).n=1\/(Exp.mk 16 en es em en2 [a]).n=2\/(Exp.mk 16 en es em en2 [a]).n=4\/(Exp.mk 16 en es em en2 [a]).n=8
   ·have hn4:en=1\/en=2\/en=4\/en=8:=hn4';have hn':(en== 1||en== 2||en== 4||en== 8)=true:=by
     simp only[Ox,Ol];omega
    simp only[hn',NS]at hcode2;simp only[NE hn4'];obtain⟨h3,R3,lw,sw⟩:=Cw R2 s1.world.tail (fun h=>by rw[h];rfl);have hmu2:=(lY n own ns vs a m v s1 G.fuel hv).1;have hdl:s1.deeds.length<=2000000:=by
     have:=G2.fuel
     simp only[mu]at hmu2 hmu;omega
    show iu p nm Val.av (X.ok (jW (s1.world.headD 0)) { s1 with world:=s1.world.tail,deeds:=s1.deeds++[⟨en,v.n,s1.world.headD 0⟩] }) code2;have lenw:aJ T 45 (qf nm.told s1.world)=some (.int .i64 s1.world.length):=by
     unfold qf;split
     ·rename_i ht;obtain⟨_,_,_,_,R2'⟩:=R2;rw[R2'.wok ht];rfl
     ·exact CM _
    simp -implicitDefEqProofs only[eQ,aQ,am,FH141_1,NU,lw,lenw,am,na,az]at hcode2;cases hwd:s1.world with
    | nil=>
     rw[hwd]at hcode2;simp only[Ot,show decide ((0:Int)<((0:Nat):Int))=false by decide,NC,NK]at hcode2
     have:=vT R2 hdl (.mk 16 en es em en2 [a]) v 0 (.int .i64 0) (.int .i64 0) (.sl []) (.sl [])
     simp only[aO,bW,lF,qd,zU,Cd,dZ,gA]at this;rw[hcode2]at this;have e5:({ s1 with deeds:=s1.deeds++[⟨en,v.n,0⟩] }:Ms)= { s1 with world:=([]:List Int).tail,deeds:=s1.deeds++[⟨en,v.n,([]:List Int).headD 0⟩] }:=by
      cases s1;simp only at hwd;subst hwd;rfl
     rw[e5]at this;exact this
    | cons x wl=>
     have hd:decide ((0:Int)<(((x:: wl).length:Nat):Int))=true:=by simp<;>omega
     have hne:s1.world≠[]:=by rw[hwd];simp
     have sw:=sw hne;have R3:=R3 hne;have hwv:qf nm.told s1.world=ints s1.world:=by
      unfold qf;rw[if_neg];intro ht;obtain⟨_,_,_,_,R2'⟩:=R2;exact hne (R2'.wok ht)
     rw[hwv]at lw;rw[hwd]at hcode2 sw R3 lw;have hix:ak T 45 (ints (x:: wl)) (.int .i64 0)=some (.ip [.int .i64 x]):=by
      have:=Bi (l:=x:: wl) (n:=0) (by omega) (by simp<;>omega)
      simpa using this
     have hsl:dh T 45 (ints (x:: wl)) (some (.int .i64 1)) none none=some (ints wl):=by
      have:=o7 (T:=T) (t:=45) (e:=3) rfl rfl rfl ((x:: wl).map (AV.int .i64)) (by exact Cj _) (n:=1) (by omega) (by simp<;>omega)
      simpa [ints]using this
     simp only[List.tail_cons]at sw R3;simp -implicitDefEqProofs only[hd,NS,lw,hix,am,LD3,hsl,sw]at hcode2
     have:=vT R3 hdl (.mk 16 en es em en2 [a]) v x (.int .i64 0) (.int .i64 0) (.sl []) (.sl [])
     simp only[aO,bW,lF,qd,zU,Cd,dZ,gA]at this;rw[hcode2]at this;exact this
   ·have hn4:¬(en=1\/en=2\/en=4\/en=8):=hn4';have hn':(en== 1||en== 2||en== 4||en== 8)=false:=by
     rw[<- Pm];simp only[Ox,Ol];omega
    simp only[hn',NC,NK]at hcode2;simp only[if_neg hn4'];rw[<- hcode2];exact eT R2
  ·have hk':(v.kind== 0)=false:=by simpa using hk
   simp only[hk',cw,NC,NK]at hcode2;simp only[if_neg hk];rw[<- hcode2];exact eT R2
 have h16':((op:Int)== 16)=false:=by simpa using h16
 have h16x:¬((Exp.mk op en es em en2 ea).op=16):=h16;unfold sD;simp only[if_neg h16x];unfold sX;simp -implicitDefEqProofs only[S128,bu,aO,lF,qd,zU,Cd,dZ,gA,FA145_0,FA31_0,FA31_1,FA31_2,FA31_5,N5,NZ,LD3,LD29,am,dj,h16',NC,az,NK,hown,hscl,gB,bv,eQ]at hcode;by_cases ho:own<0
 ·have ho':decide (0<=own)=false:=by simp;omega
  simp only[ho',cw,NC,NK]at hcode;simp only[NE ho];rw[<- hcode];exact eT R
 have ho':decide (0<=own)=true:=by simp;omega
 simp only[ho',cw,NS]at hcode;simp only[if_neg ho];have hol:=hs.own;have hlt:own.toNat<p.length:=by omega
 have hix:=fJ (l:=p) (n:=own) (by omega) hol;rw[ND p own.toNat hlt]at hix;have e3:p[own.toNat]?.getD default=p[own.toNat]:=by rw[NH hlt];rfl
 have hvl:=(LB.lim.funcsAt own.toNat).2;rw[e3]at hvl |-;have hff:=L5 p[own.toNat].vars hvl (.mk op en es em en2 ea);simp only[aO,lF,qd,zU,Cd,dZ,gA]at hff;have Rk:=R;obtain⟨tag,dv,cv,sv,R0⟩:=R;have lm:∀g:AV->M AV,ae (aX T 22 (.hp 0 0)) g h=g (mods p) h:=fun g=>aZ (bO rfl rfl R0.r0 (by rw[<- iD (t:=nm.told) (fun e=>by subst e;simp at hlt)];rfl));have lsv:∀g:AV->M AV,ae (aX T 73 (.hp 0 11)) g h=g nm.sv h:=fun g=>aZ (bO rfl rfl R0.r0 (by rw[<- R0.sve];rfl));simp -implicitDefEqProofs only[aQ,am,FH141_0,FH141_4,FH75_4,NU,Nat.reduceAdd,lm,hix,gd,FA55_2,N5,NZ,LD50,hff,cX,aA,gB,bv]at hcode;by_cases hi:f4 p[own.toNat].vars (Exp.mk op en es em en2 ea).s<0
 ·have hi':decide (0<=f4 p[own.toNat].vars es)=false:=by
   have:f4 p[own.toNat].vars es<0:=hi;simp;omega
  simp only[hi',cw,NC,NK]at hcode;simp only[NE hi];rw[<- hcode];exact eT Rk
 have hi0:0<=f4 p[own.toNat].vars es:=by
  have:¬f4 p[own.toNat].vars es<0:=hi;omega
 have hi':decide (0<=f4 p[own.toNat].vars es)=true:=by simp;omega
 simp only[hi',cw,NS,lsv]at hcode;simp only[if_neg hi];have hil:f4 p[own.toNat].vars es<p[own.toNat].vars.length:=by
  rcases gO (fun(x:ie)=>x.1== es) p[own.toNat].vars 0 with k|k
  ·have:f4 p[own.toNat].vars es= -1:=k;omega
  ·have:f4 p[own.toNat].vars es=bj (fun(x:ie)=>x.1== es) p[own.toNat].vars 0:=rfl;omega
 obtain⟨l,hl1,hl2⟩:=G.shape own.toNat _ (NH hlt);have hne:l≠[]:=fun e=>by rw[e]at hl2;simp at hl2;omega
 have hsl:own.toNat<m.state.length:=(NO.1 hl1).1;obtain⟨q,r,v1,v2,v3,v4,v5,v6⟩:=R0.var (fun _=>rfl) hl1 hne;have hx1:ak T 73 nm.sv (.int .i64 own)=some (.hp q (own.toNat*2)):=by
  rw[v1]
  have:=Mb (t:=73) rfl rfl rfl (l:=q) (off:=0) (len:=m.state.length) (sz:=2) (ag:=true) (n:=own) (by omega) (by omega)
  rw[this];simp
 have lv:∀g:AV->M AV,ae (aX T 61 (.hp q (own.toNat*2+1))) g h=g (.hs r 0 l.length 4 true) h:=fun g=>aZ (bO rfl rfl v2 v3);simp -implicitDefEqProofs only[hx1,am,FH155_1,lv]at hcode;generalize hI:f4 p[own.toNat].vars es=I at *;have hI2:f4 p[own.toNat].vars (Exp.mk op en es em en2 ea).s=I:=hI;rw[hI2];have hx2:ak T 61 (.hs r 0 l.length 4 true) (.int .i64 I)=some (.hp r (I.toNat*4)):=by
  have:=Mb (t:=61) rfl rfl rfl (l:=r) (off:=0) (len:=l.length) (sz:=4) (ag:=true) (n:=I) (by omega) (by omega)
  rw[this];simp
 have hk:I.toNat<l.length:=by omega
 by_cases h18:op=18
 ·have h18x:(Exp.mk op en es em en2 ea).op=18:=h18;simp only[NE h18x];obtain⟨a,rfl⟩:=hlen (.inr h18);have ha:bc a:=bg he (by simp);have hb18:(op== 18)=true:=by simp[h18]
  have hex:af T 31 (.ip (aa a.av))=some a.av:=by simp
  have e0:(Exp.mk op en es em en2 [a]).args[0]! = a:=rfl;simp -implicitDefEqProofs only[hb18,NS,LM,am,hex]at hcode;rw[<- hcode,e0];refine cg (IH own ns vs a _ _ Rk G hn hs ha) fun v s1 h2 hv R2=>?_;obtain⟨G2,rv,f2⟩:=G.eval hs.right hv;obtain⟨tag2,dv2,cv2,sv2,R20⟩:=R2;obtain⟨l',hl1',hl2'⟩:=G2.shape own.toNat _ (NH hlt);have hne':l'≠[]:=fun e=>by rw[e]at hl2';simp at hl2';omega
  obtain⟨q',r',w1,w2,w3,w4,w5,w6⟩:=R20.var (fun _=>rfl) hl1' hne';have hll:l'.length=l.length:=by omega
  have hrr:r'=r:=by
   rw[v3]at w3;simp only[NB,AV.hs.injEq]at w3;exact w3.1.symm
  subst hrr;have hst:cj T 71 (.hp r' (I.toNat*4)) v.av h2= .ok (.tup []) (h2.set r' (bF (l'.set I.toNat v))):=by
   have:=dx (T:=T) (t:=71) rfl w5 (v:=v.av) (k:=I.toNat*4) (eA v) (by rw[fY];show I.toNat*4+4<=_;omega) (by decide)
   rw[this,oi (by omega)]
  have R3:=w6 I.toNat v (by omega);have hset:((s1.state[own.toNat]?.getD []).set I.toNat v)=l'.set I.toNat v:=by rw[hl1'];rfl
  have hld2:aX T 71 (.hp r' (I.toNat*4)) (h2.set r' (bF (l'.set I.toNat v)))= .ok v.av (h2.set r' (bF (l'.set I.toNat v))):=by
   have hlt2:r'<h2.length:=(NO.1 w5).1
   have:=oN (T:=T) (t:=71) rfl rfl (h:=h2.set r' (bF (l'.set I.toNat v))) (l:=r') (k:=I.toNat*4) (OZ hlt2) (by rw[fY,Pr];show I.toNat*4+4<=_;omega)
   rw[this];have hg:=kI (l:=l'.set I.toNat v) (k:=I.toNat) (by simp;omega);show Av.R.ok (AV.agg (((bF (l'.set I.toNat v)).drop (I.toNat*4)).take 4)) _=_;rw[hg,List.getElem_set_self];rw[Val.av_eq];rfl
  generalize hcode2:ae (ah (ak T 61 (.hs r' 0 l.length 4 true) (.int .i64 I))) _ h2=code2;simp -implicitDefEqProofs only[hx2,am]at hcode2;rw[aZ hst]at hcode2;simp -implicitDefEqProofs only[K128_1,aL,aY,hx2,am]at hcode2;rw[aZ hld2,pe]at hcode2;rw[<- hcode2];exact⟨_,rfl,tag2,dv2,cv2,sv2,R3⟩
 ·have h18x:¬((Exp.mk op en es em en2 ea).op=18):=h18;have hb18:(op== 18)=false:=by simpa using h18
  have hld2:aX T 71 (.hp r (I.toNat*4)) h= .ok (l[I.toNat]).av h:=by
   have:=oN (T:=T) (t:=71) rfl rfl (h:=h) (l:=r) (k:=I.toNat*4) v5 (by rw[fY];show I.toNat*4+4<=_;omega)
   rw[this];have hg:=kI (l:=l) (k:=I.toNat) hk;show Av.R.ok (AV.agg (((bF l).drop (I.toNat*4)).take 4)) _=_;rw[hg,Val.av_eq];rfl
  simp only[if_neg h18x];simp -implicitDefEqProofs only[hb18,NC,NK,K128_1,aL,aY,hx2,am]at hcode;rw[aZ hld2,pe]at hcode;rw[<- hcode];have hgs:me m.state own.toNat I.toNat=l[I.toNat]:=by
   simp[me,Oj,hl1,hk]
  show iu p nm Val.av (X.ok (me m.state own.toNat I.toNat) m) _;rw[hgs];exact dJ Rk
theorem Lu{p:List Mod}{nm:SNm}(LB:LimB p):∀n,pX p nm n
 |0=>fun own ns vs e m h R G hn hs he=>⟨h,Er R (by omega) _ e,R⟩
 |n+1=>by
  have IH:=Lu (nm:=nm) LB n;exact BQ IH (t125 IH) (t127 LB IH) (t128 LB IH)
def nF{m:M AV}{r:AV}{h':Hp}(h1:m []= .ok r h')(h2:∀g,cl g r=r):aH m=M.pure r:=by
 funext h;unfold aH;rw[h1];simp only[M.pure];have:oH 6 h' r=r:=h2 _;rw[this]
def FS(l:List Val):(l.any fun v=>!bU 4 v)= !(l.all (bU 4)):=by
 induction l with
 |nil=>rfl
 |cons v l ih=>simp only[QD,OT,ih];cases bU 4 v<;>simp
def Nn(v:Val):af T 71 (.ip (aa v.av))=some v.av:=by simp
def t86(v:Val)(hv:v.sz<=4611686018427387904):ai pg 86 [v.av]=M.pure (.bool !bU 4 v):=by
 rw[C86];simp only[S86,li,Nn,am,t87 v hv,aA,kH];exact bb fun g=>rfl
def F9(k:Nat)(hk:∀v:Val,v.sz<=4611686018427387904->ai pg k [v.av]=M.pure (.bool !bU 4 v))(l:List Val)(hl:bJ l<=4611686018427387904):ai pg 85 [vals l,.fn (.func k) [] []]=M.pure (.bool !(l.all (bU 4))):=by
 have:=t85 (.fn (.func k) [] []) (fun v=>!bU 4 v) l (O0 (kJ l) hl) (fun g=>rfl) (fun v hv=>hk v (O0 (i9 hv) hl))
 rw[this,FS]
def t88(f:AV)(h:Hp):ai pg 88 [f] h=yu 69 .i64 (.agg [.int .i64 0,.int .i64 0,.sl [],.sl []]) (cO (ai pg) f [] h):=by
 have e:ai pg 88 [f]=yt 69 .i64 (.agg [.int .i64 0,.int .i64 0,.sl [],.sl []]) (ai pg) [f]:=eL hOther rfl _;rw[e];rfl
def M1:SNm:=⟨[],.hn,[],true⟩
def xr:LimB []:=⟨⟨by simp,fun m hm=>by cases hm⟩,fun m hm=>by cases hm⟩
def Hl:fo [] M1 (dA [] 100000 []) [[.hn,.hn,.int .i64 100000,.int .i64 0,.int .i64 0,.int .i64 0,.int .i64 0,.hn,.hn,.hn,.hn,.hn]]:=
 ⟨fun _=>0,.hn,.hn,.hn,rfl,rfl,.inl ⟨rfl,rfl⟩,.inl ⟨rfl,rfl⟩,.inl ⟨rfl,rfl⟩,rfl,fun _=>rfl⟩
def wX:GoodM [] (dA [] 100000 []):=⟨⟨fun l hl=>by simp[dA]at hl,fun c hc=>by simp[dA]at hc⟩,by simp[mu,dA],by simp[dA],by simp[dA],fun i x hx=>by simp at hx⟩
def jB:Rs Val->AV
 |.ok v _=>.tup [v.av,.int .i64 0]
 |.er e _=>.tup [Val.av default,.int .i64 e]
def lP(g)(v:Val)(e:Int):cl g (.tup [v.av,.int .i64 e])= .tup [v.av,.int .i64 e]:=by simp[cl,eV]
theorem t51(e:Exp)(ns:List bk)(vs:List Val)(he:bc e)(hn:ns.length<=274877906944)(hv:bJ vs<=4611686018427387904):ai pg 51 [e.av,strs ns,vals vs]=M.pure (jB (nn e ns vs)):=by
 have ha:=F9 86 t86 vs hv;have hl1:af T 28 (.ip (aa (strs ns)))=some (strs ns):=rfl;have hl2:af T 61 (.ip (aa (vals vs)))=some (vals vs):=rfl;have hB:aN T true 141 [(2,.int .i64 100000)]=some (.agg [.hn,.hn,.int .i64 100000,.int .i64 0,.int .i64 0,.int .i64 0,.int .i64 0,.hn,.hn,.hn,.hn,.hn]):=rfl;have hZ:aN T false 71 []=some (Val.av default):=rfl;have hcl:∀h:AV->M AV,ae (newH [.hn,.hn,.int .i64 100000,.int .i64 0,.int .i64 0,.int .i64 0,.int .i64 0,.hn,.hn,.hn,.hn,.hn]) h []=h (.hp 0 0) [[.hn,.hn,.int .i64 100000,.int .i64 0,.int .i64 0,.int .i64 0,.int .i64 0,.hn,.hn,.hn,.hn,.hn]]:=fun h=>rfl;rw[C51,nc,qj,uA];unfold nn;by_cases hr:ns.length=vs.length/\vs.all (bU 4)=true
 ·rw[NE hr];have hne:((ns.length:Int) != (vs.length:Int))=false:=by simp[hr.1]
  have hrs:kc ns vs:=⟨hr.1,fun v hv=>(Oc.1 hr.2) v hv⟩;have hev:=Lu (nm:=M1) xr 100000 (-1) ns vs e _ _ Hl wX (by simp[dA]) ⟨by simp,hrs,by simp only[dA];omega⟩ he;have hcell:aK 1 (.hp 0 0)=M.pure (.agg [.hp 0 0]):=rfl;have hBS:aN T false 145 [(0,.int .i64 (-1)),(1,strs ns),(2,vals vs)]=some (aD (-1) ns vs):=rfl;have hlp:af T 139 (.ip [.hp 0 0])=some (.hp 0 0):=rfl;have hex:af T 31 (.ip (aa e.av))=some e.av:=by simp
  have hcall:∀h,ai pg 89 [.ip [.hp 0 0],.ip (aa (strs ns)),.ip (aa (vals vs)),.ip (aa e.av)] h=ae (ai pg 90 [.hp 0 0,aD (-1) ns vs,e.av]) (fun v=>ae (ap 4 [] v) fun w=>M.pure (AV.agg [nth (aa w) 0,nth (aa w) 1,nth (aa w) 2,nth (aa w) 3])) h:=fun h=>by
   rw[C89];simp -implicitDefEqProofs only[S89,hlp,hl1,hl2,hex,hBS,am]
  have hS:S51 (ai pg) aj e.av (strs ns) (vals vs) []= .ok (jB (ba [] 100000 (-1) ns vs e (dA [] 100000 []))) []\/∃h',S51 (ai pg) aj e.av (strs ns) (vals vs) []= .ok (jB (ba [] 100000 (-1) ns vs e (dA [] 100000 []))) h':=by
   right;simp -implicitDefEqProofs only[S51,hl1,hl2,am,kV,ov,gC,hne,nB,ha,aA,kH,hr.2,Pv,aL,lG,az,NC,NK,hB,bd,hcl,hcell];have htry:=t88 (.fn (.func 89) [] [.ip [.hp 0 0],.ip (aa (strs ns)),.ip (aa (vals vs)),.ip (aa e.av)]) [[.hn,.hn,.int .i64 100000,.int .i64 0,.int .i64 0,.int .i64 0,.int .i64 0,.hn,.hn,.hn,.hn,.hn]];have hcv:cO (ai pg) (.fn (.func 89) [] [.ip [.hp 0 0],.ip (aa (strs ns)),.ip (aa (vals vs)),.ip (aa e.av)]) []=ai pg 89 [.ip [.hp 0 0],.ip (aa (strs ns)),.ip (aa (vals vs)),.ip (aa e.av)]:=rfl;rw[hcv,hcall]at htry;have how:=dy hev;generalize ba [] 100000 (-1) ns vs e (dA [] 100000 [])=r at how |-;cases r with
   |ok v s=>
    obtain⟨h',e1,_⟩:=how;refine⟨h',?_⟩;rw[e1]at htry;simp only[yu,eA,NF]at htry;rw[aZ htry];simp[jB,M.pure]
   |er c s=>
    obtain⟨h',e1,_⟩:=how;refine⟨h',?_⟩;rw[e1]at htry;have ht:yu 69 .i64 (.agg [.int .i64 0,.int .i64 0,.sl [],.sl []]) (.pan (ni c) h')= .ok (.tup [Val.av default,.int .i64 c]) h':=rfl;rw[ht]at htry;rw[aZ htry];simp[jB,M.pure]
  rcases hS with h|⟨h',h⟩
  ·exact nF h fun g=>by cases ba [] 100000 (-1) ns vs e (dA [] 100000 [])<;>exact lP g _ _
  ·exact nF h fun g=>by cases ba [] 100000 (-1) ns vs e (dA [] 100000 [])<;>exact lP g _ _
 ·rw [if_neg hr];have hb:((ns.length:Int) != (vs.length:Int)||!(vs.all (bU 4)))=true:=by
   by_cases h1:ns.length=vs.length
   ·have:vs.all (bU 4)=false:=by
     rw[<- Pm];exact fun h2=>hr ⟨h1,h2⟩
    simp[this]
   ·have:((ns.length:Int) != (vs.length:Int))=true:=by
     rw[Qv];omega
    simp[this]
  have hgu:aB (.bool ((ns.length:Int) != (vs.length:Int))) false 1 (M.pure [.bool !(vs.all (bU 4))])=M.pure [gv ((ns.length:Int) != (vs.length:Int)) false (.bool !(vs.all (bU 4)))]:=bP _ _ _;have hS:S51 (ai pg) aj e.av (strs ns) (vals vs)=M.pure (.tup [Val.av default,.int .i64 1]):=by
   simp -implicitDefEqProofs only[S51,hl1,hl2,am,kV,ov,gC,ha,aA,kH,hgu,aL,gT,hb,az,NS,hZ];simp
  rw[hS];exact bb fun g=>lP g _ _
theorem gn(a b:Int):ao T .neq 69 (.int .i64 a) (.int .i64 b)=some (.bool (a != b)):=rfl
theorem mo:(l:List Val)->(∀v∈l,Rv v)->bJ l<=l.length*200000
 |[],_=>by simp[bJ]
 |v:: l,h=>by
  have h1:=xW (h v Oq);have h2:=mo l fun w hw=>h w (OC _ hw);simp only[bJ,Of];omega
end Go.Proofs.YtnipfhmghjdnmaaGreat
