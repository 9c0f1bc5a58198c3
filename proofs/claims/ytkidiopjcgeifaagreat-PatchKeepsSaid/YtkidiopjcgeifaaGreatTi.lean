/- What the functions compute, part 9. Conditions: bounds. -/
import Derived.Test.YtkidiopjcgeifaaGreatTh
set_option linter.defProp false
set_option linter.unusedSimpArgs false
set_option linter.unusedVariables false
namespace Go.Proofs.YtkidiopjcgeifaaGreat
open Go Go.Av Go.Av.Ap
set_option maxRecDepth 100000
def Do(t:Bool)(p:List Mod):AV:=if t=true then(match p with|[]=>.hn|_=>mods p)else mods p
variable {p:List Mod}
def w9{t:Bool}(h:p≠[]):Do t p=mods p:=by
 cases t with
 |false=>rfl
 |true=>cases p with
  |nil=>grind
  |cons _ _=>rfl
def zO(t:Bool)(w:List Int):AV:=if t=true then .hn else ints w
def rowP(p:List Mod)(t:Bool)(m:Ms)(dv cv sv:AV):List AV:=[Do t p,zO t m.world,qi m.fuel,qi m.frames,qi 0,qi 0,qi 0,.hn,.hn,dv,cv,sv]
abbrev gF(p:List Mod)(nm:SNm):=Rep (rowP p nm.told) nm
structure LimP (p:List Mod):Prop where
 len:p.length<=1099511627776
 funcs:∀m∈p,m.funcs.length<=1099511627776/\m.vars.length<=1099511627776
def LimP.funcsAt(L:LimP p)(i:Nat):(p[i]?.getD default).funcs.length<=1099511627776/\(p[i]?.getD default).vars.length<=1099511627776:=by
 cases h:p[i]? with
 |none=>exact⟨acU _,acU _⟩
 |some m=>exact L.funcs m (adl h)
theorem qn{α:Type}(F:α->Bool):(l:List α)->(i:Int)->aL F l i= -1\/(i<=aL F l i/\aL F l i<i+l.length)
 |[],i=>.inl rfl
 | x:: l,i=>by
  simp only[aL];split
  ·grind
  ·rcases qn F l (i+1)with h|h
   all_goals grind
variable {h:Hp}{nm:SNm}
def t112{m:Ms}(R:gF p nm m h)(L:LimP p)(s:aA):aa pg 112 [.hp 0 0,.str s] h= .ok (qi (eM p s)) h:=by
 obtain⟨tag,dv,cv,sv,R⟩:=R;have h0:bM T 30 (.hp 0 (0+0)) h= .ok (Do nm.told p) h:=eD rfl rfl R.r0 rfl;have hpv:∀f:AV,aa pg 180 [Do nm.told p,f]=aa pg 180 [mods p,f]:=fun f=>by
  by_cases hp:p=[]
  ·subst hp;cases nm.told with
   |false=>rfl
   |true=>rw[C180,C180];rfl
  ·rw[w9 hp]
 rw[C112];simp only[S112,fQ,af,FH203_0];rw[cK h0,hpv]
 have:=ZC p (by have:=L.len;omega) s
 simp only[gm,this,aj];rfl
def yo:Option Fun->AV
 |some f=>.tup [f.av,.bool true]
 |none=>.tup [Fun.av default,.bool false]
theorem t113{m:Ms}(R:gF p nm m h)(L:LimP p)(a:Int)(ha:a<p.length)(s:aA):aa pg 113 [.hp 0 0,qi a,.str s] h= .ok (yo (iA p a s)) h:=by
 obtain⟨tag,dv,cv,sv,R⟩:=R;have h0:p≠[]->bM T 30 (.hp 0 (0+0)) h= .ok (mods p) h:=fun hp=>eD rfl rfl R.r0 (by rw[<- w9 (t:=nm.told) hp];rfl);have hz:bW T false 56 []=some (Fun.av default):=rfl;have hzz:∀f:Fun,AV.agg [aD (ab f.av) 0,aD (ab f.av) 1,aD (ab f.av) 2,aD (ab f.av) 3,aD (ab f.av) 4,aD (ab f.av) 5,aD (ab f.av) 6,aD (ab f.av) 7,aD (ab f.av) 8,aD (ab f.av) 9,aD (ab f.av) 10,aD (ab f.av) 11]=f.av:=fun f=>AI
 have hcf:∀f:Fun,aK 12 [] f.av=ao (.agg (ab f.av)):=fun f=>cw (yS f);have hac:∀f:Fun,ab (.agg (ab f.av))=ab f.av:=fun _=>rfl;rw[C113];unfold iA;simp only[S113,aC,af,ah];by_cases h1:a<0
 ·simp only[h1,acX,acK,hz,af,hcf,aj,hac,hzz];rfl
 ·simp only[h1,adg,acA,acI,fQ,af,FH203_0];rw[cK (h0 (fun e=>qr))];have hi:=D8 (l:=p) (n:=a) WD ha;have hlt:a.toNat<p.length:=WD
  have e1:p[a.toNat]! = p[a.toNat]?.getD default:=by rw[acF p a.toNat hlt,acH hlt];rfl
  have hlen:=(L.funcsAt a.toNat).1;have hx:=ZD (p[a.toNat]?.getD default).funcs WD s;generalize hm:p[a.toNat]?.getD default=md at hx hlen e1;rw[hi,e1];simp only[af,bu,FA29_4,ac5,ac0,LD25,gm,hx,aj,aC,ah];by_cases h2:rD md.funcs s<0
  ·simp only[h2,acX,acK,hz,af,hcf,aj,hac,hzz];rfl
  ·simp only[h2,adg,acA,acI];rcases qn (fun f=>f.name== s) md.funcs 0 with h3|h3
   ·grind [rD]
   ·have h4:rD md.funcs s<(md.funcs.length:Int):=by unfold rD;omega
    have h5:(rD md.funcs s).toNat<md.funcs.length:=WD
    rw[sW WD h4,acF md.funcs _ h5,acH h5];have hld:ay T 56 (.ip (ab (md.funcs[(rD md.funcs s).toNat]).av))=some (md.funcs[(rD md.funcs s).toNat]).av:=AI
    simp only[af,hld,hcf,aj,hac,hzz];rfl
variable {α:Type}
def lQ(p:List Mod)(nm:SNm)(enc:α->AV)(r:Rs α)(c:R AV):Prop:=match r with
 |.ok v s=>∃h',c= .ok (enc v) h'/\gF p nm s h'
 |.er e s=>∃h',c= .pan (tc e) h'/\gF p nm s h'
def cN{β:Type}{enc:α->AV}{enc':β->AV}{x:X α}{f:α->X β}{c:M AV}{d:AV->M AV}{m:Ms}(H:lQ p nm enc (x m) (c h))(K:∀a s h',x m= .ok a s->gF p nm s h'->lQ p nm enc' (f a s) (d (enc a) h')):lQ p nm enc' (x.bind f m) (aG c d h):=by
 unfold X.bind;cases hr:x m with
 |ok a s=>
  rw[hr]at H;obtain⟨h',h1,h2⟩:=H;rw[cK h1]
  grind
 |er e s=>
  rw[hr]at H;obtain⟨h',h1,h2⟩:=H;exact⟨h',I2 h1,h2⟩
theorem fJ{enc:α->AV}{a:α}{m:Ms}(R:gF p nm m h):lQ p nm enc (X.ok a m) (ao (enc a) h):=⟨h,rfl,R⟩
theorem hQ{enc:α->AV}{e:Int}{m:Ms}(R:gF p nm m h):lQ p nm enc (X.er e m) (lz (tc e) h):=⟨h,rfl,R⟩
def Sb(v:Val):aG (aK 4 [] v.av) (fun w=>ao (AV.agg [aD (ab w) 0,aD (ab w) 1,aD (ab w) 2,aD (ab w) 3]))=ao v.av:=AI
def lI(m:Ms):Ms:={ m with fuel:=m.fuel-1 }
variable {cv dv sv:AV}
def Og{tag:Nat->Nat}{m:Ms}(R:RepT (rowP p nm.told) nm tag dv cv sv m h):RepT (rowP p nm.told) nm tag dv cv sv (lI m) (h.set 0 (rowP p nm.told (lI m) dv cv sv)):=R.set0 rfl rfl rfl id
def step0{m:Ms}(R:gF p nm m h):∃h1,gF p nm (lI m) h1/\
  (∀f:AV->M AV,aG (bM T 3 (.hp 0 2)) f h=f (qi m.fuel) h)/\(∀f:AV->M AV,aG (cG T 3 (.hp 0 2) (qi (m.fuel-1))) f h=f (.tup []) h1):=by
 obtain⟨tag,dv,cv,sv,R⟩:=R;refine⟨_,⟨tag,dv,cv,sv,Og R⟩,fun f=>cK (eD rfl rfl R.r0 rfl),fun f=>cK (iz rfl R.r0 rfl (show 2+1<=12 by decide) Vc)⟩
def MM{m:Ms}(R:gF p nm m h)(hf:¬0<m.fuel)(sc:AV)(e:Exp):aa pg 176 [.hp 0 0,sc,e.av] h= .pan (tc 16) h:=by
 obtain⟨tag,dv,cv,sv,R⟩:=R;have h0:∀f:AV->M AV,aG (bM T 3 (.hp 0 2)) f h=f (qi m.fuel) h:=fun f=>cK (eD rfl rfl R.r0 rfl);rw[C176];simp[S176,h0,hf,bn,dt,lz]
def vu(e:Exp):Prop:=¬bU e.op= -2/\(bU e.op= -1\/bU e.op=e.args.length)
def U2{m:Ms}(R:gF p nm m h)(G:GoodM p m)(hf:0<m.fuel)(sc:AV)(e:Exp)(hc:¬vu e):∃h1,gF p nm (lI m) h1/\aa pg 176 [.hp 0 0,sc,e.av] h= .pan (tc 13) h1:=by
 obtain⟨h1,R1,hl,hs⟩:=step0 R;refine⟨h1,R1,?_⟩;have hw:IntKind.i64.wrap (m.fuel-1)=m.fuel-1:=aW WD (by have:=G.bud;simp only[mu]at this;omega);unfold vu at hc;rw[C176];simp[S176,hl,hs,hf,bn,dt,hw,t226,hc];rfl
mutual
def bj:Exp->Prop
 |.mk _ _ _ _ ns es=>ns.length<=8796093022208/\es.length<=274877906944/\tg es
def tg:List Exp->Prop
 |[]=>True
 |e:: es=>bj e/\tg es
end
theorem vO:{l:List Exp} ->tg l->∀e∈l,bj e
 |[],_,_,h=>by cases h
 |x:: l,H,e,h=>by
  simp only[tg]at H;rcases ac2.1 h with rfl|h
  ·exact H.1
  ·exact vO H.2 e h
def bI{e x:Exp}(H:bj e)(h:x∈e.args):bj x:=by
 obtain⟨o,n,s,m,ns,es⟩:=e;simp only[bj]at H;exact vO H.2.2 x h
def oX{e:Exp}(H:bj e):e.names.length<=8796093022208/\e.args.length<=274877906944:=by
 obtain⟨o,n,s,m,ns,es⟩:=e;simp only[bj]at H;exact⟨H.1,H.2.1⟩
structure LimB (p:List Mod):Prop where
 lim:LimP p
 body:∀m∈p,∀f∈m.funcs,bj f.body/\f.params.length<=274877906944
structure Sc (p:List Mod) (own:Int) (ns:List aA) (vs:List Val) (m:Ms):Prop where
 own:own<p.length
 right:pO ns vs
 len:(ns.length:Int)+m.fuel<=549755813888
def wJ(p:List Mod)(nm:SNm)(n:Nat):Prop:=∀own ns vs e m h,gF p nm m h->GoodM p m->m.fuel<=n->Sc p own ns vs m->bj e->lQ p nm Val.av (bh p n own ns vs e m) (aa pg 176 [.hp 0 0,bP own ns vs,e.av] h)
def Sk(p:List Mod)(nm:SNm)(n:Nat):Prop:=∀own ns vs e m h,gF p nm m h->GoodM p m->m.fuel<=n->Sc p own ns vs m->bj e->lQ p nm AV.bool (boolX (bh p n own ns vs e) m) (aa pg 230 [.hp 0 0,bP own ns vs,e.av] h)
def Rx(p:List Mod)(nm:SNm)(n:Nat):Prop:=∀own ns vs e m h,gF p nm m h->GoodM p m->m.fuel<=n->Sc p own ns vs m->bj e->lQ p nm Val.av (iX (bh p n own ns vs) e m) (aa pg 231 [.hp 0 0,bP own ns vs,e.av] h)
def LN(p:List Mod)(nm:SNm)(n:Nat):Prop:=∀own ns vs e m h,gF p nm m h->GoodM p m->mu m<1000000->m.fuel<=n->Sc p own ns vs m->bj e->lQ p nm Val.av (pC p (bh p n) own ns vs e m) (aa pg 232 [.hp 0 0,bP own ns vs,e.av] h)
def zN(p:List Mod)(r:Exp->X Val)(own:Int)(e:Exp):X Val:=if e.op=16 then Cq (r e.args[0]!) e else wP p r own e
def IV(p:List Mod)(nm:SNm)(n:Nat):Prop:=∀own ns vs e m h,e.op=16\/e.op=17\/e.op=18->vu e->gF p nm m h->GoodM p m->mu m<1000000->m.fuel<=n->Sc p own ns vs m->bj e->lQ p nm Val.av (zN p (bh p n own ns vs) own e m) (aa pg 233 [.hp 0 0,bP own ns vs,e.av] h)
def Sc.less{own:Int}{ns:List aA}{vs:List Val}{m s:Ms}(H:Sc p own ns vs m)(h:s.fuel<=m.fuel):Sc p own ns vs s:=⟨H.own,H.right,by have:=H.len;omega⟩
theorem t230{n:Nat}(IH:wJ p nm n):Sk p nm n:=by
 intro own ns vs e m h R G hn hs he;unfold boolX;have hsc:ay T 265 (.ip (ab (bP own ns vs)))=some (bP own ns vs):=rfl;have hex:ay T 54 (.ip (ab e.av))=some e.av:=AI
 rw[C230];simp only[S230,hsc,hex,af];refine cN (IH own ns vs e m h R G hn hs he) fun v s h' hv Rs=>?_;simp only[bZ (iP v),aj,cJ,i7,FA62_0,FA62_1,ac0,LD3,af,ej,bn,dt,ac5]
 grind [fJ,hQ]
theorem Bw:∀(ns:List aA)(vs:List Val)(n:aA)(v:Val)(s:aA),ns.length=vs.length->nz (ns++[n]) (vs++[v]) s=if n=s then some v else nz ns vs s
 |[],[],n,v,s,_=>by simp[nz]
 |a:: ns,b:: vs,n,v,s,h=>by
  simp only[ac1,nz,Bw ns vs n v s (by simpa using h)]
  grind
 |[],_:: _,_,_,_,h=>by simp at h
 |_:: _,[],_,_,_,h=>by simp at h
def NE(o:Option Val):M AV:=match o with
 |some v=>ao v.av
 |none=>lz (tc 12)
theorem FG(kk:List AV->M AV)(own:Int)(ns:List aA)(vs:List Val)(e:Exp)(x1 x2 x3 x4:AV)(hl:ns.length=vs.length)(hb:ns.length<=1099511627776):∀(i:Nat),i<=ns.length->
  ae (L176_0 (aa pg) ae kk) [.hp 0 0,.ip [qi own,strs ns,vals vs],.ip (ab e.av),qi ((i:Int)-1),x1,x2,x3,x4]=NE (nz (ns.take i) (vs.take i) e.s)
 |0,_=>by
  have hi:oA T 38 (qi 12)=some (tc 12):=rfl;rw[FL176_0];simp only[L176_0,ak,au,oQ,af,ah,hi];simp[nz,NE,QS];rfl
 |i+1,hi=>by
  have ih:=FG kk own ns vs e x1 x2 x3 x4 hl hb i WD;have h1:i<ns.length:=WD
  have h2:i<vs.length:=WD
  have h3:(ns.take (i+1))=ns.take i++[ns[i]]:=AI
  have h4:(vs.take (i+1))=vs.take i++[vs[i]]:=AI
  rw[h3,h4,Bw _ _ _ _ _ Bk,FL176_0];have e1:((i+1:Nat):Int)-1=(i:Int):=WD
  rw[e1];simp only[L176_0];simp (disch:=omega) [aW,pH,un,h1,h2]
  grind [bV,NE]
@[simp] theorem Y1(a:Exp)(l:List Exp):ax T 24 (bg (a:: l)) (qi 0)=some (.ip (ab a.av)):=by
 grind [lj]
@[simp] theorem ixe1(a b:Exp)(l:List Exp):ax T 24 (bg (a:: b:: l)) (qi 1)=some (.ip (ab b.av)):=by
 grind [lj]
@[simp] theorem ixe2(a b c:Exp)(l:List Exp):ax T 24 (bg (a:: b:: c:: l)) (qi 2)=some (.ip (ab c.av)):=by
 grind [lj]
section
variable (o n:Int) (s m:aA) (ns:List aA) (es:List Exp)
@[simp] theorem tW:(Exp.mk o n s m ns es).op=o:=rfl
@[simp] theorem H8:(Exp.mk o n s m ns es).n=n:=rfl
@[simp] theorem Om:(Exp.mk o n s m ns es).s=s:=rfl
@[simp] theorem QF:(Exp.mk o n s m ns es).m=m:=rfl
@[simp] theorem kT:(Exp.mk o n s m ns es).names=ns:=rfl
@[simp] theorem nk:(Exp.mk o n s m ns es).args=es:=rfl
end
def ol(o n:Int)(s m:aA)(ns:List aA)(es:List Exp):AV.agg [qi o,qi n,.str s,.str m,strs ns,bg es]=(Exp.mk o n s m ns es).av:=by rw[Exp.av,Exp.cells_eq];rfl
theorem xT:∀(ns:List aA)(vs:List Val)(s:aA)(i:Int),ns.length=vs.length->(aL (fun x=>s== x) ns i= -1/\mJ ns vs s=none)\/(∃(k:Nat)(h:k<vs.length),aL (fun x=>s== x) ns i=i+k/\mJ ns vs s=some vs[k])
 |[],[],s,i,_=>.inl ⟨rfl,rfl⟩
 | n:: ns,v:: vs,s,i,h=>by
  simp only[aL,mJ];by_cases hn:n=s
  ·grind
  ·have hn':(s== n)=false:=by simpa using fun e=>hn e.symm
   simp only[acE hn,hn',acA,acI];rcases xT ns vs s (i+1) (by simpa using h)with⟨h1,h2⟩|⟨k,hk,h1,h2⟩
   ·grind
   ·right;exact⟨k+1,by simp;omega,qr,by simpa using h2⟩
 |[],_:: _,_,_,h=>by simp at h
 |_:: _,[],_,_,h=>by simp at h
def oF{x:X Val}(hx:(∃v,x= .ok v)\/(∃e,x= .er e)){m:Ms}(R:gF p nm m h):lQ p nm Val.av (x m) (iI x h):=by
 rcases hx with⟨v,rfl⟩|⟨e,rfl⟩
 ·exact fJ R
 ·exact hQ R
def nW(op:Int)(a b:Val):(∃v,pW op a b= .ok v)\/(∃e,pW op a b= .er e):=by
 unfold pW;split
 ·split
  all_goals grind
 ·split
  ·split
   ·grind
   ·split
    ·grind
    ·split
     all_goals grind
  grind
def Vg{l:List Exp}(h:l.length=1):∃a,l=[a]:=by
 match l,h with
 |[a],_=>grind
def FB{l:List Exp}(h:l.length=2):∃a b,l=[a,b]:=by
 match l,h with
 |[a,b],_=>grind
def abL{l:List Exp}(h:l.length=3):∃a b c,l=[a,b,c]:=by
 match l,h with
 |[a,b,c],_=>grind
def JG{enc:α->AV}{c:Prop}[Decidable c]{x y:X α}{a b:M AV}{m:Ms}(h1:c->lQ p nm enc (x m) (a h))(h2:¬c->lQ p nm enc (y m) (b h)):lQ p nm enc ((if c then x else y) m) ((if c then a else b) h):=by
 grind
def Jc(a b:Bool):bN T .eql 4 (.bool a) (.bool b)=some (.bool (a== b)):=by cases a<;>cases b<;>rfl
def vp(v:Val)(h:Hp):aG (aK 4 [] v.av) (fun w=>ao (AV.agg [aD (ab w) 0,aD (ab w) 1,aD (ab w) 2,aD (ab w) 3])) h=ao v.av h:=by rw[Sb]
def eO{r:Rs Val}{c:M AV}(H:lQ p nm Val.av r (c h)):lQ p nm Val.av r (aG c (fun v=>aG (aK 4 [] v) fun w=>ao (AV.agg [aD (ab w) 0,aD (ab w) 1,aD (ab w) 2,aD (ab w) 3])) h):=by
 cases r with
 |ok v s=>
  obtain⟨h',h1,h2⟩:=H;refine⟨h',?_,h2⟩;rw[cK h1,Sb];rfl
 |er e s=>
  obtain⟨h',h1,h2⟩:=H;exact⟨h',I2 h1,h2⟩
theorem Ky{n:Nat}(IH:wJ p nm n)(IR:Rx p nm n)(IC:LN p nm n)(IW:IV p nm n):wJ p nm (n+1):=by
 intro own ns vs e m h R G hn hs he;have IB:=t230 IH;by_cases hf:0<m.fuel
 rotate_left
 ·have e1:bh p (n+1) own ns vs e m= .er 16 m:=by
   show nF p (bh p n) own ns vs e m=_;unfold nF X.get;simp only;rw[acL WD];rfl
  rw[e1];exact⟨h,MM R hf _ e,R⟩
 have hspec:bh p (n+1) own ns vs e m=(if bU e.op= -2\/(bU e.op≠-1/\bU e.op≠e.args.length)then .er 13
   else if e.op=0 then .ok (sE e.n)
   else if e.op=1 then(if e.n=0\/e.n=1 then .ok (kB (e.n== 1))else .er 13)
   else if e.op=2 then(match nz ns vs e.s with|some v=>.ok v|none=>.er 12)
   else if e.op=3\/e.op=4\/e.op=5\/e.op=6\/e.op=7 then(bh p n own ns vs e.args[0]!).bind fun a=>(bh p n own ns vs e.args[1]!).bind fun b=>pW e.op a b
   else if e.op=8\/e.op=9 then(boolX (bh p n own ns vs e.args[0]!)).bind fun x=>if x=(e.op== 9)then .ok (kB (e.op== 9))else(boolX (bh p n own ns vs e.args[1]!)).bind fun y=>.ok (kB y)
   else if e.op=10 then(boolX (bh p n own ns vs e.args[0]!)).bind fun x=>.ok (kB !x)
   else if e.op=11 then(boolX (bh p n own ns vs e.args[0]!)).bind fun x=>if x=true then bh p n own ns vs e.args[1]! else bh p n own ns vs e.args[2]!
   else if e.op=12 then(bh p n own ns vs e.args[0]!).bind fun v=>bh p n own (ns++[e.s]) (vs++[v]) e.args[1]!
   else if e.op=13 then iX (bh p n own ns vs) e
   else if e.op=14 then(bh p n own ns vs e.args[0]!).bind fun v=>(match mJ v.names v.values e.s with|some x=>if v.kind=2 then .ok x else .er 13|none=>.er 13)
   else if e.op=15 then pC p (bh p n) own ns vs e
   else zN p (bh p n own ns vs) own e:X Val) (lI m):=by
  show nF p (bh p n) own ns vs e m=_;unfold nF X.get;simp only;rw[acE WD];have hw:(if e.op=16 then Cq (bh p n own ns vs e.args[0]!) e else wP p (bh p n own ns vs) own e)=zN p (bh p n own ns vs) own e:=rfl;rw[hw];rfl
 have hbm:=G.bud;have G1:GoodM p (lI m):=⟨G.right,by simp only[mu,lI]at hbm |-;omega,G.fr,by simp only[lI];omega,G.shape⟩;have hmu:mu (lI m)<1000000:=by simp only[mu,lI]at hbm |-;omega
 have hn1:(lI m).fuel<=n:=by simp only[lI];omega
 have hft:(lI m).fuel<=m.fuel:=by simp only[lI];omega
 have hs1:Sc p own ns vs (lI m):=hs.less hft;by_cases hc:vu e
 rotate_left
 ·obtain⟨h1,R1,e1⟩:=U2 R G hf (bP own ns vs) e hc;have hc':bU e.op= -2\/(bU e.op≠-1/\bU e.op≠e.args.length):=by
   unfold vu at hc;by_cases k:bU e.op= -2
   ·exact .inl k
   ·grind
  rw[hspec,acL hc'];exact⟨h1,e1,R1⟩
 obtain⟨h1,R1,hl,hst⟩:=step0 R;have hw:IntKind.i64.wrap (m.fuel-1)=m.fuel-1:=aW WD (by simp only[mu]at hbm;omega);have hc':¬(bU e.op= -2\/(bU e.op≠-1/\bU e.op≠e.args.length)):=by
  unfold vu at hc;rintro (k|⟨k1,k2⟩)
  ·exact hc.1 k
  ·grind
 rw[hspec,acE hc'];have hcc:=hc;have hce:=hc.2;obtain⟨op,en,es,em,en2,ea⟩:=e;simp only[tW,H8,Om,nk]at hce |-;unfold vu at hc;simp only[tW,nk]at hc;generalize hcode:aa pg 176 [.hp 0 0,bP own ns vs,(Exp.mk op en es em en2 ea).av] h=code;rw[C176]at hcode;have hW:∀v:Val,∀h,aG (aK 4 [] v.av) (fun w=>ao (AV.agg [aD (ab w) 0,aD (ab w) 1,aD (ab w) 2,aD (ab w) 3])) h=ao v.av h:=vp;by_cases k0:op=0
 ·subst k0;have hlen:ea.length=0:=by simp[bU]at hce;omega
  obtain rfl:=acW hlen;simp[S176,hl,hst,hf,bn,dt,hw,t226,bU,K176_2,K176_1,K176_0,bY,t227]at hcode;simp;rw[<- hcode];exact fJ (a:=sE en) R1
 by_cases k1:op=1
 ·subst k1;have hlen:ea.length=0:=by simp[bU]at hce;omega
  obtain rfl:=acW hlen;simp[S176,hl,hst,hf,bn,dt,hw,t226,bU,K176_2,K176_1,K176_0,bY,t228]at hcode;simp;rw[<- hcode];exact JG (fun _=>fJ (a:=kB (en== 1)) R1) (fun _=>hQ R1)
 by_cases k2:op=2
 ·subst k2;have hlen:ea.length=0:=by simp[bU]at hce;omega
  obtain rfl:=acW hlen;have hnl:=hs.right.1;have hns:(ns.length:Int)<=549755813888:=by have:=hs.len;omega
  have hloop:=FG (K176_0 (aa pg) ae) own ns vs (.mk 2 en es em en2 []) (qi 0) (qi 0) (.sl []) (.sl []) hnl WD ns.length (acC _);have hwl:IntKind.i64.wrap ((ns.length:Int)-1)=(ns.length:Int)-1:=aW WD WD;rw[adV,hnl,adV]at hloop;simp only[bV,tW,H8,Om,QF,kT,nk]at hloop;simp[S176,hl,hst,hf,bn,dt,hw,t226,bU,hwl]at hcode;rw[hnl,hloop]at hcode;simp;rw[<- hcode];cases nz ns vs es with
  |none=>exact hQ R1
  |some v=>exact fJ R1
 by_cases k3:op=3
 ·subst k3;have hlen:ea.length=2:=by simp[bU]at hce;omega
  obtain⟨a,b,rfl⟩:=FB hlen;have ha:bj a:=bI he AI;have hb:bj b:=bI he AI;simp[S176,hl,hst,hf,bn,dt,hw,t226,bU,K176_2,K176_1,K176_0,bY]at hcode;simp;rw[<- hcode];refine cN (IH own ns vs a _ _ R1 G1 hn1 hs1 ha) fun x s1 h2 hx R2=>?_;obtain⟨G2,_,f2⟩:=G1.eval hs1.right hx;refine cN (IH own ns vs b _ _ R2 G2 WD (hs1.less f2) hb) fun y s2 h3 hy R3=>?_;rw[t229 3 x y AI];exact eO (c:=iI (pW 3 x y)) (oF (nW _ _ _) R3)
 by_cases k4:op=4
 ·subst k4;have hlen:ea.length=2:=by simp[bU]at hce;omega
  obtain⟨a,b,rfl⟩:=FB hlen;have ha:bj a:=bI he AI;have hb:bj b:=bI he AI;simp[S176,hl,hst,hf,bn,dt,hw,t226,bU,K176_2,K176_1,K176_0,bY]at hcode;simp;rw[<- hcode];refine cN (IH own ns vs a _ _ R1 G1 hn1 hs1 ha) fun x s1 h2 hx R2=>?_;obtain⟨G2,_,f2⟩:=G1.eval hs1.right hx;refine cN (IH own ns vs b _ _ R2 G2 WD (hs1.less f2) hb) fun y s2 h3 hy R3=>?_;rw[t229 4 x y AI];exact eO (c:=iI (pW 4 x y)) (oF (nW _ _ _) R3)
 by_cases k5:op=5
 ·subst k5;have hlen:ea.length=2:=by simp[bU]at hce;omega
  obtain⟨a,b,rfl⟩:=FB hlen;have ha:bj a:=bI he AI;have hb:bj b:=bI he AI;simp[S176,hl,hst,hf,bn,dt,hw,t226,bU,K176_2,K176_1,K176_0,bY]at hcode;simp;rw[<- hcode];refine cN (IH own ns vs a _ _ R1 G1 hn1 hs1 ha) fun x s1 h2 hx R2=>?_;obtain⟨G2,_,f2⟩:=G1.eval hs1.right hx;refine cN (IH own ns vs b _ _ R2 G2 WD (hs1.less f2) hb) fun y s2 h3 hy R3=>?_;rw[t229 5 x y AI];exact eO (c:=iI (pW 5 x y)) (oF (nW _ _ _) R3)
 by_cases k6:op=6
 ·subst k6;have hlen:ea.length=2:=by simp[bU]at hce;omega
  obtain⟨a,b,rfl⟩:=FB hlen;have ha:bj a:=bI he AI;have hb:bj b:=bI he AI;simp[S176,hl,hst,hf,bn,dt,hw,t226,bU,K176_2,K176_1,K176_0,bY]at hcode;simp;rw[<- hcode];refine cN (IH own ns vs a _ _ R1 G1 hn1 hs1 ha) fun x s1 h2 hx R2=>?_;obtain⟨G2,_,f2⟩:=G1.eval hs1.right hx;refine cN (IH own ns vs b _ _ R2 G2 WD (hs1.less f2) hb) fun y s2 h3 hy R3=>?_;rw[t229 6 x y AI];exact eO (c:=iI (pW 6 x y)) (oF (nW _ _ _) R3)
 by_cases k7:op=7
 ·subst k7;have hlen:ea.length=2:=by simp[bU]at hce;omega
  obtain⟨a,b,rfl⟩:=FB hlen;have ha:bj a:=bI he AI;have hb:bj b:=bI he AI;simp[S176,hl,hst,hf,bn,dt,hw,t226,bU,K176_2,K176_1,K176_0,bY]at hcode;simp;rw[<- hcode];refine cN (IH own ns vs a _ _ R1 G1 hn1 hs1 ha) fun x s1 h2 hx R2=>?_;obtain⟨G2,_,f2⟩:=G1.eval hs1.right hx;refine cN (IH own ns vs b _ _ R2 G2 WD (hs1.less f2) hb) fun y s2 h3 hy R3=>?_;rw[t229 7 x y AI];exact eO (c:=iI (pW 7 x y)) (oF (nW _ _ _) R3)
 by_cases k8:op=8
 ·subst k8;have hlen:ea.length=2:=by simp[bU]at hce;omega
  obtain⟨a,b,rfl⟩:=FB hlen;have ha:bj a:=bI he AI;have hb:bj b:=bI he AI;simp[S176,hl,hst,hf,bn,dt,hw,t226,bU,K176_2,K176_1,K176_0,bY]at hcode;simp;rw[<- hcode];refine cN (IB own ns vs a _ _ R1 G1 hn1 hs1 ha) fun x s1 h2 hx R2=>?_;obtain⟨G2,f2⟩:=G1.bool hs1.right hx;rw[Jc];simp only[af,ah];cases x
  ·simp[t228];exact fJ R2
  ·simp[t228];refine cN (IB own ns vs b _ _ R2 G2 WD (hs1.less f2) hb) fun y s2 h3 hy R3=>?_;simp_all[t228,fJ]
 by_cases k9:op=9
 ·subst k9;have hlen:ea.length=2:=by simp[bU]at hce;omega
  obtain⟨a,b,rfl⟩:=FB hlen;have ha:bj a:=bI he AI;have hb:bj b:=bI he AI;simp[S176,hl,hst,hf,bn,dt,hw,t226,bU,K176_2,K176_1,K176_0,bY]at hcode;simp;rw[<- hcode];refine cN (IB own ns vs a _ _ R1 G1 hn1 hs1 ha) fun x s1 h2 hx R2=>?_;obtain⟨G2,f2⟩:=G1.bool hs1.right hx;rw[Jc];simp only[af,ah];cases x
  ·simp[t228];refine cN (IB own ns vs b _ _ R2 G2 WD (hs1.less f2) hb) fun y s2 h3 hy R3=>?_;simp_all[t228,fJ]
  ·simp[t228];exact fJ R2
 by_cases k10:op=10
 ·subst k10;have hlen:ea.length=1:=by simp[bU]at hce;omega
  obtain⟨a,rfl⟩:=Vg hlen;have ha:bj a:=bI he AI;simp[S176,hl,hst,hf,bn,dt,hw,t226,bU,K176_2,K176_1,K176_0,bY]at hcode;simp;rw[<- hcode];refine cN (IB own ns vs a _ _ R1 G1 hn1 hs1 ha) fun x s1 h2 hx R2=>?_;simp_all[t228,fJ]
 by_cases k11:op=11
 ·subst k11;have hlen:ea.length=3:=by simp[bU]at hce;omega
  obtain⟨a,b,c,rfl⟩:=abL hlen;have ha:bj a:=bI he AI;have hb:bj b:=bI he AI;have hc3:bj c:=bI he AI;simp[S176,hl,hst,hf,bn,dt,hw,t226,bU,K176_2,K176_1,K176_0,bY]at hcode;simp;rw[<- hcode];refine cN (IB own ns vs a _ _ R1 G1 hn1 hs1 ha) fun x s1 h2 hx R2=>?_;obtain⟨G2,f2⟩:=G1.bool hs1.right hx;simp only[ah];exact JG (fun _=>eO (IH own ns vs b _ _ R2 G2 WD (hs1.less f2) hb)) (fun _=>eO (IH own ns vs c _ _ R2 G2 WD (hs1.less f2) hc3))
 by_cases k12:op=12
 ·subst k12;have hlen:ea.length=2:=by simp[bU]at hce;omega
  obtain⟨a,b,rfl⟩:=FB hlen;have ha:bj a:=bI he AI;have hb:bj b:=bI he AI;simp[S176,hl,hst,hf,bn,dt,hw,t226,bU,K176_2,K176_1,K176_0,bY]at hcode;simp;rw[<- hcode];refine cN (IH own ns vs a _ _ R1 G1 hn1 hs1 ha) fun x s1 h2 hx R2=>?_;obtain⟨G2,rx,f2⟩:=G1.eval hs1.right hx;have hsl:=hs1.len;have hrl:=hs1.right.1;have hfu:=G1.fuel;rw[t188 own ns vs es x WD WD];simp only[bE,aj];refine eO (IH own (ns++[es]) (vs++[x]) b _ _ R2 G2 WD ⟨hs1.own,⟨by simp[hrl],fun w hw=>?_⟩,?_⟩ hb)
  ·rcases acZ.1 hw with k|k
   ·exact hs1.right.2 w k
   grind
  ·have:(lI m).fuel=m.fuel-1:=rfl
   have:=hs.len
   grind
 by_cases k13:op=13
 ·subst k13;simp[S176,hl,hst,hf,bn,dt,hw,t226,bU,K176_2,K176_1,K176_0,bY,ol]at hcode;simp;rw[<- hcode];exact eO (IR own ns vs _ _ _ R1 G1 hn1 hs1 he)
 by_cases k14:op=14
 ·subst k14;have hlen:ea.length=1:=by simp[bU]at hce;omega
  obtain⟨a,rfl⟩:=Vg hlen;have ha:bj a:=bI he AI;simp[S176,hl,hst,hf,bn,dt,hw,t226,bU,K176_2,K176_1,K176_0,bY]at hcode;simp;rw[<- hcode];refine cN (IH own ns vs a _ _ R1 G1 hn1 hs1 ha) fun x s1 h2 hx R2=>?_;obtain⟨G2,rx,f2⟩:=G1.eval hs1.right hx;have hrl:=Ir rx;have h8:=Iq rx;have hi:=t207 x.names es WD;rw[bZ (iP x)];simp only[aj,cJ,i7,ac5,ac0,LD22,LD31,LD3,af,hi,ej,oQ,aV,ak,eW,bn,dt];rcases xT x.names x.values es 0 hrl with⟨j1,j2⟩|⟨k,hk,j1,j2⟩
  ·rw[j1,j2];simp only[show decide ((0:Int)<=-1)=false by decide,ae3,acA,acI];exact hQ R2
  ·rw[j1,j2];have hk0:decide ((0:Int)<=0+(k:Int))=true:=AI
   rw[hk0];simp only[aer];by_cases hk2:x.kind=2
   ·have hix:=un (l:=x.values) (n:=0+(k:Int)) WD WD;have e5:(0+(k:Int)).toNat=k:=WD
    rw[e5,acF x.values k hk]at hix;have hld:ay T 62 (.ip (ab (x.values[k]).av))=some (x.values[k]).av:=AI
    simp_all[fJ]
   simp_all[hQ]
 by_cases k15:op=15
 ·subst k15;simp[S176,hl,hst,hf,bn,dt,hw,t226,bU,K176_2,K176_1,K176_0,bY,ol]at hcode;simp;rw[<- hcode];exact eO (IC own ns vs _ _ _ R1 G1 hmu hn1 hs1 he)
 by_cases k16:op=16
 ·subst k16;simp[S176,hl,hst,hf,bn,dt,hw,t226,bU,K176_2,K176_1,K176_0,bY,ol]at hcode;have hce':bU 16=ea.length:=by simp only[bU]at hce |-;simpa using hce
  simp only[bU]at hce';simp at hce';simp[<- hce']at hcode;simp;rw[<- hcode];exact eO (IW own ns vs (.mk 16 en es em en2 ea) _ _ AI hcc R1 G1 hmu hn1 hs1 he)
 by_cases k17:op=17
 ·subst k17;simp[S176,hl,hst,hf,bn,dt,hw,t226,bU,K176_2,K176_1,K176_0,bY,ol]at hcode;have hce':bU 17=ea.length:=by simp only[bU]at hce |-;simpa using hce
  simp only[bU]at hce';simp at hce';simp[<- hce']at hcode;simp;rw[<- hcode];exact eO (IW own ns vs (.mk 17 en es em en2 ea) _ _ AI hcc R1 G1 hmu hn1 hs1 he)
 by_cases k18:op=18
 ·subst k18;simp[S176,hl,hst,hf,bn,dt,hw,t226,bU,K176_2,K176_1,K176_0,bY,ol]at hcode;have hce':bU 18=ea.length:=by simp only[bU]at hce |-;simpa using hce
  simp only[bU]at hce';simp at hce';simp[<- hce']at hcode;simp;rw[<- hcode];exact eO (IW own ns vs (.mk 18 en es em en2 ea) _ _ AI hcc R1 G1 hmu hn1 hs1 he)
 grind [bU]
def wH{β γ:Type}(x:X α)(f:α->X β)(g:β->X γ):(x.bind f).bind g=x.bind fun a=>(f a).bind g:=by
 funext m;unfold X.bind
 grind
theorem uj{β:Type}(a:α)(f:α->X β):(X.ok a).bind f=f a:=rfl
def t243(l:List aA)(h:l.length<=8796093022208):aa pg 243 [strs l]=ao (strs l):=by
 have e:aa pg 243 [strs l]=iE T 22 (aa pg) [strs l]:=ct hOther rfl _;rw[e];show bJ (dL T 22 (.sl []) (strs l))=_
 have:=wI (a:=[]) (b:=l) Bk
 simp only[acT]at this;show bJ (dL T 22 (strs []) (strs l))=_;rw[this];rfl
theorem FF{p:List Mod}{nm:SNm}{n:Nat}(IH:wJ p nm n)(own:Int)(ns:List aA)(vs:List Val)(en:List aA)(es:List Exp)(x5 x6 x7 x8:AV)(hes:∀e∈es,bj e)(h8:es.length<=8):
  ∀(B A:List Exp)(acc:List Val)(m:Ms)(h:Hp),A++B=es->acc.length=A.length->(∀v∈acc,Rv v)->en.length<=8->gF p nm m h->GoodM p m->m.fuel<=n->Sc p own ns vs m->
  lQ p nm Val.av ((listX (bh p n own ns vs) B).bind (fun ws=>if iH (.mk 2 0 en (acc++ws))<=4 then .ok (.mk 2 0 en (acc++ws))else .er 6) m)
   (ae (L231_0 (aa pg) ae) [.hp 0 0,.ip (ab (bP own ns vs)),bg es,qi es.length,qi A.length,x5,x6,x7,x8,qi 2,qi 0,strs en,vals acc] h)
 | [],A,acc,m,h,e,ha,hr,hen,R,G,hn,hs=>by
  simp only[adL]at e;subst e;have hsz:(Val.mk 2 0 en acc).sz<=1099511627776:=by
   have h2:bw acc<=acc.length*200000:=by
    have key:∀l:List Val,(∀v∈l,Rv v)->bw l<=l.length*200000:=by
     intro l
     induction l with
     |nil=>intro _;simp[bw]
     |cons v l ih=>
      grind [zl,bw]
    exact key acc hr
   simp only[Val.sz];have:acc.length*200000<=8*200000:=ac4 _ WD;omega
  have hlv:=t244 _ (.mk 2 0 en acc) (acC _) hsz;rw[Val.av_eq]at hlv;simp only[acx,acy,acb,abX]at hlv;have hw:∀h,aG (aK 4 [] (AV.agg [qi 2,qi 0,strs en,vals acc])) (fun w=>ao (AV.agg [aD (ab w) 0,aD (ab w) 1,aD (ab w) 2,aD (ab w) 3])) h=ao (Val.mk 2 0 en acc).av h:=fun h=>by
   have:=vp (Val.mk 2 0 en acc) h
   simp_all[Val.av_eq]
  rw[FL231_0];simp only[listX,uj,adL];simp only[L231_0,ak,au,aC,af,ah,ae7,adg,acA,acI,hlv,aj,lR,bn,dt,hw];by_cases h4:iH (.mk 2 0 en acc)<=4
  ·have h4':decide (((iH (.mk 2 0 en acc):Nat):Int)<=4)=true:=by simp;omega
   simp_all[fJ]
  ·have h4':decide (((iH (.mk 2 0 en acc):Nat):Int)<=4)=false:=by simp;omega
   simp only[h4,h4',acA,acI];exact hQ R
 | x:: B,A,acc,m,h,e,ha,hr,hen,R,G,hn,hs=>by
  have hll:A.length+(B.length+1)=es.length:=by rw[<- e];simp
  have h1:(A.length:Int)<(es.length:Int):=WD
  have hx:es[A.length]'(WD)=x:=by subst e;simp
  have hm:x∈es:=by rw[<- e];simp
  have hi:=lj (l:=es) (n:=(A.length:Int)) WD h1;rw[show ((A.length:Int)).toNat=A.length by omega,acF es A.length WD,hx]at hi;have hsc:ay T 265 (.ip (ab (bP own ns vs)))=some (bP own ns vs):=rfl;have hex:ay T 54 (.ip (ab x.av))=some x.av:=AI
  rw[FL231_0];simp only[listX,wH,uj];simp only[L231_0,ak,au,aC,af,ah,h1,acX,acK,hi,hex,bZ (tR x),aj,hsc,cJ];refine cN (IH own ns vs x m h R G hn hs (hes x hm)) fun v s h' hv Rs=>?_;obtain⟨G2,rv,f2⟩:=G.eval hs.right hv;have hb2:aI T 31 1 [(0,v.av)]=some (vals [v]):=by rw[v.av_eq];simp[vals,gJ,v.av_eq];rfl
  have ha2:dL T 31 (vals acc) (vals [v])=some (vals (acc++[v])):=OZ Bk;have hc1:dP (vals (acc++[v]))=ao (vals (acc++[v])):=rfl;have hw:IntKind.i64.wrap ((A.length:Int)+1)=((A.length+1:Nat):Int):=aH WD;simp only[hb2,af,ha2,hc1,aj,aY,hw];have ih:=FF IH own ns vs en es x5 x6 x7 x8 hes h8 B (A++[x]) (acc++[v]) s h' qr (by simp[ha]) (fun w hw=>by
   grind) hen Rs G2 WD (hs.less f2)
  grind
theorem t231{n:Nat}(IH:wJ p nm n):Rx p nm n:=by
 intro own ns vs e m h R G hn hs he;obtain⟨l1,l2⟩:=oX he;unfold iX;have ha:=t234 e.names WD;have hcl:=t243 e.names WD;have hB:bW T true 62 [(0,qi 2),(2,strs e.names)]=some (.agg [qi 2,qi 0,strs e.names,.hn]):=rfl;have hC:aK 4 [3] (.agg [qi 2,qi 0,strs e.names,.hn])=ao (.agg [qi 2,qi 0,strs e.names,.hn]):=rfl;rw[C231];simp only[S231,bV,FA54_4,FA54_5,ac5,ac0,LD22,LD24,lk,xj,af,ej,ha,aj,aV,ak,au,eW,bn,dt,lR,hcl,hB,hC,cJ];have hsc:(AV.ip (ab (bP own ns vs)))= .ip [qi own,strs ns,vals vs]:=rfl;by_cases hl:e.names.length=e.args.length
 ·by_cases hasc:Mb e.names=true
  ·have e1:((e.names.length:Int)== (e.args.length:Int)&&Mb e.names)=true:=by simp[hl,hasc]
   simp only[hl,hasc,e1,afb,acK];by_cases h8:e.args.length<=8
   ·have h8':decide ((e.args.length:Int)<=8)=true:=by simp;omega
    have e2:((e.args.length:Int)== (e.args.length:Int)&&true)=true:=AI
    simp only[h8,h8',e2,acK]
    have:=FF IH own ns vs e.names e.args (qi 0) (qi 0) (.sl []) (.sl []) (fun x hx=>bI he hx) h8 e.args [] [] m h rfl rfl (fun v hv=>by cases hv) WD R G hn hs
    simp only[acT]at this;exact this
   ·have h8':decide ((e.args.length:Int)<=8)=false:=by simp;omega
    have e2:((e.args.length:Int)== (e.args.length:Int)&&true)=true:=AI
    simp only[h8,h8',e2,acK,acA,acI];exact hQ R
  simp_all[hQ]
 simp_all[hQ]
def Ib(s t:aA)(v:AV)(h:aO v=true):cn 3 (.agg [.str s,.str t,v])=true:=by
 simp only[cn,cW,ab,adz,List.all_nil];rw[h];rfl
def Hl{tag:Nat->Nat}{m:Ms}(R:RepT (rowP p nm.told) nm tag dv cv sv m h)(l:List Val)(hb:l.length<=274877906944):
  ∃av h1 tag1,aa pg 117 [vals l] h= .ok av h1/\RepT (rowP p nm.told) nm tag1 dv cv sv m h1/\zT tag1 4 h1 l av/\aO av=true:=by
 have e0:aa pg 117 [vals l]=eG T 31 (aa pg) [vals l]:=ct hOther rfl _;have e1:=vI (T:=T) (t:=31) rfl rfl rfl rfl rfl Vc (aa pg) l (show l.length*64<=140737488355328 by omega) h;rw[e0];by_cases hl:l=[]
 ·rw[acL hl]at e1;exact⟨_,h,tag,e1,R,.inl (.inl (by rw[hl])),rfl⟩
 ·rw[acE hl]at e1;refine⟨_,_,_,e1,(R.more (bF l) 4).1,.inr ⟨h.length,rfl,AI,AI⟩,rfl⟩
def Ln{tag:Nat->Nat}{m:Ms}(R:RepT (rowP p nm.told) nm tag dv cv sv m h)(c:Ap.Call)(av:AV)(ha:zT tag 4 h c.args av)(hok:aO av=true)(hb:m.calls.length<=2000000):
  ∃cv' h1 h2,appH T 64 false cv (.sl [.agg [.str c.module,.str c.func,av]]) h= .ok cv' h1/\cG T 64 (.hp 0 10) cv' h1= .ok (.tup []) h2/\gF p nm { m with calls:=m.calls++[c] } h2:=by
 obtain⟨h1,cv',tag',e1,K,H,hc⟩:=zb (T:=T) (t:=64) rfl rfl rfl rfl Vc rfl Vc (x:=.agg [.str c.module,.str c.func,av]) R.cs (fun h0=>by
  have:m.calls=[]:=acW h0;rw[this];rfl) (fun cs h=>h.ok.1) (Ib _ _ _ hok) (show (m.calls.length+1)*56<=140737488355328 by omega)
 have h0:=(K 0 _ R.r0 (by rw[R.t0];decide)).1;refine⟨cv',h1,_,e1,iz rfl h0 (jf hc).1 (show 10+1<=12 by decide) Vc,?_⟩;have hac:ab cv'=[cv']:=(jf hc).2.1
 have:=R.pushCall (m':={ m with calls:=m.calls++[c] }) K ha H rfl rfl rfl id
 refine⟨tag',dv,cv',sv,?_⟩;rw[hac];exact this
def zu{m:Ms}(R:gF p nm m h)(x:Int):∃h1,gF p nm { m with frames:=x } h1/\(∀f:AV->M AV,aG (bM T 3 (.hp 0 3)) f h=f (qi m.frames) h)/\
  (∀f:AV->M AV,aG (cG T 3 (.hp 0 3) (qi x)) f h=f (.tup []) h1):=by
 obtain⟨tag,dv,cv,sv,R⟩:=R;exact⟨_,⟨tag,dv,cv,sv,R.set0 rfl rfl rfl id⟩,fun f=>cK (eD rfl rfl R.r0 rfl),fun f=>cK (iz rfl R.r0 rfl (show 3+1<=12 by decide) Vc)⟩
theorem Bz(f:Fun)(a:Int)(ps:List ca)(l:List Val)(x6 x7 x8 x9:AV)(hb:ps.length<=274877906944)(hl:l.length=ps.length):∀(B A:List ca)(lb la:List Val),A++B=ps->la++lb=l->la.length=A.length->
  ae (L120_0 (aa pg) ae) [.hp 0 0,vals l,.ip (ab f.av),aE ps,qi ps.length,qi A.length,x6,x7,x8,x9,qi a,strs (A.map (·.1)),vals la]=
  ae (L120_0 (aa pg) ae) [.hp 0 0,vals l,.ip (ab f.av),aE ps,qi ps.length,qi ps.length,x6,x7,x8,x9,qi a,strs (ps.map (·.1)),vals l]
 | [],A,lb,la,e,e2,hla=>by
  simp only[adL]at e;subst e;have hz:lb=[]:=by
   apply acW;have:(la++lb).length=l.length:=by rw[e2]
   rw[ac7]at this;omega
  grind
 | x:: B,A,lb,la,e,e2,hla=>by
  have hll:A.length+(B.length+1)=ps.length:=by rw[<- e];simp
  have h1:(A.length:Int)<(ps.length:Int):=WD
  have hx:ps[A.length]'(WD)=x:=by subst e;simp
  obtain⟨v,lb',rfl⟩:∃v lb',lb=v:: lb':=by
   cases lb with
   |nil=>
    grind
   |cons v lb'=>grind
  have hv:l[A.length]'(WD)=v:=by
   subst e2;rw[List.getElem_append_right WD];simp[hla]
  have hi:=lP (l:=ps) (n:=(A.length:Int)) WD h1;rw[show ((A.length:Int)).toNat=A.length by omega,acF ps A.length WD,hx]at hi;have hj:=un (l:=l) (n:=(A.length:Int)) WD WD;rw[show ((A.length:Int)).toNat=A.length by omega,acF l A.length WD,hv]at hj;have hfl:ay T 79 (.ip [.str x.1,qi x.2.kind,aE x.2.fields])=some (aR x):=AI
  have hvl:ay T 62 (.ip (ab v.av))=some v.av:=AI
  have hw:IntKind.i64.wrap ((A.length:Int)+1)=((A.length+1:Nat):Int):=aH WD;have hbd:=t188 a (A.map (·.1)) la x.1 v Bk WD;have ih:=Bz f a ps l x6 x7 x8 x9 hb hl B (A++[x]) lb' (la++[v]) qr qr (by simp[hla]);simp only[adO,ac3,ael,ac7,ad2]at ih;rw[<- ih,FL120_0];simp only[L120_0,ak,au,aC,af,ah,h1,acX,acK,hi,hfl,bZ (oD x),aj,cJ,kc,FA79_0,ac0,LD9,hj,hvl,bY,hbd,bE,cw (sH _ _ _),gl,aY,hw]
def Cg(p:List Mod)(nm:SNm)(n:Nat):Prop:=∀(a:Int) (f:Fun) (l:List Val) m h,0<=a->a<p.length->f∈(p[a.toNat]?.getD default).funcs->l.length=f.params.length->(∀v∈l,Rv v)->gF p nm m h->GoodM p m->mu m<1000000->m.fuel<=n->
 lQ p nm Val.av (cS p (bh p n) a f l m) (aa pg 120 [.hp 0 0,qi a,f.av,vals l] h)
def G8(s t:aA)(v:AV)(h:aO v=true):bW T false 72 [(0,.str s),(1,.str t),(2,v)]=some (.agg [.str s,.str t,v]):=by
 have hc:=jf h;show (vP _ _ [(0,.str s),(1,.str t),(2,v)]).map AV.agg=_;simp only[vP];have h2:=hc.2.2;have h3:=hc.2.1;cases v with
 |any=>cases h
 |agg _=>cases h
 |tup _=>cases h
 |_=>rfl
theorem Et(x:AV)(hx:cW x=some 3):aI T 64 1 [(0,x)]=some (.sl [x]):=by
 have h1:aI T 64 1 [(0,x)]=(lV 3 (List.replicate 1 (.agg [.str [],.str [],.sl []])) [(0,x)]).map .sl:=rfl
 grind [lV]
theorem Hs{n:Nat}(LB:LimB p)(IH:wJ p nm n)(a:Int)(f:Fun)(l:List Val)(m:Ms)(h0:0<=a)(ha:a<p.length)(hf:f∈(p[a.toNat]?.getD default).funcs)(hl:l.length=f.params.length)(hr:∀v∈l,Rv v)(G:GoodM p m)(hmu:mu m<1000000)(hn:m.fuel<=n):
  ∀ (m1:Ms) (h1:Hp),gF p nm m1 h1->m1= { m with calls:=if f.pub=true then m.calls++[⟨(p[a.toNat]?.getD default).name,f.name,l⟩]else m.calls } ->m.frames<60->
   lQ p nm Val.av (((bh p n a (f.params.map (·.1)) l f.body).bind fun v=>.upd (fun m=>{ m with frames:=m.frames-1 }) (.ok v)) (mD p a f l m))
    (K120_0 (aa pg) ae [.hp 0 0,qi a,vals l,.ip (ab f.av),qi 0,qi 0,.sl [],.sl []] h1):=by
 have hlt:a.toNat<p.length:=WD
 have hmp:p[a.toNat]?.getD default∈p:=by rw[acH hlt];exact List.getElem_mem hlt
 obtain⟨hbody,hparams⟩:=LB.body _ hmp f hf;have hfb:=G.bud;have hfu:=G.fuel;have hfr:=G.fr;intro m1 h1 R1 e1 h60;have hB:bW T false 265 [(0,qi a)]=some (bP a [] []):=rfl;have hcell:=cw (sH a [] []);have hloop:=Bz f a f.params l (qi 0) (qi 0) (.sl []) (.sl []) hparams hl f.params [] l [] rfl rfl rfl;have hw1:IntKind.i64.wrap (m.frames+1)=m.frames+1:=aW WD WD;obtain⟨h2,R2,l2,s2⟩:=zu R1 (m.frames+1);have e2:{ m1 with frames:=m.frames+1 } = mD p a f l m:=by rw[e1];rfl
 have hm1f:m1.frames=m.frames:=by rw[e1]
 rw[e2]at R2;rw[hm1f]at l2;have hld:ay T 23 (.ip (aE f.params:: [qi f.result.kind,aE f.result.fields,qi f.effects,qi f.body.op,qi f.body.n,.str f.body.s,.str f.body.m,strs f.body.names,bg f.body.args]))=some (aE f.params):=rfl;have hex:ay T 54 (.ip [qi f.body.op,qi f.body.n,.str f.body.s,.str f.body.m,strs f.body.names,bg f.body.args])=some f.body.av:=by
  have:ay T 54 (.ip (ab f.body.av))=some f.body.av:=AI
  rwa [bV]at this
 simp only[ael,acS]at hloop;have hz:((0:Nat):Int)=0:=rfl;rw[hz]at hloop;have hm2:(if f.pub=true then m.calls++[(⟨(p[a.toNat]?.getD default).name,f.name,l⟩:Ap.Call)]else m.calls).length<=m.calls.length+1:=by
  split
  ·simp
  ·omega
 have G2:GoodM p (mD p a f l m):=by
  refine⟨⟨G.right.1,fun c hc=>?_⟩,?_,qr,hfu,G.shape⟩
  ·simp only[mD]at hc;split at hc
   ·rcases acZ.1 hc with k|k
    ·exact G.right.2 c k
    grind
   ·exact G.right.2 c hc
  ·grind [mu]
 simp only[K120_0,ak,au,hB,af,hcell,aj,cJ,gl,oN,FA56_2,FA56_5,ac5,ac0,hld,oM]at hloop |-;rw[show strs []=strs []from rfl]at hloop;rw[hloop,FL120_0];simp only[L120_0,ak,au,aC,af,ah,ae7,adg,acA,acI,fQ,FH203_3,ac8,l2,aY,hw1,s2,FA56_5,ac5,ac0,hex,bY];have hns:((f.params.map (·.1)).length:Int)+(mD p a f l m).fuel<=549755813888:=by
  simp only[adJ,mD];simp only[mu]at hfb;omega
 refine cN (IH a (f.params.map (·.1)) l f.body _ _ R2 G2 hn ⟨ha,⟨by simp[hl],hr⟩,hns⟩ hbody) fun v s h3 hv R3=>?_;obtain⟨G3,_,_⟩:=G2.eval ⟨by simp[hl],hr⟩ hv;obtain⟨h4,R4,l4,s4⟩:=zu R3 (s.frames-1);have hfr3:=G3.fr;have hw2:IntKind.i64.wrap (s.frames-1)=s.frames-1:=aW WD WD;have hvl:ay T 62 (.ip (ab v.av))=some v.av:=AI
 simp only[bZ (iP v),aj,cJ,fQ,af,FH203_3,ac8,l4,Cw,hw2,s4,hvl];have e9:_=Av.R.ok v.av h4:=vp v h4;rw[e9];exact⟨h4,rfl,R4⟩
def t120{n:Nat}(LB:LimB p)(IH:wJ p nm n):Cg p nm n:=by
 intro a f l m h h0 ha hf hl hr R G hmu hn;have hlt:a.toNat<p.length:=WD
 have hmp:p[a.toNat]?.getD default∈p:=by rw[acH hlt];exact List.getElem_mem hlt
 obtain⟨hbody,hparams⟩:=LB.body _ hmp f hf;have hfb:=G.bud;have hfu:=G.fuel;have hfr:=G.fr;have tail:=Hs LB IH a f l m h0 ha hf hl hr G hmu hn;simp only[oN]at tail;obtain⟨tag,dv,cv,sv,R0⟩:=R;have l3:∀g:AV->M AV,aG (bM T 3 (.hp 0 3)) g h=g (qi m.frames) h:=fun g=>cK (eD rfl rfl R0.r0 rfl);have lc:∀g:AV->M AV,aG (bM T 64 (.hp 0 10)) g h=g cv h:=fun g=>cK (eD rfl rfl R0.r0 rfl);have lm:∀g:AV->M AV,aG (bM T 30 (.hp 0 0)) g h=g (mods p) h:=fun g=>cK (eD rfl rfl R0.r0 (by rw[<- w9 (t:=nm.told) (fun e=>qr)];rfl));generalize hcode:aa pg 120 [.hp 0 0,qi a,f.av,vals l] h=code;rw[C120]at hcode;simp -implicitDefEqProofs only[S120,fQ,af,FH203_3,ac8,l3,aC,bn,qt]at hcode;by_cases h60:m.frames<60
 ·rw[og,acL h60];have hd:decide (m.frames<60)=true:=by simpa using h60
  simp only[hd,dt,acK]at hcode;simp -implicitDefEqProofs only[oN,FA56_1,FA56_0,ac5,ac0,LD4,LD9,af,ah]at hcode;by_cases hp:f.pub=true
  ·simp only[hp,acK]at hcode tail;have hi:=D8 (l:=p) (n:=a) h0 ha;rw[acF p a.toNat hlt]at hi;have e3:p[a.toNat]?.getD default=p[a.toNat]:=by rw[acH hlt];rfl
   obtain⟨av,h1,tag1,c1,R1,A1,ok1⟩:=Hl R0 l WD;obtain⟨cv',h2,h3,p1,p2,R3⟩:=Ln R1 ⟨p[a.toNat].name,f.name,l⟩ av A1 ok1 (by simp only[mu]at hmu;omega);have hB:bW T false 72 [(0,.str p[a.toNat].name),(1,.str f.name),(2,av)]=some (.agg [.str p[a.toNat].name,.str f.name,av]):=G8 _ _ _ ok1;have hBS:=Et (.agg [.str p[a.toNat].name,.str f.name,av]) rfl;have lc1:∀g:AV->M AV,aG (bM T 64 (.hp 0 10)) g h=g cv h:=lc;simp -implicitDefEqProofs only[lc,lm,hi,bu,FA29_0,FH203_0,FH203_4,FH67_3,ac0,LD9,af,ac8,Nat.reduceAdd]at hcode;rw[cK c1]at hcode;simp only[hB,hBS,af]at hcode
   grind [cK]
  ·simp only[hp,acA,acI]at hcode tail;rw[<- hcode];exact tail m h ⟨tag,dv,cv,sv,R0⟩ rfl h60
 ·rw[og,acE h60];have hd:decide (m.frames<60)=false:=by simpa using h60
  simp only[hd,dt,acA,acI]at hcode;rw[<- hcode];exact⟨h,rfl,tag,dv,cv,sv,R0⟩
theorem BA{p:List Mod}{nm:SNm}{n:Nat}(IH:wJ p nm n)(IE:Cg p nm n)(own:Int)(ns:List aA)(vs:List Val)(at_:Int)(f:Fun)(es:List Exp)(x8 x9 x10 x11:AV)(ha:0<=at_)(hat:at_<p.length)(hf:f∈(p[at_.toNat]?.getD default).funcs)(hes:∀e∈es,bj e)(h8:es.length<=274877906944)(hlen:es.length=f.params.length):
  ∀(B A:List Exp)(acc:List Val)(m:Ms)(h:Hp),A++B=es->acc.length=A.length->(∀v∈acc,Rv v)->gF p nm m h->GoodM p m->mu m<1000000->m.fuel<=n->Sc p own ns vs m->
  lQ p nm Val.av ((listX (bh p n own ns vs) B).bind (fun ws=>cS p (bh p n) at_ f (acc++ws)) m)
   (ae (L232_0 (aa pg) ae) [.hp 0 0,.ip (ab (bP own ns vs)),qi at_,.ip (ab f.av),vals acc,bg es,qi es.length,qi A.length,x8,x9,x10,x11] h)
 |[],A,acc,m,h,e,hac,hr,R,G,hmu,hn,hs=>by
  simp only[adL]at e;subst e;have hfl:ay T 56 (.ip (ab f.av))=some f.av:=AI
  have IE':=IE at_ f acc m h ha hat hf WD hr R G hmu hn;generalize hcode:ae (L232_0 (aa pg) ae) [.hp 0 0,.ip (ab (bP own ns vs)),qi at_,.ip (ab f.av),vals acc,bg A,qi A.length,qi A.length,x8,x9,x10,x11] h=code;rw[FL232_0]at hcode;simp -implicitDefEqProofs only[L232_0,ak,au,aC,af,ah,ae7,adg,acA,acI,hfl]at hcode;simp only[listX,uj,adL];rw[<- hcode];exact eO IE'
 | x:: B,A,acc,m,h,e,hac,hr,R,G,hmu,hn,hs=>by
  have hll:A.length+(B.length+1)=es.length:=by rw[<- e];simp
  have h1:(A.length:Int)<(es.length:Int):=WD
  have hx:es[A.length]'(WD)=x:=by subst e;simp
  have hm:x∈es:=by rw[<- e];simp
  have hi:=lj (l:=es) (n:=(A.length:Int)) WD h1;rw[show ((A.length:Int)).toNat=A.length by omega,acF es A.length WD,hx]at hi;have hsc:ay T 265 (.ip (ab (bP own ns vs)))=some (bP own ns vs):=rfl;have hex:ay T 54 (.ip (ab x.av))=some x.av:=AI
  have hw:IntKind.i64.wrap ((A.length:Int)+1)=((A.length+1:Nat):Int):=aH WD;generalize hcode:ae (L232_0 (aa pg) ae) [.hp 0 0,.ip (ab (bP own ns vs)),qi at_,.ip (ab f.av),vals acc,bg es,qi es.length,qi A.length,x8,x9,x10,x11] h=code;rw[FL232_0]at hcode;simp -implicitDefEqProofs only[L232_0,ak,au,aC,af,ah,h1,acX,acK,hi,hex,bZ (tR x),aj,hsc]at hcode;have hex':ay T 54 (.ip (ab (.agg (ab x.av))))=some x.av:=hex;simp -implicitDefEqProofs only[hex',af]at hcode;rw[<- hcode];simp only[listX,wH,uj];refine cN (IH own ns vs x m h R G hn hs (hes x hm)) fun v s h' hv Rs=>?_;obtain⟨G2,rv,f2⟩:=G.eval hs.right hv;obtain⟨t1,_⟩:=pw n own ns vs x m v s G.fuel hv;have hb2:aI T 31 1 [(0,v.av)]=some (vals [v]):=by rw[v.av_eq];simp[vals,gJ,v.av_eq];rfl
  have ha2:dL T 31 (vals acc) (vals [v])=some (vals (acc++[v])):=OZ Bk;have ih:=BA IH IE own ns vs at_ f es x8 x9 x10 x11 ha hat hf hes h8 hlen B (A++[x]) (acc++[v]) s h' qr (by simp[hac]) (fun w hw=>by
   grind) Rs G2 WD WD (hs.less f2)
  simp_all
def mC(f:Fun):bB 12 f.av=ao (.agg (ab f.av)):=bZ (yS f)
theorem AO{n:Nat}(LB:LimB p)(IH:wJ p nm n)(own:Int)(ns:List aA)(vs:List Val)(e:Exp)(at_:Int)(hat:at_<p.length)(m:Ms)(h:Hp)(R:gF p nm m h)(G:GoodM p m)(hmu:mu m<1000000)(hn:m.fuel<=n)(hs:Sc p own ns vs m)(he:bj e)(y1 y2 y3 y4:AV):
  lQ p nm Val.av ((match iA p at_ e.s with
   |none=>.er 12
   | some f=>if e.m=[]\/f.pub=true then
     (if e.args.length=f.params.length then(listX (bh p n own ns vs) e.args).bind fun l=>cS p (bh p n) at_ f l else .er 13)
    else .er 12:X Val) m)
   (K232_0 (aa pg) ae [.hp 0 0,.ip (ab (bP own ns vs)),.ip (ab e.av),qi at_,y1,y2,y3,y4] h):=by
 have IE:=t120 LB IH;obtain⟨l1,l2⟩:=oX he;have hfn:=t113 R LB.lim at_ hat e.s;generalize hcode:K232_0 (aa pg) ae [.hp 0 0,.ip (ab (bP own ns vs)),.ip (ab e.av),qi at_,y1,y2,y3,y4] h=code;simp -implicitDefEqProofs only[K232_0,ak,au,bV,FA54_2,FA54_3,FA54_5,ac5,ac0,LD9,LD24,xj,af]at hcode;rw[cK hfn]at hcode;cases hf:iA p at_ e.s with
 |none=>
  rw[hf]at hcode;simp -implicitDefEqProofs only[yo,cC,acV,adc,af,mC,aj,mh,List.replicate,ak,HK,cy,bn,dt,acA,acI]at hcode;rw[<- hcode];exact hQ R
 | some f=>
  rw[hf]at hcode;obtain⟨f1,f2,f3⟩:=mL hf;have hmp:p[at_.toNat]?.getD default∈p:=by rw[acH f2];exact List.getElem_mem f2
  obtain⟨_,hparams⟩:=LB.body _ hmp f f3;have hac:∀f:Fun,ab (.agg (ab f.av))=ab f.av:=fun _=>rfl;simp -implicitDefEqProofs only[yo,cC,acV,adc,af,mC,aj,cD,Rf,ak,hac]at hcode;have hpub:ay T 4 (.ip (List.drop 1 (ab f.av)))=some (.bool f.pub):=AI
  have hpar:ay T 23 (.ip (List.drop 2 (ab f.av)))=some (aE f.params):=AI
  have hgu:dI (.bool (e.m== [])) false 1 (ao [.bool f.pub])=ao [gv (e.m== []) false (.bool f.pub)]:=aV _ _ _;have hpk:oE (.bool (e.m== [])) (.bool true) (gv (e.m== []) false (.bool f.pub))=some (.bool ((e.m== [])||f.pub)):=iR _ _;simp -implicitDefEqProofs only[FA56_1,FA56_2,hpub,hpar,af,hgu,aj,ak,hpk,dD,bn,oM,ej]at hcode;by_cases h1:e.m=[]\/f.pub=true
  ·have h1':(e.m== []||f.pub)=true:=by
    simp only[adm,ada];exact h1
   simp only[h1',dt,acK]at hcode;simp only[acL h1];by_cases h2:e.args.length=f.params.length
   ·have h2':((e.args.length:Int)== (f.params.length:Int))=true:=by simp[h2]
    simp only[h2',acK]at hcode;simp only[acL h2];rw[<- hcode]
    have:=BA IH IE own ns vs at_ f e.args y1 y2 y3 y4 WD hat f3 (fun x hx=>bI he hx) WD h2 e.args [] [] m h rfl rfl (fun v hv=>by cases hv) R G hmu hn hs
    simp only[acT]at this;exact this
   ·have h2':((e.args.length:Int)== (f.params.length:Int))=false:=by
     rw[acM];omega
    simp only[h2',acA,acI]at hcode;simp only[acE h2];rw[<- hcode];exact hQ R
  ·have h1':(e.m== []||f.pub)=false:=by
    rw[<- aej];simp only[adm,ada];exact h1
   simp only[h1',dt,acA,acI]at hcode;simp only[acE h1];rw[<- hcode];exact hQ R
theorem t232{n:Nat}(LB:LimB p)(IH:wJ p nm n):LN p nm n:=by
 intro own ns vs e m h R G hmu hn hs he;unfold pC;have hown:ay T 3 (.ip [qi own,strs ns,vals vs])=some (.int .i64 own):=rfl;have hmd:=t112 R LB.lim e.m;generalize hcode:aa pg 232 [.hp 0 0,bP own ns vs,e.av] h=code;rw[C232]at hcode;simp -implicitDefEqProofs only[S232,gl,bV,FA265_0,FA54_3,ac5,ac0,hown,LD9,af,qt,Rh,ah]at hcode;by_cases h0:e.m=[]
 ·have h0':(!(e.m== []))=false:=by simp[h0]
  simp only[h0',acA,acI]at hcode;simp only[acL h0];rw[<- hcode]
  have:=AO LB IH own ns vs e own hs.own m h R G hmu hn hs he (qi 0) (qi 0) (.sl []) (.sl [])
  simp only[gl,bV]at this;exact this
 ·have h0':(!(e.m== []))=true:=by simp[h0]
  simp only[h0',acK]at hcode;rw[cK hmd]at hcode;simp only[acE h0];rw[<- hcode];have hlt:eM p e.m<p.length:=by
   rcases qn (fun(x:Mod)=>x.name== e.m) p 0 with k|k
   ·show aL _ p 0<_;rw[k];omega
   ·show aL _ p 0<_;omega
  have:=AO LB IH own ns vs e (eM p e.m) hlt m h R G hmu hn hs he (qi 0) (qi 0) (.sl []) (.sl [])
  simp only[gl,bV]at this;exact this
def ixh{t e:Nat}{ti ei:TI}(ht:T t=some ti)(hk:ti.kind= .slice e)(he:T e=some ei){l off len sz:Nat}{ag:Bool}{n:Int}(h0:0<=n)(h1:n<len):ax T t (.hs l off len sz ag) (qi n)=some (.hp l (off+n.toNat*ei.size)):=by
 simp[ax,ht,hk,he,h0,h1]
def Lo{tag:Nat->Nat}{m:Ms}(R:RepT (rowP p nm.told) nm tag dv cv sv m h)(d:Deed)(hb:m.deeds.length<=2000000):
  ∃dv' h1 h2,appH T 63 false dv (.sl [d.av]) h= .ok dv' h1/\cG T 63 (.hp 0 9) dv' h1= .ok (.tup []) h2/\gF p nm { m with deeds:=m.deeds++[d] } h2:=by
 obtain⟨h1,dv',tag',e1,K,H,hc⟩:=zb (T:=T) (t:=63) rfl rfl rfl rfl Vc rfl Vc (x:=d.av) R.ds (fun h0=>by
  have:m.deeds=[]:=acW h0;rw[this];rfl) (fun cs h=>by rw[h];exact CM _) (K9 d) (show (m.deeds.length+1)*24<=140737488355328 by omega)
 have h0:=(K 0 _ R.r0 (by rw[R.t0];decide)).1;refine⟨dv',h1,_,e1,iz rfl h0 (jf hc).1 (show 9+1<=12 by decide) Vc,?_⟩;have hac:ab dv'=[dv']:=(jf hc).2.1
 have:=R.pushDeed (m':={ m with deeds:=m.deeds++[d] }) K H rfl rfl rfl id
 refine⟨tag',dv',cv,sv,?_⟩;rw[hac];exact this
theorem Ed{m:Ms}(R:gF p nm m h)(hb:m.deeds.length<=2000000)(e:Exp)(v:Val)(n:Int)(x1 x2 x3 x4:AV):
  lQ p nm Val.av (X.ok (sE n) { m with deeds:=m.deeds++[⟨e.n,v.n,n⟩] }) (K233_0 (aa pg) ae [.hp 0 0,.ip (ab e.av),.ip (ab v.av),qi n,x1,x2,x3,x4] h):=by
 obtain⟨tag,dv,cv,sv,R0⟩:=R;obtain⟨dv',h1,h2,e1,e2,R2⟩:=Lo R0 ⟨e.n,v.n,n⟩ hb;have hB:bW T false 126 [(0,qi e.n),(1,qi v.n),(2,qi n)]=some (Deed.av ⟨e.n,v.n,n⟩):=rfl;have hBS:aI T 63 1 [(0,Deed.av ⟨e.n,v.n,n⟩)]=some (.sl [Deed.av ⟨e.n,v.n,n⟩]):=rfl;have ld:∀g:AV->M AV,aG (bM T 63 (.hp 0 9)) g h=g dv h:=fun g=>cK (eD rfl rfl R0.r0 rfl);generalize hcode:K233_0 (aa pg) ae [.hp 0 0,.ip (ab e.av),.ip (ab v.av),qi n,x1,x2,x3,x4] h=code;simp -implicitDefEqProofs only[K233_0,ak,au,fQ,af,FH203_4,FH67_2,ac8,Nat.reduceAdd,ld,bV,FA54_1,ac5,ac0,LD3,i7,FA62_1,hB,hBS]at hcode;rw[cK e1]at hcode;rw[cK e2]at hcode;simp -implicitDefEqProofs only[t227,aj]at hcode;rw[vp]at hcode;rw[<- hcode];exact fJ R2
def Lv{m:Ms}(R:gF p nm m h)(w:List Int)(hw0:m.world=[]->w=[]):∃h1,(m.world≠[]->gF p nm { m with world:=w } h1)/\(∀f:AV->M AV,aG (bM T 32 (.hp 0 1)) f h=f (zO nm.told m.world) h)/\
  (m.world≠[]->∀f:AV->M AV,aG (cG T 32 (.hp 0 1) (ints w)) f h=f (.tup []) h1):=by
 obtain⟨tag,dv,cv,sv,R⟩:=R;refine⟨h.set 0 (setCells (rowP p nm.told m dv cv sv) 1 (ab (ints w))),fun hne=>⟨tag,dv,cv,sv,?_⟩,fun f=>cK (eD rfl rfl R.r0 rfl),fun _ f=>cK (iz rfl R.r0 rfl (show 1+1<=12 by decide) Vc)⟩;have ht:nm.told=false:=by
  cases ht:nm.told with
  |false=>rfl
  |true=>exact absurd (R.wok ht) hne
 have e:setCells (rowP p nm.told m dv cv sv) 1 (ab (ints w))=rowP p nm.told { m with world:=w } dv cv sv:=by
  simp only[ht];rfl
 rw[e];exact R.set0 rfl rfl rfl hw0
theorem t233{n:Nat}(LB:LimB p)(IH:wJ p nm n):IV p nm n:=by
 intro own ns vs e m h hop hcn R G hmu hn hs he;obtain⟨l1,l2⟩:=oX he;have hscl:ay T 265 (.ip [qi own,strs ns,vals vs])=some (bP own ns vs):=rfl;have hown:ay T 3 (.ip [qi own,strs ns,vals vs])=some (.int .i64 own):=rfl;generalize hcode:aa pg 233 [.hp 0 0,bP own ns vs,e.av] h=code;rw[C233]at hcode;obtain⟨op,en,es,em,en2,ea⟩:=e;simp only[tW]at hop;unfold vu at hcn;simp only[tW,nk]at hcn;have hlen:op=16\/op=18->∃a,ea=[a]:=by
  intro h;apply Vg;rcases h with rfl|rfl
  ·simp[bU]at hcn;omega
  ·simp[bU]at hcn;omega
 by_cases h16:op=16
 ·obtain⟨a,rfl⟩:=hlen (.inl h16);subst h16;have ha:bj a:=bI he AI;simp -implicitDefEqProofs only[S233,gl,bV,tW,H8,Om,QF,kT,nk,FA54_0,FA54_1,FA54_5,ac5,ac0,LD3,LD24,af,ej,adU,ah,acK,hscl,Y1]at hcode;have hex:ay T 54 (.ip [qi a.op,qi a.n,.str a.s,.str a.m,strs a.names,bg a.args])=some a.av:=by
   have:ay T 54 (.ip (ab a.av))=some a.av:=AI
   rwa [bV]at this
  simp -implicitDefEqProofs only[hex,af]at hcode;rw[<- hcode];simp only[zN,tW,acK,Cq];have e0:([a]:List Exp)[0]! = a:=rfl;simp only[nk,e0];refine cN (IH own ns vs a _ _ R G hn hs ha) fun v s1 h2 hv R2=>?_;obtain⟨G2,rv,f2⟩:=G.eval hs.right hv;generalize hcode2:aG (bB 4 v.av) _ h2=code2;simp -implicitDefEqProofs only[bZ (iP v),aj,cJ,i7,FA62_0,ac0,LD3,af,ej,bn,aV,ak,iR]at hcode2;by_cases hk:v.kind=0
  ·have hk':(v.kind== 0)=true:=by simp[hk]
   simp only[hk',dt,acK]at hcode2;simp only[acL hk];by_cases hn4':(Exp.mk 16 en es em en2 [a]).n=1\/(Exp.mk 16 en es em en2 [a]).n=2\/(Exp.mk 16 en es em en2 [a]).n=4\/(Exp.mk 16 en es em en2 [a]).n=8
   ·have hn4:en=1\/en=2\/en=4\/en=8:=hn4';have hn':(en== 1||en== 2||en== 4||en== 8)=true:=by
     simp only[adm,ada];omega
    simp only[hn',acK]at hcode2;simp only[acL hn4'];obtain⟨h3,R3,lw,sw⟩:=Lv R2 s1.world.tail (fun h=>by rw[h];rfl);have hmu2:=(pw n own ns vs a m v s1 G.fuel hv).1;have hdl:s1.deeds.length<=2000000:=by
     have:=G2.fuel
     simp only[mu]at hmu2 hmu;omega
    show lQ p nm Val.av (X.ok (sE (s1.world.headD 0)) { s1 with world:=s1.world.tail,deeds:=s1.deeds++[⟨en,v.n,s1.world.headD 0⟩] }) code2;have lenw:ff T 32 (zO nm.told s1.world)=some (.int .i64 s1.world.length):=by
     unfold zO;split
     ·rename_i ht;obtain⟨_,_,_,_,R2'⟩:=R2;rw[R2'.wok ht];rfl
     ·exact LQ _
    simp -implicitDefEqProofs only[qt,fQ,af,FH203_1,ac8,lw,lenw,af,Cv,ah]at hcode2;cases hwd:s1.world with
    |nil=>
     rw[hwd]at hcode2;simp only[acS,show decide ((0:Int)<((0:Nat):Int))=false by decide,acA,acI]at hcode2
     have:=Ed R2 hdl (.mk 16 en es em en2 [a]) v 0 (qi 0) (qi 0) (.sl []) (.sl [])
     simp_all
    | cons x wl=>
     have hd:decide ((0:Int)<(((x:: wl).length:Nat):Int))=true:=by simp<;>omega
     have hne:s1.world≠[]:=by rw[hwd];simp
     have sw:=sw hne;have R3:=R3 hne;have hwv:zO nm.told s1.world=ints s1.world:=by
      unfold zO;rw[acE];intro ht;obtain⟨_,_,_,_,R2'⟩:=R2;exact hne (R2'.wok ht)
     rw[hwv]at lw;rw[hwd]at hcode2 sw R3 lw;have hix:ax T 32 (ints (x:: wl)) (qi 0)=some (.ip [qi x]):=by
      have:=Sq (l:=x:: wl) (n:=0) WD (by simp<;>omega)
      simpa using this
     have hsl:eR T 32 (ints (x:: wl)) (some (.int .i64 1)) none none=some (ints wl):=by
      have:=Go.Av.BZ (T:=T) (t:=32) (e:=3) rfl rfl rfl ((x:: wl).map (AV.int .i64)) (by exact Lb _) (n:=1) WD (by simp<;>omega)
      simpa [ints]using this
     simp only[List.tail_cons]at sw R3;simp -implicitDefEqProofs only[hd,acK,lw,hix,af,LD3,hsl,sw]at hcode2
     have:=Ed R3 hdl (.mk 16 en es em en2 [a]) v x (qi 0) (qi 0) (.sl []) (.sl [])
     simp_all
   ·have hn4:¬(en=1\/en=2\/en=4\/en=8):=hn4';have hn':(en== 1||en== 2||en== 4||en== 8)=false:=by
     rw[<- aej];simp only[adm,ada];omega
    simp only[hn',acA,acI]at hcode2;simp only[acE hn4'];rw[<- hcode2];exact hQ R2
  ·have hk':(v.kind== 0)=false:=by simpa using hk
   simp only[hk',dt,acA,acI]at hcode2;simp only[acE hk];rw[<- hcode2];exact hQ R2
 have h16':((op:Int)== 16)=false:=by simpa using h16
 have h16x:¬((Exp.mk op en es em en2 ea).op=16):=h16;unfold zN;simp only[acE h16x];unfold wP;simp -implicitDefEqProofs only[S233,gl,bV,tW,H8,Om,QF,kT,nk,FA265_0,FA54_0,FA54_1,FA54_2,FA54_5,ac5,ac0,LD3,LD24,af,ej,h16',acA,ah,acI,hown,hscl,oQ,bn,qt]at hcode;by_cases ho:own<0
 ·have ho':decide (0<=own)=false:=by simp;omega
  simp only[ho',dt,acA,acI]at hcode;simp only[acL ho];rw[<- hcode];exact hQ R
 have ho':decide (0<=own)=true:=by simp;omega
 simp only[ho',dt,acK]at hcode;simp only[acE ho];have hol:=hs.own;have hlt:own.toNat<p.length:=WD
 have hix:=D8 (l:=p) (n:=own) WD hol;rw[acF p own.toNat hlt]at hix;have e3:p[own.toNat]?.getD default=p[own.toNat]:=by rw[acH hlt];rfl
 have hvl:=(LB.lim.funcsAt own.toNat).2;rw[e3]at hvl |-;have hff:=ZB p[own.toNat].vars hvl (.mk op en es em en2 ea);simp only[bV,tW,H8,Om,QF,kT,nk]at hff;have Rk:=R;obtain⟨tag,dv,cv,sv,R0⟩:=R;have lm:∀g:AV->M AV,aG (bM T 30 (.hp 0 0)) g h=g (mods p) h:=fun g=>cK (eD rfl rfl R0.r0 (by rw[<- w9 (t:=nm.told) (fun e=>qr)];rfl));have lsv:∀g:AV->M AV,aG (bM T 65 (.hp 0 11)) g h=g nm.sv h:=fun g=>cK (eD rfl rfl R0.r0 (by rw[<- R0.sve];rfl));simp -implicitDefEqProofs only[fQ,af,FH203_0,FH203_4,FH67_4,ac8,Nat.reduceAdd,lm,hix,bu,FA29_2,ac5,ac0,LD23,hff,bE,aj,oQ,bn]at hcode;by_cases hi:oi p[own.toNat].vars (Exp.mk op en es em en2 ea).s<0
 ·have hi':decide (0<=oi p[own.toNat].vars es)=false:=by
   have:oi p[own.toNat].vars es<0:=hi;simp;omega
  simp only[hi',dt,acA,acI]at hcode;simp only[acL hi];rw[<- hcode];exact hQ Rk
 have hi0:0<=oi p[own.toNat].vars es:=by
  have:¬oi p[own.toNat].vars es<0:=hi;omega
 have hi':decide (0<=oi p[own.toNat].vars es)=true:=by simp;omega
 simp only[hi',dt,acK,lsv]at hcode;simp only[acE hi];have hil:oi p[own.toNat].vars es<p[own.toNat].vars.length:=by
  rcases qn (fun(x:ca)=>x.1== es) p[own.toNat].vars 0 with k|k
  ·grind [oi]
  ·have:oi p[own.toNat].vars es=aL (fun(x:ca)=>x.1== es) p[own.toNat].vars 0:=rfl;omega
 obtain⟨l,hl1,hl2⟩:=G.shape own.toNat _ (acH hlt);have hne:l≠[]:=fun e=>qr
 have hsl:own.toNat<m.state.length:=(acJ.1 hl1).1;obtain⟨q,r,v1,v2,v3,v4,v5,v6⟩:=R0.var (fun _=>rfl) hl1 hne;have hx1:ax T 65 nm.sv (qi own)=some (.hp q (own.toNat*2)):=by
  rw[v1]
  have:=ixh (t:=65) rfl rfl rfl (l:=q) (off:=0) (len:=m.state.length) (sz:=2) (ag:=true) (n:=own) WD WD
  rw[this];simp
 have lv:∀g:AV->M AV,aG (bM T 31 (.hp q (own.toNat*2+1))) g h=g (.hs r 0 l.length 4 true) h:=fun g=>cK (eD rfl rfl v2 v3);simp -implicitDefEqProofs only[hx1,af,FH197_1,lv]at hcode;generalize hI:oi p[own.toNat].vars es=I at *;have hI2:oi p[own.toNat].vars (Exp.mk op en es em en2 ea).s=I:=hI;rw[hI2];have hx2:ax T 31 (.hs r 0 l.length 4 true) (qi I)=some (.hp r (I.toNat*4)):=by
  have:=ixh (t:=31) rfl rfl rfl (l:=r) (off:=0) (len:=l.length) (sz:=4) (ag:=true) (n:=I) WD WD
  rw[this];simp
 have hk:I.toNat<l.length:=WD
 by_cases h18:op=18
 ·have h18x:(Exp.mk op en es em en2 ea).op=18:=h18;simp only[acL h18x];obtain⟨a,rfl⟩:=hlen (.inr h18);have ha:bj a:=bI he AI;have hb18:(op== 18)=true:=by simp[h18]
  have hex:ay T 54 (.ip (ab a.av))=some a.av:=AI
  have e0:(Exp.mk op en es em en2 [a]).args[0]! = a:=rfl;simp -implicitDefEqProofs only[hb18,acK,Y1,af,hex]at hcode;rw[<- hcode,e0];refine cN (IH own ns vs a _ _ Rk G hn hs ha) fun v s1 h2 hv R2=>?_;obtain⟨G2,rv,f2⟩:=G.eval hs.right hv;obtain⟨tag2,dv2,cv2,sv2,R20⟩:=R2;obtain⟨l',hl1',hl2'⟩:=G2.shape own.toNat _ (acH hlt);have hne':l'≠[]:=fun e=>qr
  obtain⟨q',r',w1,w2,w3,w4,w5,w6⟩:=R20.var (fun _=>rfl) hl1' hne';have hll:l'.length=l.length:=WD
  have hrr:r'=r:=by
   rw[v3]at w3;simp only[acz,AV.hs.injEq]at w3;exact w3.1.symm
  subst hrr;have hst:cG T 62 (.hp r' (I.toNat*4)) v.av h2= .ok (.tup []) (h2.set r' (bF (l'.set I.toNat v))):=by
   have:=iz (T:=T) (t:=62) rfl w5 (v:=v.av) (k:=I.toNat*4) (iP v) (by grind [me]) Vc
   rw[this,D1 WD]
  have R3:=w6 I.toNat v WD;have hset:((s1.state[own.toNat]?.getD []).set I.toNat v)=l'.set I.toNat v:=by rw[hl1'];rfl
  have hld2:bM T 62 (.hp r' (I.toNat*4)) (h2.set r' (bF (l'.set I.toNat v)))= .ok v.av (h2.set r' (bF (l'.set I.toNat v))):=by
   have hlt2:r'<h2.length:=(acJ.1 w5).1
   have:=uN (T:=T) (t:=62) rfl rfl (h:=h2.set r' (bF (l'.set I.toNat v))) (l:=r') (k:=I.toNat*4) (adu hlt2) (by grind [me])
   rw[this];have hg:=py (l:=l'.set I.toNat v) (k:=I.toNat) Bk;show Av.R.ok (AV.agg (((bF (l'.set I.toNat v)).drop (I.toNat*4)).take 4)) _=_;rw[hg,List.getElem_set_self];rw[Val.av_eq];rfl
  generalize hcode2:aG (bJ (ax T 31 (.hs r' 0 l.length 4 true) (qi I))) _ h2=code2;simp -implicitDefEqProofs only[hx2,af]at hcode2;rw[cK hst]at hcode2;simp -implicitDefEqProofs only[K233_1,ak,au,hx2,af]at hcode2;rw[cK hld2,vp]at hcode2;rw[<- hcode2];exact⟨_,rfl,tag2,dv2,cv2,sv2,R3⟩
 ·have h18x:¬((Exp.mk op en es em en2 ea).op=18):=h18;have hb18:(op== 18)=false:=by simpa using h18
  have hld2:bM T 62 (.hp r (I.toNat*4)) h= .ok (l[I.toNat]).av h:=by
   have:=uN (T:=T) (t:=62) rfl rfl (h:=h) (l:=r) (k:=I.toNat*4) v5 (by grind [me])
   rw[this];have hg:=py (l:=l) (k:=I.toNat) hk;show Av.R.ok (AV.agg (((bF l).drop (I.toNat*4)).take 4)) _=_;rw[hg,Val.av_eq];rfl
  simp only[acE h18x];simp -implicitDefEqProofs only[hb18,acA,acI,K233_1,ak,au,hx2,af]at hcode;rw[cK hld2,vp]at hcode;rw[<- hcode];have hgs:yu m.state own.toNat I.toNat=l[I.toNat]:=by
   simp[yu,adH,hl1,hk]
  show lQ p nm Val.av (X.ok (yu m.state own.toNat I.toNat) m) _;rw[hgs];exact fJ Rk
theorem U1{p:List Mod}{nm:SNm}(LB:LimB p):∀n,wJ p nm n
 |0=>fun own ns vs e m h R G hn hs he=>⟨h,MM R WD _ e,R⟩
 |n+1=>by
  have IH:=U1 (nm:=nm) LB n
  grind [Ky,t231,t232,t233]
def PO(LB:LimB p)(n:Nat):Cg p nm n:=t120 LB (U1 LB n)
def Js{m:M AV}{r:AV}{h':Hp}(h1:m []= .ok r h')(h2:∀g,cl g r=r):aF m=ao r:=by
 funext h
 grind [aF,ao,jt]
def t174(v:Val)(hv:v.sz<=4611686018427387904):aa pg 174 [v.av]=ao (.bool !cI 4 v):=by
 simp_all[C174,S174,t116]
def t115(v:Val)(hv:v.sz<=4611686018427387904):aa pg 115 [v.av]=ao (.bool !cI 4 v):=by
 simp_all[C115,S115,t116]
def t179(v:Val)(hv:v.sz<=4611686018427387904):aa pg 179 [v.av]=ao (.bool !cI 4 v):=by
 simp_all[C179,S179,t116]
def Ct(k:Nat)(hk:∀v:Val,v.sz<=4611686018427387904->aa pg k [v.av]=ao (.bool !cI 4 v))(l:List Val)(hl:bw l<=4611686018427387904):aa pg 114 [vals l,.fn (.func k) [] []]=ao (.bool !(l.all (cI 4))):=by
 have:=t114 (.fn (.func k) [] []) (fun v=>!cI 4 v) l (adi (kD l) hl) (fun g=>rfl) (fun v hv=>hk v (adi (jl hv) hl))
 grind
def t118(f:AV)(h:Hp):aa pg 118 [f] h=DX 38 .i64 (.agg [qi 0,qi 0,.sl [],.sl []]) (ba (aa pg) f [] h):=by
 have e:aa pg 118 [f]=GC 38 .i64 (.agg [qi 0,qi 0,.sl [],.sl []]) (aa pg) [f]:=ct hOther rfl _;rw[e];rfl
def nm0:SNm:=⟨[],.hn,[],true⟩
def Nx:LimB []:=⟨⟨AI,fun m hm=>by cases hm⟩,fun m hm=>by cases hm⟩
def Q1:gF [] nm0 (bv [] 100000 []) [[.hn,.hn,qi 100000,qi 0,qi 0,qi 0,qi 0,.hn,.hn,.hn,.hn,.hn]]:=
 ⟨fun _=>0,.hn,.hn,.hn,rfl,rfl,.inl ⟨rfl,rfl⟩,.inl ⟨rfl,rfl⟩,.inl ⟨rfl,rfl⟩,rfl,fun _=>rfl⟩
def Na:GoodM [] (bv [] 100000 []):=⟨⟨fun l hl=>by simp[bv]at hl,fun c hc=>by simp[bv]at hc⟩,by simp[mu,bv],by simp[bv],by simp[bv],fun i x hx=>by simp at hx⟩
def qF:Rs Val->AV
 |.ok v _=>.tup [v.av,qi 0]
 |.er e _=>.tup [Val.av default,qi e]
def CF(g)(v:Val)(e:Int):cl g (.tup [v.av,qi e])= .tup [v.av,qi e]:=by simp[cl,eB]
theorem t110(e:Exp)(ns:List aA)(vs:List Val)(he:bj e)(hn:ns.length<=274877906944)(hv:bw vs<=4611686018427387904):aa pg 110 [e.av,strs ns,vals vs]=ao (qF (CU e ns vs)):=by
 have ha:=Ct 174 t174 vs hv;have hl1:ay T 22 (.ip (ab (strs ns)))=some (strs ns):=rfl;have hl2:ay T 31 (.ip (ab (vals vs)))=some (vals vs):=rfl;have hB:bW T true 203 [(2,qi 100000)]=some (.agg [.hn,.hn,qi 100000,qi 0,qi 0,qi 0,qi 0,.hn,.hn,.hn,.hn,.hn]):=rfl;have hZ:bW T false 62 []=some (Val.av default):=rfl;have hcl:∀h:AV->M AV,aG (newH [.hn,.hn,qi 100000,qi 0,qi 0,qi 0,qi 0,.hn,.hn,.hn,.hn,.hn]) h []=h (.hp 0 0) [[.hn,.hn,qi 100000,qi 0,qi 0,qi 0,qi 0,.hn,.hn,.hn,.hn,.hn]]:=fun h=>rfl;rw[C110,lU,ta,Hg];unfold CU;by_cases hr:ns.length=vs.length/\vs.all (cI 4)=true
 ·rw[acL hr];have hne:((ns.length:Int) != (vs.length:Int))=false:=by simp[hr.1]
  have hrs:pO ns vs:=⟨hr.1,fun v hv=>(acQ.1 hr.2) v hv⟩;have hev:=U1 (nm:=nm0) Nx 100000 (-1) ns vs e _ _ Q1 Na (by simp[bv]) ⟨AI,hrs,by simp only[bv];omega⟩ he;have hcell:bB 1 (.hp 0 0)=ao (.agg [.hp 0 0]):=rfl;have hBS:bW T false 265 [(0,qi (-1)),(1,strs ns),(2,vals vs)]=some (bP (-1) ns vs):=rfl;have hlp:ay T 201 (.ip [.hp 0 0])=some (.hp 0 0):=rfl;have hex:ay T 54 (.ip (ab e.av))=some e.av:=AI
  have hcall:∀h,aa pg 175 [.ip [.hp 0 0],.ip (ab (strs ns)),.ip (ab (vals vs)),.ip (ab e.av)] h=aG (aa pg 176 [.hp 0 0,bP (-1) ns vs,e.av]) (fun v=>aG (aK 4 [] v) fun w=>ao (AV.agg [aD (ab w) 0,aD (ab w) 1,aD (ab w) 2,aD (ab w) 3])) h:=fun h=>by
   simp_all[C175,S175]
  have hS:S110 (aa pg) ae e.av (strs ns) (vals vs) []= .ok (qF (bh [] 100000 (-1) ns vs e (bv [] 100000 []))) []\/∃h',S110 (aa pg) ae e.av (strs ns) (vals vs) []= .ok (qF (bh [] 100000 (-1) ns vs e (bv [] 100000 []))) h':=by
   right;simp -implicitDefEqProofs only[S110,hl1,hl2,af,lk,Cj,jI,hne,cD,ha,aj,b9,hr.2,adb,ak,cy,ah,acA,acI,hB,cJ,hcl,hcell];have htry:=t118 (.fn (.func 175) [] [.ip [.hp 0 0],.ip (ab (strs ns)),.ip (ab (vals vs)),.ip (ab e.av)]) [[.hn,.hn,qi 100000,qi 0,qi 0,qi 0,qi 0,.hn,.hn,.hn,.hn,.hn]];have hcv:ba (aa pg) (.fn (.func 175) [] [.ip [.hp 0 0],.ip (ab (strs ns)),.ip (ab (vals vs)),.ip (ab e.av)]) []=aa pg 175 [.ip [.hp 0 0],.ip (ab (strs ns)),.ip (ab (vals vs)),.ip (ab e.av)]:=rfl;rw[hcv,hcall]at htry;have how:=eO hev;generalize bh [] 100000 (-1) ns vs e (bv [] 100000 [])=r at how |-;cases r with
   |ok v s=>
    obtain⟨h',e1,_⟩:=how;refine⟨h',?_⟩;rw[e1]at htry;simp only[DX,iP,acD]at htry;rw[cK htry];simp[qF,ao]
   |er c s=>
    obtain⟨h',e1,_⟩:=how;refine⟨h',?_⟩;rw[e1]at htry;have ht:DX 38 .i64 (.agg [qi 0,qi 0,.sl [],.sl []]) (.pan (tc c) h')= .ok (.tup [Val.av default,qi c]) h':=rfl;rw[ht]at htry;rw[cK htry];simp[qF,ao]
  rcases hS with h|⟨h',h⟩
  ·exact Js h fun g=>by cases bh [] 100000 (-1) ns vs e (bv [] 100000 [])<;>exact CF g _ _
  ·exact Js h fun g=>by cases bh [] 100000 (-1) ns vs e (bv [] 100000 [])<;>exact CF g _ _
 ·rw[acE hr];have hb:((ns.length:Int) != (vs.length:Int)||!(vs.all (cI 4)))=true:=by
   by_cases h1:ns.length=vs.length
   ·grind
   ·grind
  have hgu:dI (.bool ((ns.length:Int) != (vs.length:Int))) false 1 (ao [.bool !(vs.all (cI 4))])=ao [gv ((ns.length:Int) != (vs.length:Int)) false (.bool !(vs.all (cI 4)))]:=aV _ _ _;have hS:S110 (aa pg) ae e.av (strs ns) (vals vs)=ao (.tup [Val.av default,qi 1]):=by
   simp -implicitDefEqProofs only[S110,hl1,hl2,af,lk,Cj,jI,ha,aj,b9,hgu,ak,iR,hb,ah,acK,hZ];simp
  rw[hS];exact aZ fun g=>CF g _ _
def okm(m:Mod):ay T 29 (.ip (ab m.av))=some m.av:=AI
def t109(p:List Mod)(hp:p.length<=1099511627776):aa pg 109 [mods p]=ao (.int .i64 (fP p)):=by
 let D:Nat->Bool:=fun i=>(p.take i).any fun m=>m.name== (p[i]?.getD default).name;have hloop:∀(n k:Nat),p.length-k=n->k<=p.length->ae (L109_0 (aa pg) ae) [mods p,mods p,.int .i64 p.length,.int .i64 k]=ao (.int .i64 (if(List.range' k n).any D=true then 5 else 0)):=by
  intro n
  induction n with
  |zero=>
   intro k hk hl;obtain rfl:k=p.length:=WD
   rw[FL109_0];simp[L109_0]
  | succ n ih=>
   intro k hk hl;have h1:(k:Int)<(p.length:Int):=WD
   have hlt:k<p.length:=WD
   have hi:=D8 (l:=p) (n:=(k:Int)) WD h1;rw[show ((k:Int)).toNat=k by omega,acF p k hlt]at hi;have hs:eR T 30 (mods p) none (some (.int .i64 k)) none=some (mods (p.take k)):=by
    have:=Lx (T:=T) (t:=30) (e:=29) rfl rfl rfl (p.map Mod.av) (n:=(k:Int)) WD Bk
    simpa [mods,aex]using this
   have ha:=t172 (.fn (.func 173) [] [.ip (ab p[k].av)]) (fun m=>m.name== p[k].name) (p.take k) Bk (fun g=>by simp[cl,eB]) (fun m _=>t173 m p[k]);have hD:D k=((p.take k).any fun m=>m.name== p[k].name):=by simp only[D,acH hlt,aeJ]
   have hw:IntKind.i64.wrap ((k:Int)+1)=((k+1:Nat):Int):=aH WD;rw[FL109_0];simp -implicitDefEqProofs only[L109_0,ak,au,aC,af,ah,h1,acX,acK,hi,okm,bZ (tT _),aj,cJ,hs,ha,aY,hw]
   grind [List.range']
 rw[C109,oT];have h0:=hloop p.length 0 WD WD;have ht:qM p=(List.range' 0 p.length).any D:=by
  unfold qM;rw[List.range_eq_range']
 have hS:S109 (aa pg) ae (mods p)=ao (.int .i64 (fP p)):=by
  unfold fP;rw[ht];by_cases h20:20<p.length
  ·have h20':(20:Int)<(p.length:Int):=WD
   simp_all[S109]
  ·have:¬((20:Int)<(p.length:Int)):=WD
   simp only[h20,acI];simp -implicitDefEqProofs only[S109,xk,af,Cv,ah,this,adg,acA,acI];exact h0
 simp_all
def t178(m:Mod)(v:Vars)(hv:bw v.values<=4611686018427387904)(_hm:m.vars.length<=1099511627776):aa pg 178 [m.av,v.av]=ao (.bool (v.module== m.name&&(v.values.length== m.vars.length&&v.values.all (cI 4)))):=by
 have ha:=Ct 179 t179 v.values hv;have e1:(((v.values.length:Nat):Int)== ((m.vars.length:Nat):Int))=(v.values.length== m.vars.length):=by rw[aen];simp
 rw[C178];simp[S178,ha,e1]
 grind
def NW(v:Vars):ay T 197 (.ip (ab v.av))=some v.av:=AN
def t111(p:List Mod)(st:List Vars)(hp:p.length<=1099511627776)(hm:∀m∈p,m.vars.length<=1099511627776)(hv:∀v∈st,bw v.values<=4611686018427387904):aa pg 111 [mods p,cH st]=ao (.bool (dR p st)):=by
 let F:Mod->Vars->Bool:=fun m v=>v.module== m.name&&(v.values.length== m.vars.length&&v.values.all (cI 4));have hloop:p.length=st.length->∀(n:Nat)(i:Int),p.length-i.toNat=n->0<=i->i<=p.length->
   ae (L177_0 (aa pg) ae) [cH st,.fn (.func 178) [] [],mods p,qi p.length,qi i]=ao (.bool (bp F (p.drop i.toNat) (st.drop i.toNat))):=by
  intro hab n
  induction n with
  |zero=>
   intro i hn hi hl;rw[FL177_0];simp only[L177_0];have h1:¬(i<(p.length:Int)):=WD
   have h2:p.drop i.toNat=[]:=List.drop_eq_nil_of_le WD;have h3:st.drop i.toNat=[]:=List.drop_eq_nil_of_le WD;simp[h1,h2,h3,bp]
  |succ n ih=>
   intro i hn hi hl;have h1:i<(p.length:Int):=WD
   have hlt:i.toNat<p.length:=WD
   have hlt':i.toNat<st.length:=WD
   have h3:=t178 p[i.toNat] st[i.toNat] (hv _ (List.getElem_mem hlt')) (hm _ (List.getElem_mem hlt));have h4:=ih (i+1) WD WD WD;rw[show (i+1).toNat=i.toNat+1 by omega]at h4;have i1:=D8 (l:=p) (n:=i) hi h1;have i2:=O4 (l:=st) (n:=i) hi WD;rw[acF p _ hlt]at i1;rw[acF st _ hlt']at i2;have hw:IntKind.i64.wrap (i+1)=i+1:=aW WD WD;have hcv:∀x y:AV,ba (aa pg) (.fn (.func 178) [] []) [x,y]=aa pg 178 [x,y]:=fun _ _=>rfl;have hm1:∀m:Mod,AV.agg (ab m.av)=m.av:=fun m=>rfl;have hv1:∀v:Vars,AV.agg (ab v.av)=v.av:=fun v=>rfl;rw[FL177_0,ij F p st i.toNat hlt hlt'];simp -implicitDefEqProofs only[L177_0,ak,au,aC,af,ah,h1,acX,acK,i1,i2,okm,NW,bZ (tT _),bZ (BK _),aj,hm1,hv1,hcv,h3,b9,aY,hw,h4]
   grind
 have hT:aa pg 177 [mods p,cH st,.fn (.func 178) [] []]=ao (.bool (bp F p st)):=by
  rw[C177];by_cases h:p.length=st.length
  ·have:=hloop h p.length 0 rfl WD WD
   simp_all[S177,cl,eB]
  ·simp_all[S177,cR]
 rw[C111];simp only[S111,oT,ED,hT,aj];exact aZ fun g=>rfl
def tt:Except Int (List Vars)->AV
 |.ok st=>.tup [cH st,qi 0]
 |.error e=>.tup [.sl [],qi e]
def MO{e:Exp}{ns:List aA}{vs:List Val}{c:Int}{s:Ms}(h:CU e ns vs= .er c s):c≠0:=by
 grind [CU,EQ]
theorem E3(outer:List AV->M AV)(p:List Mod)(out:List Vars)(i:AV)(nm:aA)(es:List Exp)(hes:∀e∈es,bj e)(hlen:es.length<=274877906944)(hout:out.length<=1099511627776):∀(B A:List Exp)(acc:List Val)(k:Int),A++B=es->acc.length=A.length->i= qi k->-4611686018427387904<=k->k<=4611686018427387904->
  ae (L50_0 (aa pg) ae outer) [cH out,mods p,qi p.length,i,bg es,qi es.length,qi A.length,.str nm,vals acc]=
  match rE B with
  |.error c=>ao (.tup [.sl [],qi c])
  |.ok vs=>outer [cH (out++[⟨nm,acc++vs⟩]),mods p,qi p.length,qi (k+1)]
 |[],A,acc,k,e,hac,hi,hk1,hk2=>by
  simp only[adL]at e;subst e;subst hi;have hb:aI T 65 1 [(0,.agg [.str nm,vals acc])]=some (cH [⟨nm,acc⟩]):=rfl;have ha:dL T 65 (cH out) (cH [⟨nm,acc⟩])=some (cH (out++[⟨nm,acc⟩])):=Z8 Bk;have hw:IntKind.i64.wrap (k+1)=k+1:=aW WD WD;rw[FL50_0];simp_all[L50_0,rE]
 | x:: B,A,acc,k,e,hac,hi,hk1,hk2=>by
  have hll:A.length+(B.length+1)=es.length:=by rw[<- e];simp
  have h1:(A.length:Int)<(es.length:Int):=WD
  have hx:es[A.length]'(WD)=x:=by subst e;simp
  have hm:x∈es:=by rw[<- e];simp
  have hix:=lj (l:=es) (n:=(A.length:Int)) WD h1;rw[show ((A.length:Int)).toNat=A.length by omega,acF es A.length WD,hx]at hix;have hex:ay T 54 (.ip (ab x.av))=some x.av:=AI
  have hx1:∀e:Exp,AV.agg (ab e.av)=e.av:=fun _=>rfl;have hcall:=t110 x [] [] (hes x hm) AI (by simp[bw]);have hcall':aa pg 110 [x.av,.sl [],.sl []]=ao (qF (CU x [] [])):=hcall;have hw:IntKind.i64.wrap ((A.length:Int)+1)=((A.length+1:Nat):Int):=aH WD;have hne:∀a b:Int,bN T .neq 38 (qi a) (qi b)=some (.bool (a != b)):=fun _ _=>rfl;rw[FL50_0];simp -implicitDefEqProofs only[L50_0,ak,au,aC,af,ah,h1,acX,acK,hix,hex,bZ (tR x),aj,hx1,hcall'];unfold rE;cases hr:CU x [] []with
  | er c s=>
   have hc0:(c != 0)=true:=by
    have:=MO hr
    simpa using this
   simp_all[qF]
  |ok v s=>
   have hb2:aI T 31 1 [(0,v.av)]=some (vals [v]):=by rw[v.av_eq];simp[vals,gJ,v.av_eq];rfl
   have ha2:dL T 31 (vals acc) (vals [v])=some (vals (acc++[v])):=OZ Bk;have hc1:dP (vals (acc++[v]))=ao (vals (acc++[v])):=rfl;have hvv:∀v:Val,AV.agg (ab v.av)=v.av:=fun v=>AI
   have h00:((0:Int) != 0)=false:=rfl;have hvl:ay T 62 (.ip (ab v.av))=some v.av:=AI
   have ih:=E3 outer p out i nm es hes hlen hout B (A++[x]) (acc++[v]) k qr (by simp[hac]) hi hk1 hk2;simp only[aec,List.singleton_append,ac7,ad2]at ih;simp -implicitDefEqProofs only[qF,cC,acV,adc,af,bZ (iP v),aj,hne,h00,ah,acA,acI,hvv,hvl,hb2,ha2,hc1,aY,hw,ih]
   grind
theorem t50(p:List Mod)(hp:p.length<=1099511627776)(hm:∀m∈p,m.vars.length<=1099511627776/\m.init.length<=274877906944/\∀e∈m.init,bj e):aa pg 50 [mods p]=ao (tt (lr p)):=by
 have hloop:∀(B A:List Mod)(out:List Vars),A++B=p->out.length=A.length->ae (L50_1 (aa pg) ae) [cH out,mods p,.int .i64 p.length,.int .i64 A.length]=
   ao (match iG B with|.error c=>.tup [.sl [],.int .i64 c]|.ok r=>.tup [cH (out++r),.int .i64 0]):=by
  intro B
  induction B with
  |nil=>
   simp_all[FL50_1,L50_1,iG]
  | cons x B ih=>
   intro A out e ho;have hll:A.length+(B.length+1)=p.length:=by rw[<- e];simp
   have h1:(A.length:Int)<(p.length:Int):=WD
   have hx:p[A.length]'(WD)=x:=by subst e;simp
   have hmm:x∈p:=by rw[<- e];simp
   obtain⟨m1,m2,m3⟩:=hm x hmm;have hix:=D8 (l:=p) (n:=(A.length:Int)) WD h1;rw[show ((A.length:Int)).toNat=A.length by omega,acF p A.length WD,hx]at hix;have hB:bW T true 197 [(0,.str x.name)]=some (.agg [.str x.name,.hn]):=rfl;have hC:aK 2 [1] (.agg [.str x.name,.hn])=ao (.agg [.str x.name,.hn]):=rfl;have hin:=E3 (ae (L50_1 (aa pg) ae)) p out (.int .i64 A.length) x.name x.init m3 m2 WD x.init [] [] A.length rfl rfl rfl WD WD;rw[FL50_1];simp -implicitDefEqProofs only[L50_1,ak,au,aC,af,ah,h1,acX,acK,hix,okm,bZ (tT x),aj,cJ];simp -implicitDefEqProofs only[ak,au,af,ah,aj,cJ,bu,FA29_0,FA29_2,FA29_3,ac5,ac0,LD9,LD24,LD23,xj,oM,hB,hC,jI];unfold iG;by_cases hl:x.init.length=x.vars.length
   ·have hl':((x.init.length:Int) != (x.vars.length:Int))=false:=by simp[hl]
    simp only[hl',acA,acI,acL hl];have hz:((([]:List Exp).length:Nat):Int)=0:=rfl;rw[hz]at hin;have hv0:vals []= .sl []:=rfl;rw[hv0]at hin;rw[hin];cases rE x.init with
    |error c=>rfl
    |ok vs=>
     have:=ih (A++[x]) (out++[⟨x.name,vs⟩]) qr (by simp[ho])
     simp only[ac7,ad2]at this
     grind
   grind
 have h0:=hloop p [] [] rfl rfl;have hne:∀a b:Int,bN T .neq 38 (.int .i64 a) (.int .i64 b)=some (.bool (a != b)):=fun _ _=>rfl;have hS:S50 (aa pg) ae (mods p)=ao (tt (lr p)):=by
  unfold lr;by_cases hn:fP p=0
  ·have hn':(fP p != 0)=false:=by simp[hn]
   simp -implicitDefEqProofs only[S50,t109 p hp,aj,hne,af,hn',ah,acA,acI,xk];rw[acL hn];simp only[acS,acT]at h0;have:cH []= .sl []:=rfl;rw[this]at h0;have hz:((0:Nat):Int)=0:=rfl;rw[hz]at h0;rw[h0];cases iG p<;>rfl
  ·have hn':(fP p != 0)=true:=by simp[hn]
   simp -implicitDefEqProofs only[S50,t109 p hp,aj,hne,af,hn',ah,acK];rw[acE hn];rfl
 rw[C50,oT,hS];exact aZ fun g=>by
  cases lr p with
  |error e=>rfl
  |ok st=>simp[tt,cl,eB]
end Go.Proofs.YtkidiopjcgeifaaGreat
