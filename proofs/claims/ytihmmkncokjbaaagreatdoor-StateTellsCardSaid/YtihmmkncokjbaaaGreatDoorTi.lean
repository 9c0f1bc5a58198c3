/- What the functions compute, part 9. Conditions: bounds. -/
import Derived.Test.YtihmmkncokjbaaaGreatDoorTh
set_option linter.defProp false
set_option linter.unusedSimpArgs false
set_option linter.unusedVariables false
namespace Go.Proofs.YtihmmkncokjbaaaGreatDoor
open Go Go.Av Go.Av.Ap
set_option maxRecDepth 100000
def yL(l:List aR):Bool:=l.all eR&&kl (fun a b=>bP a b) l
theorem t191(l:List aR)(hb:l.length<=8):aj pg 191 [strs l]=ay (.bool (yL l)):=by
 have hloop:=iy (F:=L191_0 (aj pg) ao) (FL191_0 (aj pg)) (fun k=>[strs l,.int .i64 k]) l.length
  (fun k=>eR l[k]! && (decide (k=0)||bP l[k-1]! l[k]!))
  (by simp[L191_0]) (fun k hk=>by
   have h1:(k:Int)<(l.length:Int):=by omega
   have hix:=mG (l:=l) (n:=(k:Int)) (by omega) h1;rw[P8]at hix;have h2:=t240 l[k]!;have hw:IntKind.i64.wrap ((k:Int)+1)=(k:Int)+1:=by rw[cr (by omega)];simp
   generalize l[k]! = f at hix h2 |-;rcases QK k with hk0|hk0
   ·subst hk0;have hix0:au T 22 (strs l) (.int .i64 0)=some (.ip (aa (.str f))):=hix;have hw0:IntKind.i64.wrap 1=1:=rfl;cases hn:eR f<;>rw[hn]at h2<;>simp[L191_0,hix0,h2,hw0,hk]
   ·have hp:IntKind.i64.wrap ((k:Int)-1)=((k-1:Nat):Int):=by
     rw[bd (by omega) (by omega)];omega
    have h4:((k-1:Nat):Int)<(l.length:Int):=by omega
    have hix2:=mG (l:=l) (n:=((k-1:Nat):Int)) (by omega) h4;rw[P8]at hix2;generalize l[k-1]! = g at hix2 |-;have hk1:¬k=0:=by omega
    have hk2:0<(k:Int):=by omega
    cases hn:eR f<;>rw[hn]at h2<;>cases hs:bP g f<;>simp[L191_0,h1,hix,h2,hw,hp,hix2,hk0,hk1,hk2,hk,hs]) 0 (Qy _)
 rw[Rq,AD eR (fun a b=>bP a b) l]at hloop;rw[C191];have h':ao (L191_0 (aj pg) ao) [strs l,.int .i64 0]=ay (.bool (yL l)):=hloop;simp[S191,h']
def yM(l:List cE):yL (l.map (·.1))=(l.all (fun f=>eR f.1)&&kl (fun a b:cE=>gK a.1 b.1) l):=by
 unfold yL;rw[List.all_map];congr 1
 induction l with
 |nil=>rfl
 | cons x l ih=>
  cases l with
  |nil=>rfl
  |cons y r=>
   simp only[QO,kl]at ih |-;rw[ih];congr 1;rw[QG];exact (yI _ _).symm
def yc(d:Nat)(t:Ty):cj (d+1) t=(decide (0<=t.kind)&&decide (t.kind<=2)&&!(!(t.kind== 2)&&decide (0<t.fields.length))&&decide (t.fields.length<=8)&&yL (t.fields.map (·.1))&&t.fields.all fun f=>cj d f.2):=by
 rw[dQ,yM];have e1:decide (t.kind<3)=decide (t.kind<=2):=Ri.2 (by omega);have e2:t.fields.all (fun f=>eR f.1&&cj d f.2)=(t.fields.all (fun f=>eR f.1)&&t.fields.all fun f=>cj d f.2):=by
  induction t.fields with
  |nil=>rfl
  |cons x l ih=>
   simp only[QH,ih];cases eR x.1<;>cases cj d x.2<;>cases l.all (fun f=>eR f.1)<;>simp
 have e3:(t.kind== 2||t.fields.length== 0)= !(!(t.kind== 2)&&decide (0<t.fields.length)):=by
  rcases QK t.fields.length with h|h
  ·simp[h]
  ·have h1:(t.fields.length== 0)=false:=Qj.2 (by omega);simp[h,h1]
 rw[e1,e2,e3];generalize decide (0<=t.kind)=a1;generalize decide (t.kind<=2)=a2;generalize decide (t.fields.length<=8)=a3;generalize (!(!(t.kind== 2)&&decide (0<t.fields.length)))=a4;generalize t.fields.all (fun f=>eR f.1)=a5;generalize (t.fields.all fun f=>cj d f.2)=a6;generalize kl (fun a b:cE=>gK a.1 b.1) t.fields=a7;revert a1 a2 a3 a4 a5 a6 a7;decide
def Ga{t:Ty}(h:t.Lim)(k:Nat)(hk:k<t.fields.length):(t.fields[k]!).2.Lim:=A7 h k hk
theorem t145:∀(d:Nat),d<=4->∀(t:Ty),t.Lim->aj pg 145 [t.av,.int .i64 d]=ay (.bool (cj d t))
 |0,_,t,_=>by
  rw[C145];simp[S145,cj]
 | d + 1,hd,t,ht=>by
  have ih:=t145 d (by omega);have hlen:=ht.len;have hd1:IntKind.i64.wrap (((d+1:Nat):Int)-1)=(d:Int):=uy (by omega);have hloop:=iy (F:=L145_0 (aj pg) ao) (FL145_0 (aj pg)) (fun k=>[.int .i64 ((d+1:Nat):Int),.ip (aa t.av),.int .i64 k]) t.fields.length
   (fun k=>cj d (t.fields[k]!).2)
   (by simp[L145_0]) (fun k hk=>by
    have h1:(k:Int)<(t.fields.length:Int):=by omega
    have hix:=gp (l:=t.fields) (n:=(k:Int)) (by omega) h1;rw[P8]at hix;have h3:=ih (t.fields[k]!).2 (Ga ht k hk);have hw:IntKind.i64.wrap ((k:Int)+1)=((k+1:Nat):Int):=cr (by omega);generalize t.fields[k]! = f at hix h3 |-;cases hr:cj d f.2<;>rw[hr]at h3<;>simp only[L145_0,ax,aE,mh,FA35_1,ak,Qf,Qe,LD23,bU,bC,h1,QA,am,PQ,hix,jv,FA37_1,LD35,P4,Qr,Qb,Nat.reduceAdd,P5,Rz,R6,uW,gL,hd1,h3,ap,bq,Qd,Qa,PM,PP,cy,hw]) 0 (Qy _)
  rw[Rq]at hloop;have e:(List.range' 0 t.fields.length).all (fun k=>cj d (t.fields[k]!).2)=t.fields.all fun f=>cj d f.2:=kP (fun f:cE=>cj d f.2) t.fields;rw[e]at hloop;have h':ao (L145_0 (aj pg) ao) [.int .i64 ((d+1:Nat):Int),.ip (aa t.av),.int .i64 0]=ay (.bool (t.fields.all fun f=>cj d f.2)):=hloop;rw[yc];generalize (t.fields.all fun f=>cj d f.2)=q at h' |-;rw[C145];have hin:=t190 t.kind 0 2;have hne':((d:Int)+1== 0)=false:=by rw[Qj];omega
  have h'':ao (L145_0 (aj pg) ao) [.int .i64 ((d:Int)+1),.ip [.int .i64 t.kind,bm t.fields],.int .i64 0]=ay (.bool q):=by
   simp only[mh]at h';exact h'
  by_cases k1:0<=t.kind
  ·by_cases k2:t.kind<=2
   ·by_cases h2:t.kind=2
    ·by_cases h8:t.fields.length<=8
     ·have h8':¬(8<(t.fields.length:Int)):=by omega
      have hlab:=t192 t.fields h8;have hasc:=t191 (t.fields.map (·.1)) (by rw[Rp];exact h8);rw[h2]at hin;generalize t.fields.map (·.1)=ls at hlab hasc |-;generalize yL ls=a at hasc |-;rw[h2]at h'';cases a<;>simp[S145,hne',hin,h2,h8,h8',hlab,hasc,h'']
     ·have h8':8<(t.fields.length:Int):=by omega
      rw[h2]at hin;simp[S145,hne',hin,h2,h8,h8']
    ·have hin':aj pg 190 [.int .i64 t.kind,.int .i64 0,.int .i64 2]=ay (.bool true):=by rw[hin,PT k1,PT k2];rfl
     by_cases h0:0<t.fields.length
     ·have h0':0<(t.fields.length:Int):=by omega
      have h2b:(t.kind != 2)=true:=by simpa using h2
      have h2c:(t.kind== 2)=false:=Qj.2 h2;simp[S145,hne',hin',h2b,h2c,h0,h0']
     ·have h0':¬0<(t.fields.length:Int):=by omega
      have h8:t.fields.length<=8:=by omega
      have h8':¬(8<(t.fields.length:Int)):=by omega
      have hlab:=t192 t.fields h8;have hasc:=t191 (t.fields.map (·.1)) (by rw[Rp];exact h8);generalize t.fields.map (·.1)=ls at hlab hasc |-;generalize yL ls=a at hasc |-;have h2b:(t.kind != 2)=true:=by simpa using h2
      cases a<;>simp[S145,hne',hin',h2,h2b,h0,h0',h8,h8',hlab,hasc,h'',k1,k2]
   ·have hin':aj pg 190 [.int .i64 t.kind,.int .i64 0,.int .i64 2]=ay (.bool false):=by rw[hin,PT k1,PX k2];rfl
    simp[S145,hne',hin',k2]
  ·have hin':aj pg 190 [.int .i64 t.kind,.int .i64 0,.int .i64 2]=ay (.bool false):=by rw[hin,PX k1];rfl
   simp[S145,hne',hin',k1]
def t102(t:Ty)(ht:t.Lim):aj pg 102 [t.av]=ay (.bool (dx t)):=by
 have h:=t145 4 (by omega) t ht;have h':aj pg 145 [t.av,.int .i64 4]=ay (.bool (dx t)):=h;rw[C102];simp[S102,h']
def t58(t:Ty)(ht:t.Lim):aj pg 58 [t.av]=ay (.bool (dx t)):=by
 have h:=t102 t ht;rw[C58];simp[S58,h]
def se(t:Bool)(p:List Mod):AV:=if t=true then(match p with|[]=>.hn|_=>dI p)else dI p
def jl{t:Bool}{p:List Mod}(h:p≠[]):se t p=dI p:=by
 cases t with
 |false=>rfl
 |true=>cases p with
  |nil=>exact absurd rfl h
  |cons _ _=>rfl
def qn(t:Bool)(w:List Int):AV:=if t=true then .hn else ints w
def rowP(p:List Mod)(t:Bool)(m:Ms)(dv cv sv:AV):List AV:=[se t p,qn t m.world,.int .i64 m.fuel,.int .i64 m.frames,.int .i64 0,.int .i64 0,.int .i64 0,.hn,.hn,dv,cv,sv]
abbrev gq(p:List Mod)(nm:SNm):=ON (rowP p nm.told) nm
structure LimP (p:List Mod):Prop where
 len:p.length<=1099511627776
 funcs:∀m∈p,m.funcs.length<=1099511627776/\m.vars.length<=1099511627776
def LimP.funcsAt{p:List Mod}(L:LimP p)(i:Nat):(p[i]?.getD default).funcs.length<=1099511627776/\(p[i]?.getD default).vars.length<=1099511627776:=by
 cases h:p[i]? with
 |none=>exact⟨Qy _,Qy _⟩
 |some m=>exact L.funcs m (QT h)
theorem iK{α:Type}(F:α->Bool):(l:List α)->(i:Int)->bj F l i= -1\/(i<=bj F l i/\bj F l i<i+l.length)
 |[],i=>.inl rfl
 | x:: l,i=>by
  simp only[bj];split
  ·exact .inr ⟨Re _,by simp;omega⟩
  ·rcases iK F l (i+1)with h|h
   ·exact .inl h
   ·exact .inr ⟨by omega,by simp;omega⟩
def t221{p:List Mod}{nm:SNm}{m:Ms}{h:Hp}(R:gq p nm m h)(L:LimP p)(s:aR):aj pg 221 [.hp 0 0,.str s] h= .ok (.int .i64 (jb p s)) h:=by
 obtain⟨tag,dv,cv,sv,R⟩:=R;have h0:bi T 92 (.hp 0 (0+0)) h= .ok (se nm.told p) h:=ca rfl rfl R.r0 rfl;have hpv:∀f:AV,aj pg 193 [se nm.told p,f]=aj pg 193 [dI p,f]:=fun f=>by
  by_cases hp:p=[]
  ·subst hp;cases nm.told with
   |false=>rfl
   |true=>rw[C193,C193];rfl
  ·rw[jl hp]
 rw[C221];simp only[S221,aZ,ak,FH164_0];rw[bn h0,hpv]
 have:=Nm p (by have:=L.len;omega) s
 simp only[mY,this,ap];rfl
def zt:Option Fun->AV
 |some f=>.tup [f.av,.bool true]
 |none=>.tup [Fun.av default,.bool false]
theorem t222{p:List Mod}{nm:SNm}{m:Ms}{h:Hp}(R:gq p nm m h)(L:LimP p)(a:Int)(ha:a<p.length)(s:aR):aj pg 222 [.hp 0 0,.int .i64 a,.str s] h= .ok (zt (ln p a s)) h:=by
 obtain⟨tag,dv,cv,sv,R⟩:=R;have h0:p≠[]->bi T 92 (.hp 0 (0+0)) h= .ok (dI p) h:=fun hp=>ca rfl rfl R.r0 (by rw[<- jl (t:=nm.told) hp];rfl);have hz:aT T false 68 []=some (Fun.av default):=rfl;have hzz:∀f:Fun,AV.agg [ae (aa f.av) 0,ae (aa f.av) 1,ae (aa f.av) 2,ae (aa f.av) 3,ae (aa f.av) 4,ae (aa f.av) 5,ae (aa f.av) 6,ae (aa f.av) 7,ae (aa f.av) 8,ae (aa f.av) 9,ae (aa f.av) 10,ae (aa f.av) 11]=f.av:=fun f=>by simp
 have hcf:∀f:Fun,az 12 [] f.av=ay (.agg (aa f.av)):=fun f=>cT (kD f);have hac:∀f:Fun,aa (.agg (aa f.av))=aa f.av:=fun _=>rfl;rw[C222];unfold ln;simp only[S222,bC,ak,am];by_cases h1:a<0
 ·simp only[h1,QA,PQ,hz,ak,hcf,ap,hac,hzz];rfl
 ·simp only[h1,QR,PM,PP,aZ,ak,FH164_0];rw[bn (h0 (fun e=>by subst e;simp at ha;omega))];have hi:=nu (l:=p) (n:=a) (by omega) ha;have hlt:a.toNat<p.length:=by omega
  have e1:p[a.toNat]! = p[a.toNat]?.getD default:=by rw[PY p a.toNat hlt,P1 hlt];rfl
  have hlen:=(L.funcsAt a.toNat).1;have hx:=Nn (p[a.toNat]?.getD default).funcs (by omega) s;generalize hm:p[a.toNat]?.getD default=md at hx hlen e1;rw[hi,e1];simp only[ak,gw,FA29_4,Qf,Qe,LD25,mY,hx,ap,bC,am];by_cases h2:ge md.funcs s<0
  ·simp only[h2,QA,PQ,hz,ak,hcf,ap,hac,hzz];rfl
  ·simp only[h2,QR,PM,PP];rcases iK (fun f=>f.name== s) md.funcs 0 with h3|h3
   ·exact absurd (show ge md.funcs s<0 by unfold ge;rw[h3];decide) h2
   ·have h4:ge md.funcs s<(md.funcs.length:Int):=by unfold ge;omega
    have h5:(ge md.funcs s).toNat<md.funcs.length:=by omega
    rw[Dl (by omega) h4,PY md.funcs _ h5,P1 h5];have hld:ai T 68 (.ip (aa (md.funcs[(ge md.funcs s).toNat]).av))=some (md.funcs[(ge md.funcs s).toNat]).av:=by simp
    simp only[ak,hld,hcf,ap,hac,hzz];rfl
def je{α:Type}(p:List Mod)(nm:SNm)(enc:α->AV)(r:Rs α)(c:R AV):Prop:=match r with
 |.ok v s=>∃h',c= .ok (enc v) h'/\gq p nm s h'
 |.er e s=>∃h',c= .pan (nF e) h'/\gq p nm s h'
def cG{α β:Type}{p:List Mod}{nm:SNm}{enc:α->AV}{enc':β->AV}{x:X α}{f:α->X β}{c:M AV}{d:AV->M AV}{m:Ms}{h:Hp}(H:je p nm enc (x m) (c h))(K:∀a s h',x m= .ok a s->gq p nm s h'->je p nm enc' (f a s) (d (enc a) h')):je p nm enc' (x.bind f m) (af c d h):=by
 unfold X.bind;cases hr:x m with
 |ok a s=>
  rw[hr]at H;obtain⟨h',h1,h2⟩:=H;rw[bn h1];exact K a s h' hr h2
 |er e s=>
  rw[hr]at H;obtain⟨h',h1,h2⟩:=H;exact⟨h',AJ h1,h2⟩
def eF{α:Type}{p:List Mod}{nm:SNm}{enc:α->AV}{a:α}{m:Ms}{h:Hp}(R:gq p nm m h):je p nm enc (X.ok a m) (ay (enc a) h):=⟨h,rfl,R⟩
def fH{α:Type}{p:List Mod}{nm:SNm}{enc:α->AV}{e:Int}{m:Ms}{h:Hp}(R:gq p nm m h):je p nm enc (X.er e m) (eI (nF e) h):=⟨h,rfl,R⟩
def Kn(v:Val):af (az 4 [] v.av) (fun w=>ay (AV.agg [ae (aa w) 0,ae (aa w) 1,ae (aa w) 2,ae (aa w) 3]))=ay v.av:=by simp
def d9(m:Ms):Ms:={ m with fuel:=m.fuel-1 }
def GG{p:List Mod}{nm:SNm}{tag:Nat->Nat}{dv cv sv:AV}{m:Ms}{h:Hp}(R:RepT (rowP p nm.told) nm tag dv cv sv m h):RepT (rowP p nm.told) nm tag dv cv sv (d9 m) (h.set 0 (rowP p nm.told (d9 m) dv cv sv)):=R.set0 rfl rfl rfl id
def step0{p:List Mod}{nm:SNm}{m:Ms}{h:Hp}(R:gq p nm m h):∃h1,gq p nm (d9 m) h1/\
  (∀f:AV->M AV,af (bi T 3 (.hp 0 2)) f h=f (.int .i64 m.fuel) h)/\(∀f:AV->M AV,af (cq T 3 (.hp 0 2) (.int .i64 (m.fuel-1))) f h=f (.tup []) h1):=by
 obtain⟨tag,dv,cv,sv,R⟩:=R;refine⟨_,⟨tag,dv,cv,sv,GG R⟩,fun f=>bn (ca rfl rfl R.r0 rfl),fun f=>bn (dT rfl R.r0 rfl (show 2+1<=12 by decide) (by decide))⟩
def FC{p:List Mod}{nm:SNm}{m:Ms}{h:Hp}(R:gq p nm m h)(hf:¬0<m.fuel)(sc:AV)(e:Exp):aj pg 134 [.hp 0 0,sc,e.av] h= .pan (nF 16) h:=by
 obtain⟨tag,dv,cv,sv,R⟩:=R;have h0:∀f:AV->M AV,af (bi T 3 (.hp 0 2)) f h=f (.int .i64 m.fuel) h:=fun f=>bn (ca rfl rfl R.r0 rfl);rw[C134];simp[S134,h0,hf,bJ,cU,eI]
def pe(e:Exp):Prop:=¬bg e.op= -2/\(bg e.op= -1\/bg e.op=e.args.length)
def KT{p:List Mod}{nm:SNm}{m:Ms}{h:Hp}(R:gq p nm m h)(G:GoodM p m)(hf:0<m.fuel)(sc:AV)(e:Exp)(hc:¬pe e):∃h1,gq p nm (d9 m) h1/\aj pg 134 [.hp 0 0,sc,e.av] h= .pan (nF 13) h1:=by
 obtain⟨h1,R1,hl,hs⟩:=step0 R;refine⟨h1,R1,?_⟩;have hw:IntKind.i64.wrap (m.fuel-1)=m.fuel-1:=bd (by omega) (by have:=G.bud;simp only[mu]at this;omega);unfold pe at hc;rw[C134];simp[S134,hl,hs,hf,bJ,cU,hw,t167,hc];rfl
mutual
def bh:Exp->Prop
 |.mk _ _ _ _ ns es=>ns.length<=8796093022208/\es.length<=274877906944/\nJ es
def nJ:List Exp->Prop
 |[]=>True
 |e:: es=>bh e/\nJ es
end
theorem px:{l:List Exp} ->nJ l->∀e∈l,bh e
 |[],_,_,h=>by cases h
 |x:: l,H,e,h=>by
  simp only[nJ]at H;rcases Qm.1 h with rfl|h
  ·exact H.1
  ·exact px H.2 e h
def bz{e x:Exp}(H:bh e)(h:x∈e.args):bh x:=by
 obtain⟨o,n,s,m,ns,es⟩:=e;simp only[bh]at H;exact px H.2.2 x h
def fO{e:Exp}(H:bh e):e.names.length<=8796093022208/\e.args.length<=274877906944:=by
 obtain⟨o,n,s,m,ns,es⟩:=e;simp only[bh]at H;exact⟨H.1,H.2.1⟩
structure LimB (p:List Mod):Prop where
 lim:LimP p
 body:∀m∈p,∀f∈m.funcs,bh f.body/\f.params.length<=274877906944
structure Sc (p:List Mod) (own:Int) (ns:List aR) (vs:List Val) (m:Ms):Prop where
 own:own<p.length
 right:kN ns vs
 len:(ns.length:Int)+m.fuel<=549755813888
def qe(p:List Mod)(nm:SNm)(n:Nat):Prop:=∀own ns vs e m h,gq p nm m h->GoodM p m->m.fuel<=n->Sc p own ns vs m->bh e->je p nm Val.av (bo p n own ns vs e m) (aj pg 134 [.hp 0 0,aM own ns vs,e.av] h)
def Ko(p:List Mod)(nm:SNm)(n:Nat):Prop:=∀own ns vs e m h,gq p nm m h->GoodM p m->m.fuel<=n->Sc p own ns vs m->bh e->je p nm AV.bool (boolX (bo p n own ns vs e) m) (aj pg 171 [.hp 0 0,aM own ns vs,e.av] h)
def IP(p:List Mod)(nm:SNm)(n:Nat):Prop:=∀own ns vs e m h,gq p nm m h->GoodM p m->m.fuel<=n->Sc p own ns vs m->bh e->je p nm Val.av (iC (bo p n own ns vs) e m) (aj pg 173 [.hp 0 0,aM own ns vs,e.av] h)
def Dk(p:List Mod)(nm:SNm)(n:Nat):Prop:=∀own ns vs e m h,gq p nm m h->GoodM p m->mu m<1000000->m.fuel<=n->Sc p own ns vs m->bh e->je p nm Val.av (mL p (bo p n) own ns vs e m) (aj pg 174 [.hp 0 0,aM own ns vs,e.av] h)
def sM(p:List Mod)(r:Exp->X Val)(own:Int)(e:Exp):X Val:=if e.op=16 then sQ (r e.args[0]!) e else s7 p r own e
def AB(p:List Mod)(nm:SNm)(n:Nat):Prop:=∀own ns vs e m h,e.op=16\/e.op=17\/e.op=18->pe e->gq p nm m h->GoodM p m->mu m<1000000->m.fuel<=n->Sc p own ns vs m->bh e->je p nm Val.av (sM p (bo p n own ns vs) own e m) (aj pg 175 [.hp 0 0,aM own ns vs,e.av] h)
def Sc.less{p:List Mod}{own:Int}{ns:List aR}{vs:List Val}{m s:Ms}(H:Sc p own ns vs m)(h:s.fuel<=m.fuel):Sc p own ns vs s:=⟨H.own,H.right,by have:=H.len;omega⟩
theorem t171{p:List Mod}{nm:SNm}{n:Nat}(IH:qe p nm n):Ko p nm n:=by
 intro own ns vs e m h R G hn hs he;unfold boolX;have hsc:ai T 168 (.ip (aa (aM own ns vs)))=some (aM own ns vs):=rfl;have hex:ai T 66 (.ip (aa e.av))=some e.av:=by simp
 rw[C171];simp only[S171,hsc,hex,ak];refine cG (IH own ns vs e m h R G hn hs he) fun v s h' hv Rs=>?_;simp only[bu (cL v),ap,bl,cw,FA45_0,FA45_1,Qe,LD3,ak,dJ,bJ,cU,Qf];by_cases hk:v.kind=1
 ·simp only[hk,QL,PQ];exact eF Rs
 ·have:(v.kind== 1)=false:=by simpa using hk
  simp only[hk,this,PP,PM];exact fH Rs
theorem oV:∀(ns:List aR)(vs:List Val)(n:aR)(v:Val)(s:aR),ns.length=vs.length->i7 (ns++[n]) (vs++[v]) s=if n=s then some v else i7 ns vs s
 |[],[],n,v,s,_=>by simp[i7]
 |a:: ns,b:: vs,n,v,s,h=>by
  simp only[QC,i7,oV ns vs n v s (by simpa using h)];by_cases hn:n=s
  ·simp[hn]
  ·simp[hn]
 |[],_:: _,_,_,_,h=>by simp at h
 |_:: _,[],_,_,_,h=>by simp at h
def Gd(o:Option Val):M AV:=match o with
 |some v=>ay v.av
 |none=>eI (nF 12)
theorem xH(kk:List AV->M AV)(own:Int)(ns:List aR)(vs:List Val)(e:Exp)(x1 x2 x3 x4:AV)(hl:ns.length=vs.length)(hb:ns.length<=1099511627776):∀(i:Nat),i<=ns.length->
  ao (L134_0 (aj pg) ao kk) [.hp 0 0,.ip [.int .i64 own,strs ns,vals vs],.ip (aa e.av),.int .i64 ((i:Int)-1),x1,x2,x3,x4]=Gd (i7 (ns.take i) (vs.take i) e.s)
 |0,_=>by
  have hi:fl T 39 (.int .i64 12)=some (nF 12):=rfl;rw[FL134_0];simp only[L134_0,ax,aE,ix,ak,am,hi];simp[i7,Gd,sZ];rfl
 |i+1,hi=>by
  have ih:=xH kk own ns vs e x1 x2 x3 x4 hl hb i (by omega);have h1:i<ns.length:=by omega
  have h2:i<vs.length:=by omega
  have h3:(ns.take (i+1))=ns.take i++[ns[i]]:=by simp
  have h4:(vs.take (i+1))=vs.take i++[vs[i]]:=by simp
  rw[h3,h4,oV _ _ _ _ _ (by simp;omega),FL134_0];have e1:((i+1:Nat):Int)-1=(i:Int):=by omega
  rw[e1];simp only[L134_0];simp (disch:=omega) [bd,mG,hM,h1,h2];simp only[aX]at ih;by_cases hs:ns[i]=e.s
  ·simp[hs,Gd]
  ·simp[hs,ih]
end Go.Proofs.YtihmmkncokjbaaaGreatDoor
namespace Go.Proofs.YtihmmkncokjbaaaGreatDoor
open Go Go.Av Go.Av.Ap
set_option maxRecDepth 100000
@[simp] theorem MV(a:Exp)(l:List Exp):au T 24 (bE (a:: l)) (.int .i64 0)=some (.ip (aa a.av)):=by
 have:=kL (l:=a:: l) (n:=0) (by omega) (by simp<;>omega)
 simpa using this
@[simp] theorem O1(a b:Exp)(l:List Exp):au T 24 (bE (a:: b:: l)) (.int .i64 1)=some (.ip (aa b.av)):=by
 have:=kL (l:=a:: b:: l) (n:=1) (by omega) (by simp<;>omega)
 simpa using this
@[simp] theorem O2(a b c:Exp)(l:List Exp):au T 24 (bE (a:: b:: c:: l)) (.int .i64 2)=some (.ip (aa c.av)):=by
 have:=kL (l:=a:: b:: c:: l) (n:=2) (by omega) (by simp<;>omega)
 simpa using this
section
variable (o n:Int) (s m:aR) (ns:List aR) (es:List Exp)
@[simp] theorem l6:(Exp.mk o n s m ns es).op=o:=rfl
@[simp] theorem qk:(Exp.mk o n s m ns es).n=n:=rfl
@[simp] theorem Ad:(Exp.mk o n s m ns es).s=s:=rfl
@[simp] theorem Cu:(Exp.mk o n s m ns es).m=m:=rfl
@[simp] theorem eS:(Exp.mk o n s m ns es).names=ns:=rfl
@[simp] theorem iw:(Exp.mk o n s m ns es).args=es:=rfl
end
def kw(o n:Int)(s m:aR)(ns:List aR)(es:List Exp):AV.agg [.int .i64 o,.int .i64 n,.str s,.str m,strs ns,bE es]=(Exp.mk o n s m ns es).av:=by rw[Exp.av,Exp.cells_eq];rfl
theorem ri:∀(ns:List aR)(vs:List Val)(s:aR)(i:Int),ns.length=vs.length->(bj (fun x=>s== x) ns i= -1/\dh ns vs s=none)\/(∃(k:Nat)(h:k<vs.length),bj (fun x=>s== x) ns i=i+k/\dh ns vs s=some vs[k])
 |[],[],s,i,_=>.inl ⟨rfl,rfl⟩
 | n:: ns,v:: vs,s,i,h=>by
  simp only[bj,dh];by_cases hn:n=s
  ·right;exact⟨0,by simp,by simp[hn],by simp[hn]⟩
  ·have hn':(s== n)=false:=by simpa using fun e=>hn e.symm
   simp only[if_neg hn,hn',PM,PP];rcases ri ns vs s (i+1) (by simpa using h)with⟨h1,h2⟩|⟨k,hk,h1,h2⟩
   ·left;exact⟨by simpa using h1,h2⟩
   ·right;exact⟨k+1,by simp;omega,by simp[h1];omega,by simpa using h2⟩
 |[],_:: _,_,_,h=>by simp at h
 |_:: _,[],_,_,h=>by simp at h
def kF{p:List Mod}{nm:SNm}{x:X Val}(hx:(∃v,x= .ok v)\/(∃e,x= .er e)){m:Ms}{h:Hp}(R:gq p nm m h):je p nm Val.av (x m) (ga x h):=by
 rcases hx with⟨v,rfl⟩|⟨e,rfl⟩
 ·exact eF R
 ·exact fH R
def ko(op:Int)(a b:Val):(∃v,km op a b= .ok v)\/(∃e,km op a b= .er e):=by
 unfold km;split
 ·split
  ·exact .inl ⟨_,rfl⟩
  ·exact .inr ⟨_,rfl⟩
 ·split
  ·split
   ·exact .inl ⟨_,rfl⟩
   ·split
    ·exact .inl ⟨_,rfl⟩
    ·split
     ·exact .inl ⟨_,rfl⟩
     ·exact .inl ⟨_,rfl⟩
  ·exact .inr ⟨_,rfl⟩
def F9{l:List Exp}(h:l.length=1):∃a,l=[a]:=by
 match l,h with
 |[a],_=>exact⟨a,rfl⟩
def xA{l:List Exp}(h:l.length=2):∃a b,l=[a,b]:=by
 match l,h with
 |[a,b],_=>exact⟨a,b,rfl⟩
def Oj{l:List Exp}(h:l.length=3):∃a b c,l=[a,b,c]:=by
 match l,h with
 |[a,b,c],_=>exact⟨a,b,c,rfl⟩
def Bo{α:Type}{p:List Mod}{nm:SNm}{enc:α->AV}{c:Prop}[Decidable c]{x y:X α}{a b:M AV}{m:Ms}{h:Hp}(h1:c->je p nm enc (x m) (a h))(h2:¬c->je p nm enc (y m) (b h)):je p nm enc ((if c then x else y) m) ((if c then a else b) h):=by
 split
 ·exact h1 ‹_›
 ·exact h2 ‹_›
def uP(a b:Bool):aw T .eql 4 (.bool a) (.bool b)=some (.bool (a== b)):=by cases a<;>cases b<;>rfl
def pc(v:Val)(h:Hp):af (az 4 [] v.av) (fun w=>ay (AV.agg [ae (aa w) 0,ae (aa w) 1,ae (aa w) 2,ae (aa w) 3])) h=ay v.av h:=by rw[Kn]
def dY{p:List Mod}{nm:SNm}{r:Rs Val}{c:M AV}{h:Hp}(H:je p nm Val.av r (c h)):je p nm Val.av r (af c (fun v=>af (az 4 [] v) fun w=>ay (AV.agg [ae (aa w) 0,ae (aa w) 1,ae (aa w) 2,ae (aa w) 3])) h):=by
 cases r with
 |ok v s=>
  obtain⟨h',h1,h2⟩:=H;refine⟨h',?_,h2⟩;rw[bn h1,Kn];rfl
 |er e s=>
  obtain⟨h',h1,h2⟩:=H;exact⟨h',AJ h1,h2⟩
theorem Cb{p:List Mod}{nm:SNm}{n:Nat}(IH:qe p nm n)(IR:IP p nm n)(IC:Dk p nm n)(IW:AB p nm n):qe p nm (n+1):=by
 intro own ns vs e m h R G hn hs he;have IB:=t171 IH;by_cases hf:0<m.fuel
 rotate_left
 ·have e1:bo p (n+1) own ns vs e m= .er 16 m:=by
   show kJ p (bo p n) own ns vs e m=_;unfold kJ X.get;simp only;rw[PS (by omega)];rfl
  rw[e1];exact⟨h,FC R hf _ e,R⟩
 have hspec:bo p (n+1) own ns vs e m=(if bg e.op= -2\/(bg e.op≠-1/\bg e.op≠e.args.length)then .er 13
   else if e.op=0 then .ok (kB e.n)
   else if e.op=1 then(if e.n=0\/e.n=1 then .ok (cZ (e.n== 1))else .er 13)
   else if e.op=2 then(match i7 ns vs e.s with|some v=>.ok v|none=>.er 12)
   else if e.op=3\/e.op=4\/e.op=5\/e.op=6\/e.op=7 then(bo p n own ns vs e.args[0]!).bind fun a=>(bo p n own ns vs e.args[1]!).bind fun b=>km e.op a b
   else if e.op=8\/e.op=9 then(boolX (bo p n own ns vs e.args[0]!)).bind fun x=>if x=(e.op== 9)then .ok (cZ (e.op== 9))else(boolX (bo p n own ns vs e.args[1]!)).bind fun y=>.ok (cZ y)
   else if e.op=10 then(boolX (bo p n own ns vs e.args[0]!)).bind fun x=>.ok (cZ !x)
   else if e.op=11 then(boolX (bo p n own ns vs e.args[0]!)).bind fun x=>if x=true then bo p n own ns vs e.args[1]! else bo p n own ns vs e.args[2]!
   else if e.op=12 then(bo p n own ns vs e.args[0]!).bind fun v=>bo p n own (ns++[e.s]) (vs++[v]) e.args[1]!
   else if e.op=13 then iC (bo p n own ns vs) e
   else if e.op=14 then(bo p n own ns vs e.args[0]!).bind fun v=>(match dh v.names v.values e.s with|some x=>if v.kind=2 then .ok x else .er 13|none=>.er 13)
   else if e.op=15 then mL p (bo p n) own ns vs e
   else sM p (bo p n own ns vs) own e:X Val) (d9 m):=by
  show kJ p (bo p n) own ns vs e m=_;unfold kJ X.get;simp only;rw[if_neg (by omega)];have hw:(if e.op=16 then sQ (bo p n own ns vs e.args[0]!) e else s7 p (bo p n own ns vs) own e)=sM p (bo p n own ns vs) own e:=rfl;rw[hw];rfl
 have hbm:=G.bud;have G1:GoodM p (d9 m):=⟨G.right,by simp only[mu,d9]at hbm |-;omega,G.fr,by simp only[d9];omega,G.shape⟩;have hmu:mu (d9 m)<1000000:=by simp only[mu,d9]at hbm |-;omega
 have hn1:(d9 m).fuel<=n:=by simp only[d9];omega
 have hft:(d9 m).fuel<=m.fuel:=by simp only[d9];omega
 have hs1:Sc p own ns vs (d9 m):=hs.less hft;by_cases hc:pe e
 rotate_left
 ·obtain⟨h1,R1,e1⟩:=KT R G hf (aM own ns vs) e hc;have hc':bg e.op= -2\/(bg e.op≠-1/\bg e.op≠e.args.length):=by
   unfold pe at hc;by_cases k:bg e.op= -2
   ·exact .inl k
   ·right;exact⟨fun k2=>hc ⟨k,.inl k2⟩,fun k2=>hc ⟨k,.inr k2⟩⟩
  rw[hspec,PS hc'];exact⟨h1,e1,R1⟩
 obtain⟨h1,R1,hl,hst⟩:=step0 R;have hw:IntKind.i64.wrap (m.fuel-1)=m.fuel-1:=bd (by omega) (by simp only[mu]at hbm;omega);have hc':¬(bg e.op= -2\/(bg e.op≠-1/\bg e.op≠e.args.length)):=by
  unfold pe at hc;rintro (k|⟨k1,k2⟩)
  ·exact hc.1 k
  ·rcases hc.2 with k|k
   ·exact k1 k
   ·exact k2 k
 rw[hspec,if_neg hc'];have hcc:=hc;have hce:=hc.2;obtain⟨op,en,es,em,en2,ea⟩:=e;simp only[l6,qk,Ad,iw]at hce |-;unfold pe at hc;simp only[l6,iw]at hc;generalize hcode:aj pg 134 [.hp 0 0,aM own ns vs,(Exp.mk op en es em en2 ea).av] h=code;rw[C134]at hcode;have hW:∀v:Val,∀h,af (az 4 [] v.av) (fun w=>ay (AV.agg [ae (aa w) 0,ae (aa w) 1,ae (aa w) 2,ae (aa w) 3])) h=ay v.av h:=pc;by_cases k0:op=0
 ·subst k0;have hlen:ea.length=0:=by simp[bg]at hce;omega
  obtain rfl:=P6 hlen;simp[S134,hl,hst,hf,bJ,cU,hw,t167,bg,K134_2,K134_1,K134_0,cd,t168]at hcode;simp;rw[<- hcode];exact eF (a:=kB en) R1
 by_cases k1:op=1
 ·subst k1;have hlen:ea.length=0:=by simp[bg]at hce;omega
  obtain rfl:=P6 hlen;simp[S134,hl,hst,hf,bJ,cU,hw,t167,bg,K134_2,K134_1,K134_0,cd,t169]at hcode;simp;rw[<- hcode];exact Bo (fun _=>eF (a:=cZ (en== 1)) R1) (fun _=>fH R1)
 by_cases k2:op=2
 ·subst k2;have hlen:ea.length=0:=by simp[bg]at hce;omega
  obtain rfl:=P6 hlen;have hnl:=hs.right.1;have hns:(ns.length:Int)<=549755813888:=by have:=hs.len;omega
  have hloop:=xH (K134_0 (aj pg) ao) own ns vs (.mk 2 en es em en2 []) (.int .i64 0) (.int .i64 0) (.sl []) (.sl []) hnl (by omega) ns.length (P5 _);have hwl:IntKind.i64.wrap ((ns.length:Int)-1)=(ns.length:Int)-1:=bd (by omega) (by omega);rw[Rt,hnl,Rt]at hloop;simp only[aX,l6,qk,Ad,Cu,eS,iw]at hloop;simp[S134,hl,hst,hf,bJ,cU,hw,t167,bg,hwl]at hcode;rw[hnl,hloop]at hcode;simp;rw[<- hcode];cases i7 ns vs es with
  |none=>exact fH R1
  |some v=>exact eF R1
 by_cases k3:op=3
 ·subst k3;have hlen:ea.length=2:=by simp[bg]at hce;omega
  obtain⟨a,b,rfl⟩:=xA hlen;have ha:bh a:=bz he (by simp);have hb:bh b:=bz he (by simp);simp[S134,hl,hst,hf,bJ,cU,hw,t167,bg,K134_2,K134_1,K134_0,cd]at hcode;simp;rw[<- hcode];refine cG (IH own ns vs a _ _ R1 G1 hn1 hs1 ha) fun x s1 h2 hx R2=>?_;obtain⟨G2,_,f2⟩:=G1.eval hs1.right hx;refine cG (IH own ns vs b _ _ R2 G2 (by omega) (hs1.less f2) hb) fun y s2 h3 hy R3=>?_;rw[t170 3 x y (by simp)];exact dY (c:=ga (km 3 x y)) (kF (ko _ _ _) R3)
 by_cases k4:op=4
 ·subst k4;have hlen:ea.length=2:=by simp[bg]at hce;omega
  obtain⟨a,b,rfl⟩:=xA hlen;have ha:bh a:=bz he (by simp);have hb:bh b:=bz he (by simp);simp[S134,hl,hst,hf,bJ,cU,hw,t167,bg,K134_2,K134_1,K134_0,cd]at hcode;simp;rw[<- hcode];refine cG (IH own ns vs a _ _ R1 G1 hn1 hs1 ha) fun x s1 h2 hx R2=>?_;obtain⟨G2,_,f2⟩:=G1.eval hs1.right hx;refine cG (IH own ns vs b _ _ R2 G2 (by omega) (hs1.less f2) hb) fun y s2 h3 hy R3=>?_;rw[t170 4 x y (by simp)];exact dY (c:=ga (km 4 x y)) (kF (ko _ _ _) R3)
 by_cases k5:op=5
 ·subst k5;have hlen:ea.length=2:=by simp[bg]at hce;omega
  obtain⟨a,b,rfl⟩:=xA hlen;have ha:bh a:=bz he (by simp);have hb:bh b:=bz he (by simp);simp[S134,hl,hst,hf,bJ,cU,hw,t167,bg,K134_2,K134_1,K134_0,cd]at hcode;simp;rw[<- hcode];refine cG (IH own ns vs a _ _ R1 G1 hn1 hs1 ha) fun x s1 h2 hx R2=>?_;obtain⟨G2,_,f2⟩:=G1.eval hs1.right hx;refine cG (IH own ns vs b _ _ R2 G2 (by omega) (hs1.less f2) hb) fun y s2 h3 hy R3=>?_;rw[t170 5 x y (by simp)];exact dY (c:=ga (km 5 x y)) (kF (ko _ _ _) R3)
 by_cases k6:op=6
 ·subst k6;have hlen:ea.length=2:=by simp[bg]at hce;omega
  obtain⟨a,b,rfl⟩:=xA hlen;have ha:bh a:=bz he (by simp);have hb:bh b:=bz he (by simp);simp[S134,hl,hst,hf,bJ,cU,hw,t167,bg,K134_2,K134_1,K134_0,cd]at hcode;simp;rw[<- hcode];refine cG (IH own ns vs a _ _ R1 G1 hn1 hs1 ha) fun x s1 h2 hx R2=>?_;obtain⟨G2,_,f2⟩:=G1.eval hs1.right hx;refine cG (IH own ns vs b _ _ R2 G2 (by omega) (hs1.less f2) hb) fun y s2 h3 hy R3=>?_;rw[t170 6 x y (by simp)];exact dY (c:=ga (km 6 x y)) (kF (ko _ _ _) R3)
 by_cases k7:op=7
 ·subst k7;have hlen:ea.length=2:=by simp[bg]at hce;omega
  obtain⟨a,b,rfl⟩:=xA hlen;have ha:bh a:=bz he (by simp);have hb:bh b:=bz he (by simp);simp[S134,hl,hst,hf,bJ,cU,hw,t167,bg,K134_2,K134_1,K134_0,cd]at hcode;simp;rw[<- hcode];refine cG (IH own ns vs a _ _ R1 G1 hn1 hs1 ha) fun x s1 h2 hx R2=>?_;obtain⟨G2,_,f2⟩:=G1.eval hs1.right hx;refine cG (IH own ns vs b _ _ R2 G2 (by omega) (hs1.less f2) hb) fun y s2 h3 hy R3=>?_;rw[t170 7 x y (by simp)];exact dY (c:=ga (km 7 x y)) (kF (ko _ _ _) R3)
 by_cases k8:op=8
 ·subst k8;have hlen:ea.length=2:=by simp[bg]at hce;omega
  obtain⟨a,b,rfl⟩:=xA hlen;have ha:bh a:=bz he (by simp);have hb:bh b:=bz he (by simp);simp[S134,hl,hst,hf,bJ,cU,hw,t167,bg,K134_2,K134_1,K134_0,cd]at hcode;simp;rw[<- hcode];refine cG (IB own ns vs a _ _ R1 G1 hn1 hs1 ha) fun x s1 h2 hx R2=>?_;obtain⟨G2,f2⟩:=G1.bool hs1.right hx;rw[uP];simp only[ak,am];cases x
  ·simp[t169];exact eF R2
  ·simp[t169];refine cG (IB own ns vs b _ _ R2 G2 (by omega) (hs1.less f2) hb) fun y s2 h3 hy R3=>?_;simp only[t169,bA,ap,hW];exact eF R3
 by_cases k9:op=9
 ·subst k9;have hlen:ea.length=2:=by simp[bg]at hce;omega
  obtain⟨a,b,rfl⟩:=xA hlen;have ha:bh a:=bz he (by simp);have hb:bh b:=bz he (by simp);simp[S134,hl,hst,hf,bJ,cU,hw,t167,bg,K134_2,K134_1,K134_0,cd]at hcode;simp;rw[<- hcode];refine cG (IB own ns vs a _ _ R1 G1 hn1 hs1 ha) fun x s1 h2 hx R2=>?_;obtain⟨G2,f2⟩:=G1.bool hs1.right hx;rw[uP];simp only[ak,am];cases x
  ·simp[t169];refine cG (IB own ns vs b _ _ R2 G2 (by omega) (hs1.less f2) hb) fun y s2 h3 hy R3=>?_;simp only[t169,bA,ap,hW];exact eF R3
  ·simp[t169];exact eF R2
 by_cases k10:op=10
 ·subst k10;have hlen:ea.length=1:=by simp[bg]at hce;omega
  obtain⟨a,rfl⟩:=F9 hlen;have ha:bh a:=bz he (by simp);simp[S134,hl,hst,hf,bJ,cU,hw,t167,bg,K134_2,K134_1,K134_0,cd]at hcode;simp;rw[<- hcode];refine cG (IB own ns vs a _ _ R1 G1 hn1 hs1 ha) fun x s1 h2 hx R2=>?_;simp only[bq,ak,t169,bA,ap,hW];exact eF R2
 by_cases k11:op=11
 ·subst k11;have hlen:ea.length=3:=by simp[bg]at hce;omega
  obtain⟨a,b,c,rfl⟩:=Oj hlen;have ha:bh a:=bz he (by simp);have hb:bh b:=bz he (by simp);have hc3:bh c:=bz he (by simp);simp[S134,hl,hst,hf,bJ,cU,hw,t167,bg,K134_2,K134_1,K134_0,cd]at hcode;simp;rw[<- hcode];refine cG (IB own ns vs a _ _ R1 G1 hn1 hs1 ha) fun x s1 h2 hx R2=>?_;obtain⟨G2,f2⟩:=G1.bool hs1.right hx;simp only[am];exact Bo (fun _=>dY (IH own ns vs b _ _ R2 G2 (by omega) (hs1.less f2) hb)) (fun _=>dY (IH own ns vs c _ _ R2 G2 (by omega) (hs1.less f2) hc3))
 by_cases k12:op=12
 ·subst k12;have hlen:ea.length=2:=by simp[bg]at hce;omega
  obtain⟨a,b,rfl⟩:=xA hlen;have ha:bh a:=bz he (by simp);have hb:bh b:=bz he (by simp);simp[S134,hl,hst,hf,bJ,cU,hw,t167,bg,K134_2,K134_1,K134_0,cd]at hcode;simp;rw[<- hcode];refine cG (IH own ns vs a _ _ R1 G1 hn1 hs1 ha) fun x s1 h2 hx R2=>?_;obtain⟨G2,rx,f2⟩:=G1.eval hs1.right hx;have hsl:=hs1.len;have hrl:=hs1.right.1;have hfu:=G1.fuel;rw[t172 own ns vs es x (by omega) (by omega)];simp only[bA,ap];refine dY (IH own (ns++[es]) (vs++[x]) b _ _ R2 G2 (by omega) ⟨hs1.own,⟨by simp[hrl],fun w hw=>?_⟩,?_⟩ hb)
  ·rcases Qp.1 hw with k|k
   ·exact hs1.right.2 w k
   ·simp only[Qt]at k;subst k;exact rx
  ·have:(d9 m).fuel=m.fuel-1:=rfl
   have:=hs.len
   simp only[P0,Qs];omega
 by_cases k13:op=13
 ·subst k13;simp[S134,hl,hst,hf,bJ,cU,hw,t167,bg,K134_2,K134_1,K134_0,cd,kw]at hcode;simp;rw[<- hcode];exact dY (IR own ns vs _ _ _ R1 G1 hn1 hs1 he)
 by_cases k14:op=14
 ·subst k14;have hlen:ea.length=1:=by simp[bg]at hce;omega
  obtain⟨a,rfl⟩:=F9 hlen;have ha:bh a:=bz he (by simp);simp[S134,hl,hst,hf,bJ,cU,hw,t167,bg,K134_2,K134_1,K134_0,cd]at hcode;simp;rw[<- hcode];refine cG (IH own ns vs a _ _ R1 G1 hn1 hs1 ha) fun x s1 h2 hx R2=>?_;obtain⟨G2,rx,f2⟩:=G1.eval hs1.right hx;have hrl:=su rx;have h8:=sr rx;have hi:=t98 x.names es (by omega);rw[bu (cL x)];simp only[ap,bl,cw,Qf,Qe,LD22,LD30,LD3,ak,hi,dJ,ix,bI,ax,ek,bJ,cU];rcases ri x.names x.values es 0 hrl with⟨j1,j2⟩|⟨k,hk,j1,j2⟩
  ·rw[j1,j2];simp only[show decide ((0:Int)<=-1)=false by decide,RI,PM,PP];exact fH R2
  ·rw[j1,j2];have hk0:decide ((0:Int)<=0+(k:Int))=true:=by simp
   rw[hk0];simp only[Rx];by_cases hk2:x.kind=2
   ·have hix:=hM (l:=x.values) (n:=0+(k:Int)) (by omega) (by omega);have e5:(0+(k:Int)).toNat=k:=by omega
    rw[e5,PY x.values k hk]at hix;have hld:ai T 45 (.ip (aa (x.values[k]).av))=some (x.values[k]).av:=by simp
    simp only[hk2,QL,PQ,hix,ak,hld,hW];exact eF R2
   ·have hk2':(x.kind== 2)=false:=by simpa using hk2
    simp only[hk2,hk2',PM,PP];exact fH R2
 by_cases k15:op=15
 ·subst k15;simp[S134,hl,hst,hf,bJ,cU,hw,t167,bg,K134_2,K134_1,K134_0,cd,kw]at hcode;simp;rw[<- hcode];exact dY (IC own ns vs _ _ _ R1 G1 hmu hn1 hs1 he)
 by_cases k16:op=16
 ·subst k16;simp[S134,hl,hst,hf,bJ,cU,hw,t167,bg,K134_2,K134_1,K134_0,cd,kw]at hcode;have hce':bg 16=ea.length:=by simp only[bg]at hce |-;simpa using hce
  simp only[bg]at hce';simp at hce';simp[<- hce']at hcode;simp;rw[<- hcode];exact dY (IW own ns vs (.mk 16 en es em en2 ea) _ _ (by simp) hcc R1 G1 hmu hn1 hs1 he)
 by_cases k17:op=17
 ·subst k17;simp[S134,hl,hst,hf,bJ,cU,hw,t167,bg,K134_2,K134_1,K134_0,cd,kw]at hcode;have hce':bg 17=ea.length:=by simp only[bg]at hce |-;simpa using hce
  simp only[bg]at hce';simp at hce';simp[<- hce']at hcode;simp;rw[<- hcode];exact dY (IW own ns vs (.mk 17 en es em en2 ea) _ _ (by simp) hcc R1 G1 hmu hn1 hs1 he)
 by_cases k18:op=18
 ·subst k18;simp[S134,hl,hst,hf,bJ,cU,hw,t167,bg,K134_2,K134_1,K134_0,cd,kw]at hcode;have hce':bg 18=ea.length:=by simp only[bg]at hce |-;simpa using hce
  simp only[bg]at hce';simp at hce';simp[<- hce']at hcode;simp;rw[<- hcode];exact dY (IW own ns vs (.mk 18 en es em en2 ea) _ _ (by simp) hcc R1 G1 hmu hn1 hs1 he)
 exfalso;apply hc.1;simp[bg,k0,k1,k2,k3,k4,k5,k6,k7,k8,k9,k10,k11,k12,k13,k14,k15,k16,k17,k18]
end Go.Proofs.YtihmmkncokjbaaaGreatDoor
namespace Go.Proofs.YtihmmkncokjbaaaGreatDoor
open Go Go.Av Go.Av.Ap
set_option maxRecDepth 100000
def fJ{α β γ:Type}(x:X α)(f:α->X β)(g:β->X γ):(x.bind f).bind g=x.bind fun a=>(f a).bind g:=by
 funext m;unfold X.bind;cases x m<;>rfl
theorem iR{α β:Type}(a:α)(f:α->X β):(X.ok a).bind f=f a:=rfl
def t219(l:List aR)(h:l.length<=8796093022208):aj pg 219 [strs l]=ay (strs l):=by
 have e:aj pg 219 [strs l]=kR T 22 (aj pg) [strs l]:=dB aH rfl _;rw[e];show ah (cf T 22 (.sl []) (strs l))=_
 have:=oC (a:=[]) (b:=l) (by simp;omega)
 simp only[Qv]at this;show ah (cf T 22 (strs []) (strs l))=_;rw[this];rfl
theorem xG{p:List Mod}{nm:SNm}{n:Nat}(IH:qe p nm n)(own:Int)(ns:List aR)(vs:List Val)(en:List aR)(es:List Exp)(x5 x6 x7 x8:AV)(hes:∀e∈es,bh e)(h8:es.length<=8):
  ∀(B A:List Exp)(acc:List Val)(m:Ms)(h:Hp),A++B=es->acc.length=A.length->(∀v∈acc,Rv v)->en.length<=8->gq p nm m h->GoodM p m->m.fuel<=n->Sc p own ns vs m->
  je p nm Val.av ((listX (bo p n own ns vs) B).bind (fun ws=>if dj (.mk 2 0 en (acc++ws))<=4 then .ok (.mk 2 0 en (acc++ws))else .er 6) m)
   (ao (L173_0 (aj pg) ao) [.hp 0 0,.ip (aa (aM own ns vs)),bE es,.int .i64 es.length,.int .i64 A.length,x5,x6,x7,x8,.int .i64 2,.int .i64 0,strs en,vals acc] h)
 | [],A,acc,m,h,e,ha,hr,hen,R,G,hn,hs=>by
  simp only[Qq]at e;subst e;have hsz:(Val.mk 2 0 en acc).sz<=1099511627776:=by
   have h2:br acc<=acc.length*200000:=by
    have key:∀l:List Val,(∀v∈l,Rv v)->br l<=l.length*200000:=by
     intro l
     induction l with
     |nil=>intro _;simp[br]
     |cons v l ih=>
      intro h;have h1:=mc (h v QS);have h2:=ih fun w hw=>h w (QN _ hw);simp only[br,P4];omega
    exact key acc hr
   simp only[Val.sz];have:acc.length*200000<=8*200000:=Qi _ (by omega);omega
  have hlv:=t220 _ (.mk 2 0 en acc) (P5 _) hsz;rw[Val.av_eq]at hlv;simp only[Pq,Pu,Pp,Po]at hlv;have hw:∀h,af (az 4 [] (AV.agg [.int .i64 2,.int .i64 0,strs en,vals acc])) (fun w=>ay (AV.agg [ae (aa w) 0,ae (aa w) 1,ae (aa w) 2,ae (aa w) 3])) h=ay (Val.mk 2 0 en acc).av h:=fun h=>by
   have:=pc (Val.mk 2 0 en acc) h
   rw[Val.av_eq]at this |-;exact this
  rw[FL173_0];simp only[listX,iR,Qq];simp only[L173_0,ax,aE,bC,ak,am,Q0,QR,PM,PP,hlv,ap,ml,bJ,cU,hw];by_cases h4:dj (.mk 2 0 en acc)<=4
  ·have h4':decide (((dj (.mk 2 0 en acc):Nat):Int)<=4)=true:=by simp;omega
   simp only[h4,h4',PQ,hw];exact eF R
  ·have h4':decide (((dj (.mk 2 0 en acc):Nat):Int)<=4)=false:=by simp;omega
   simp only[h4,h4',PM,PP];exact fH R
 | x:: B,A,acc,m,h,e,ha,hr,hen,R,G,hn,hs=>by
  have hll:A.length+(B.length+1)=es.length:=by rw[<- e];simp
  have h1:(A.length:Int)<(es.length:Int):=by omega
  have hx:es[A.length]'(by omega)=x:=by subst e;simp
  have hm:x∈es:=by rw[<- e];simp
  have hi:=kL (l:=es) (n:=(A.length:Int)) (by omega) h1;rw[show ((A.length:Int)).toNat=A.length by omega,PY es A.length (by omega),hx]at hi;have hsc:ai T 168 (.ip (aa (aM own ns vs)))=some (aM own ns vs):=rfl;have hex:ai T 66 (.ip (aa x.av))=some x.av:=by simp
  rw[FL173_0];simp only[listX,fJ,iR];simp only[L173_0,ax,aE,bC,ak,am,h1,QA,PQ,hi,hex,bu (kC x),ap,hsc,bl];refine cG (IH own ns vs x m h R G hn hs (hes x hm)) fun v s h' hv Rs=>?_;obtain⟨G2,rv,f2⟩:=G.eval hs.right hv;have hb2:aG T 30 1 [(0,v.av)]=some (vals [v]):=by rw[v.av_eq];simp[vals,dP,v.av_eq];rfl
  have ha2:cf T 30 (vals acc) (vals [v])=some (vals (acc++[v])):=kj (by simp;omega);have hc1:cp (vals (acc++[v]))=ay (vals (acc++[v])):=rfl;have hw:IntKind.i64.wrap ((A.length:Int)+1)=((A.length+1:Nat):Int):=cr (by omega);simp only[hb2,ak,ha2,hc1,ap,cy,hw];have ih:=xG IH own ns vs en es x5 x6 x7 x8 hes h8 B (A++[x]) (acc++[v]) s h' (by rw[<- e];simp) (by simp[ha]) (fun w hw=>by
   rcases Qp.1 hw with k|k
   ·exact hr w k
   ·simp only[Qt]at k;subst k;exact rv) hen Rs G2 (by omega) (hs.less f2)
  simp only[QP,Rb,P0,Qs]at ih;exact ih
theorem t173{p:List Mod}{nm:SNm}{n:Nat}(IH:qe p nm n):IP p nm n:=by
 intro own ns vs e m h R G hn hs he;obtain⟨l1,l2⟩:=fO he;unfold iC;have ha:=t135 e.names (by omega);have hcl:=t219 e.names (by omega);have hB:aT T true 45 [(0,.int .i64 2),(2,strs e.names)]=some (.agg [.int .i64 2,.int .i64 0,strs e.names,.hn]):=rfl;have hC:az 4 [3] (.agg [.int .i64 2,.int .i64 0,strs e.names,.hn])=ay (.agg [.int .i64 2,.int .i64 0,strs e.names,.hn]):=rfl;rw[C173];simp only[S173,aX,FA66_4,FA66_5,Qf,Qe,LD22,LD24,dA,eP,ak,dJ,ha,ap,bI,ax,aE,ek,bJ,cU,ml,hcl,hB,hC,bl];have hsc:(AV.ip (aa (aM own ns vs)))= .ip [.int .i64 own,strs ns,vals vs]:=rfl;by_cases hl:e.names.length=e.args.length
 ·by_cases hasc:oH e.names=true
  ·have e1:((e.names.length:Int)== (e.args.length:Int)&&oH e.names)=true:=by simp[hl,hasc]
   simp only[hl,hasc,e1,Sj,PQ];by_cases h8:e.args.length<=8
   ·have h8':decide ((e.args.length:Int)<=8)=true:=by simp;omega
    have e2:((e.args.length:Int)== (e.args.length:Int)&&true)=true:=by simp
    simp only[h8,h8',e2,PQ]
    have:=xG IH own ns vs e.names e.args (.int .i64 0) (.int .i64 0) (.sl []) (.sl []) (fun x hx=>bz he hx) h8 e.args [] [] m h rfl rfl (fun v hv=>by cases hv) (by omega) R G hn hs
    simp only[Qv]at this;exact this
   ·have h8':decide ((e.args.length:Int)<=8)=false:=by simp;omega
    have e2:((e.args.length:Int)== (e.args.length:Int)&&true)=true:=by simp
    simp only[h8,h8',e2,PQ,PM,PP];exact fH R
  ·have e1:((e.names.length:Int)== (e.args.length:Int)&&false)=false:=by simp
   have hasc':oH e.names=false:=by simpa using hasc
   simp only[e1,hasc',and_false,PM,PP];exact fH R
 ·have e1:((e.names.length:Int)== (e.args.length:Int)&&oH e.names)=false:=by
   have:((e.names.length:Int)== (e.args.length:Int))=false:=by
    rw[Qj];omega
   rw[this];rfl
  simp only[e1,hl,false_and,PM,PP];exact fH R
def zQ(s t:aR)(v:AV)(h:bM v=true):cz 3 (.agg [.str s,.str t,v])=true:=by
 simp only[cz,dk,aa,QH,List.all_nil];rw[h];rfl
def yY{p:List Mod}{nm:SNm}{tag:Nat->Nat}{dv cv sv:AV}{m:Ms}{h:Hp}(R:RepT (rowP p nm.told) nm tag dv cv sv m h)(l:List Val)(hb:l.length<=274877906944):
  ∃av h1 tag1,aj pg 249 [vals l] h= .ok av h1/\RepT (rowP p nm.told) nm tag1 dv cv sv m h1/\uA tag1 4 h1 l av/\bM av=true:=by
 have e0:aj pg 249 [vals l]=gP T 30 (aj pg) [vals l]:=dB aH rfl _;have e1:=wE (T:=T) (t:=30) rfl rfl rfl rfl rfl (by decide) (aj pg) l (show l.length*64<=140737488355328 by omega) h;rw[e0];by_cases hl:l=[]
 ·rw[PS hl]at e1;exact⟨_,h,tag,e1,R,.inl (by rw[hl]),rfl⟩
 ·rw[if_neg hl]at e1;refine⟨_,_,_,e1,(R.more (bR l) 4).1,.inr ⟨h.length,rfl,by simp,by simp⟩,rfl⟩
def CN{p:List Mod}{nm:SNm}{tag:Nat->Nat}{dv cv sv:AV}{m:Ms}{h:Hp}(R:RepT (rowP p nm.told) nm tag dv cv sv m h)(c:Ap.Call)(av:AV)(ha:uA tag 4 h c.args av)(hok:bM av=true)(hb:m.calls.length<=2000000):
  ∃cv' h1 h2,appH T 160 false cv (.sl [.agg [.str c.module,.str c.func,av]]) h= .ok cv' h1/\cq T 160 (.hp 0 10) cv' h1= .ok (.tup []) h2/\gq p nm { m with calls:=m.calls++[c] } h2:=by
 obtain⟨h1,cv',tag',e1,K,H,hc⟩:=og (T:=T) (t:=160) rfl rfl rfl rfl (by decide) rfl (by decide) (x:=.agg [.str c.module,.str c.func,av]) R.cs (fun h0=>by
  have:m.calls=[]:=P6 h0;rw[this];rfl) (fun cs h=>h.ok.1) (zQ _ _ _ hok) (show (m.calls.length+1)*56<=140737488355328 by omega)
 have h0:=(K 0 _ R.r0 (by rw[R.t0];decide)).1;refine⟨cv',h1,_,e1,dT rfl h0 (fe hc).1 (show 10+1<=12 by decide) (by decide),?_⟩;have hac:aa cv'=[cv']:=(fe hc).2.1
 have:=R.pushCall (m':={ m with calls:=m.calls++[c] }) K ha H rfl rfl rfl id
 refine⟨tag',dv,cv',sv,?_⟩;rw[hac];exact this
def sB{p:List Mod}{nm:SNm}{m:Ms}{h:Hp}(R:gq p nm m h)(x:Int):∃h1,gq p nm { m with frames:=x } h1/\(∀f:AV->M AV,af (bi T 3 (.hp 0 3)) f h=f (.int .i64 m.frames) h)/\
  (∀f:AV->M AV,af (cq T 3 (.hp 0 3) (.int .i64 x)) f h=f (.tup []) h1):=by
 obtain⟨tag,dv,cv,sv,R⟩:=R;exact⟨_,⟨tag,dv,cv,sv,R.set0 rfl rfl rfl id⟩,fun f=>bn (ca rfl rfl R.r0 rfl),fun f=>bn (dT rfl R.r0 rfl (show 3+1<=12 by decide) (by decide))⟩
theorem tZ(f:Fun)(a:Int)(ps:List cE)(l:List Val)(x6 x7 x8 x9:AV)(hb:ps.length<=274877906944)(hl:l.length=ps.length):∀(B A:List cE)(lb la:List Val),A++B=ps->la++lb=l->la.length=A.length->
  ao (L223_0 (aj pg) ao) [.hp 0 0,vals l,.ip (aa f.av),bm ps,.int .i64 ps.length,.int .i64 A.length,x6,x7,x8,x9,.int .i64 a,strs (A.map (·.1)),vals la]=
  ao (L223_0 (aj pg) ao) [.hp 0 0,vals l,.ip (aa f.av),bm ps,.int .i64 ps.length,.int .i64 ps.length,x6,x7,x8,x9,.int .i64 a,strs (ps.map (·.1)),vals l]
 | [],A,lb,la,e,e2,hla=>by
  simp only[Qq]at e;subst e;have hz:lb=[]:=by
   apply P6;have:(la++lb).length=l.length:=by rw[e2]
   rw[P0]at this;omega
  rw[hz,Qq]at e2;rw[e2]
 | x:: B,A,lb,la,e,e2,hla=>by
  have hll:A.length+(B.length+1)=ps.length:=by rw[<- e];simp
  have h1:(A.length:Int)<(ps.length:Int):=by omega
  have hx:ps[A.length]'(by omega)=x:=by subst e;simp
  obtain⟨v,lb',rfl⟩:∃v lb',lb=v:: lb':=by
   cases lb with
   |nil=>
    have:(la++([]:List Val)).length=l.length:=by rw[e2]
    simp at this;omega
   |cons v lb'=>exact⟨v,lb',rfl⟩
  have hv:l[A.length]'(by omega)=v:=by
   subst e2;rw[List.getElem_append_right (by omega)];simp[hla]
  have hi:=gp (l:=ps) (n:=(A.length:Int)) (by omega) h1;rw[show ((A.length:Int)).toNat=A.length by omega,PY ps A.length (by omega),hx]at hi;have hj:=hM (l:=l) (n:=(A.length:Int)) (by omega) (by omega);rw[show ((A.length:Int)).toNat=A.length by omega,PY l A.length (by omega),hv]at hj;have hfl:ai T 37 (.ip [.str x.1,.int .i64 x.2.kind,bm x.2.fields])=some (bZ x):=by simp
  have hvl:ai T 45 (.ip (aa v.av))=some v.av:=by simp
  have hw:IntKind.i64.wrap ((A.length:Int)+1)=((A.length+1:Nat):Int):=cr (by omega);have hbd:=t172 a (A.map (·.1)) la x.1 v (by simp;omega) (by omega);have ih:=tZ f a ps l x6 x7 x8 x9 hb hl B (A++[x]) lb' (la++[v]) (by rw[<- e];simp) (by rw[<- e2];simp) (by simp[hla]);simp only[Rw,QO,SL,P0,Qs]at ih;rw[<- ih,FL223_0];simp only[L223_0,ax,aE,bC,ak,am,h1,QA,PQ,hi,hfl,bu (nY x),ap,bl,jv,FA37_0,Qe,LD9,hj,hvl,cd,hbd,bA,cT (nk _ _ _),bH,cy,hw]
def Aw(p:List Mod)(nm:SNm)(n:Nat):Prop:=∀(a:Int) (f:Fun) (l:List Val) m h,0<=a->a<p.length->f∈(p[a.toNat]?.getD default).funcs->l.length=f.params.length->(∀v∈l,Rv v)->gq p nm m h->GoodM p m->mu m<1000000->m.fuel<=n->
 je p nm Val.av (fX p (bo p n) a f l m) (aj pg 223 [.hp 0 0,.int .i64 a,f.av,vals l] h)
def qU(s t:aR)(v:AV)(h:bM v=true):aT T false 260 [(0,.str s),(1,.str t),(2,v)]=some (.agg [.str s,.str t,v]):=by
 have hc:=fe h;show (pD _ _ [(0,.str s),(1,.str t),(2,v)]).map AV.agg=_;simp only[pD];have h2:=hc.2.2;have h3:=hc.2.1;cases v with
 |any=>cases h
 |agg _=>cases h
 |tup _=>cases h
 |_=>rfl
theorem pq(x:AV)(hx:dk x=some 3):aG T 160 1 [(0,x)]=some (.sl [x]):=by
 have h1:aG T 160 1 [(0,x)]=(kU 3 (List.replicate 1 (.agg [.str [],.str [],.sl []])) [(0,x)]).map .sl:=rfl;rw[h1];simp only[kU,hx,List.length_replicate];rfl
theorem ze{p:List Mod}{nm:SNm}{n:Nat}(LB:LimB p)(IH:qe p nm n)(a:Int)(f:Fun)(l:List Val)(m:Ms)(h0:0<=a)(ha:a<p.length)(hf:f∈(p[a.toNat]?.getD default).funcs)(hl:l.length=f.params.length)(hr:∀v∈l,Rv v)(G:GoodM p m)(hmu:mu m<1000000)(hn:m.fuel<=n):
  ∀ (m1:Ms) (h1:Hp),gq p nm m1 h1->m1= { m with calls:=if f.pub=true then m.calls++[⟨(p[a.toNat]?.getD default).name,f.name,l⟩]else m.calls } ->m.frames<60->
   je p nm Val.av (((bo p n a (f.params.map (·.1)) l f.body).bind fun v=>.upd (fun m=>{ m with frames:=m.frames-1 }) (.ok v)) (jh p a f l m))
    (K223_0 (aj pg) ao [.hp 0 0,.int .i64 a,vals l,.ip (aa f.av),.int .i64 0,.int .i64 0,.sl [],.sl []] h1):=by
 have hlt:a.toNat<p.length:=by omega
 have hmp:p[a.toNat]?.getD default∈p:=by rw[P1 hlt];exact P2 hlt
 obtain⟨hbody,hparams⟩:=LB.body _ hmp f hf;have hfb:=G.bud;have hfu:=G.fuel;have hfr:=G.fr;intro m1 h1 R1 e1 h60;have hB:aT T false 168 [(0,.int .i64 a)]=some (aM a [] []):=rfl;have hcell:=cT (nk a [] []);have hloop:=tZ f a f.params l (.int .i64 0) (.int .i64 0) (.sl []) (.sl []) hparams hl f.params [] l [] rfl rfl rfl;have hw1:IntKind.i64.wrap (m.frames+1)=m.frames+1:=bd (by omega) (by omega);obtain⟨h2,R2,l2,s2⟩:=sB R1 (m.frames+1);have e2:{ m1 with frames:=m.frames+1 } = jh p a f l m:=by rw[e1];rfl
 have hm1f:m1.frames=m.frames:=by rw[e1]
 rw[e2]at R2;rw[hm1f]at l2;have hld:ai T 23 (.ip (bm f.params:: [.int .i64 f.result.kind,bm f.result.fields,.int .i64 f.effects,.int .i64 f.body.op,.int .i64 f.body.n,.str f.body.s,.str f.body.m,strs f.body.names,bE f.body.args]))=some (bm f.params):=rfl;have hex:ai T 66 (.ip [.int .i64 f.body.op,.int .i64 f.body.n,.str f.body.s,.str f.body.m,strs f.body.names,bE f.body.args])=some f.body.av:=by
  have:ai T 66 (.ip (aa f.body.av))=some f.body.av:=by simp
  rwa [aX]at this
 simp only[SL,Qr]at hloop;have hz:((0:Nat):Int)=0:=rfl;rw[hz]at hloop;have hm2:(if f.pub=true then m.calls++[(⟨(p[a.toNat]?.getD default).name,f.name,l⟩:Ap.Call)]else m.calls).length<=m.calls.length+1:=by
  split
  ·simp
  ·omega
 have G2:GoodM p (jh p a f l m):=by
  refine⟨⟨G.right.1,fun c hc=>?_⟩,?_,by simp only[jh];omega,hfu,G.shape⟩
  ·simp only[jh]at hc;split at hc
   ·rcases Qp.1 hc with k|k
    ·exact G.right.2 c k
    ·simp only[Qt]at k;subst k;exact hr
   ·exact G.right.2 c hc
  ·simp only[mu,jh]at hmu |-;omega
 simp only[K223_0,ax,aE,hB,ak,hcell,ap,bl,bH,ib,FA68_2,FA68_5,Qf,Qe,hld,bU]at hloop |-;rw[show strs []=strs []from rfl]at hloop;rw[hloop,FL223_0];simp only[L223_0,ax,aE,bC,ak,am,Q0,QR,PM,PP,aZ,FH164_3,Qb,l2,cy,hw1,s2,FA68_5,Qf,Qe,hex,cd];have hns:((f.params.map (·.1)).length:Int)+(jh p a f l m).fuel<=549755813888:=by
  simp only[Rp,jh];simp only[mu]at hfb;omega
 refine cG (IH a (f.params.map (·.1)) l f.body _ _ R2 G2 hn ⟨ha,⟨by simp[hl],hr⟩,hns⟩ hbody) fun v s h3 hv R3=>?_;obtain⟨G3,_,_⟩:=G2.eval ⟨by simp[hl],hr⟩ hv;obtain⟨h4,R4,l4,s4⟩:=sB R3 (s.frames-1);have hfr3:=G3.fr;have hw2:IntKind.i64.wrap (s.frames-1)=s.frames-1:=bd (by omega) (by omega);have hvl:ai T 45 (.ip (aa v.av))=some v.av:=by simp
 simp only[bu (cL v),ap,bl,aZ,ak,FH164_3,Qb,l4,gL,hw2,s4,hvl];have e9:_=Av.R.ok v.av h4:=pc v h4;rw[e9];exact⟨h4,rfl,R4⟩
def t223{p:List Mod}{nm:SNm}{n:Nat}(LB:LimB p)(IH:qe p nm n):Aw p nm n:=by
 intro a f l m h h0 ha hf hl hr R G hmu hn;have hlt:a.toNat<p.length:=by omega
 have hmp:p[a.toNat]?.getD default∈p:=by rw[P1 hlt];exact P2 hlt
 obtain⟨hbody,hparams⟩:=LB.body _ hmp f hf;have hfb:=G.bud;have hfu:=G.fuel;have hfr:=G.fr;have tail:=ze LB IH a f l m h0 ha hf hl hr G hmu hn;simp only[ib]at tail;obtain⟨tag,dv,cv,sv,R0⟩:=R;have l3:∀g:AV->M AV,af (bi T 3 (.hp 0 3)) g h=g (.int .i64 m.frames) h:=fun g=>bn (ca rfl rfl R0.r0 rfl);have lc:∀g:AV->M AV,af (bi T 160 (.hp 0 10)) g h=g cv h:=fun g=>bn (ca rfl rfl R0.r0 rfl);have lm:∀g:AV->M AV,af (bi T 92 (.hp 0 0)) g h=g (dI p) h:=fun g=>bn (ca rfl rfl R0.r0 (by rw[<- jl (t:=nm.told) (fun e=>by subst e;simp at hlt)];rfl));generalize hcode:aj pg 223 [.hp 0 0,.int .i64 a,f.av,vals l] h=code;rw[C223]at hcode;simp -implicitDefEqProofs only[S223,aZ,ak,FH164_3,Qb,l3,bC,bJ,ci]at hcode;by_cases h60:m.frames<60
 ·rw[ku,PS h60];have hd:decide (m.frames<60)=true:=by simpa using h60
  simp only[hd,cU,PQ]at hcode;simp -implicitDefEqProofs only[ib,FA68_1,FA68_0,Qf,Qe,LD4,LD9,ak,am]at hcode;by_cases hp:f.pub=true
  ·simp only[hp,PQ]at hcode tail;have hi:=nu (l:=p) (n:=a) h0 ha;rw[PY p a.toNat hlt]at hi;have e3:p[a.toNat]?.getD default=p[a.toNat]:=by rw[P1 hlt];rfl
   obtain⟨av,h1,tag1,c1,R1,A1,ok1⟩:=yY R0 l (by omega);obtain⟨cv',h2,h3,p1,p2,R3⟩:=CN R1 ⟨p[a.toNat].name,f.name,l⟩ av A1 ok1 (by simp only[mu]at hmu;omega);have hB:aT T false 260 [(0,.str p[a.toNat].name),(1,.str f.name),(2,av)]=some (.agg [.str p[a.toNat].name,.str f.name,av]):=qU _ _ _ ok1;have hBS:=pq (.agg [.str p[a.toNat].name,.str f.name,av]) rfl;have lc1:∀g:AV->M AV,af (bi T 160 (.hp 0 10)) g h=g cv h:=lc;simp -implicitDefEqProofs only[lc,lm,hi,gw,FA29_0,FH164_0,FH164_4,FH162_3,Qe,LD9,ak,Qb,Nat.reduceAdd]at hcode;rw[bn c1]at hcode;simp only[hB,hBS,ak]at hcode;rw[bn p1]at hcode;rw[bn p2]at hcode;rw[<- hcode];exact tail _ h3 R3 (by rw[e3]) h60
  ·simp only[hp,PM,PP]at hcode tail;rw[<- hcode];exact tail m h ⟨tag,dv,cv,sv,R0⟩ rfl h60
 ·rw[ku,if_neg h60];have hd:decide (m.frames<60)=false:=by simpa using h60
  simp only[hd,cU,PM,PP]at hcode;rw[<- hcode];exact⟨h,rfl,tag,dv,cv,sv,R0⟩
theorem t7{p:List Mod}{nm:SNm}{n:Nat}(IH:qe p nm n)(IE:Aw p nm n)(own:Int)(ns:List aR)(vs:List Val)(at_:Int)(f:Fun)(es:List Exp)(x8 x9 x10 x11:AV)(ha:0<=at_)(hat:at_<p.length)(hf:f∈(p[at_.toNat]?.getD default).funcs)(hes:∀e∈es,bh e)(h8:es.length<=274877906944)(hlen:es.length=f.params.length):
  ∀(B A:List Exp)(acc:List Val)(m:Ms)(h:Hp),A++B=es->acc.length=A.length->(∀v∈acc,Rv v)->gq p nm m h->GoodM p m->mu m<1000000->m.fuel<=n->Sc p own ns vs m->
  je p nm Val.av ((listX (bo p n own ns vs) B).bind (fun ws=>fX p (bo p n) at_ f (acc++ws)) m)
   (ao (L174_0 (aj pg) ao) [.hp 0 0,.ip (aa (aM own ns vs)),.int .i64 at_,.ip (aa f.av),vals acc,bE es,.int .i64 es.length,.int .i64 A.length,x8,x9,x10,x11] h)
 |[],A,acc,m,h,e,hac,hr,R,G,hmu,hn,hs=>by
  simp only[Qq]at e;subst e;have hfl:ai T 68 (.ip (aa f.av))=some f.av:=by simp
  have IE':=IE at_ f acc m h ha hat hf (by omega) hr R G hmu hn;generalize hcode:ao (L174_0 (aj pg) ao) [.hp 0 0,.ip (aa (aM own ns vs)),.int .i64 at_,.ip (aa f.av),vals acc,bE A,.int .i64 A.length,.int .i64 A.length,x8,x9,x10,x11] h=code;rw[FL174_0]at hcode;simp -implicitDefEqProofs only[L174_0,ax,aE,bC,ak,am,Q0,QR,PM,PP,hfl]at hcode;simp only[listX,iR,Qq];rw[<- hcode];exact dY IE'
 | x:: B,A,acc,m,h,e,hac,hr,R,G,hmu,hn,hs=>by
  have hll:A.length+(B.length+1)=es.length:=by rw[<- e];simp
  have h1:(A.length:Int)<(es.length:Int):=by omega
  have hx:es[A.length]'(by omega)=x:=by subst e;simp
  have hm:x∈es:=by rw[<- e];simp
  have hi:=kL (l:=es) (n:=(A.length:Int)) (by omega) h1;rw[show ((A.length:Int)).toNat=A.length by omega,PY es A.length (by omega),hx]at hi;have hsc:ai T 168 (.ip (aa (aM own ns vs)))=some (aM own ns vs):=rfl;have hex:ai T 66 (.ip (aa x.av))=some x.av:=by simp
  have hw:IntKind.i64.wrap ((A.length:Int)+1)=((A.length+1:Nat):Int):=cr (by omega);generalize hcode:ao (L174_0 (aj pg) ao) [.hp 0 0,.ip (aa (aM own ns vs)),.int .i64 at_,.ip (aa f.av),vals acc,bE es,.int .i64 es.length,.int .i64 A.length,x8,x9,x10,x11] h=code;rw[FL174_0]at hcode;simp -implicitDefEqProofs only[L174_0,ax,aE,bC,ak,am,h1,QA,PQ,hi,hex,bu (kC x),ap,hsc]at hcode;have hex':ai T 66 (.ip (aa (.agg (aa x.av))))=some x.av:=hex;simp -implicitDefEqProofs only[hex',ak]at hcode;rw[<- hcode];simp only[listX,fJ,iR];refine cG (IH own ns vs x m h R G hn hs (hes x hm)) fun v s h' hv Rs=>?_;obtain⟨G2,rv,f2⟩:=G.eval hs.right hv;obtain⟨t1,_⟩:=mE n own ns vs x m v s G.fuel hv;have hb2:aG T 30 1 [(0,v.av)]=some (vals [v]):=by rw[v.av_eq];simp[vals,dP,v.av_eq];rfl
  have ha2:cf T 30 (vals acc) (vals [v])=some (vals (acc++[v])):=kj (by simp;omega);have ih:=t7 IH IE own ns vs at_ f es x8 x9 x10 x11 ha hat hf hes h8 hlen B (A++[x]) (acc++[v]) s h' (by rw[<- e];simp) (by simp[hac]) (fun w hw=>by
   rcases Qp.1 hw with k|k
   ·exact hr w k
   ·simp only[Qt]at k;subst k;exact rv) Rs G2 (by omega) (by omega) (hs.less f2)
  simp only[QP,Rb,P0,Qs]at ih;simp only[hb2,ak,ha2,cy,hw];exact ih
def kQ(f:Fun):aW 12 f.av=ay (.agg (aa f.av)):=bu (kD f)
theorem tq{p:List Mod}{nm:SNm}{n:Nat}(LB:LimB p)(IH:qe p nm n)(own:Int)(ns:List aR)(vs:List Val)(e:Exp)(at_:Int)(hat:at_<p.length)(m:Ms)(h:Hp)(R:gq p nm m h)(G:GoodM p m)(hmu:mu m<1000000)(hn:m.fuel<=n)(hs:Sc p own ns vs m)(he:bh e)(y1 y2 y3 y4:AV):
  je p nm Val.av ((match ln p at_ e.s with
   |none=>.er 12
   | some f=>if e.m=[]\/f.pub=true then
     (if e.args.length=f.params.length then(listX (bo p n own ns vs) e.args).bind fun l=>fX p (bo p n) at_ f l else .er 13)
    else .er 12:X Val) m)
   (K174_0 (aj pg) ao [.hp 0 0,.ip (aa (aM own ns vs)),.ip (aa e.av),.int .i64 at_,y1,y2,y3,y4] h):=by
 have IE:=t223 LB IH;obtain⟨l1,l2⟩:=fO he;have hfn:=t222 R LB.lim at_ hat e.s;generalize hcode:K174_0 (aj pg) ao [.hp 0 0,.ip (aa (aM own ns vs)),.ip (aa e.av),.int .i64 at_,y1,y2,y3,y4] h=code;simp -implicitDefEqProofs only[K174_0,ax,aE,aX,FA66_2,FA66_3,FA66_5,Qf,Qe,LD9,LD24,eP,ak]at hcode;rw[bn hfn]at hcode;cases hf:ln p at_ e.s with
 |none=>
  rw[hf]at hcode;simp -implicitDefEqProofs only[zt,aO,PU,PZ,ak,kQ,ap,dl,List.replicate,ax,zw,aS,bJ,cU,PM,PP]at hcode;rw[<- hcode];exact fH R
 | some f=>
  rw[hf]at hcode;obtain⟨f1,f2,f3⟩:=ry hf;have hmp:p[at_.toNat]?.getD default∈p:=by rw[P1 f2];exact P2 f2
  obtain⟨_,hparams⟩:=LB.body _ hmp f f3;have hac:∀f:Fun,aa (.agg (aa f.av))=aa f.av:=fun _=>rfl;simp -implicitDefEqProofs only[zt,aO,PU,PZ,ak,kQ,ap,aL,qE,ax,hac]at hcode;have hpub:ai T 4 (.ip (List.drop 1 (aa f.av)))=some (.bool f.pub):=by simp
  have hpar:ai T 23 (.ip (List.drop 2 (aa f.av)))=some (bm f.params):=by simp
  have hgu:aF (.bool (e.m== [])) false 1 (ay [.bool f.pub])=ay [gv (e.m== []) false (.bool f.pub)]:=bI _ _ _;have hpk:aI (.bool (e.m== [])) (.bool true) (gv (e.m== []) false (.bool f.pub))=some (.bool ((e.m== [])||f.pub)):=eV _ _;simp -implicitDefEqProofs only[FA68_1,FA68_2,hpub,hpar,ak,hgu,ap,ax,hpk,aY,bJ,bU,dJ]at hcode;by_cases h1:e.m=[]\/f.pub=true
  ·have h1':(e.m== []||f.pub)=true:=by
    simp only[QF,Qk];exact h1
   simp only[h1',cU,PQ]at hcode;simp only[PS h1];by_cases h2:e.args.length=f.params.length
   ·have h2':((e.args.length:Int)== (f.params.length:Int))=true:=by simp[h2]
    simp only[h2',PQ]at hcode;simp only[PS h2];rw[<- hcode]
    have:=t7 IH IE own ns vs at_ f e.args y1 y2 y3 y4 (by omega) hat f3 (fun x hx=>bz he hx) (by omega) h2 e.args [] [] m h rfl rfl (fun v hv=>by cases hv) R G hmu hn hs
    simp only[Qv]at this;exact this
   ·have h2':((e.args.length:Int)== (f.params.length:Int))=false:=by
     rw[Qj];omega
    simp only[h2',PM,PP]at hcode;simp only[if_neg h2];rw[<- hcode];exact fH R
  ·have h1':(e.m== []||f.pub)=false:=by
    rw[<- Rc];simp only[QF,Qk];exact h1
   simp only[h1',cU,PM,PP]at hcode;simp only[if_neg h1];rw[<- hcode];exact fH R
theorem t174{p:List Mod}{nm:SNm}{n:Nat}(LB:LimB p)(IH:qe p nm n):Dk p nm n:=by
 intro own ns vs e m h R G hmu hn hs he;unfold mL;have hown:ai T 3 (.ip [.int .i64 own,strs ns,vals vs])=some (.int .i64 own):=rfl;have hmd:=t221 R LB.lim e.m;generalize hcode:aj pg 174 [.hp 0 0,aM own ns vs,e.av] h=code;rw[C174]at hcode;simp -implicitDefEqProofs only[S174,bH,aX,FA168_0,FA66_3,Qf,Qe,hown,LD9,ak,ci,oq,am]at hcode;by_cases h0:e.m=[]
 ·have h0':(!(e.m== []))=false:=by simp[h0]
  simp only[h0',PM,PP]at hcode;simp only[PS h0];rw[<- hcode]
  have:=tq LB IH own ns vs e own hs.own m h R G hmu hn hs he (.int .i64 0) (.int .i64 0) (.sl []) (.sl [])
  simp only[bH,aX]at this;exact this
 ·have h0':(!(e.m== []))=true:=by simp[h0]
  simp only[h0',PQ]at hcode;rw[bn hmd]at hcode;simp only[if_neg h0];rw[<- hcode];have hlt:jb p e.m<p.length:=by
   rcases iK (fun(x:Mod)=>x.name== e.m) p 0 with k|k
   ·show bj _ p 0<_;rw[k];omega
   ·show bj _ p 0<_;omega
  have:=tq LB IH own ns vs e (jb p e.m) hlt m h R G hmu hn hs he (.int .i64 0) (.int .i64 0) (.sl []) (.sl [])
  simp only[bH,aX]at this;exact this
def NC{t e:Nat}{ti ei:TI}(ht:T t=some ti)(hk:ti.kind= .slice e)(he:T e=some ei){l off len sz:Nat}{ag:Bool}{n:Int}(h0:0<=n)(h1:n<len):au T t (.hs l off len sz ag) (.int .i64 n)=some (.hp l (off+n.toNat*ei.size)):=by
 simp[au,ht,hk,he,h0,h1]
def CO{p:List Mod}{nm:SNm}{tag:Nat->Nat}{dv cv sv:AV}{m:Ms}{h:Hp}(R:RepT (rowP p nm.told) nm tag dv cv sv m h)(d:Deed)(hb:m.deeds.length<=2000000):
  ∃dv' h1 h2,appH T 159 false dv (.sl [d.av]) h= .ok dv' h1/\cq T 159 (.hp 0 9) dv' h1= .ok (.tup []) h2/\gq p nm { m with deeds:=m.deeds++[d] } h2:=by
 obtain⟨h1,dv',tag',e1,K,H,hc⟩:=og (T:=T) (t:=159) rfl rfl rfl rfl (by decide) rfl (by decide) (x:=d.av) R.ds (fun h0=>by
  have:m.deeds=[]:=P6 h0;rw[this];rfl) (fun cs h=>by rw[h];exact nC _) (my d) (show (m.deeds.length+1)*24<=140737488355328 by omega)
 have h0:=(K 0 _ R.r0 (by rw[R.t0];decide)).1;refine⟨dv',h1,_,e1,dT rfl h0 (fe hc).1 (show 9+1<=12 by decide) (by decide),?_⟩;have hac:aa dv'=[dv']:=(fe hc).2.1
 have:=R.pushDeed (m':={ m with deeds:=m.deeds++[d] }) K H rfl rfl rfl id
 refine⟨tag',dv',cv,sv,?_⟩;rw[hac];exact this
theorem wd{p:List Mod}{nm:SNm}{m:Ms}{h:Hp}(R:gq p nm m h)(hb:m.deeds.length<=2000000)(e:Exp)(v:Val)(n:Int)(x1 x2 x3 x4:AV):
  je p nm Val.av (X.ok (kB n) { m with deeds:=m.deeds++[⟨e.n,v.n,n⟩] }) (K175_0 (aj pg) ao [.hp 0 0,.ip (aa e.av),.ip (aa v.av),.int .i64 n,x1,x2,x3,x4] h):=by
 obtain⟨tag,dv,cv,sv,R0⟩:=R;obtain⟨dv',h1,h2,e1,e2,R2⟩:=CO R0 ⟨e.n,v.n,n⟩ hb;have hB:aT T false 242 [(0,.int .i64 e.n),(1,.int .i64 v.n),(2,.int .i64 n)]=some (Deed.av ⟨e.n,v.n,n⟩):=rfl;have hBS:aG T 159 1 [(0,Deed.av ⟨e.n,v.n,n⟩)]=some (.sl [Deed.av ⟨e.n,v.n,n⟩]):=rfl;have ld:∀g:AV->M AV,af (bi T 159 (.hp 0 9)) g h=g dv h:=fun g=>bn (ca rfl rfl R0.r0 rfl);generalize hcode:K175_0 (aj pg) ao [.hp 0 0,.ip (aa e.av),.ip (aa v.av),.int .i64 n,x1,x2,x3,x4] h=code;simp -implicitDefEqProofs only[K175_0,ax,aE,aZ,ak,FH164_4,FH162_2,Qb,Nat.reduceAdd,ld,aX,FA66_1,Qf,Qe,LD3,cw,FA45_1,hB,hBS]at hcode;rw[bn e1]at hcode;rw[bn e2]at hcode;simp -implicitDefEqProofs only[t168,ap]at hcode;rw[pc]at hcode;rw[<- hcode];exact eF R2
def CZ{p:List Mod}{nm:SNm}{m:Ms}{h:Hp}(R:gq p nm m h)(w:List Int)(hw0:m.world=[]->w=[]):∃h1,(m.world≠[]->gq p nm { m with world:=w } h1)/\(∀f:AV->M AV,af (bi T 158 (.hp 0 1)) f h=f (qn nm.told m.world) h)/\
  (m.world≠[]->∀f:AV->M AV,af (cq T 158 (.hp 0 1) (ints w)) f h=f (.tup []) h1):=by
 obtain⟨tag,dv,cv,sv,R⟩:=R;refine⟨h.set 0 (setCells (rowP p nm.told m dv cv sv) 1 (aa (ints w))),fun hne=>⟨tag,dv,cv,sv,?_⟩,fun f=>bn (ca rfl rfl R.r0 rfl),fun _ f=>bn (dT rfl R.r0 rfl (show 1+1<=12 by decide) (by decide))⟩;have ht:nm.told=false:=by
  cases ht:nm.told with
  |false=>rfl
  |true=>exact absurd (R.wok ht) hne
 have e:setCells (rowP p nm.told m dv cv sv) 1 (aa (ints w))=rowP p nm.told { m with world:=w } dv cv sv:=by
  simp only[ht];rfl
 rw[e];exact R.set0 rfl rfl rfl hw0
theorem t175{p:List Mod}{nm:SNm}{n:Nat}(LB:LimB p)(IH:qe p nm n):AB p nm n:=by
 intro own ns vs e m h hop hcn R G hmu hn hs he;obtain⟨l1,l2⟩:=fO he;have hscl:ai T 168 (.ip [.int .i64 own,strs ns,vals vs])=some (aM own ns vs):=rfl;have hown:ai T 3 (.ip [.int .i64 own,strs ns,vals vs])=some (.int .i64 own):=rfl;generalize hcode:aj pg 175 [.hp 0 0,aM own ns vs,e.av] h=code;rw[C175]at hcode;obtain⟨op,en,es,em,en2,ea⟩:=e;simp only[l6]at hop;unfold pe at hcn;simp only[l6,iw]at hcn;have hlen:op=16\/op=18->∃a,ea=[a]:=by
  intro h;apply F9;rcases h with rfl|rfl
  ·simp[bg]at hcn;omega
  ·simp[bg]at hcn;omega
 by_cases h16:op=16
 ·obtain⟨a,rfl⟩:=hlen (.inl h16);subst h16;have ha:bh a:=bz he (by simp);simp -implicitDefEqProofs only[S175,bH,aX,l6,qk,Ad,Cu,eS,iw,FA66_0,FA66_1,FA66_5,Qf,Qe,LD3,LD24,ak,dJ,QL,am,PQ,hscl,MV]at hcode;have hex:ai T 66 (.ip [.int .i64 a.op,.int .i64 a.n,.str a.s,.str a.m,strs a.names,bE a.args])=some a.av:=by
   have:ai T 66 (.ip (aa a.av))=some a.av:=by simp
   rwa [aX]at this
  simp -implicitDefEqProofs only[hex,ak]at hcode;rw[<- hcode];simp only[sM,l6,PQ,sQ];have e0:([a]:List Exp)[0]! = a:=rfl;simp only[iw,e0];refine cG (IH own ns vs a _ _ R G hn hs ha) fun v s1 h2 hv R2=>?_;obtain⟨G2,rv,f2⟩:=G.eval hs.right hv;generalize hcode2:af (aW 4 v.av) _ h2=code2;simp -implicitDefEqProofs only[bu (cL v),ap,bl,cw,FA45_0,Qe,LD3,ak,dJ,bJ,bI,ax,eV]at hcode2;by_cases hk:v.kind=0
  ·have hk':(v.kind== 0)=true:=by simp[hk]
   simp only[hk',cU,PQ]at hcode2;simp only[PS hk];by_cases hn4':(Exp.mk 16 en es em en2 [a]).n=1\/(Exp.mk 16 en es em en2 [a]).n=2\/(Exp.mk 16 en es em en2 [a]).n=4\/(Exp.mk 16 en es em en2 [a]).n=8
   ·have hn4:en=1\/en=2\/en=4\/en=8:=hn4';have hn':(en== 1||en== 2||en== 4||en== 8)=true:=by
     simp only[QF,Qk];omega
    simp only[hn',PQ]at hcode2;simp only[PS hn4'];obtain⟨h3,R3,lw,sw⟩:=CZ R2 s1.world.tail (fun h=>by rw[h];rfl);have hmu2:=(mE n own ns vs a m v s1 G.fuel hv).1;have hdl:s1.deeds.length<=2000000:=by
     have:=G2.fuel
     simp only[mu]at hmu2 hmu;omega
    show je p nm Val.av (X.ok (kB (s1.world.headD 0)) { s1 with world:=s1.world.tail,deeds:=s1.deeds++[⟨en,v.n,s1.world.headD 0⟩] }) code2;have lenw:aN T 158 (qn nm.told s1.world)=some (.int .i64 s1.world.length):=by
     unfold qn;split
     ·rename_i ht;obtain⟨_,_,_,_,R2'⟩:=R2;rw[R2'.wok ht];rfl
     ·exact Ay _
    simp -implicitDefEqProofs only[ci,aZ,ak,FH164_1,Qb,lw,lenw,ak,jf,am]at hcode2;cases hwd:s1.world with
    | nil=>
     rw[hwd]at hcode2;simp only[Qr,show decide ((0:Int)<((0:Nat):Int))=false by decide,PM,PP]at hcode2
     have:=wd R2 hdl (.mk 16 en es em en2 [a]) v 0 (.int .i64 0) (.int .i64 0) (.sl []) (.sl [])
     simp only[aX,cw,l6,qk,Ad,Cu,eS,iw]at this;rw[hcode2]at this;have e5:({ s1 with deeds:=s1.deeds++[⟨en,v.n,0⟩] }:Ms)= { s1 with world:=([]:List Int).tail,deeds:=s1.deeds++[⟨en,v.n,([]:List Int).headD 0⟩] }:=by
      cases s1;simp only at hwd;subst hwd;rfl
     rw[e5]at this;exact this
    | cons x wl=>
     have hd:decide ((0:Int)<(((x:: wl).length:Nat):Int))=true:=by simp<;>omega
     have hne:s1.world≠[]:=by rw[hwd];simp
     have sw:=sw hne;have R3:=R3 hne;have hwv:qn nm.told s1.world=ints s1.world:=by
      unfold qn;rw[if_neg];intro ht;obtain⟨_,_,_,_,R2'⟩:=R2;exact hne (R2'.wok ht)
     rw[hwv]at lw;rw[hwd]at hcode2 sw R3 lw;have hix:au T 158 (ints (x:: wl)) (.int .i64 0)=some (.ip [.int .i64 x]):=by
      have:=IM (l:=x:: wl) (n:=0) (by omega) (by simp<;>omega)
      simpa using this
     have hsl:cV T 158 (ints (x:: wl)) (some (.int .i64 1)) none none=some (ints wl):=by
      have:=C1 (T:=T) (t:=158) (e:=3) rfl rfl rfl ((x:: wl).map (AV.int .i64)) (by exact CG _) (n:=1) (by omega) (by simp<;>omega)
      simpa [ints]using this
     simp only[List.tail_cons]at sw R3;simp -implicitDefEqProofs only[hd,PQ,lw,hix,ak,LD3,hsl,sw]at hcode2
     have:=wd R3 hdl (.mk 16 en es em en2 [a]) v x (.int .i64 0) (.int .i64 0) (.sl []) (.sl [])
     simp only[aX,cw,l6,qk,Ad,Cu,eS,iw]at this;rw[hcode2]at this;exact this
   ·have hn4:¬(en=1\/en=2\/en=4\/en=8):=hn4';have hn':(en== 1||en== 2||en== 4||en== 8)=false:=by
     rw[<- Rc];simp only[QF,Qk];omega
    simp only[hn',PM,PP]at hcode2;simp only[if_neg hn4'];rw[<- hcode2];exact fH R2
  ·have hk':(v.kind== 0)=false:=by simpa using hk
   simp only[hk',cU,PM,PP]at hcode2;simp only[if_neg hk];rw[<- hcode2];exact fH R2
 have h16':((op:Int)== 16)=false:=by simpa using h16
 have h16x:¬((Exp.mk op en es em en2 ea).op=16):=h16;unfold sM;simp only[if_neg h16x];unfold s7;simp -implicitDefEqProofs only[S175,bH,aX,l6,qk,Ad,Cu,eS,iw,FA168_0,FA66_0,FA66_1,FA66_2,FA66_5,Qf,Qe,LD3,LD24,ak,dJ,h16',PM,am,PP,hown,hscl,ix,bJ,ci]at hcode;by_cases ho:own<0
 ·have ho':decide (0<=own)=false:=by simp;omega
  simp only[ho',cU,PM,PP]at hcode;simp only[PS ho];rw[<- hcode];exact fH R
 have ho':decide (0<=own)=true:=by simp;omega
 simp only[ho',cU,PQ]at hcode;simp only[if_neg ho];have hol:=hs.own;have hlt:own.toNat<p.length:=by omega
 have hix:=nu (l:=p) (n:=own) (by omega) hol;rw[PY p own.toNat hlt]at hix;have e3:p[own.toNat]?.getD default=p[own.toNat]:=by rw[P1 hlt];rfl
 have hvl:=(LB.lim.funcsAt own.toNat).2;rw[e3]at hvl |-;have hff:=OB p[own.toNat].vars hvl (.mk op en es em en2 ea);simp only[aX,l6,qk,Ad,Cu,eS,iw]at hff;have Rk:=R;obtain⟨tag,dv,cv,sv,R0⟩:=R;have lm:∀g:AV->M AV,af (bi T 92 (.hp 0 0)) g h=g (dI p) h:=fun g=>bn (ca rfl rfl R0.r0 (by rw[<- jl (t:=nm.told) (fun e=>by subst e;simp at hlt)];rfl));have lsv:∀g:AV->M AV,af (bi T 89 (.hp 0 11)) g h=g nm.sv h:=fun g=>bn (ca rfl rfl R0.r0 (by rw[<- R0.sve];rfl));simp -implicitDefEqProofs only[aZ,ak,FH164_0,FH164_4,FH162_4,Qb,Nat.reduceAdd,lm,hix,gw,FA29_2,Qf,Qe,LD23,hff,bA,ap,ix,bJ]at hcode;by_cases hi:dM p[own.toNat].vars (Exp.mk op en es em en2 ea).s<0
 ·have hi':decide (0<=dM p[own.toNat].vars es)=false:=by
   have:dM p[own.toNat].vars es<0:=hi;simp;omega
  simp only[hi',cU,PM,PP]at hcode;simp only[PS hi];rw[<- hcode];exact fH Rk
 have hi0:0<=dM p[own.toNat].vars es:=by
  have:¬dM p[own.toNat].vars es<0:=hi;omega
 have hi':decide (0<=dM p[own.toNat].vars es)=true:=by simp;omega
 simp only[hi',cU,PQ,lsv]at hcode;simp only[if_neg hi];have hil:dM p[own.toNat].vars es<p[own.toNat].vars.length:=by
  rcases iK (fun(x:cE)=>x.1== es) p[own.toNat].vars 0 with k|k
  ·have:dM p[own.toNat].vars es= -1:=k;omega
  ·have:dM p[own.toNat].vars es=bj (fun(x:cE)=>x.1== es) p[own.toNat].vars 0:=rfl;omega
 obtain⟨l,hl1,hl2⟩:=G.shape own.toNat _ (P1 hlt);have hne:l≠[]:=fun e=>by rw[e]at hl2;simp at hl2;omega
 have hsl:own.toNat<m.state.length:=(QB.1 hl1).1;obtain⟨q,r,v1,v2,v3,v4,v5,v6⟩:=R0.var (fun _=>rfl) hl1 hne;have hx1:au T 89 nm.sv (.int .i64 own)=some (.hp q (own.toNat*2)):=by
  rw[v1]
  have:=NC (t:=89) rfl rfl rfl (l:=q) (off:=0) (len:=m.state.length) (sz:=2) (ag:=true) (n:=own) (by omega) (by omega)
  rw[this];simp
 have lv:∀g:AV->M AV,af (bi T 30 (.hp q (own.toNat*2+1))) g h=g (.hs r 0 l.length 4 true) h:=fun g=>bn (ca rfl rfl v2 v3);simp -implicitDefEqProofs only[hx1,ak,FH94_1,lv]at hcode;generalize hI:dM p[own.toNat].vars es=I at *;have hI2:dM p[own.toNat].vars (Exp.mk op en es em en2 ea).s=I:=hI;rw[hI2];have hx2:au T 30 (.hs r 0 l.length 4 true) (.int .i64 I)=some (.hp r (I.toNat*4)):=by
  have:=NC (t:=30) rfl rfl rfl (l:=r) (off:=0) (len:=l.length) (sz:=4) (ag:=true) (n:=I) (by omega) (by omega)
  rw[this];simp
 have hk:I.toNat<l.length:=by omega
 by_cases h18:op=18
 ·have h18x:(Exp.mk op en es em en2 ea).op=18:=h18;simp only[PS h18x];obtain⟨a,rfl⟩:=hlen (.inr h18);have ha:bh a:=bz he (by simp);have hb18:(op== 18)=true:=by simp[h18]
  have hex:ai T 66 (.ip (aa a.av))=some a.av:=by simp
  have e0:(Exp.mk op en es em en2 [a]).args[0]! = a:=rfl;simp -implicitDefEqProofs only[hb18,PQ,MV,ak,hex]at hcode;rw[<- hcode,e0];refine cG (IH own ns vs a _ _ Rk G hn hs ha) fun v s1 h2 hv R2=>?_;obtain⟨G2,rv,f2⟩:=G.eval hs.right hv;obtain⟨tag2,dv2,cv2,sv2,R20⟩:=R2;obtain⟨l',hl1',hl2'⟩:=G2.shape own.toNat _ (P1 hlt);have hne':l'≠[]:=fun e=>by rw[e]at hl2';simp at hl2';omega
  obtain⟨q',r',w1,w2,w3,w4,w5,w6⟩:=R20.var (fun _=>rfl) hl1' hne';have hll:l'.length=l.length:=by omega
  have hrr:r'=r:=by
   rw[v3]at w3;simp only[PN,AV.hs.injEq]at w3;exact w3.1.symm
  subst hrr;have hst:cq T 45 (.hp r' (I.toNat*4)) v.av h2= .ok (.tup []) (h2.set r' (bR (l'.set I.toNat v))):=by
   have:=dT (T:=T) (t:=45) rfl w5 (v:=v.av) (k:=I.toNat*4) (cL v) (by rw[gY];show I.toNat*4+4<=_;omega) (by decide)
   rw[this,ov (by omega)]
  have R3:=w6 I.toNat v (by omega);have hset:((s1.state[own.toNat]?.getD []).set I.toNat v)=l'.set I.toNat v:=by rw[hl1'];rfl
  have hld2:bi T 45 (.hp r' (I.toNat*4)) (h2.set r' (bR (l'.set I.toNat v)))= .ok v.av (h2.set r' (bR (l'.set I.toNat v))):=by
   have hlt2:r'<h2.length:=(QB.1 w5).1
   have:=oT (T:=T) (t:=45) rfl rfl (h:=h2.set r' (bR (l'.set I.toNat v))) (l:=r') (k:=I.toNat*4) (Rr hlt2) (by rw[gY,RX];show I.toNat*4+4<=_;omega)
   rw[this];have hg:=lk (l:=l'.set I.toNat v) (k:=I.toNat) (by simp;omega);show Av.R.ok (AV.agg (((bR (l'.set I.toNat v)).drop (I.toNat*4)).take 4)) _=_;rw[hg,List.getElem_set_self];rw[Val.av_eq];rfl
  generalize hcode2:af (ah (au T 30 (.hs r' 0 l.length 4 true) (.int .i64 I))) _ h2=code2;simp -implicitDefEqProofs only[hx2,ak]at hcode2;rw[bn hst]at hcode2;simp -implicitDefEqProofs only[K175_1,ax,aE,hx2,ak]at hcode2;rw[bn hld2,pc]at hcode2;rw[<- hcode2];exact⟨_,rfl,tag2,dv2,cv2,sv2,R3⟩
 ·have h18x:¬((Exp.mk op en es em en2 ea).op=18):=h18;have hb18:(op== 18)=false:=by simpa using h18
  have hld2:bi T 45 (.hp r (I.toNat*4)) h= .ok (l[I.toNat]).av h:=by
   have:=oT (T:=T) (t:=45) rfl rfl (h:=h) (l:=r) (k:=I.toNat*4) v5 (by rw[gY];show I.toNat*4+4<=_;omega)
   rw[this];have hg:=lk (l:=l) (k:=I.toNat) hk;show Av.R.ok (AV.agg (((bR l).drop (I.toNat*4)).take 4)) _=_;rw[hg,Val.av_eq];rfl
  simp only[if_neg h18x];simp -implicitDefEqProofs only[hb18,PM,PP,K175_1,ax,aE,hx2,ak]at hcode;rw[bn hld2,pc]at hcode;rw[<- hcode];have hgs:mR m.state own.toNat I.toNat=l[I.toNat]:=by
   simp[mR,Qw,hl1,hk]
  show je p nm Val.av (X.ok (mR m.state own.toNat I.toNat) m) _;rw[hgs];exact eF Rk
theorem MJ{p:List Mod}{nm:SNm}(LB:LimB p):∀n,qe p nm n
 |0=>fun own ns vs e m h R G hn hs he=>⟨h,FC R (by omega) _ e,R⟩
 |n+1=>by
  have IH:=MJ (nm:=nm) LB n;exact Cb IH (t173 IH) (t174 LB IH) (t175 LB IH)
def nR{m:M AV}{r:AV}{h':Hp}(h1:m []= .ok r h')(h2:∀g,cl g r=r):aJ m=ay r:=by
 funext h;unfold aJ;rw[h1];simp only[ay];have:oO 6 h' r=r:=h2 _;rw[this]
def G5(l:List Val):(l.any fun v=>!bc 4 v)= !(l.all (bc 4)):=by
 induction l with
 |nil=>rfl
 |cons v l ih=>simp only[Sd,QH,ih];cases bc 4 v<;>simp
def O4(v:Val):ai T 45 (.ip (aa v.av))=some v.av:=by simp
def t131(v:Val)(hv:v.sz<=4611686018427387904):aj pg 131 [v.av]=ay (.bool !bc 4 v):=by
 rw[C131];simp only[S131,gO,O4,ak,t49 v hv,ap,bq];exact bw fun g=>rfl
def Hl(k:Nat)(hk:∀v:Val,v.sz<=4611686018427387904->aj pg k [v.av]=ay (.bool !bc 4 v))(l:List Val)(hl:br l<=4611686018427387904):aj pg 130 [vals l,.fn (.func k) [] []]=ay (.bool !(l.all (bc 4))):=by
 have:=t130 (.fn (.func k) [] []) (fun v=>!bc 4 v) l (QQ (fI l) hl) (fun g=>rfl) (fun v hv=>hk v (QQ (eJ hv) hl))
 rw[this,G5]
def t132(f:AV)(h:Hp):aj pg 132 [f] h=yv 39 .i64 (.agg [.int .i64 0,.int .i64 0,.sl [],.sl []]) (cX (aj pg) f [] h):=by
 have e:aj pg 132 [f]=yu 39 .i64 (.agg [.int .i64 0,.int .i64 0,.sl [],.sl []]) (aj pg) [f]:=dB aH rfl _;rw[e];rfl
def Ot:SNm:=⟨[],.hn,[],true⟩
def xC:LimB []:=⟨⟨by simp,fun m hm=>by cases hm⟩,fun m hm=>by cases hm⟩
def Iu:gq [] Ot (dO [] 100000 []) [[.hn,.hn,.int .i64 100000,.int .i64 0,.int .i64 0,.int .i64 0,.int .i64 0,.hn,.hn,.hn,.hn,.hn]]:=
 ⟨fun _=>0,.hn,.hn,.hn,rfl,rfl,.inl ⟨rfl,rfl⟩,.inl ⟨rfl,rfl⟩,.inl ⟨rfl,rfl⟩,rfl,fun _=>rfl⟩
def xi:GoodM [] (dO [] 100000 []):=⟨⟨fun l hl=>by simp[dO]at hl,fun c hc=>by simp[dO]at hc⟩,by simp[mu,dO],by simp[dO],by simp[dO],fun i x hx=>by simp at hx⟩
def fp:Rs Val->AV
 |.ok v _=>.tup [v.av,.int .i64 0]
 |.er e _=>.tup [Val.av default,.int .i64 e]
def mo(g)(v:Val)(e:Int):cl g (.tup [v.av,.int .i64 e])= .tup [v.av,.int .i64 e]:=by simp[cl,eM]
theorem t85(e:Exp)(ns:List aR)(vs:List Val)(he:bh e)(hn:ns.length<=274877906944)(hv:br vs<=4611686018427387904):aj pg 85 [e.av,strs ns,vals vs]=ay (fp (lz e ns vs)):=by
 have ha:=Hl 131 t131 vs hv;have hl1:ai T 22 (.ip (aa (strs ns)))=some (strs ns):=rfl;have hl2:ai T 30 (.ip (aa (vals vs)))=some (vals vs):=rfl;have hB:aT T true 164 [(2,.int .i64 100000)]=some (.agg [.hn,.hn,.int .i64 100000,.int .i64 0,.int .i64 0,.int .i64 0,.int .i64 0,.hn,.hn,.hn,.hn,.hn]):=rfl;have hZ:aT T false 45 []=some (Val.av default):=rfl;have hcl:∀h:AV->M AV,af (newH [.hn,.hn,.int .i64 100000,.int .i64 0,.int .i64 0,.int .i64 0,.int .i64 0,.hn,.hn,.hn,.hn,.hn]) h []=h (.hp 0 0) [[.hn,.hn,.int .i64 100000,.int .i64 0,.int .i64 0,.int .i64 0,.int .i64 0,.hn,.hn,.hn,.hn,.hn]]:=fun h=>rfl;rw[C85,ny,eh,yV];unfold lz;by_cases hr:ns.length=vs.length/\vs.all (bc 4)=true
 ·rw[PS hr];have hne:((ns.length:Int) != (vs.length:Int))=false:=by simp[hr.1]
  have hrs:kN ns vs:=⟨hr.1,fun v hv=>(P7.1 hr.2) v hv⟩;have hev:=MJ (nm:=Ot) xC 100000 (-1) ns vs e _ _ Iu xi (by simp[dO]) ⟨by simp,hrs,by simp only[dO];omega⟩ he;have hcell:aW 1 (.hp 0 0)=ay (.agg [.hp 0 0]):=rfl;have hBS:aT T false 168 [(0,.int .i64 (-1)),(1,strs ns),(2,vals vs)]=some (aM (-1) ns vs):=rfl;have hlp:ai T 157 (.ip [.hp 0 0])=some (.hp 0 0):=rfl;have hex:ai T 66 (.ip (aa e.av))=some e.av:=by simp
  have hcall:∀h,aj pg 133 [.ip [.hp 0 0],.ip (aa (strs ns)),.ip (aa (vals vs)),.ip (aa e.av)] h=af (aj pg 134 [.hp 0 0,aM (-1) ns vs,e.av]) (fun v=>af (az 4 [] v) fun w=>ay (AV.agg [ae (aa w) 0,ae (aa w) 1,ae (aa w) 2,ae (aa w) 3])) h:=fun h=>by
   rw[C133];simp -implicitDefEqProofs only[S133,hlp,hl1,hl2,hex,hBS,ak]
  have hS:S85 (aj pg) ao e.av (strs ns) (vals vs) []= .ok (fp (bo [] 100000 (-1) ns vs e (dO [] 100000 []))) []\/∃h',S85 (aj pg) ao e.av (strs ns) (vals vs) []= .ok (fp (bo [] 100000 (-1) ns vs e (dO [] 100000 []))) h':=by
   right;simp -implicitDefEqProofs only[S85,hl1,hl2,ak,dA,hP,fL,hne,aL,ha,ap,bq,hr.2,Qa,ax,aS,am,PM,PP,hB,bl,hcl,hcell];have htry:=t132 (.fn (.func 133) [] [.ip [.hp 0 0],.ip (aa (strs ns)),.ip (aa (vals vs)),.ip (aa e.av)]) [[.hn,.hn,.int .i64 100000,.int .i64 0,.int .i64 0,.int .i64 0,.int .i64 0,.hn,.hn,.hn,.hn,.hn]];have hcv:cX (aj pg) (.fn (.func 133) [] [.ip [.hp 0 0],.ip (aa (strs ns)),.ip (aa (vals vs)),.ip (aa e.av)]) []=aj pg 133 [.ip [.hp 0 0],.ip (aa (strs ns)),.ip (aa (vals vs)),.ip (aa e.av)]:=rfl;rw[hcv,hcall]at htry;have how:=dY hev;generalize bo [] 100000 (-1) ns vs e (dO [] 100000 [])=r at how |-;cases r with
   |ok v s=>
    obtain⟨h',e1,_⟩:=how;refine⟨h',?_⟩;rw[e1]at htry;simp only[yv,cL,PV]at htry;rw[bn htry];simp[fp,ay]
   |er c s=>
    obtain⟨h',e1,_⟩:=how;refine⟨h',?_⟩;rw[e1]at htry;have ht:yv 39 .i64 (.agg [.int .i64 0,.int .i64 0,.sl [],.sl []]) (.pan (nF c) h')= .ok (.tup [Val.av default,.int .i64 c]) h':=rfl;rw[ht]at htry;rw[bn htry];simp[fp,ay]
  rcases hS with h|⟨h',h⟩
  ·exact nR h fun g=>by cases bo [] 100000 (-1) ns vs e (dO [] 100000 [])<;>exact mo g _ _
  ·exact nR h fun g=>by cases bo [] 100000 (-1) ns vs e (dO [] 100000 [])<;>exact mo g _ _
 ·rw [if_neg hr];have hb:((ns.length:Int) != (vs.length:Int)||!(vs.all (bc 4)))=true:=by
   by_cases h1:ns.length=vs.length
   ·have:vs.all (bc 4)=false:=by
     rw[<- Rc];exact fun h2=>hr ⟨h1,h2⟩
    simp[this]
   ·have:((ns.length:Int) != (vs.length:Int))=true:=by
     rw[Rf];omega
    simp[this]
  have hgu:aF (.bool ((ns.length:Int) != (vs.length:Int))) false 1 (ay [.bool !(vs.all (bc 4))])=ay [gv ((ns.length:Int) != (vs.length:Int)) false (.bool !(vs.all (bc 4)))]:=bI _ _ _;have hS:S85 (aj pg) ao e.av (strs ns) (vals vs)=ay (.tup [Val.av default,.int .i64 1]):=by
   simp -implicitDefEqProofs only[S85,hl1,hl2,ak,dA,hP,fL,ha,ap,bq,hgu,ax,eV,hb,am,PQ,hZ];simp
  rw[hS];exact bw fun g=>mo g _ _
end Go.Proofs.YtihmmkncokjbaaaGreatDoor
