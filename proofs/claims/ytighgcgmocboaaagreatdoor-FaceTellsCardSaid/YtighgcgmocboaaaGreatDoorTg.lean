/- What the functions compute, part 7. Conditions: bounds. -/
import Derived.Test.YtighgcgmocboaaaGreatDoorTf
set_option linter.defProp false
set_option linter.unusedSimpArgs false
set_option linter.unusedVariables false
namespace Go.Proofs.YtighgcgmocboaaaGreatDoor
open Go Go.Av Go.Av.Ap
set_option maxRecDepth 100000
def MC(l:List aQ){i:Nat}(h:i<=l.length):dl T 22 (strs l) none (some (.int .i64 (i:Int))) none=some (strs (l.take i)):=by
 have:=A5 (T:=T) (t:=22) (e:=9) rfl rfl rfl (l.map AV.str) (n:=(i:Int)) (by omega) (by simpa using h)
 rw[Nb,<- List.map_take]at this;exact this
def G6(l:List aQ)(hb:l.length<=4611686018427387904):∀(n i:Nat),l.length-i=n->i<=l.length->
  ak (L95_0 (ab pg) ak) [strs l,.int .i64 (i:Int)]=am (.bool (ir (l.take i) (l.drop i))):=by
 intro n
 induction n with
 |zero=>
  intro i hn hi;have h1:¬((i:Int)<(l.length:Int)):=by omega
  have h2:l.drop i=[]:=Nc (by omega);rw[FL95_0,h2];simp only[L95_0,aj,ao,ae,gp,ax,h1,Nm,ah,M3,Na,ir]
 | succ n ih=>
  intro i hn hi;have hlt:i<l.length:=by omega
  have h1:((i:Int)<(l.length:Int)):=by omega
  have h2:l.drop i=l[i]:: l.drop (i+1):=Ng hlt;have h3:l.take (i+1)=l.take i++[l[i]]:=by rw[Pl,Ns hlt];rfl
  have hix:=xd (l:=l) (n:=(i:Int)) (by omega) h1;rw[Nb,Nt l i hlt]at hix;have hw:IntKind.i64.wrap ((i:Int)+1)=((i+1:Nat):Int):=aE (by omega);have hsl:=MC l hi;have ih':=ih (i+1) (by omega) (by omega);rw[h3]at ih';have hf:=t86 (l.take i) l[i] (by rw[N8];omega);have hneg:=za (l.take i) l[i];have hn:=t53 l[i];rw[FL95_0,h2,ir];generalize l[i]=s at *;have hge:∀k:Int,bo T .geq 3 (.int .i64 k) (.int .i64 0)=some (.bool (!(decide (k<0)))):=fun k=>by
   show some (AV.bool (decide (0<=k)))=_;congr 2;by_cases h:k<0
   ·rw[NJ h,NV (by omega)];rfl
   ·rw[NV h,NJ (by omega)];rfl
  rw[show ((i+1:Nat):Int)=(i:Int)+1 by omega]at ih' hw;cases hb2:bg s<;>rw[hb2]at hn<;>cases hb3:(l.take i).contains s<;>rw[hb3]at hneg <;>
  simp[L95_0,aj,ao,h1,hlt,hix,hn,hsl,hf,hge,hneg,hw,ih']
def t95(l:List aQ)(hb:l.length<=4611686018427387904):ab pg 95 [strs l]=am (.bool (ir [] l)):=by
 have h:=G6 l hb l.length 0 rfl (Nz _);rw[C95];have h':ak (L95_0 (ab pg) ak) [strs l,.int .i64 0]=am (.bool (ir [] l)):=h;have hc:cl aA (strs l)=strs l:=by simp
 simp only[S95,hc,h'];exact i6 _
def G8(l:List Exp)(hb:l.length<=4611686018427387904)(hl:∀e∈l,e.Lim):∀(n i:Nat),l.length-i=n->i<=l.length->
  ak (L97_0 (ab pg) ak) [dC l,.int .i64 (i:Int)]=am (.bool ((l.drop i).all lU)):=by
 intro n
 induction n with
 |zero=>
  intro i hn hi;have h1:¬((i:Int)<(l.length:Int)):=by omega
  have h2:l.drop i=[]:=Nc (by omega);rw[FL97_0,h2];simp only[L97_0,aj,ao,ae,fc,ax,h1,Nm,ah,M3,Na,Pj]
 |succ n ih=>
  intro i hn hi;have hlt:i<l.length:=by omega
  have h1:((i:Int)<(l.length:Int)):=by omega
  have h2:l.drop i=l[i]:: l.drop (i+1):=Ng hlt;have hix:=zI (l:=l) (n:=(i:Int)) (by omega) h1;rw[Nb,Nt l i hlt]at hix;have hw:IntKind.i64.wrap ((i:Int)+1)=((i+1:Nat):Int):=aE (by omega);have ih':=ih (i+1) (by omega) (by omega);have hx:=t99 l[i] (hl _ (Ni hlt));have hle:∀e:Exp,aX T 56 (.ip (af e.av))=some e.av:=fun e=>by simp
  rw[FL97_0,h2,N0];generalize l[i]=x at *;cases hb2:lU x<;>rw[hb2]at hx <;>
  simp only[L97_0,aj,ao,ae,fc,ax,h1,Nf,ah,M3,Na,Nj,hix,hle,hx,ai,bp,Nv,Nw,ba,hw,ih',Nx,NG]
def t97(l:List Exp)(hb:l.length<=4611686018427387904)(hl:∀e∈l,e.Lim):ab pg 97 [dC l]=am (.bool (l.all lU)):=by
 have h:=G8 l hb hl l.length 0 rfl (Nz _);rw[Nk]at h;rw[C97];have h':ak (L97_0 (ab pg) ak) [dC l,.int .i64 0]=am (.bool (l.all lU)):=h;simp only[S97,yQ,h'];exact i6 _
def G7(l:List cO)(k:Nat)(hk:k<=8)(hb:l.length<=4611686018427387904)(hl:∀f∈l,f.2.Lim):∀(n i:Nat),l.length-i=n->i<=l.length->
  ak (L96_0 (ab pg) ak) [aO l,.int .i64 (k:Int),.int .i64 (i:Int)]=am (.bool ((l.drop i).all (fun f=>bu f.2)&&(decide (l.length<=k)&&ir [] (l.map (·.1))))):=by
 intro n
 induction n with
 | zero=>
  intro i hn hi;have h1:¬((i:Int)<(l.length:Int)):=by omega
  have h2:l.drop i=[]:=Nc (by omega);rw[FL96_0,h2];by_cases hlk:l.length<=k
  ·have hlk':(l.length:Int)<=(k:Int):=by omega
   have hla:=t122 l (by omega);have hu:=t95 (l.map (·.1)) (by rw[N7];exact hb);simp only[L96_0,aj,ao,ae,cu,ax,bY,h1,Nm,ah,M3,Na,Pj,hlk,hlk',Nf,au,hla,hu,ai,aw,Nx]
  ·have hlk':¬(l.length:Int)<=(k:Int):=by omega
   simp only[L96_0,aj,ao,ae,cu,ax,bY,h1,Nm,ah,M3,Na,Pj,hlk,hlk',bn,ai,aC,Nx,NG]
 |succ n ih=>
  intro i hn hi;have hlt:i<l.length:=by omega
  have h1:((i:Int)<(l.length:Int)):=by omega
  have h2:l.drop i=l[i]:: l.drop (i+1):=Ng hlt;have hix:=kK (l:=l) (n:=(i:Int)) (by omega) h1;rw[Nb,Nt l i hlt]at hix;have hw:IntKind.i64.wrap ((i:Int)+1)=((i+1:Nat):Int):=aE (by omega);have ih':=ih (i+1) (by omega) (by omega);have hx:=t54 l[i].2 (hl _ (Ni hlt));have f1:∀cs:List AV,aB T 54 (.ip cs) 1=some (.ip (cs.drop 1)):=fun _=>rfl;have l1:∀f:cO,aX T 35 (.ip ((af (bm f)).drop 1))=some f.2.av:=fun f=>by simp
  rw[FL96_0,h2,N0];generalize l[i]=x at *;cases hb2:bu x.2<;>rw[hb2]at hx <;>
  simp only[L96_0,aj,ao,ae,cu,ax,h1,Nf,ah,M3,Na,Nj,hix,f1,l1,hx,ai,bp,Nv,Nw,ba,hw,ih',Nx,NG]
def t96(l:List cO)(k:Nat)(hk:k<=8)(hb:l.length<=4611686018427387904)(hl:∀f∈l,f.2.Lim):ab pg 96 [aO l,.int .i64 (k:Int)]=am (.bool (fD l k)):=by
 have h:=G7 l k hk hb hl l.length 0 rfl (Nz _);rw[Nk]at h;rw[C96];have h':ak (L96_0 (ab pg) ak) [aO l,.int .i64 (k:Int),.int .i64 0]=am (.bool (fD l k)):=h;simp only[S96,kk,nV,h'];exact i6 _
section
variable (m:Ap.Mod)
theorem Ly(cs:List AV):aB T 29 (.ip cs) 0=some (.ip (cs.drop 0)):=rfl
theorem L9(cs:List AV):aB T 29 (.ip cs) 1=some (.ip (cs.drop 1)):=rfl
theorem Lz(cs:List AV):aB T 29 (.ip cs) 2=some (.ip (cs.drop 2)):=rfl
theorem Ma(cs:List AV):aB T 29 (.ip cs) 3=some (.ip (cs.drop 3)):=rfl
theorem Eb(cs:List AV):aB T 29 (.ip cs) 4=some (.ip (cs.drop 4)):=rfl
theorem Mb(cs:List AV):aB T 29 (.ip cs) 5=some (.ip (cs.drop 5)):=rfl
theorem Mc(cs:List AV):aB T 29 (.ip cs) 6=some (.ip (cs.drop 6)):=rfl
theorem L5(cs:List AV):aB T 27 (.ip cs) 0=some (.ip (cs.drop 0)):=rfl
theorem L6(cs:List AV):aB T 27 (.ip cs) 1=some (.ip (cs.drop 1)):=rfl
theorem L8(cs:List AV):aB T 27 (.ip cs) 2=some (.ip (cs.drop 2)):=rfl
theorem LK:aX T 9 (.ip ((af m.av).drop 0))=some (.str m.name):=by simp
theorem Mm:aX T 22 (.ip ((af m.av).drop 1))=some (strs m.uses):=by simp
theorem LL:aX T 23 (.ip ((af m.av).drop 2))=some (aO m.vars):=by simp
theorem Mn:aX T 24 (.ip ((af m.av).drop 3))=some (dC m.init):=by simp
theorem G9:aX T 25 (.ip ((af m.av).drop 4))=some (iC m.funcs):=by simp
theorem Mo:aX T 4 (.ip ((af m.av).drop 5))=some (.bool m.moves):=by simp
theorem Mp:aX T 23 (.ip (((af m.av).drop 6).drop 0))=some (aO m.old):=by simp
theorem Mq:aX T 24 (.ip (((af m.av).drop 6).drop 1))=some (dC m.forward):=by simp
theorem Mr:aX T 24 (.ip (((af m.av).drop 6).drop 2))=some (dC m.back):=by simp
end
theorem Md(cs:List AV):aB T 58 (.ip cs) 0=some (.ip (cs.drop 0)):=rfl
theorem LA(cs:List AV):aB T 58 (.ip cs) 2=some (.ip (cs.drop 2)):=rfl
theorem Mf(cs:List AV):aB T 58 (.ip cs) 3=some (.ip (cs.drop 3)):=rfl
theorem Mg(cs:List AV):aB T 58 (.ip cs) 4=some (.ip (cs.drop 5)):=rfl
theorem MB(cs:List AV):aB T 58 (.ip cs) 5=some (.ip (cs.drop 6)):=rfl
section
variable (f:Fun)
theorem Ms:aX T 9 (.ip ((af f.av).drop 0))=some (.str f.name):=by simp
theorem LM:aX T 23 (.ip ((af f.av).drop 2))=some (aO f.params):=by simp
theorem Mt:aX T 35 (.ip ((af f.av).drop 3))=some f.result.av:=by simp
theorem Mu:aX T 3 (.ip ((af f.av).drop 5))=some (.int .i64 f.effects):=by simp
theorem MG:aX T 56 (.ip ((af f.av).drop 6))=some f.body.av:=by simp
theorem LN:aX T 58 (.ip (af f.av))=some f.av:=by simp
theorem Lr:cy 12 f.av=am f.av:=by simp_all
end
def JX(m:Ap.Mod)(hm:m.Lim)(names:List aQ)(hl:names.length=m.funcs.length):
  ak (L59_0 (ab pg) ak) [.ip (af m.av),strs names,.int .i64 (m.funcs.length:Int)]=am (.bool (ir [] names&&moveF m)):=by
 have h1:¬((m.funcs.length:Int)<(m.funcs.length:Int)):=by omega
 have hfl:=hm.funcs;have hu:=t95 names (by omega);have ho:=t96 m.old 8 (M7 _) (by have:=hm.old;omega) hm.oty;have ho':ab pg 96 [aO m.old,.int .i64 8]=am (.bool (fD m.old 8)):=ho;have hf:=t97 m.forward (by have:=hm.forward;omega) hm.fes;have hb:=t97 m.back (by have:=hm.back;omega) hm.bes;have b1:=hm.old;have b2:=hm.forward;have b3:=hm.back;have w1:IntKind.i64.wrap ((m.old.length:Int)+(m.forward.length:Int))=(m.old.length:Int)+(m.forward.length:Int):=bE (by omega) (by omega);have w2:IntKind.i64.wrap ((m.old.length:Int)+(m.forward.length:Int)+(m.back.length:Int))=(m.old.length:Int)+(m.forward.length:Int)+(m.back.length:Int):=bE (by omega) (by omega);have ee:∀a b:Nat,((a:Int)== (b:Int))=decide (a=b):=fun a b=>by rw[N1];simp
 have e0:(((m.old.length:Int)+(m.forward.length:Int)+(m.back.length:Int))== 0)=decide (m.old.length+m.forward.length+m.back.length=0):=by
  rw[N1,NW,M8];omega
 rw[FL59_0];unfold moveF;cases h2:ir [] names with
 |false=>
  rw[h2]at hu;simp -implicitDefEqProofs only[L59_0,aj,ao,Eb,G9,ae,kc,ax,h1,Nm,ah,M3,Na,hu,ai,bp,Nw,Nj,NG]
 | true=>
  rw[h2]at hu;cases hmv:m.moves with
  |false=>
   have hmv':=Mo m;rw[hmv]at hmv';rw[M9 (by decide)];simp -implicitDefEqProofs only[L59_0,aj,ao,Eb,G9,Mb,hmv',ae,kc,ax,h1,Nm,ah,M3,Na,hu,ai,bp,Nw,Nv,Nj,Mc,L5,L6,L8,Mp,Mq,Mr,cu,fc,ba,w1,w2,dN,e0,Nx]
  |true=>
   have hmv':=Mo m;rw[hmv]at hmv';rw[Nn rfl];simp -implicitDefEqProofs only[L59_0,aj,ao,Lz,LL,Eb,G9,Mb,hmv',ae,kc,ax,h1,Nm,ah,M3,Na,hu,ai,bp,Nw,Nv,Nj,Mc,L5,L6,L8,Mp,Mq,Mr,cu,fc,ho',hf,hb,dN,ee,aF,bJ,Nx]
theorem GZ(m:Ap.Mod)(hm:m.Lim)(hlen:m.funcs.length<=30):∀(n i:Nat),m.funcs.length-i=n->i<=m.funcs.length->
  ak (L59_0 (ab pg) ak) [.ip (af m.av),strs ((m.funcs.take i).map (·.name)),.int .i64 (i:Int)]=am (.bool ((m.funcs.drop i).all sU&&(ir [] (m.funcs.map (·.name))&&moveF m))):=by
 intro n
 induction n with
 |zero=>
  intro i hn hi;obtain rfl:i=m.funcs.length:=by omega
  rw[JX m hm _ (by simp),PE,OE,Pj,Nx]
 |succ n ih=>
  intro i hn hi;have hlt:i<m.funcs.length:=by omega
  have h1:((i:Int)<(m.funcs.length:Int)):=by omega
  have h2:m.funcs.drop i=m.funcs[i]:: m.funcs.drop (i+1):=Ng hlt;have h3:(m.funcs.take (i+1)).map (·.name)=(m.funcs.take i).map (·.name)++[m.funcs[i].name]:=by rw[Pl,Ns hlt,PK];rfl
  have hix:=Bd (l:=m.funcs) (n:=(i:Int)) (by omega) h1;rw[Nb,Nt m.funcs i hlt]at hix;have hw:IntKind.i64.wrap ((i:Int)+1)=((i+1:Nat):Int):=aE (by omega);have ih':=ih (i+1) (by omega) (by omega);rw[h3]at ih';have hfl:=hm.fns m.funcs[i] (Ni hlt);have hp:=t96 m.funcs[i].params 6 (by omega) (by have:=hfl.params;omega) hfl.pty;have hp':ab pg 96 [aO m.funcs[i].params,.int .i64 6]=am (.bool (fD m.funcs[i].params 6)):=hp;have hr:=t54 m.funcs[i].result hfl.result;have hb:=t99 m.funcs[i].body hfl.body;have he:=t98 m.funcs[i].effects 0 15;have hbs:bP T 22 1 [(0,.str m.funcs[i].name)]=some (strs [m.funcs[i].name]):=rfl;have hap:=HZ (a:=(m.funcs.take i).map (·.name)) (b:=[m.funcs[i].name]) (by simp;omega);rw[FL59_0,h2,N0];generalize m.funcs[i]=f at *;rw[show sU f=(fD f.params 6&&bu f.result&&(decide (0<=f.effects)&&decide (f.effects<=15))&&lU f.body)from rfl];cases c1:fD f.params 6<;>rw[c1]at hp'<;>cases c2:bu f.result<;>rw[c2]at hr<;>cases c3:(decide (0<=f.effects)&&decide (f.effects<=15))<;>rw[c3]at he<;>cases c4:lU f.body<;>rw[c4]at hb <;>
  simp -implicitDefEqProofs only[L59_0,aj,ao,Eb,G9,ae,kc,ax,h1,Nf,ah,M3,Na,Nj,hix,LN,Lr,ai,Md,Ms,hbs,hap,LA,LM,hp',bp,Nv,Nw,au,dF,aw,aC,Mf,Mt,hr,Mg,Mu,he,MB,MG,hb,ba,hw,ih',Nx,NG]
def t59(m:Ap.Mod)(hm:m.Lim)(he:∀f∈m.funcs,-9223372036854775808<=f.effects/\f.effects<=9223372036854775807):ab pg 59 [m.av]=am (.bool (jc m)):=by
 rw[<- AY m (fun f hf=>lg (he f hf).1 (he f hf).2)];have hn:=t53 m.name;have hu:=t95 m.uses (by have:=hm.uses;omega);have hv:=t96 m.vars 8 (M7 _) (by have:=hm.vars;omega) hm.vty;have hv':ab pg 96 [aO m.vars,.int .i64 8]=am (.bool (fD m.vars 8)):=hv;have hi:=t97 m.init (by have:=hm.init;omega) hm.ies;have ne:∀a b:Nat,bo T .neq 3 (.int .i64 (a:Int)) (.int .i64 (b:Int))=some (.bool (!(decide (a=b)))):=fun a b=>by
  show some (AV.bool ((a:Int) != (b:Int)))=_;congr 2;by_cases h:a=b<;>simp[h,bne]
 have g12:bo T .gtr 3 (.int .i64 (m.uses.length:Int)) (.int .i64 12)=some (.bool (!(decide (m.uses.length<=12)))):=by
  show some (AV.bool (decide ((12:Int)<(m.uses.length:Int))))=_;congr 2;by_cases h:m.uses.length<=12
  ·rw[NJ h,NV (by omega)];rfl
  ·rw[NV h,NJ (by omega)];rfl
 have g30:bo T .gtr 3 (.int .i64 (m.funcs.length:Int)) (.int .i64 30)=some (.bool (!(decide (m.funcs.length<=30)))):=by
  show some (AV.bool (decide ((30:Int)<(m.funcs.length:Int))))=_;congr 2;by_cases h:m.funcs.length<=30
  ·rw[NJ h,NV (by omega)];rfl
  ·rw[NV h,NJ (by omega)];rfl
 rw[C59];have hcl:cl aA m.av=m.av:=by simp
 have run:S59 (ab pg) ak m.av=am (.bool (uw m)):=by
  have hor:∀a b:Bool,(!a||!b)= !(a&&b):=fun a b=>by cases a<;>cases b<;>rfl
  unfold uw Ca;cases hh:(bg m.name&&decide (m.uses.length<=12)&&ir [] m.uses&&fD m.vars 8&&decide (m.init.length=m.vars.length)&&m.init.all lU&&decide (m.funcs.length<=30))with
  |false=>
   simp -implicitDefEqProofs only[S59,Ly,L9,Lz,Ma,Eb,LK,Mm,LL,Mn,G9,ae,hn,ai,bp,gp,cu,fc,kc,g12,aF,aj,cX,hu,hv',ne,hi,g30,hor,hh,Nw,ah,Nj,NG]
  | true=>
   have hf30:m.funcs.length<=30:=by
    rw[M5,M8]at hh;exact hh.2
   have hl:=GZ m hm hf30 m.funcs.length 0 rfl (Nz _);rw[NM,Nk]at hl;have hl':ak (L59_0 (ab pg) ak) [.ip (af m.av),.sl [],.int .i64 0]=_:=hl;simp -implicitDefEqProofs only[S59,Ly,L9,Lz,Ma,Eb,LK,Mm,LL,Mn,G9,ae,hn,ai,bp,gp,cu,fc,kc,g12,aF,aj,cX,hu,hv',ne,hi,g30,hor,hh,Nv,ah,M3,Na,hl',Nx]
 rw[hcl,run];exact i6 _
def wd{m:M AV}{v r:AV}{h':Hp}(e:m []= .ok v h')(f:gG 6 h' v=r):aP m=am r:=by
 funext hp;unfold aP;rw[e];show R.ok (gG 6 h' v) hp=R.ok r hp;rw[f]
def A3(x:Sig):(af x.av).length=5:=by simp
def pK(h:Hp)(v:AV)(l:List Sig):Prop:=(l=[]/\v= .hn)\/(l≠[]/\∃q,v= .hs q 0 l.length 5 true/\h[q]? = some (rowOf Sig.av l))
theorem yl:(l:List Sig)->(rowOf Sig.av l).all bh=true
 |[]=>rfl
 |f:: l=>by
  rw[kC,List.all_append,yl l,Pp,ca];rfl
def uQ{h:Hp}{v:AV}{l:List Sig}(A:pK h v l)(hl:l.length<=1000000)(s:Sig):∃v' h',appH T 30 false v (sigs [s]) h= .ok v' h'/\pK h' v' (l++[s])/\cw v'=am v':=by
 rcases A with⟨rfl,rfl⟩|⟨hne,q,rfl,hq⟩
 ·have e2:=JC (T:=T) (t:=30) (e:=37) rfl rfl rfl (x:=s.av) (nv s) (by decide) (by decide) (by decide) h;refine⟨_,_,e2,.inr ⟨by simp,h.length,rfl,?_⟩,rfl⟩;simp[rowOf]
 ·have hln:=dI (f:=Sig.av) A3 l;have e2:=JD (T:=T) (t:=30) (e:=37) rfl rfl rfl (x:=s.av) (nv s) (by decide) (by decide) hq (yl l) hln (Oh.2 hne) (show (l.length+1)*80<=140737488355328 by omega);refine⟨_,_,e2,.inr ⟨by simp,h.length,by grind,?_⟩,rfl⟩;simp[rowOf]
theorem EM(V:List AV->M AV)(m:Ap.Mod)(f:Fun)(hf:FunOk f)(i:Nat)(hv x3 x4:AV)(h:Hp):∀(k j:Nat)(acc:List Ty),f.params.length-j=k->j<=f.params.length->acc.length<=j->
  ak (L18_0 (ab pg) ak V) [iC m.funcs,.int .i64 m.funcs.length,.int .i64 i,aO f.params,.int .i64 f.params.length,.int .i64 j,x3,x4,.str m.name,hv,.str f.name,ig acc,.int .i64 f.result.kind,aO f.result.fields,.int .i64 f.effects] h=ap (appH T 30 false hv (sigs [⟨f.name,acc++(f.params.drop j).map (·.2),f.result,f.effects⟩])) (fun v=>ap (cw v) fun _=>V [iC m.funcs,.int .i64 m.funcs.length,.int .i64 (IntKind.i64.wrap ((i:Int)+1)),x3,x4,.str m.name,v]) h:=by
 have hpl:=hf.plen;intro k
 induction k with
 |zero=>
  intro j acc hk hj ha;have h1:¬((j:Int)<(f.params.length:Int)):=by omega
  have h2:f.params.drop j=[]:=Nc (by omega);have b1:bP T 30 1 [(0,.agg [.str f.name,ig acc,.int .i64 f.result.kind,aO f.result.fields,.int .i64 f.effects])]=some (sigs [⟨f.name,acc,f.result,f.effects⟩]):=rfl;rw[FL18_0,h2];simp only[L18_0,aj,ao,ax,ae,h1,Nm,ah,M3,Na,b1,ba,PD,Og]
 |succ k ih=>
  intro j acc hk hj ha;have hlt:j<f.params.length:=by omega
  have h1:(j:Int)<(f.params.length:Int):=by omega
  have h2:f.params.drop j=f.params[j]:: f.params.drop (j+1):=Ng hlt;have hw:IntKind.i64.wrap ((j:Int)+1)=(j:Int)+1:=aE (by omega);have hix:=kK (l:=f.params) (n:=(j:Int)) (by omega) h1;rw[Nb,Nt f.params j hlt]at hix;have hcl:=t49 f.params[j].2 (hf.pars _ (Ni hlt));have ih':=ih (j+1) (acc++[f.params[j].2]) (by omega) (by omega) (by simp;omega);have hap:=Dw (a:=acc) (b:=[f.params[j].2]) (by simp;omega);rw[h2,NL];generalize f.params[j]=z at hix hcl hap ih' |-;have hsl:bP T 33 1 [(0,z.2.av)]=some (ig [z.2]):=by cases z.2;rfl
  have hc1:∀l:List Ty,cw (ig l)=am (ig l):=fun l=>rfl;rw[show acc++z.2:: (f.params.drop (j+1)).map (·.2)=acc++[z.2]++(f.params.drop (j+1)).map (·.2) by simp,<- ih'];generalize hcode:ak (L18_0 (ab pg) ak V) [iC m.funcs,.int .i64 m.funcs.length,.int .i64 i,aO f.params,.int .i64 f.params.length,.int .i64 j,x3,x4,.str m.name,hv,.str f.name,ig acc,.int .i64 f.result.kind,aO f.result.fields,.int .i64 f.effects] h=code;rw[FL18_0]at hcode;simp -implicitDefEqProofs only[L18_0,aj,ao,ax,ae,h1,Nf,ah,Nj,hix,ck,LD54,Nr,Nu,NB,Nat.reduceAdd,M7,NI,NM,lk,mn,ai,FA54_1,NH,Nk,LD35,cq,hcl,bQ,hsl,hap,hc1,ba,hw]at hcode
  grind
theorem EN(m:Ap.Mod)(MK:ModOk m):∀(k i:Nat)(hv x3 x4:AV)(h:Hp),m.funcs.length-i=k->i<=m.funcs.length->pK h hv (eQ (m.funcs.take i))->
  ∃hv' h',pK h' hv' (eQ m.funcs)/\ak (L18_1 (ab pg) ak) [iC m.funcs,.int .i64 m.funcs.length,.int .i64 i,x3,x4,.str m.name,hv] h=ap (ab pg 56 [hv',.fn (.func 57) [] []]) (fun _=>ap (aI 2 [] (.agg [.str m.name,hv'])) fun v=>am (.agg [aa (af v) 0,aa (af v) 1])) h':=by
 have hfl:=MK.flen;intro k
 induction k with
 |zero=>
  intro i hv x3 x4 h hk hi A;have h1:¬((i:Int)<(m.funcs.length:Int)):=by omega
  have h2:m.funcs.take i=m.funcs:=Od (by omega);rw[h2]at A;refine⟨hv,h,A,?_⟩;rw[FL18_1];simp only[L18_1,aj,ao,ax,ae,h1,Nm,ah,M3,Na]
 | succ k ih=>
  intro i hv x3 x4 h hk hi A;have hlt:i<m.funcs.length:=by omega
  have h1:(i:Int)<(m.funcs.length:Int):=by omega
  have hw:IntKind.i64.wrap ((i:Int)+1)=((i+1:Nat):Int):=aE (by omega);have hix:=Bd (l:=m.funcs) (n:=(i:Int)) (by omega) h1;rw[Nb,Nt m.funcs i hlt]at hix;have hf:=MK.fns _ (Ni hlt);have ht:m.funcs.take (i+1)=m.funcs.take i++[m.funcs[i]]:=OX hlt;have ih0:=ih (i+1);rw[ht]at ih0;have cf:∀f:Fun,cy 12 f.av=am f.av:=fun f=>by simp_all
  rw[FL18_1];generalize m.funcs[i]=f at hix hf ih0 |-;cases hp:f.pub with
  |false=>
   have e:eQ (m.funcs.take i++[f])=eQ (m.funcs.take i):=by simp[eQ,hp]
   rw[e]at ih0;obtain⟨hv',h',A',e'⟩:=ih0 hv x3 x4 h (by omega) (by omega) A;refine⟨hv',h',A',?_⟩;rw[<- e'];simp[L18_1,h1,hix,cf,hw];simp[hp]
  | true=>
   have e:eQ (m.funcs.take i++[f])=eQ (m.funcs.take i)++[wS f]:=by simp[eQ,hp]
   rw[e]at ih0;have hlen:(eQ (m.funcs.take i)).length<=1000000:=by
    have:(eQ (m.funcs.take i)).length<=(m.funcs.take i).length:=by
     unfold eQ;rw[N7];exact O4 _ _
    rw[N8]at this;omega
   obtain⟨v1,h1',e1,A1,c1⟩:=uQ A hlen (wS f);obtain⟨hv',h',A',e'⟩:=ih0 v1 x3 x4 h1' (by omega) (by omega) A1;refine⟨hv',h',A',?_⟩;rw[<- e'];have hin:=EM (ak (L18_1 (ab pg) ak)) m f hf i hv x3 x4 h f.params.length 0 [] rfl (Nz _) (Nz _);rw[hw]at hin;have hin2:ak (L18_0 (ab pg) ak (ak (L18_1 (ab pg) ak))) [iC m.funcs,.int .i64 m.funcs.length,.int .i64 i,aO f.params,.int .i64 f.params.length,.int .i64 0,x3,x4,.str m.name,hv,.str f.name,.sl [],.int .i64 f.result.kind,aO f.result.fields,.int .i64 f.effects] h=ak (L18_1 (ab pg) ak) [iC m.funcs,.int .i64 m.funcs.length,.int .i64 ((i+1:Nat):Int),x3,x4,.str m.name,v1] h1':=by
    refine hin.trans ?_;show ap (appH T 30 false hv (sigs [wS f])) _ h=_;rw[dc e1,c1,ai]
   have hcl:=t49 f.result hf.res;have bs1:∀(k:Int)(x:List cO)(e:Int),cv T true 37 [(0,.str f.name),(2,(Ty.mk k x).av),(3,.int .i64 e)]=some (.agg [.str f.name,.hn,.int .i64 k,aO x,.int .i64 e]):=fun k x e=>rfl;have bs2:cv T true 37 [(0,.str f.name),(2,f.result.av),(3,.int .i64 f.effects)]=some (.agg [.str f.name,.hn,.int .i64 f.result.kind,aO f.result.fields,.int .i64 f.effects]):=by
    have:=bs1 f.result.kind f.result.fields f.effects
    rwa [Ty.eta]at this
   have bs3:aI 5 [1] (.agg [.str f.name,.hn,.int .i64 f.result.kind,aO f.result.fields,.int .i64 f.effects])=am (.agg [.str f.name,.hn,.int .i64 f.result.kind,aO f.result.fields,.int .i64 f.effects]):=rfl;rw[<- hin2];simp[L18_1,h1,hix,cf,hcl,bs2,bs3];simp[hp]
theorem sI(l:List Sig)(i:Nat)(hi:i<l.length):eG 5 (rowOf Sig.av l) i=af l[i].av:=dV A3 l i hi
def yx(l:List Sig):rowOf Sig.av l=(l.map fun s=>af s.av).flatten:=by
 unfold rowOf;rw[List.flatMap_def,O1];rfl
theorem lY(l:List Sig):(eZ l).length=l.length:=(je l).length_eq
theorem zJ{h:Hp}{hv:AV}{l:List Sig}(A:pK h hv l)(hl:l.length<=1000):∃h',ab pg 56 [hv,.fn (.func 57) [] []] h= .ok (.tup []) h'/\pK h' hv (eZ l):=by
 have e0:ab pg 56 [hv,.fn (.func 57) [] []]=gH 5 57 (ab pg) [hv,.fn (.func 57) [] []]:=cE hOther rfl _;rw[e0];rcases A with⟨rfl,rfl⟩|⟨hne,q,rfl,hq⟩
 ·exact⟨h,rfl,.inl ⟨NN (lY []),rfl⟩⟩
 ·have hln:=dI (f:=Sig.av) A3 l;have hpos:0<l.length:=Oh.2 hne;have hrow:((rowOf Sig.av l).drop 0).take (l.length*5)=rowOf Sig.av l:=by rw[Nk,<- hln];exact OE
  have hkeys:keysOf 5 l.length (rowOf Sig.av l)=some (l.map (·.name)):=by
   unfold keysOf;have e:(List.range l.length).map (fun i=>eG 5 (rowOf Sig.av l) i)=l.map fun s=>af s.av:=by
    apply Pr
    ·simp
    ·grind [sI]
   rw[e]
   have:=wi (nm:=fun c=>match c with|.str s:: _=>s|_=>[]) (cs:=l.map fun s=>af s.av) (fun c hc=>by
    obtain⟨s,_,rfl⟩:=Ou.1 hc;rfl)
   rw[this,O1];rfl
  have hpl:(gn (l.map (·.name))).length=l.length:=by
   have:=(q7 (l.map (·.name))).1.length_eq
   simpa using this
  have hflat:((gn (l.map (·.name))).map fun i=>eG 5 (rowOf Sig.av l) (i % l.length)).flatten=rowOf Sig.av (eZ l):=by
   rw[yx (eZ l)];unfold eZ;rw[O1];congr 1;apply OK;intro i _;have hm:=PO i hpos;simp only[Function.comp];rw[sI l _ hm,Nt l _ hm]
  have hlen2:(rowOf Sig.av (eZ l)).length=(rowOf Sig.av l).length:=by rw[dI (f:=Sig.av) A3,lY,hln]
  have hset:setCells (rowOf Sig.av l) 0 (rowOf Sig.av (eZ l))=rowOf Sig.av (eZ l):=by
   unfold setCells;rw[NM,NF,NB,hlen2,PE,Og]
  have hok:=yl l;refine⟨h.set q (rowOf Sig.av (eZ l)),?_,.inr ⟨fun e=>hne (by grind [lY]),q,by rw[lY],Po (N6.1 hq).1⟩⟩;unfold gH;simp only[hq,hrow,hkeys,hflat,hset];have hb:Nat.beq 57 57=true:=rfl;have hb5:Nat.beq 5 5=true:=rfl
  grind
theorem MH(m:Ap.Mod)(hm:m.Lim):ab pg 18 [m.av]=am (EH m).av:=by
 have hR:=t55 m hm;have lm:aX T 29 (.ip (af m.av))=some m.av:=rfl;simp only[gx]at lm;rw[C18,nW];unfold EH;by_cases hr:jc m=true
 ·rw[hr]at hR;rw[Nn hr];have MK:=yj hr;obtain⟨hv,h',A,e'⟩:=EN m MK m.funcs.length 0 .hn (.str []) (.sl []) [] rfl (Nz _) (.inl ⟨rfl,rfl⟩);have hpl:(eQ m.funcs).length<=1000:=by
   have:(eQ m.funcs).length<=m.funcs.length:=by
    unfold eQ;rw[N7];exact O4 _ _
   have:=MK.flen
   omega
  obtain⟨h2,e2,A2⟩:=zJ A hpl;have b1:cv T true 32 [(0,.str m.name)]=some (.agg [.str m.name,.hn]):=rfl;have b2:aI 2 [1] (.agg [.str m.name,.hn])=am (.agg [.str m.name,.hn]):=rfl;have b2':aI 2 [] (.agg [.str m.name,.hn])=am (.agg [.str m.name,.hn]):=rfl;have hcn:aI 2 [] (.agg [.str m.name,hv])=am (.agg [.str m.name,hv]):=by
   rcases A2 with⟨_,rfl⟩|⟨_,q,rfl,_⟩
   ·rfl
   ·exact fW rfl
  have hfz:gG 6 h2 (.agg [.str m.name,hv])=(Face.mk m.name (eZ (eQ m.funcs))).av:=by
   rcases A2 with⟨e,rfl⟩|⟨_,q,rfl,hq⟩
   ·rw[e];rfl
   ·have hfr:=lL (f:=Sig.av) A3 (fun x=>by simp_all) (fun x g=>iS g x) (by decide) hq 5;have e:(Face.mk m.name (eZ (eQ m.funcs))).av= .agg [.str m.name,.sl ((eZ (eQ m.funcs)).map Sig.av)]:=rfl;rw[e,<- hfr];rfl
  refine wd (v:=.agg [.str m.name,hv]) (h':=h2) ?_ hfz;have e'':ak (L18_1 (ab pg) ak) [iC m.funcs,.int .i64 m.funcs.length,.int .i64 0,.str [],.sl [],.str m.name,.hn] []= .ok (.agg [.str m.name,hv]) h2:=by
   refine e'.trans ?_;rw[dc e2,hcn];rfl
  simp[S18,lm,hR,b1,b2,b2',e'']
 ·rw[M9 hr];rw[OG]at hr;rw[hr]at hR;have b1:cv T false 32 []=some lh.av:=rfl;have b2:aI 2 [] lh.av=am lh.av:=rfl;have hfz:gG 6 [] lh.av=lh.av:=rfl;simp_all[S18]
def LF{l:List cO}{i:Nat}(h:i<l.length):aL T 23 (aO l) (.int .i64 (i:Int))=some (.ip (af (bm l[i]))):=by
 have hix:=kK (l:=l) (n:=(i:Int)) (by omega) (by omega);rw[Nb,Nt l i h]at hix;exact hix
def GT(t:Ty)(hl:t.fields.length<=8)(hk:∀f∈t.fields,f.1.length<=20/\ab pg 35 [f.2.av]=am (.str (bT f.2))/\(bT f.2).length<=2000000):∀(n i:Nat),t.fields.length-i=n->i<=t.fields.length->∀s:aQ,s.length+n*3000000<=1000000000->
  ak (L35_0 (ab pg) ak) [.ip (af t.av),.str s,.int .i64 (i:Int)]=am (.str (s++(t.fields.drop i).flatMap d7)):=by
 intro n
 induction n with
 |zero=>
  intro i hn hi s hs;have g:¬((i:Int)<(t.fields.length:Int)):=by omega
  have hd:t.fields.drop i=[]:=Nc (by omega);rw[FL35_0,hd];simp only[L35_0,aj,ao,fT1,Ej,ae,cu,ax,g,Nm,ah,M3,Na,OW,Og]
 | succ n ih=>
  intro i hn hi s hs;have hlt:i<t.fields.length:=by omega
  have g:((i:Int)<(t.fields.length:Int)):=by omega
  have hd:t.fields.drop i=t.fields[i]:: t.fields.drop (i+1):=Ng hlt;obtain⟨k1,k2,k3⟩:=hk t.fields[i] (Ni hlt);have hix:=LF hlt;have hw:IntKind.i64.wrap ((i:Int)+1)=((i+1:Nat):Int):=aE (by omega);have l1:=gk k1;have hT:=t33 t.fields[i].1 (by omega);have c1:=jg s (eD t.fields[i].1) (by omega);have c2:=jg (s++eD t.fields[i].1) (bT t.fields[i].2) (by simp;omega);have ih':=ih (i+1) (by omega) (by omega) (s++eD t.fields[i].1++bT t.fields[i].2) (by simp;omega);have e:s++(t.fields[i]:: t.fields.drop (i+1)).flatMap d7=s++eD t.fields[i].1++bT t.fields[i].2++(t.fields.drop (i+1)).flatMap d7:=by
   rw[Ol,gE];simp
  rw[FL35_0,hd,e,<- ih'];generalize t.fields[i]=f at *;simp only[L35_0,aj,ao,fT1,Ej,ae,cu,ax,g,Nf,ah,Nj,hix,fF0,Kk,hT,bQ,ai,c1,fF1,K0,k2,c2,ba,hw]
theorem t35:∀(d:Nat),d<=4->∀(t:Ty),bw d t=true->ab pg 35 [t.av]=am (.str (bT t))
 |0,_,t,hr=>by simp[bw]at hr
 | d+1,hd,t,hr=>by
  have hr0:=hr;rw[cG]at hr;simp only[M5,M8,NU,NW,Nl]at hr;obtain⟨⟨⟨⟨h0,h1⟩,h2⟩,h3⟩,h4,_⟩:=hr;have n1:=t34 t.kind (by omega) (by omega);have l1:=ew t.kind;rw[C35,jI,ka];by_cases hk:t.kind=2
  ·have hk':(t.kind != 2)=false:=by rw[hk];rfl
   have n2:=t34 (t.fields.length:Int) (by omega) (by omega);have l2:=ew (t.fields.length:Int);have c1:=jg (bW t.kind) (bW t.fields.length) (by omega);have hl:=GT t h2 (fun f hf=>⟨cL (h4 f hf).1,t35 d (by omega) f.2 (h4 f hf).2,by
    have:=lD d f.2 (by omega) (h4 f hf).2
    exact NK this (NK (Nat.mul_le_mul_left 200 (Nat.pow_le_pow_right (by omega) (show d<=4 by omega))) (by decide))⟩) t.fields.length 0 rfl (by omega) (bW t.kind++bW t.fields.length) (by simp;omega)
   rw[Nn hk];have hl':ak (L35_0 (ab pg) ak) [.ip (af t.av),.str (bW t.kind++bW t.fields.length),.int .i64 0]=am (.str (bW t.kind++bW t.fields.length++t.fields.flatMap d7)):=by
    rw[Nk]at hl;exact hl
   simp only[S35,fT0,ae,Ei,n1,ai,nq,hk',ah,M3,Na,fT1,Ej,cu,n2,c1,hl'];rw[xV,OA]
  ·have hk':(t.kind != 2)=true:=by rw[OR];exact hk
   rw[M9 hk,Og];simp only[S35,fT0,ae,Ei,n1,ai,nq,hk',ah,Nj];exact xV _
def rD{t:Ty}(h:bu t=true):(bT t).length<=2000000:=by
 have:=lD 4 t (by decide) h
 omega
def KZ{l:List Ty}{i:Nat}(h:i<l.length):aL T 33 (ig l) (.int .i64 (i:Int))=some (.ip (af l[i].av)):=by
 have hix:=uN (l:=l) (n:=(i:Int)) (by omega) (by omega);rw[Nb,Nt l i h]at hix;exact hix
def KY{l:List Sig}{i:Nat}(h:i<l.length):aL T 30 (sigs l) (.int .i64 (i:Int))=some (.ip (af l[i].av)):=by
 have hix:=pM (l:=l) (n:=(i:Int)) (by omega) (by omega);rw[Nb,Nt l i h]at hix;exact hix
def Ew(fs:AV)(x:Sig)(q:Nat)(hq:q<=1000)(v:List AV->M AV)(hl:x.params.length<=6)(hp:∀t∈x.params,bu t=true)(hr:bu x.result=true)(he:-9223372036854775808<=x.effects/\x.effects<=9223372036854775807):∀(n i:Nat),x.params.length-i=n->i<=x.params.length->∀s:aQ,s.length+n*3000000+3000000<=2000000000->
  ak (L9_0 (ab pg) ak v) [fs,.str s,.int .i64 (q:Int),.ip (af x.av),.int .i64 (i:Int)]=v [fs,.str (s++(x.params.drop i).flatMap bT++bT x.result++bW x.effects),.int .i64 ((q+1:Nat):Int)]:=by
 intro n
 induction n with
 |zero=>
  intro i hn hi s hs;have g:¬((i:Int)<(x.params.length:Int)):=by omega
  have hd:x.params.drop i=[]:=Nc (by omega);have h1:=t35 4 (M7 _) x.result hr;have h2:=t34 x.effects he.1 he.2;have l1:=rD hr;have l2:=ew x.effects;have c1:=jg s (bT x.result) (by omega);have c2:=jg (s++bT x.result) (bW x.effects) (by rw[Np];exact NK (Nat.add_le_add (Nat.add_le_add_left l1 _) l2) (by omega));have hw:IntKind.i64.wrap ((q:Int)+1)=((q+1:Nat):Int):=aE (by omega);rw[FL9_0,hd];simp only[L9_0,aj,ao,fS1,Az,ae,ej,ax,g,Nm,ah,M3,Na,OW,Og,fS2,GI,h1,bQ,ai,c1,fS3,Km,h2,c2,ba,hw]
 | succ n ih=>
  intro i hn hi s hs;have hlt:i<x.params.length:=by omega
  have g:((i:Int)<(x.params.length:Int)):=by omega
  have hd:x.params.drop i=x.params[i]:: x.params.drop (i+1):=Ng hlt;have hpi:=hp x.params[i] (Ni hlt);have h1:=t35 4 (M7 _) x.params[i] hpi;have l1:=rD hpi;have c1:=jg s (bT x.params[i]) (by omega);have hix:=KZ hlt;have hw:IntKind.i64.wrap ((i:Int)+1)=((i+1:Nat):Int):=aE (by omega);have ih':=ih (i+1) (by omega) (by omega) (s++bT x.params[i]) (by rw[Np];omega);have e:s++(x.params[i]:: x.params.drop (i+1)).flatMap bT=s++bT x.params[i]++(x.params.drop (i+1)).flatMap bT:=by
   rw[Ol];simp
  rw[FL9_0,hd,e,<- ih'];generalize x.params[i]=t at *;simp only[L9_0,aj,ao,fS1,Az,ae,ej,ax,g,Nf,ah,Nj,hix,HF,h1,ai,c1,ba,hw]
def Ex(f:Face)(hl:f.funcs.length<=30)(hf:∀s∈f.funcs,cH s=true/\tQ s):∀(n i:Nat),f.funcs.length-i=n->i<=f.funcs.length->∀s:aQ,s.length+n*16000000<=1000000000->
  ak (L9_1 (ab pg) ak) [.ip (af f.av),.str s,.int .i64 (i:Int)]=am (.tup [.str (s++(f.funcs.drop i).flatMap gh),.int .i64 0]):=by
 intro n
 induction n with
 |zero=>
  intro i hn hi s hs;have g:¬((i:Int)<(f.funcs.length:Int)):=by omega
  have hd:f.funcs.drop i=[]:=Nc (by omega);rw[FL9_1,hd];simp only[L9_1,aj,ao,fA1,Ay,ae,eJ,ax,g,Nm,ah,M3,Na,OW,Og]
 | succ n ih=>
  intro i hn hi s hs;have hlt:i<f.funcs.length:=by omega
  have g:((i:Int)<(f.funcs.length:Int)):=by omega
  have hd:f.funcs.drop i=f.funcs[i]:: f.funcs.drop (i+1):=Ng hlt;obtain⟨hr,he⟩:=hf f.funcs[i] (Ni hlt);have lsig:=zD hr;have hr':=hr;unfold cH at hr';simp only[M5,M8,Nl]at hr';obtain⟨⟨⟨⟨h1,h2⟩,_⟩,h4⟩,h5⟩:=hr';have hnl:=cL h1;have l1:=gk hnl;have l2:=ew (f.funcs[i].params.length:Int);have hT:=t33 f.funcs[i].name (by omega);have hN:=t34 (f.funcs[i].params.length:Int) (by omega) (by omega);have c1:=jg s (eD f.funcs[i].name) (by omega);have c2:=jg (s++eD f.funcs[i].name) (bW f.funcs[i].params.length) (by rw[Np];omega);have hix:=KY hlt;have e:s++(f.funcs[i]:: f.funcs.drop (i+1)).flatMap gh=s++gh f.funcs[i]++(f.funcs.drop (i+1)).flatMap gh:=by
   rw[Ol];simp
  have ih':=ih (i+1) (by omega) (by omega) (s++gh f.funcs[i]) (by rw[Np];omega);have hin:=Ew (.ip (af f.av)) f.funcs[i] i (by omega) (ak (L9_1 (ab pg) ak)) h2 h5 h4 he f.funcs[i].params.length 0 rfl (by omega) (s++eD f.funcs[i].name++bW f.funcs[i].params.length) (by simp only[Np];omega);rw[Nk,show s++eD f.funcs[i].name++bW f.funcs[i].params.length++f.funcs[i].params.flatMap bT++bT f.funcs[i].result++bW f.funcs[i].effects=s++gh f.funcs[i] by simp[gh]]at hin;rw[FL9_1,hd,e,<- ih',<- hin];generalize f.funcs[i]=x at *;simp only[L9_1,aj,ao,fA1,Ay,ae,eJ,ax,g,Nf,ah,Nj,hix,GJ,mo,ai,fS0,Kl,hT,bQ,c1,fS1,Az,ej,hN,c2];rfl
def t9(f:Face)(hL:f.Lim)(he:∀s∈f.funcs,tQ s):ab pg 9 [f.av]=am (.tup [.str (fk f).1,.int .i64 (fk f).2]):=by
 have hR:=t17 f hL he;rw[C9,eM];unfold fk;cases hr:cI f with
 | false=>
  rw[hr]at hR;have e:S9 (ab pg) ak f.av=am (.tup [.str [],.int .i64 1]):=by
   simp only[S9,HE,ae,hR,ai,bp,Nw,ah,Nj]
  rw[e];exact bD fun g=>rfl
 | true=>
  rw[hr]at hR;have hr':=hr;unfold cI at hr';simp only[M5,M8,Nl]at hr';obtain⟨⟨h1,h2⟩,h3,_⟩:=hr';have hnl:=cL h1;have hwt:=t33 f.module (by omega);have n1:=t34 (f.funcs.length:Int) (by omega) (by omega);have l1:=gk hnl;have l2:=ew (f.funcs.length:Int);have hc:=jg (eD f.module) (bW f.funcs.length) (by omega);have hl:=Ex f h2 (fun s hs=>⟨h3 s hs,he s hs⟩) f.funcs.length 0 rfl (by omega) (eD f.module++bW f.funcs.length) (by rw[Np];omega);have hl':ak (L9_1 (ab pg) ak) [.ip (af f.av),.str (eD f.module++bW f.funcs.length),.int .i64 0]=am (.tup [.str (iV f),.int .i64 0]):=by
   rw[Nk]at hl;exact hl
  rw[Nn rfl];have key:S9 (ab pg) ak f.av=am (.tup [.str (iV f),.int .i64 0]):=by
   simp only[S9,HE,ae,hR,ai,bp,Nv,ah,M3,Na,fA0,fA1,HD,Ay,hwt,bQ,eJ,n1,hc,hl']
  rw[key];exact bD fun g=>rfl
section
variable (f:Fun)
theorem Me(cs:List AV):aB T 58 (.ip cs) 1=some (.ip (cs.drop 1)):=rfl
theorem MF:aX T 4 (.ip ((af f.av).drop 1))=some (.bool f.pub):=by simp
end
def Mh(a b:aQ):bo T .gtr 9 (.str a) (.str b)=some (.bool (aG b a)):=by
 show some (AV.bool (dp b a))=_;congr 2;rw[N1];exact pQ b a
def uB{A B C c:List AV}(h:B.length=c.length):setCells (A++B++C) A.length c=A++c++C:=by
 have e:(A++(B++C)).drop (A.length+B.length)=C:=by rw[<- OA,<- Np,List.drop_left]
 unfold setCells;rw[<- h,OA A B C,e,List.take_left,OA]
def iD(P:List Sig)(g:Sig)(k:Nat):List Sig:=P.take k++g:: P.drop k
def yZ(P:List Sig)(g:Sig)(k:Nat):(iD P g k).length=P.length+1:=by unfold iD;simp;omega
def zv(P:List Sig)(g:Sig)(k:Nat):rowOf Sig.av (iD P g k)=rowOf Sig.av (P.take k)++af g.av++rowOf Sig.av (P.drop k):=by
 unfold iD rowOf;simp
def sY{q:Nat}{h:Hp}{P:List Sig}{g:Sig}{k:Nat}(hk:k<=P.length)(hq:h[q]? = some (rowOf Sig.av (iD P g k)))(s:Sig):
  da T 37 (.hp q (0+k*5)) s.av h= .ok (.tup []) (h.set q (rowOf Sig.av (iD P s k))):=by
 have hlen:=dI (f:=Sig.av) A3 (iD P g k);rw[yZ]at hlen;have hl2:=dI (f:=Sig.av) A3 (P.take k);rw[N8,Pf hk]at hl2;rw[pG (T:=T) (t:=37) rfl hq (nv s) (show 0+k*5+5<=_ by omega) (by decide),zv,zv,NB,<- hl2,uB (by rw[A3,A3])]
def Cc{q:Nat}{h:Hp}{L:List Sig}{k:Nat}(hk:k<L.length)(hq:h[q]? = some (rowOf Sig.av L)):eI T 37 (.hp q (0+k*5)) h= .ok L[k].av h:=by
 have hlen:=dI (f:=Sig.av) A3 L;rw[ov (T:=T) (t:=37) rfl rfl hq (show 0+k*5+5<=_ by omega)];show R.ok (AV.agg (((rowOf Sig.av L).drop (0+k*5)).take 5)) h=_;rw[NB,dV A3 L k hk,ca,fF]
def Cd{q:Nat}{h:Hp}{L:List Sig}{k:Nat}(hk:k<L.length)(hq:h[q]? = some (rowOf Sig.av L)):eI T 9 (.hp q (0+k*5)) h= .ok (.str L[k].name) h:=by
 have hc:=dV A3 L k hk;have hg:(rowOf Sig.av L)[0+k*5]? = some (.str L[k].name):=by
  have:=Nq (·[0]?) hc
  simp only[Oa,Ox,ca]at this;simpa using this
 exact t6 (T:=T) (t:=9) rfl rfl hq hg
theorem Eh{q n i:Nat}(h:i<n):aL T 30 (.hs q 0 n 5 true) (.int .i64 (i:Int))=some (.hp q (0+i*5)):=by
 have e:aL T 30 (.hs q 0 n 5 true) (.int .i64 (i:Int))=if 0<=(i:Int)/\(i:Int)<(n:Int)then some (.hp q (0+(i:Int).toNat*5))else none:=rfl;rw[e,Nn (by omega),Nb]
def Ec{P:List Sig}{g:Sig}{k:Nat}(hk:k<P.length):∀h:k<(iD P g (k+1)).length,(iD P g (k+1))[k]=P[k]:=by
 intro h;simp only[iD,List.getElem_append,N8];rw[dif_pos (by omega)];exact List.getElem_take
def Aj{P:List Sig}{k:Nat}(hk:k<P.length):iD P P[k] (k+1)=iD P P[k] k:=by
 unfold iD;have e1:P.take (k+1)=P.take k++[P[k]]:=by rw[Pl,Ns hk];rfl
 have e2:P.drop k=P[k]:: P.drop (k+1):=Ng hk;rw[e1,e2,OA];rfl
def Ee(V:List AV->M AV)(m0:AV)(i:Nat)(x3 x4:AV)(nm:aQ)(s:Sig)(P:List Sig)(hb:P.length<=1000)(q:Nat):∀(k:Nat)(g:Sig)(h:Hp),k<=P.length->h[q]? = some (rowOf Sig.av (iD P g k))->
  ∃h',h'[q]? = some (rowOf Sig.av (eH s P k))/\ak (L19_0 (ab pg) ak V) [m0,.int .i64 (i:Int),.int .i64 (k:Int),x3,x4,.str nm,.hs q 0 (P.length+1) 5 true,.str s.name,ig s.params,.int .i64 s.result.kind,aO s.result.fields,.int .i64 s.effects] h=V [m0,.int .i64 (i:Int),x3,x4,.str nm,.hs q 0 (P.length+1) 5 true] h':=by
 have hend:∀(k:Nat)(g:Sig)(h:Hp),k<=P.length->h[q]? = some (rowOf Sig.av (iD P g k))->(ap (bF (aL T 30 (.hs q 0 (P.length+1) 5 true) (.int .i64 (k:Int)))) fun v69=>ap (da T 37 v69 (.agg [.str s.name,ig s.params,.int .i64 s.result.kind,aO s.result.fields,.int .i64 s.effects])) fun _=>V [m0,.int .i64 (i:Int),x3,x4,.str nm,.hs q 0 (P.length+1) 5 true]) h=
   V [m0,.int .i64 (i:Int),x3,x4,.str nm,.hs q 0 (P.length+1) 5 true] (h.set q (rowOf Sig.av (iD P s k))):=by
  intro k g h hk hq;rw[fF,Eh (show k<P.length+1 by omega),ae,az (sY hk hq s)]
 have hset:∀(h:Hp)(x y:List AV),h[q]? = some x->(h.set q y)[q]? = some y:=fun h x y e=>Po (N6.1 e).1;intro k
 induction k with
 |zero=>
  intro g h hk hq;refine⟨_,hset h _ (rowOf Sig.av (iD P s 0)) hq,?_⟩;have hg0:eH s P 0=iD P s 0:=by simp[eH,iD]
  rw[FL19_0];simp only[L19_0,aj,ao,vQ,OU,Int.lt_irrefl,Nm,ae,bn,ai,aC,ah,M3,Na];exact hend 0 g h hk hq
 | succ k ih=>
  intro g h hk hq;have hlt:k<P.length:=hk;have h0:(0:Int)<((k+1:Nat):Int):=by omega
  have hw:IntKind.i64.wrap (((k+1:Nat):Int)-1)=(k:Int):=eS (by omega);have hgl:k<(iD P g (k+1)).length:=by rw[yZ];omega
  have hnm:=Cd hgl hq;have hld:=Cc hgl hq;rw[Ec hlt hgl]at hnm hld;have hf0:∀l j,aB T 37 (.hp l j) 0=some (.hp l j):=fun _ _=>rfl;rw[eH,Ns hlt,FL19_0];simp only;cases hc:aG s.name P[k].name with
  |true=>
   have hst:=sY hk hq P[k];have hq2:=hset h _ (rowOf Sig.av (iD P P[k] (k+1))) hq;rw[Aj hlt]at hq2 hst;obtain⟨h',e1,e2⟩:=ih P[k] _ (by omega) hq2;refine⟨h',e1,?_⟩;rw[<- e2];simp only[L19_0,aj,ao,vQ,h0,Nf,ae,au,fl,hw,Eh (show k<P.length+1 by omega),hf0,bK];rw[az hnm];simp only[Mh,hc,ae,ai,aj,aw,ah,Nj];rw[az hld];simp only[Eh (show k+1<P.length+1 by omega),ae];rw[az hst]
  |false=>
   refine⟨_,hset h _ (rowOf Sig.av (iD P s (k+1))) hq,?_⟩;simp only[L19_0,aj,ao,vQ,h0,Nf,ae,au,fl,hw,Eh (show k<P.length+1 by omega),hf0,bK];rw[az hnm];simp only[Mh,hc,ae,ai,aj,aw,ah,M3,Na];exact hend (k+1) g h hk hq
def Bf{h:Hp}{v:AV}{l:List Sig}(A:pK h v l):kM T 30 v=some (.int .i64 (l.length:Int)):=by
 rcases A with⟨rfl,rfl⟩|⟨_,q,rfl,_⟩
 ·rfl
 ·rfl
def vY(l:List Sig)(s:Sig):iY (l++[s])=eH s (iY l) (iY l).length:=by
 unfold iY;rw[List.foldl_append];rfl
def xT(l:List Sig):(iY l).length=l.length:=by
 have key:∀(l P:List Sig),(l.foldl (fun P s=>eH s P P.length) P).length=P.length+l.length:=by
  intro l
  induction l with
  |nil=>intro P;simp
  |cons s l ih=>intro P;rw[PI,ih,lO,Nr];omega
 unfold iY
 have:=key l []
 simpa using this
theorem Cv(V:List AV->M AV)(m:Ap.Mod)(f:Fun)(hpl:f.params.length<=6)(i:Nat)(x3 x4:AV)(P:List Sig)(hb:P.length<=1000)(hv:AV)(h:Hp)(A:pK h hv P):∀(n k:Nat)(acc:List Ty),f.params.length-k=n->k<=f.params.length->acc.length<=k->
  ∃hv' h',pK h' hv' (eH ⟨f.name,acc++(f.params.drop k).map (·.2),f.result,f.effects⟩ P P.length)/\
  ak (L19_1 (ab pg) ak V) [.ip (af m.av),.int .i64 (i:Int),.ip (af f.av),.int .i64 (k:Int),x3,x4,.str m.name,hv,.str f.name,ig acc,.int .i64 f.result.kind,aO f.result.fields,.int .i64 f.effects] h=V [.ip (af m.av),.int .i64 (i:Int),x3,x4,.str m.name,hv'] h':=by
 intro n
 induction n with
 | zero=>
  intro k acc hn hk ha;have h1:¬((k:Int)<(f.params.length:Int)):=by omega
  have h2:f.params.drop k=[]:=Nc (by omega);rw[h2,PD,Og];obtain⟨v1,h',e1,A1,c1⟩:=uQ A (by omega) ⟨f.name,acc,f.result,f.effects⟩;rcases A1 with⟨hnil,_⟩|⟨_,q,rfl,hq⟩
  ·simp at hnil
  ·have hgap:P++[⟨f.name,acc,f.result,f.effects⟩]=iD P ⟨f.name,acc,f.result,f.effects⟩ P.length:=by simp[iD]
   have hq':=hq;rw[hgap]at hq';have hin:=Ee V (.ip (af m.av)) i x3 x4 m.name ⟨f.name,acc,f.result,f.effects⟩ P hb q P.length _ h' (M7 _) hq';obtain⟨h2,e2,e3⟩:=hin;refine⟨.hs q 0 (P.length+1) 5 true,h2,.inr ⟨?_,q,by rw[lO],e2⟩,?_⟩
   ·intro hz
    have:=lO ⟨f.name,acc,f.result,f.effects⟩ P P.length
    rw[hz]at this;simp at this
   ·have b1:bP T 30 1 [(0,.agg [.str f.name,ig acc,.int .i64 f.result.kind,aO f.result.fields,.int .i64 f.effects])]=some (sigs [⟨f.name,acc,f.result,f.effects⟩]):=rfl;have hlp:aX T 23 (.ip ((af f.av).drop 2))=some (aO f.params):=LM f;have e1':appH T 30 false hv (sigs [⟨f.name,acc,f.result,f.effects⟩]) h= .ok (.hs q 0 (P.length+1) 5 true) h':=by rw[e1];simp
    have c1':cw (.hs q 0 (P.length+1) 5 true)=am (.hs q 0 (P.length+1) 5 true):=rfl;rw[<- e3,FL19_1];simp only[L19_1,aj,ao,LA,hlp,ae,cu,ax,h1,Nm,ah,M3,Na,Bf A,b1];rw[az e1'];simp only[c1',ai]
 |succ n ih=>
  intro k acc hn hk ha;have hlt:k<f.params.length:=by omega
  have h1:(k:Int)<(f.params.length:Int):=by omega
  have h2:f.params.drop k=f.params[k]:: f.params.drop (k+1):=Ng hlt;have hw:IntKind.i64.wrap ((k:Int)+1)=((k+1:Nat):Int):=aE (by omega);have hix:=kK (l:=f.params) (n:=(k:Int)) (by omega) h1;rw[Nb,Nt f.params k hlt]at hix;obtain⟨hv',h',A',e'⟩:=ih (k+1) (acc++[f.params[k].2]) (by omega) (by omega) (by simp;omega);have hap:=Dw (a:=acc) (b:=[f.params[k].2]) (by simp;omega);rw[h2,NL];rw[show acc++f.params[k].2:: (f.params.drop (k+1)).map (·.2)=acc++[f.params[k].2]++(f.params.drop (k+1)).map (·.2) by simp];refine⟨hv',h',A',?_⟩;rw[<- e',FL19_1];generalize f.params[k]=z at hix hap |-;have hsl:bP T 33 1 [(0,z.2.av)]=some (ig [z.2]):=by cases z.2;rfl
  have hc1:∀l:List Ty,cw (ig l)=am (ig l):=fun l=>rfl;have hlp:aX T 23 (.ip ((af f.av).drop 2))=some (aO f.params):=LM f;have hf1:∀cs:List AV,aB T 54 (.ip cs) 1=some (.ip (cs.drop 1)):=fun _=>rfl;have hl1:aX T 35 (.ip ((af (bm z)).drop 1))=some z.2.av:=by simp
  simp only[L19_1,aj,ao,LA,hlp,ae,cu,ax,h1,Nf,ah,Nj,hix,hf1,hl1,hsl,hap,hc1,ai,ba,hw]
theorem EL(m:Ap.Mod)(MK:ModOk m):∀(k i:Nat)(hv x3 x4:AV)(h:Hp),m.funcs.length-i=k->i<=m.funcs.length->pK h hv (iY (eQ (m.funcs.take i)))->
  ∃hv' h',pK h' hv' (iY (eQ m.funcs))/\ak (L19_2 (ab pg) ak) [.ip (af m.av),.int .i64 (i:Int),x3,x4,.str m.name,hv] h= .ok (.agg [.str m.name,hv']) h':=by
 have hfl:=MK.flen;have hlf:aX T 25 (.ip ((af m.av).drop 4))=some (iC m.funcs):=G9 m;intro k
 induction k with
 | zero=>
  intro i hv x3 x4 h hk hi A;have h1:¬((i:Int)<(m.funcs.length:Int)):=by omega
  have h2:m.funcs.take i=m.funcs:=Od (by omega);rw[h2]at A;refine⟨hv,h,A,?_⟩;have hcn:aI 2 [] (.agg [.str m.name,hv])=am (.agg [.str m.name,hv]):=by
   rcases A with⟨_,rfl⟩|⟨_,q,rfl,_⟩
   ·rfl
   ·exact fW rfl
  rw[FL19_2];simp only[L19_2,aj,ao,Eb,hlf,ae,kc,ax,h1,Nm,ah,M3,Na,hcn,ai,dW];rfl
 | succ k ih=>
  intro i hv x3 x4 h hk hi A;have hlt:i<m.funcs.length:=by omega
  have h1:(i:Int)<(m.funcs.length:Int):=by omega
  have hw:IntKind.i64.wrap ((i:Int)+1)=((i+1:Nat):Int):=aE (by omega);have hix:=Bd (l:=m.funcs) (n:=(i:Int)) (by omega) h1;rw[Nb,Nt m.funcs i hlt]at hix;have hf:=MK.fns _ (Ni hlt);have ht:m.funcs.take (i+1)=m.funcs.take i++[m.funcs[i]]:=OX hlt;have ih0:=ih (i+1);rw[ht]at ih0;rw[FL19_2];generalize m.funcs[i]=f at hix hf ih0 |-;have hpu:=MF f;cases hp:f.pub with
  |false=>
   have e:eQ (m.funcs.take i++[f])=eQ (m.funcs.take i):=by simp[eQ,hp]
   rw[e]at ih0;obtain⟨hv',h',A',e'⟩:=ih0 hv x3 x4 h (by omega) (by omega) A;refine⟨hv',h',A',?_⟩;rw[hp]at hpu;rw[<- e'];simp only[L19_2,K19_0,jn,aj,ao,Eb,hlf,ae,kc,ax,h1,Nf,ah,Nj,hix,LN,Lr,ai,Me,hpu,bp,Nw,ba,hw]
  | true=>
   have e:eQ (m.funcs.take i++[f])=eQ (m.funcs.take i)++[wS f]:=by simp[eQ,hp]
   rw[e,vY]at ih0;have hlen:(iY (eQ (m.funcs.take i))).length<=1000:=by
    rw[xT];have:(eQ (m.funcs.take i)).length<=(m.funcs.take i).length:=by
     unfold eQ;rw[N7];exact O4 _ _
    rw[N8]at this;omega
   obtain⟨v1,h1',A1,e1⟩:=Cv (K19_0 (ab pg) ak (ak (L19_2 (ab pg) ak))) m f hf.plen i x3 x4 _ hlen hv h A f.params.length 0 [] rfl (Nz _) (Nz _);obtain⟨hv',h',A',e'⟩:=ih0 v1 x3 x4 h1' (by omega) (by omega) A1;refine⟨hv',h',A',?_⟩;rw[<- e'];have e1':ak (L19_1 (ab pg) ak (K19_0 (ab pg) ak (ak (L19_2 (ab pg) ak)))) [.ip (af m.av),.int .i64 (i:Int),.ip (af f.av),.int .i64 0,x3,x4,.str m.name,hv,.str f.name,.sl [],.int .i64 f.result.kind,aO f.result.fields,.int .i64 f.effects] h=ak (L19_2 (ab pg) ak) [.ip (af m.av),.int .i64 ((i+1:Nat):Int),x3,x4,.str m.name,v1] h1':=by
    refine e1.trans ?_;simp only[K19_0,aj,ao,ba,hw,ae]
   have bs1:∀(k:Int)(x:List cO)(e:Int),cv T true 37 [(0,.str f.name),(2,(Ty.mk k x).av),(3,.int .i64 e)]=some (.agg [.str f.name,.hn,.int .i64 k,aO x,.int .i64 e]):=fun k x e=>rfl;have bs2:cv T true 37 [(0,.str f.name),(2,f.result.av),(3,.int .i64 f.effects)]=some (.agg [.str f.name,.hn,.int .i64 f.result.kind,aO f.result.fields,.int .i64 f.effects]):=by
    have:=bs1 f.result.kind f.result.fields f.effects
    rwa [Ty.eta]at this
   have bs3:aI 5 [1] (.agg [.str f.name,.hn,.int .i64 f.result.kind,aO f.result.fields,.int .i64 f.effects])=am (.agg [.str f.name,.hn,.int .i64 f.result.kind,aO f.result.fields,.int .i64 f.effects]):=rfl;rw[hp]at hpu;rw[<- e1'];simp only[L19_2,jn,aj,ao,Eb,hlf,ae,kc,ax,h1,Nf,ah,Nj,hix,LN,Lr,ai,Me,hpu,bp,Nv,M3,Na,Md,Ms,Mf,Mt,Mg,Mu,bs2,bs3,dW]
theorem t19(m:Ap.Mod)(hm:m.Lim)(he:∀f∈m.funcs,-9223372036854775808<=f.effects/\f.effects<=9223372036854775807):ab pg 19 [m.av]=am (EH m).av:=by
 have hR:=t59 m hm he;have lm:aX T 29 (.ip (af m.av))=some m.av:=rfl;rw[C19,nW];unfold EH;by_cases hr:jc m=true
 ·rw[hr]at hR;rw[Nn hr];have MK:=yj hr;obtain⟨hv,h',A,e'⟩:=EL m MK m.funcs.length 0 .hn (.str []) (.sl []) [] rfl (Nz _) (.inl ⟨rfl,rfl⟩);rw[vZ (yo MK.fnames)]at A;have b1:cv T true 32 [(0,.str m.name)]=some (.agg [.str m.name,.hn]):=rfl;have b2:aI 2 [] (.agg [.str m.name,.hn])=am (.agg [.str m.name,.hn]):=rfl;have hfz:gG 6 h' (.agg [.str m.name,hv])=(Face.mk m.name (eZ (eQ m.funcs))).av:=by
   rcases A with⟨e,rfl⟩|⟨_,q,rfl,hq⟩
   ·rw[e];rfl
   ·have hfr:=lL (f:=Sig.av) A3 (fun x=>by simp_all) (fun x g=>iS g x) (by decide) hq 5;have e:(Face.mk m.name (eZ (eQ m.funcs))).av= .agg [.str m.name,.sl ((eZ (eQ m.funcs)).map Sig.av)]:=rfl;rw[e,<- hfr];rfl
  refine wd (v:=.agg [.str m.name,hv]) (h':=h') ?_ hfz;have e'':ak (L19_2 (ab pg) ak) [.ip (af m.av),.int .i64 0,.str [],.sl [],.str m.name,.hn] []= .ok (.agg [.str m.name,hv]) h':=e';simp only[S19,lm,ae,hR,ai,bp,Nv,ah,M3,Na,Ly,LK,b1,b2,dW,aj,ao];exact e''
 ·rw[M9 hr];rw[OG]at hr;rw[hr]at hR;have b1:cv T false 32 []=some lh.av:=rfl;have b2:aI 2 [] lh.av=am lh.av:=rfl;have hfz:gG 6 [] lh.av=lh.av:=rfl;simp_all[S19]
def jd(a b:Sig):Bool:=a.name== b.name&&a.effects== b.effects&&eK fj a.params b.params&&fj a.result b.result
def mG(a b:Face):Bool:=a.module== b.module&&eK jd a.funcs b.funcs
def Eo(f:AV)(F:cO->cO->Bool)(a:List cO)(b:List cO)(hb:a.length<=4611686018427387904)(hab:a.length=b.length)(hf:∀x∈a,∀y∈b,dO (ab pg) f [bm x,bm y]=am (.bool (F x y))):∀(n:Nat)(i:Int),a.length-i.toNat=n->0<=i->i<=a.length->
  ak (L104_0 (ab pg) ak) [aO b,f,aO a,.int .i64 a.length,.int .i64 i]=am (.bool (eK F (a.drop i.toNat) (b.drop i.toNat))):=by
 intro n
 induction n with
 |zero=>
  intro i hn hi hl;rw[FL104_0];simp only[L104_0];have h1:¬(i<(a.length:Int)):=by omega
  have h2:a.drop i.toNat=[]:=Nc (by omega);have h3:b.drop i.toNat=[]:=Nc (by omega);simp[h1,h2,h3,eK]
 |succ n ih=>
  intro i hn hi hl;have h1:i<(a.length:Int):=by omega
  have h1':i<(b.length:Int):=by omega
  have hlt:i.toNat<a.length:=by omega
  have hlt':i.toNat<b.length:=by omega
  have h3:=hf a[i.toNat] (Ni hlt) b[i.toNat] (Ni hlt');have h4:=ih (i+1) (by omega) (by omega) (by omega);rw[show (i+1).toNat=i.toNat+1 by omega]at h4;rw[FL104_0,iI F a b i.toNat hlt hlt'];simp only[L104_0];simp (disch:=omega) [h1,bE,kK,kK,h4];rw[h3];cases F a[i.toNat] b[i.toNat]<;>simp
def t104(f:AV)(F:cO->cO->Bool)(a:List cO)(b:List cO)(hb:a.length<=4611686018427387904)(hc:∀g,cl g f=f)(hf:∀x∈a,∀y∈b,dO (ab pg) f [bm x,bm y]=am (.bool (F x y))):ab pg 104 [aO a,aO b,f]=am (.bool (eK F a b)):=by
 rw[C104];by_cases h:a.length=b.length
 ·have:=Eo f F a b hb h hf a.length 0 rfl (by omega) (by omega)
  simp[S104,h,hc]at this |-;simp[this]
 ·have h3:(a.length != b.length)=true:=by simp[h]
  simp[S104,h3,eF F a b h]
def G0(f:AV)(F:Sig->Sig->Bool)(a:List Sig)(b:List Sig)(hb:a.length<=4611686018427387904)(hab:a.length=b.length)(hf:∀x∈a,∀y∈b,dO (ab pg) f [Sig.av x,Sig.av y]=am (.bool (F x y))):∀(n:Nat)(i:Int),a.length-i.toNat=n->0<=i->i<=a.length->
  ak (L63_0 (ab pg) ak) [sigs b,f,sigs a,.int .i64 a.length,.int .i64 i]=am (.bool (eK F (a.drop i.toNat) (b.drop i.toNat))):=by
 intro n
 induction n with
 |zero=>
  intro i hn hi hl;rw[FL63_0];simp only[L63_0];have h1:¬(i<(a.length:Int)):=by omega
  have h2:a.drop i.toNat=[]:=Nc (by omega);have h3:b.drop i.toNat=[]:=Nc (by omega);simp[h1,h2,h3,eK]
 |succ n ih=>
  intro i hn hi hl;have h1:i<(a.length:Int):=by omega
  have h1':i<(b.length:Int):=by omega
  have hlt:i.toNat<a.length:=by omega
  have hlt':i.toNat<b.length:=by omega
  have h3:=hf a[i.toNat] (Ni hlt) b[i.toNat] (Ni hlt');have h4:=ih (i+1) (by omega) (by omega) (by omega);rw[show (i+1).toNat=i.toNat+1 by omega]at h4;rw[FL63_0,iI F a b i.toNat hlt hlt'];simp only[L63_0];simp (disch:=omega) [h1,bE,pM,pM,h4];rw[h3];cases F a[i.toNat] b[i.toNat]<;>simp
def t63(f:AV)(F:Sig->Sig->Bool)(a:List Sig)(b:List Sig)(hb:a.length<=4611686018427387904)(hc:∀g,cl g f=f)(hf:∀x∈a,∀y∈b,dO (ab pg) f [Sig.av x,Sig.av y]=am (.bool (F x y))):ab pg 63 [sigs a,sigs b,f]=am (.bool (eK F a b)):=by
 rw[C63];by_cases h:a.length=b.length
 ·have:=G0 f F a b hb h hf a.length 0 rfl (by omega) (by omega)
  simp[S63,h,hc]at this |-;simp[this]
 ·have h3:(a.length != b.length)=true:=by simp[h]
  simp[S63,h3,eF F a b h]
theorem AF(x y:aQ):bo T .neq 9 (.str x) (.str y)=some (.bool (!(x== y))):=rfl
theorem yk(x y:Int):bo T .neq 3 (.int .i64 x) (.int .i64 y)=some (.bool (!(x== y))):=rfl
def t65:∀(n:Nat)(a b:Ty),SizeOf.sizeOf a<=n->a.Lim->ab pg 65 [a.av,b.av]=am (.bool (fj a b)):=by
 intro n
 induction n with
 |zero=>intro a b h;cases a;simp at h
 | succ n ih=>
  intro a b hs ha;have h2:=t104 (.fn (.func 105) [] []) (fun x y=>x.1== y.1&&fj x.2 y.2) a.fields b.fields (by have:=ha.len;omega) (fun _=>rfl) (fun x hx y _=>by
   have h3:=ih x.2 y.2 (by have:=Dk hx;omega) (ha.kid hx);show ab pg 105 [bm x,bm y]=_;rw[C105,xv,xv];cases h4:(x.1== y.1)
   ·simp only[S105,fF0,Kk,ae,Gu,h4,bn,ai,aC,NG];exact i6 _
   ·simp only[S105,fF0,Kk,fF1,K0,ae,Gu,h4,h3,au,ai,aw,Nx];exact i6 _)
  rw[C65,jI,jI,rk];cases h4:(a.kind== b.kind)
  ·simp only[S65,fT0,Ei,ae,vz,h4,bn,ai,aC,NG];exact i6 _
  ·simp only[S65,fT0,Ei,fT1,Ej,ae,vz,h4,h2,au,ai,aw,Nx];exact i6 _
def t64(a b:Sig)(ha:a.Lim):ab pg 64 [a.av,b.av]=am (.bool (jd a b)):=by
 have h2:=t60 (.fn (.func 65) [] []) fj a.params b.params (by have:=ha.plen;omega) (fun _=>rfl) (fun x hx y _=>t65 _ x y (M7 _) (ha.ptys x hx));have h3:=t65 _ a.result b.result (M7 _) ha.result;rw[C64,iS,iS];unfold jd;cases h4:(a.name== b.name)<;>cases h5:(a.effects== b.effects)<;>cases h6:eK fj a.params b.params<;>rw[h6]at h2 <;>
 simp only[S64,fS0,Kl,fS1,Az,fS2,GI,fS3,Km,ae,Gu,vz,h4,h5,h2,h3,bn,au,ai,aw,aC,Nx,NG]<;>exact i6 _
def t22(a b:Face)(ha:a.Lim):ab pg 22 [a.av,b.av]=am (.bool (mG a b)):=by
 have h2:=t63 (.fn (.func 64) [] []) jd a.funcs b.funcs (by have:=ha.len;omega) (fun _=>rfl) (fun x hx y _=>t64 x y (ha.sigs x hx));rw[C22,eM,eM];unfold mG;cases h4:(a.module== b.module)
 ·simp only[S22,fA0,HD,ae,Gu,h4,bn,ai,aC,NG];exact i6 _
 ·simp only[S22,fA0,HD,fA1,Ay,ae,Gu,h4,h2,au,ai,aw,Nx];exact i6 _
def GY(a b:Ty)(hb:a.fields.length<=4611686018427387904)(hab:a.fields.length=b.fields.length)(hk:∀x∈a.fields,∀y∈b.fields,ab pg 50 [x.2.av,y.2.av]=am (.bool (fj x.2 y.2))):∀(n i:Nat),a.fields.length-i=n->i<=a.fields.length->
  ak (L50_0 (ab pg) ak) [.ip (af a.av),.ip (af b.av),.int .i64 (i:Int)]=am (.bool (eK (fun x y=>x.1== y.1&&fj x.2 y.2) (a.fields.drop i) (b.fields.drop i))):=by
 intro n
 induction n with
 |zero=>
  intro i hn hi;have h1:¬((i:Int)<(a.fields.length:Int)):=by omega
  have h2:a.fields.drop i=[]:=Nc (by omega);have h3:b.fields.drop i=[]:=Nc (by omega);rw[FL50_0,h2,h3];simp only[L50_0,aj,ao,fT1,Ej,ae,cu,ax,h1,Nm,ah,M3,Na,eK]
 |succ n ih=>
  intro i hn hi;have hlt:i<a.fields.length:=by omega
  have hltb:i<b.fields.length:=by omega
  have h1:((i:Int)<(a.fields.length:Int)):=by omega
  have hw:IntKind.i64.wrap ((i:Int)+1)=((i+1:Nat):Int):=aE (by omega);have hx:=hk a.fields[i] (Ni hlt) b.fields[i] (Ni hltb);have i1:=LF hlt;have i2:=LF hltb;have ih':=ih (i+1) (by omega) (by omega);rw[FL50_0,iI _ a.fields b.fields i hlt hltb];generalize a.fields[i]=x at *;generalize b.fields[i]=y at *;cases h4:(x.1== y.1)<;>cases h5:fj x.2 y.2<;>rw[h5]at hx <;>
  simp only[L50_0,aj,ao,fT1,Ej,ae,cu,ax,h1,Nf,ah,M3,Na,Nj,i1,i2,fF0,Kk,fF1,K0,AF,h4,Nv,Nw,dF,au,hx,bQ,ai,bp,aj,aw,aC,ba,hw,ih',Nx,NG]
def t50:∀(n:Nat)(a b:Ty),SizeOf.sizeOf a<=n->a.Lim->ab pg 50 [a.av,b.av]=am (.bool (fj a b)):=by
 intro n
 induction n with
 |zero=>intro a b h;cases a;simp at h
 | succ n ih=>
  intro a b hs ha;have hlen:=ha.len;rw[C50,jI,jI,rk];by_cases hl:a.fields.length=b.fields.length
  ·have h2:=GY a b (by omega) hl (fun x hx y _=>ih x.2 y.2 (by have:=Dk hx;omega) (ha.kid hx)) a.fields.length 0 rfl (Nz _);rw[Nk,Nk]at h2;have h2':ak (L50_0 (ab pg) ak) [.ip (af a.av),.ip (af b.av),.int .i64 0]=_:=h2;cases h4:(a.kind== b.kind)
   ·simp only[S50,fT0,Ei,ae,yk,h4,Nw,dF,ai,aw,ah,Nj,NG];exact i6 _
   ·simp only[S50,fT0,Ei,fT1,Ej,ae,yk,h4,Nv,au,cu,hl,OO,ai,aj,aC,ah,M3,Na,h2',Nx];exact i6 _
  ·have hd:((a.fields.length:Int)== (b.fields.length:Int))=false:=by rw[Ny];omega
   rw[eF _ _ _ hl,Oe];cases h4:(a.kind== b.kind) <;>
   simp only[S50,fT0,Ei,fT1,Ej,ae,yk,h4,Nv,Nw,dF,au,cu,hd,ai,aj,aw,aC,ah,Nj]<;>exact i6 _
def GP(a b:Sig)(hb:a.params.length<=4611686018427387904)(hab:a.params.length=b.params.length)(hk:∀x∈a.params,∀y∈b.params,ab pg 50 [x.av,y.av]=am (.bool (fj x y))):∀(n i:Nat),a.params.length-i=n->i<=a.params.length->
  ak (L15_0 (ab pg) ak) [.ip (af a.av),.ip (af b.av),.int .i64 (i:Int)]=am (.bool (eK fj (a.params.drop i) (b.params.drop i))):=by
 intro n
 induction n with
 |zero=>
  intro i hn hi;have h1:¬((i:Int)<(a.params.length:Int)):=by omega
  have h2:a.params.drop i=[]:=Nc (by omega);have h3:b.params.drop i=[]:=Nc (by omega);rw[FL15_0,h2,h3];simp only[L15_0,aj,ao,fS1,Az,ae,ej,ax,h1,Nm,ah,M3,Na,eK]
 |succ n ih=>
  intro i hn hi;have hlt:i<a.params.length:=by omega
  have hltb:i<b.params.length:=by omega
  have h1:((i:Int)<(a.params.length:Int)):=by omega
  have hw:IntKind.i64.wrap ((i:Int)+1)=((i+1:Nat):Int):=aE (by omega);have hx:=hk a.params[i] (Ni hlt) b.params[i] (Ni hltb);have i1:=KZ hlt;have i2:=KZ hltb;have ih':=ih (i+1) (by omega) (by omega);rw[FL15_0,iI _ a.params b.params i hlt hltb];generalize a.params[i]=x at *;generalize b.params[i]=y at *;cases h5:fj x y<;>rw[h5]at hx <;>
  simp only[L15_0,aj,ao,fS1,Az,ae,ej,ax,h1,Nf,ah,M3,Na,Nj,i1,i2,HF,hx,bQ,ai,bp,Nv,Nw,ba,hw,ih',Nx,NG]
def t15(a b:Sig)(ha:a.Lim):ab pg 15 [a.av,b.av]=am (.bool (jd a b)):=by
 have hlen:=ha.plen;have h3:=t50 _ a.result b.result (M7 _) ha.result;rw[C15,iS,iS];unfold jd;by_cases hl:a.params.length=b.params.length
 ·have h2:=GP a b (by omega) hl (fun x hx y _=>t50 _ x y (M7 _) (ha.ptys x hx)) a.params.length 0 rfl (Nz _);rw[Nk,Nk]at h2;have h2':ak (L15_0 (ab pg) ak) [.ip (af a.av),.ip (af b.av),.int .i64 0]=_:=h2;cases h4:(a.name== b.name)<;>cases h5:(a.effects== b.effects)<;>cases h6:fj a.result b.result<;>rw[h6]at h3 <;>
  simp only[S15,fS0,Kl,fS1,Az,fS2,GI,fS3,Km,ae,AF,yk,h4,h5,Nv,Nw,dF,au,ej,hl,OO,h3,ai,bp,aj,aw,aC,ah,M3,Na,Nj,h2',Nx,NG,Pp,Oe]<;>exact i6 _
 ·have hd:((a.params.length:Int)== (b.params.length:Int))=false:=by rw[Ny];omega
  rw[eF _ _ _ hl,Oe,NG];cases h4:(a.name== b.name)<;>cases h5:(a.effects== b.effects) <;>
  simp only[S15,fS0,Kl,fS1,Az,fS2,GI,fS3,Km,ae,AF,yk,h4,h5,Nv,Nw,dF,au,ej,hd,ai,bp,aj,aw,aC,ah,Nj]<;>exact i6 _
def GO(a b:Face)(hb:a.funcs.length<=4611686018427387904)(hab:a.funcs.length=b.funcs.length)(hk:∀x∈a.funcs,∀y∈b.funcs,ab pg 15 [x.av,y.av]=am (.bool (jd x y))):∀(n i:Nat),a.funcs.length-i=n->i<=a.funcs.length->
  ak (L14_0 (ab pg) ak) [.ip (af a.av),.ip (af b.av),.int .i64 (i:Int)]=am (.bool (eK jd (a.funcs.drop i) (b.funcs.drop i))):=by
 intro n
 induction n with
 |zero=>
  intro i hn hi;have h1:¬((i:Int)<(a.funcs.length:Int)):=by omega
  have h2:a.funcs.drop i=[]:=Nc (by omega);have h3:b.funcs.drop i=[]:=Nc (by omega);rw[FL14_0,h2,h3];simp only[L14_0,aj,ao,fA1,Ay,ae,eJ,ax,h1,Nm,ah,M3,Na,eK]
 |succ n ih=>
  intro i hn hi;have hlt:i<a.funcs.length:=by omega
  have hltb:i<b.funcs.length:=by omega
  have h1:((i:Int)<(a.funcs.length:Int)):=by omega
  have hw:IntKind.i64.wrap ((i:Int)+1)=((i+1:Nat):Int):=aE (by omega);have hx:=hk a.funcs[i] (Ni hlt) b.funcs[i] (Ni hltb);have i1:=KY hlt;have i2:=KY hltb;have ih':=ih (i+1) (by omega) (by omega);rw[FL14_0,iI _ a.funcs b.funcs i hlt hltb];generalize a.funcs[i]=x at *;generalize b.funcs[i]=y at *;cases h5:jd x y<;>rw[h5]at hx <;>
  simp only[L14_0,aj,ao,fA1,Ay,ae,eJ,ax,h1,Nf,ah,M3,Na,Nj,i1,i2,GJ,hx,bQ,ai,bp,Nv,Nw,ba,hw,ih',Nx,NG]
def t14(a b:Face)(ha:a.Lim):ab pg 14 [a.av,b.av]=am (.bool (mG a b)):=by
 have hlen:=ha.len;rw[C14,eM,eM];unfold mG;by_cases hl:a.funcs.length=b.funcs.length
 ·have h2:=GO a b (by omega) hl (fun x hx y _=>t15 x y (ha.sigs x hx)) a.funcs.length 0 rfl (Nz _);rw[Nk,Nk]at h2;have h2':ak (L14_0 (ab pg) ak) [.ip (af a.av),.ip (af b.av),.int .i64 0]=_:=h2;cases h4:(a.module== b.module) <;>
  simp only[S14,fA0,HD,fA1,Ay,ae,AF,yk,h4,Nv,Nw,dF,au,eJ,hl,OO,ai,aj,aw,aC,ah,M3,Na,Nj,h2',Nx,NG]<;>exact i6 _
 ·have hd:((a.funcs.length:Int)== (b.funcs.length:Int))=false:=by rw[Ny];omega
  rw[eF _ _ _ hl,Oe];cases h4:(a.module== b.module) <;>
  simp only[S14,fA0,HD,fA1,Ay,ae,AF,yk,h4,Nv,Nw,dF,au,eJ,hd,ai,aj,aw,aC,ah,Nj]<;>exact i6 _
def zB:∀(n:Nat)(t:Ty),SizeOf.sizeOf t<=n->fj t t=true:=by
 intro n
 induction n with
 |zero=>intro t h;cases t;simp at h
 | succ n ih=>
  intro t hs;rw[rk,OO,Nx];have key:∀l:List cO,(∀x∈l,fj x.2 x.2=true)->eK (fun x y:cO=>x.1== y.1&&fj x.2 y.2) l l=true:=by
   intro l
   induction l with
   |nil=>intro _;rfl
   |cons x l ihl=>
    intro h;simp only[eK,OO,Nx,M5];exact⟨h x (by simp),ihl fun y hy=>h y (by simp[hy])⟩
  exact key _ fun x hx=>ih x.2 (by have:=Dk hx;omega)
theorem jG{α:Type}{F:α->α->Bool}(h:∀x,F x x=true):∀l:List α,eK F l l=true
 |[]=>rfl
 |x:: l=>by simp only[eK,h x,jG h l,O9]
def zA(s:Sig):jd s s=true:=by
 unfold jd;rw[OO,OO,jG (fun t=>zB _ t (M7 _)),zB _ _ (M7 _)];rfl
def ET(f:Face):mG f f=true:=by
 unfold mG;rw[OO,jG zA];rfl
def xO{F:(List AV->M AV)->List AV->M AV}(hF:∀vs,ak F vs=F (ak F) vs)(st:Nat->List AV)(n:Nat)(hend:∃b,F (ak F) (st n)=am (.bool b))(hstep:∀k,k<n->(∃b,F (ak F) (st k)=am (.bool b))\/F (ak F) (st k)=ak F (st (k+1))):
  ∀k,k<=n->∃b,ak F (st k)=am (.bool b):=by
 have key:∀r k,n-k=r->k<=n->∃b,ak F (st k)=am (.bool b):=by
  intro r
  induction r with
  |zero=>
   grind
  |succ r ih=>
   grind
 grind
theorem fx66:∀(d:Nat),d<=6->∀(t:Ty),t.Lim->∀most:Int,0<=most->most<=100->∃r:Int,ab pg 66 [t.av,.int .i64 most,.int .i64 d]=am (.int .i64 r)/\1<=r/\r<=most+1/\(r<=most->kN d t)
 |0,_,t,ht,most,h0,h1=>by
  have w1:IntKind.i64.wrap (most+1)=most+1:=bE (by omega) (by omega);refine⟨most+1,?_,by omega,by omega,fun h=>by omega⟩;rw[C66];simp[S66,w1]
 | d + 1,hd,t,ht,most,h0,h1=>by
  have hlen:=ht.len;have hd1:IntKind.i64.wrap (((d+1:Nat):Int)-1)=(d:Int):=eS (by omega);have hl:∀(k i:Nat),t.fields.length-i=k->i<=t.fields.length->∀m:Int,1<=m->m<=most+1->∃r:Int,ak (L66_0 (ab pg) ak) [.int .i64 most,.int .i64 ((d+1:Nat):Int),.ip (af t.av),.int .i64 m,.int .i64 i]=am (.int .i64 r)/\m<=r/\r<=most+1/\(r<=most->(∀f∈t.fields.drop i,kN d f.2)/\((t.fields.length-i:Nat):Int)<=r-m):=by
   intro k
   induction k with
   |zero=>
    intro i hk hi m hm1 hm2;rw[FL66_0];have h1:¬((i:Int)<(t.fields.length:Int)):=by omega
    have hd0:t.fields.drop i=[]:=Nc (by omega);exact⟨m,by simp[L66_0,h1],by omega,hm2,fun _=>⟨fun f hf=>(by rw[hd0]at hf;cases hf),by omega⟩⟩
   | succ k ihk=>
    intro i hk hi m hm1 hm2;rw[FL66_0];have hlt:i<t.fields.length:=by omega
    have h1':(i:Int)<(t.fields.length:Int):=by omega
    by_cases hm:m<=most
    ·have hix:=kK (l:=t.fields) (n:=(i:Int)) (by omega) h1';rw[Nb,Nt t.fields i hlt]at hix;have hm':=Ni hlt;have hdr:t.fields.drop i=t.fields[i]:: t.fields.drop (i+1):=Ng hlt;rw[hdr];generalize t.fields[i]=f at hix hm' |-;obtain⟨r,e1,e2,e3,e4⟩:=fx66 d (by omega) f.2 (ht.kid hm') (most-m) (by omega) (by omega);obtain⟨r2,g1,g2,g3,g4⟩:=ihk (i+1) (by omega) (by omega) (m+r) (by omega) (by omega);have w1:IntKind.i64.wrap (most-m)=most-m:=bE (by omega) (by omega);have w2:IntKind.i64.wrap (m+r)=m+r:=bE (by omega) (by omega);have w3:IntKind.i64.wrap ((i:Int)+1)=((i+1:Nat):Int):=aE (by omega);refine⟨r2,?_,by omega,g3,fun hr=>⟨fun x hx=>?_,by have:=(g4 hr).2;omega⟩⟩
     rotate_left
     ·rcases NT.1 hx with rfl|hx
      ·exact e4 (by omega)
      ·exact (g4 hr).1 x hx
     rw[<- g1];simp only[L66_0,aj,ao,bd,FA35_1,ae,NH,Nk,LD23,cu,ax,bY,h1',hm,Nf,au,ai,aw,ah,Nj,hix,ck,FA54_1,LD35,Nr,Nu,NB,Nat.reduceAdd,M7,NI,NM,cq,fl,w1,hd1,e1,ba,w2,w3]
    ·exact⟨m,by simp[L66_0,h1',hm],by omega,hm2,fun h=>absurd h hm⟩
  obtain⟨r,e1,e2,e3,e4⟩:=hl t.fields.length 0 rfl (by omega) 1 (by omega) (by omega);refine⟨r,?_,e2,e3,fun hr=>⟨by have:=(e4 hr).2;omega,fun f hf=>(e4 hr).1 f (by rw[Nk];exact hf)⟩⟩;rw[C66];have e1':ak (L66_0 (ab pg) ak) [.int .i64 most,.int .i64 ((d+1:Nat):Int),.ip (af t.av),.int .i64 1,.int .i64 0]=am (.int .i64 r):=e1;have hge:¬((((d+1:Nat):Int))<1):=by omega
  simp only[S66,jI,nV,ax,ae,hge,Nm,ah,M3,Na,e1',wb]
def fx25(t:Ty)(ht:t.Lim):∃b,ab pg 25 [t.av]=am (.bool b)/\(b=true->kN 6 t):=by
 obtain⟨r,e1,e2,e3,e4⟩:=fx66 6 (by omega) t ht 40 (by omega) (by omega);have e1':ab pg 66 [t.av,.int .i64 40,.int .i64 6]=am (.int .i64 r):=e1;rw[C25];exact⟨decide (r<=40),by simp[S25,e1'],fun h=>e4 (Pm h)⟩
structure SigFew (s:Sig):Prop where
 plen:s.params.length<=8
 pars:∀t∈s.params,kN 6 t
 res:kN 6 s.result
def fx7(s:Sig)(hs:s.Lim):∃b,ab pg 7 [s.av]=am (.bool b)/\(b=true->SigFew s):=by
 have hlen:=hs.plen;obtain⟨br,hbr,hbl⟩:=fx25 s.result hs.result;have lq:∀x y:Int,bo T .leq 3 (.int .i64 x) (.int .i64 y)=some (.bool (decide (x<=y))):=fun _ _=>rfl;have hfin:∀i:Nat,(¬((i:Int)<(s.params.length:Int))\/¬(i:Int)<9)->ak (L7_0 (ab pg) ak) [.ip (af s.av),.int .i64 (i:Int)]=am (.bool (decide ((s.params.length:Int)<=8)&&br)):=by
  intro i hi;rw[FL7_0];by_cases h1:(i:Int)<(s.params.length:Int)
  ·have h9:¬(i:Int)<9:=by rcases hi with h|h;exact absurd h1 h;exact h
   simp only[L7_0,aj,ao,fS1,Az,fS2,GI,ae,ej,ax,h1,h9,Nf,Nm,au,ai,aw,ah,M3,Na,lq,hbr,aF,bJ]
  ·simp only[L7_0,aj,ao,fS1,Az,fS2,GI,ae,ej,ax,h1,Nm,bn,ai,aC,ah,M3,Na,lq,hbr,aF,bJ]
 have hl:∀(n i:Nat),s.params.length-i=n->i<=s.params.length->∃b,ak (L7_0 (ab pg) ak) [.ip (af s.av),.int .i64 (i:Int)]=am (.bool b)/\(b=true->s.params.length<=8/\(∀t∈s.params.drop i,kN 6 t)/\kN 6 s.result):=by
  intro n
  induction n with
  |zero=>
   intro i hn hi;have hd:s.params.drop i=[]:=Nc (by omega);refine⟨_,hfin i (.inl (by omega)),fun h=>?_⟩;rw[M5,M8]at h;exact⟨by omega,fun t ht=>(by rw[hd]at ht;cases ht),hbl h.2⟩
  | succ n ih=>
   intro i hn hi;have hlt:i<s.params.length:=by omega
   by_cases h9:(i:Int)<9
   ·have h1:(i:Int)<(s.params.length:Int):=by omega
    have hd:s.params.drop i=s.params[i]:: s.params.drop (i+1):=Ng hlt;have hix:=KZ hlt;have w3:IntKind.i64.wrap ((i:Int)+1)=((i+1:Nat):Int):=aE (by omega);obtain⟨b,hb,hbt⟩:=fx25 s.params[i] (hs.ptys _ (Ni hlt));obtain⟨b2,g1,g2⟩:=ih (i+1) (by omega) (by omega);rw[hd];generalize s.params[i]=t at *;cases b with
    |false=>
     refine⟨false,?_,fun h=>by cases h⟩;rw[FL7_0];simp only[L7_0,aj,ao,fS1,Az,ae,ej,ax,h1,h9,Nf,au,ai,aw,ah,Nj,hix,HF,hb,bp,Nw]
    | true=>
     refine⟨b2,?_,fun h=>⟨(g2 h).1,fun x hx=>?_,(g2 h).2.2⟩⟩
     ·rw[<- g1,FL7_0];simp only[L7_0,aj,ao,fS1,Az,ae,ej,ax,h1,h9,Nf,au,ai,aw,ah,Nj,hix,HF,hb,bp,Nv,M3,Na,ba,w3]
     ·rcases NT.1 hx with rfl|hx
      ·exact hbt rfl
      ·exact (g2 h).2.1 x hx
   ·refine⟨_,hfin i (.inr h9),fun h=>?_⟩;rw[M5,M8]at h;omega
 obtain⟨b,e1,e2⟩:=hl s.params.length 0 rfl (Nz _);refine⟨b,?_,fun h=>⟨(e2 h).1,fun t ht=>(e2 h).2.1 t (by rw[Nk];exact ht),(e2 h).2.2⟩⟩;rw[C7];have hb':ak (L7_0 (ab pg) ak) [.ip (af s.av),.int .i64 0]=am (.bool b):=e1;simp only[S7,iS,hb',gJ]
def fx6(f:Face)(hf:f.Lim):∃b,ab pg 6 [f.av]=am (.bool b)/\(b=true->∀s∈f.funcs,SigFew s):=by
 have hlen:=hf.len;have lq:∀x y:Int,bo T .leq 3 (.int .i64 x) (.int .i64 y)=some (.bool (decide (x<=y))):=fun _ _=>rfl;have hfin:∀i:Nat,(¬((i:Int)<(f.funcs.length:Int))\/¬(i:Int)<9)->ak (L6_0 (ab pg) ak) [.ip (af f.av),.int .i64 (i:Int)]=am (.bool (decide ((f.funcs.length:Int)<=8))):=by
  intro i hi;rw[FL6_0];by_cases h1:(i:Int)<(f.funcs.length:Int)
  ·have h9:¬(i:Int)<9:=by rcases hi with h|h;exact absurd h1 h;exact h
   simp only[L6_0,aj,ao,fA1,Ay,ae,eJ,ax,h1,h9,Nf,Nm,au,ai,aw,ah,M3,Na,lq]
  ·simp only[L6_0,aj,ao,fA1,Ay,ae,eJ,ax,h1,Nm,bn,ai,aC,ah,M3,Na,lq]
 have hl:∀(n i:Nat),f.funcs.length-i=n->i<=f.funcs.length->∃b,ak (L6_0 (ab pg) ak) [.ip (af f.av),.int .i64 (i:Int)]=am (.bool b)/\(b=true->f.funcs.length<=8/\∀s∈f.funcs.drop i,SigFew s):=by
  intro n
  induction n with
  |zero=>
   intro i hn hi;have hd:f.funcs.drop i=[]:=Nc (by omega);refine⟨_,hfin i (.inl (by omega)),fun h=>?_⟩;rw[M8]at h;exact⟨by omega,fun t ht=>by rw[hd]at ht;cases ht⟩
  | succ n ih=>
   intro i hn hi;have hlt:i<f.funcs.length:=by omega
   by_cases h9:(i:Int)<9
   ·have h1:(i:Int)<(f.funcs.length:Int):=by omega
    have hd:f.funcs.drop i=f.funcs[i]:: f.funcs.drop (i+1):=Ng hlt;have hix:=KY hlt;have w3:IntKind.i64.wrap ((i:Int)+1)=((i+1:Nat):Int):=aE (by omega);obtain⟨b,hb,hbt⟩:=fx7 f.funcs[i] (hf.sigs _ (Ni hlt));obtain⟨b2,g1,g2⟩:=ih (i+1) (by omega) (by omega);rw[hd];generalize f.funcs[i]=t at *;cases b with
    |false=>
     refine⟨false,?_,fun h=>by cases h⟩;rw[FL6_0];simp only[L6_0,aj,ao,fA1,Ay,ae,eJ,ax,h1,h9,Nf,au,ai,aw,ah,Nj,hix,GJ,hb,bp,Nw]
    | true=>
     refine⟨b2,?_,fun h=>⟨(g2 h).1,fun x hx=>?_⟩⟩
     ·rw[<- g1,FL6_0];simp only[L6_0,aj,ao,fA1,Ay,ae,eJ,ax,h1,h9,Nf,au,ai,aw,ah,Nj,hix,GJ,hb,bp,Nv,M3,Na,ba,w3]
     ·rcases NT.1 hx with rfl|hx
      ·exact hbt rfl
      ·exact (g2 h).2 x hx
   ·refine⟨_,hfin i (.inr h9),fun h=>?_⟩;rw[M8]at h;omega
 obtain⟨b,e1,e2⟩:=hl f.funcs.length 0 rfl (Nz _);refine⟨b,?_,fun h s hs=>(e2 h).2 s (by rw[Nk];exact hs)⟩;rw[C6];have hb':ak (L6_0 (ab pg) ak) [.ip (af f.av),.int .i64 0]=am (.bool b):=e1;simp only[S6,eM,hb',gJ]
theorem i7{α:Type}(one:Rs->α×Rs)(h1:∀r,(one r).2.1.length<=r.1.length)(n:Int)(cap:Nat):∀(f:Nat)(acc:List α)(r:Rs),(aR one n cap f acc r).2.1.length<=r.1.length
 |0,acc,r=>M7 _
 |f+1,acc,r=>by
  rw[aR];split
  ·exact NK (i7 one h1 n cap f _ _) (h1 r)
  ·exact M7 _
def vJ{ty:Rs->Ty×Rs}(h:∀r,(ty r).2.1.length<=r.1.length)(r:Rs):(jN ty r).2.1.length<=r.1.length:=NK (h _) (eB r)
theorem gU:∀(d:Nat)(r:Rs),(aW d r).2.1.length<=r.1.length
 |0,r=>bS 59 r
 |d+1,r=>by
  rw[aW];split
  ·exact NK (i7 _ (vJ (gU d)) _ _ _ _ _) (NK (bS 59 _) (bS 59 r))
  ·exact bS 59 r
def JH(f:cO):bP T 23 1 [(0,bm f)]=some (aO [f]):=by
 rw[fg,show aO [f]= .sl [bm f] by simp[aO,de],fg];rfl
def l6(k:Int)(l:List cO):AV.agg [.int .i64 k,aO l]=(Ty.mk k l).av:=cq (Ty.mk k l)
def BZ(s:aQ)(t:Ty):AV.agg [.str s,.int .i64 t.kind,aO t.fields]=bm (s,t):=(fg (s,t)).symm
theorem GU(d:Nat)(hd:d<4)(n k:Int)(x3 x4:AV)(l:Nat)(ih:∀h r,jk h l r->r.1.length<=1000000000->ab pg 40 [.hp l 0,.int .i64 d] h= .ok (aW d r).1.av (dh h l (aW d r).2)):
  ∀(f:Nat)(acc:List cO)(h:Hp)(r:Rs),jk h l r->r.1.length<=1000000000->10<=acc.length+f->acc.length<=10->
  ak (L40_0 (ab pg) ak) [.hp l 0,.int .i64 ((d+1:Nat):Int),.int .i64 n,x3,x4,.int .i64 k,aO acc] h= .ok (Ty.mk k (aR (jN (aW d)) n 8 f acc r).1).av (dh h l (aR (jN (aW d)) n 8 f acc r).2):=by
 intro f
 induction f with
 |zero=>
  intro acc h r H hb hf ha;have h8:¬((acc.length:Int)<=8):=by omega
  rw[FL40_0];simp only[L40_0,aj,ao,cu,ae,ax,bY,h8,Nm,aF,bJ,Oe,bn,ai,aC,ah,M3,Na,l6,cp,bd,Ty.kind,Ty.fields,aR,iK H];rfl
 | succ f ihf=>
  intro acc h r H hb hf ha;rw[FL40_0,aR];have gt:∀x y:Int,bo T .gtr 3 (.int .i64 x) (.int .i64 y)=some (.bool (decide (y<x))):=fun _ _=>rfl;have hL:=t39 H;by_cases hc:(acc.length:Int)<n/\acc.length<=8
  ·have h8:(acc.length:Int)<=8:=by omega
   by_cases hr:0<r.1.length
   ·have hr':(0:Int)<(r.1.length:Int):=by omega
    have hT:=t37 H hb;have H1:=H.put (bb r).2;have hty:=ih _ _ H1 (by have:=eB r;omega);rw[bA]at hty;have H2:=H.put (aW d (bb r).2).2;have hrec:=ihf (acc++[((bb r).1,(aW d (bb r).2).1)]) _ _ H2 (by have:=eB r;have:=gU d (bb r).2;omega) (by simp;omega) (by simp;omega);rw[bA]at hrec;have hap:=H4 (a:=acc) (b:=[((bb r).1,(aW d (bb r).2).1)]) (by simp;omega);have hw:IntKind.i64.wrap (((d+1:Nat):Int)-1)=(d:Int):=eS (by omega);have b0:∀s:aQ,cv T false 54 [(0,.str s)]=some (.agg [.str s,.int .i64 0,.sl []]):=fun _=>rfl;have c0:∀s:aQ,aI 3 [] (.agg [.str s,.int .i64 0,.sl []])=am (.agg [.str s,.int .i64 0,.sl []]):=fun _=>rfl;have c1:∀q:List cO,cw (aO q)=am (aO q):=fun _=>rfl;rw[Nn ⟨hc.1,hc.2,hr⟩];have e1:(jN (aW d) r).1=((bb r).1,(aW d (bb r).2).1):=rfl;have e2:(jN (aW d) r).2=(aW d (bb r).2).2:=rfl;rw[e1,e2];simp only[L40_0,aj,ao,cu,ae,ax,bY,hc.1,h8,Nf,au,ai,aj,aw];rw[bK,az hL];simp only[gt,hr',Nf,ae,ai,aj,aw,ah,Nj];rw[az hT];simp only[b0,c0,ae,ai,fl,hw];rw[az hty];simp only[cp,ai,dW,aj,ao,bd,BZ,JH,ae,hap,c1];exact hrec
   ·have hr':¬(0:Int)<(r.1.length:Int):=by omega
    rw[M9 (by rintro⟨_,_,q⟩;exact hr q)];simp only[L40_0,aj,ao,cu,ae,ax,bY,hc.1,h8,Nf,au,ai,aj,aw];rw[bK,az hL];simp only[gt,hr',Nm,ae,ai,aj,aw,ah,M3,Na,l6,cp,bd,ao,Ty.kind,Ty.fields,iK H];rfl
  ·have hcc:(decide ((acc.length:Int)<n)&&decide ((acc.length:Int)<=8))=false:=by
    rw[Oo,NC,NC];by_cases h1:(acc.length:Int)<n
    ·exact .inr fun h2=>hc ⟨h1,by omega⟩
    ·exact .inl h1
   rw[M9 (by rintro⟨q1,q2,_⟩;exact hc ⟨q1,q2⟩)];simp only[L40_0,aj,ao,cu,ae,ax,bY,aF,bJ,hcc,bn,ai,aC,ah,M3,Na,l6,cp,bd,Ty.kind,Ty.fields,iK H];rfl
def t40(l:Nat):∀(d:Nat),d<=4->∀(h:Hp)(r:Rs),jk h l r->r.1.length<=1000000000->ab pg 40 [.hp l 0,.int .i64 d] h= .ok (aW d r).1.av (dh h l (aW d r).2):=by
 have b0:∀k:Int,cv T true 35 [(0,.int .i64 k)]=some (.agg [.int .i64 k,.hn]):=fun _=>rfl;have c0:∀k:Int,aI 2 [1] (.agg [.int .i64 k,.hn])=am (.agg [.int .i64 k,.hn]):=fun _=>rfl;have c1:∀k:Int,aI 2 [] (.agg [.int .i64 k,.sl []])=am (.agg [.int .i64 k,.sl []]):=fun _=>rfl;have nq:∀x y:Int,bo T .neq 3 (.int .i64 x) (.int .i64 y)=some (.bool (x != y)):=fun _ _=>rfl;have f0:∀k:Int,AV.agg [.int .i64 k,.sl []]=(Ty.mk k []).av:=fun k=>cq (Ty.mk k []);intro d
 induction d with
 |zero=>
  intro hd h r H hb;have hN:=t38 H hb;rw[C40,aW];simp only[S40];rw[az hN];simp only[b0,c0,c1,ae,ai,dW,aj,ao,nq,dN,OU,OO,aF,cX,Bool.or_true,ah,Nj];rw[f0];rfl
 | succ d ih=>
  intro hd h r H hb;have hN:=t38 H hb;have H1:=H.put (aN 59 r).2;have hN2:=t38 H1 (by have:=bS 59 r;omega);rw[bA]at hN2;rw[C40,aW];simp only[S40];rw[az hN];have hz:(((d+1:Nat):Int)== 0)=false:=by rw[Ny];omega
  simp only[b0,c0,c1,ae,ai,dW,aj,ao,nq,dN,hz,aF,cX,PQ,ah];by_cases hk:(aN 59 r).1=2
  ·have hk':((aN 59 r).1 != 2)=false:=by rw[hk];rfl
   have H2:=H.put (aN 59 (aN 59 r).2).2;have hl:=GU d (by omega) (aN 59 (aN 59 r).2).1 (aN 59 r).1 (.int .i64 0) (.sl []) l (fun h r H hb=>ih (by omega) h r H hb) 10 [] _ _ H2 (by have:=bS 59 r;have:=bS 59 (aN 59 r).2;omega) (by simp) (by simp);rw[bA]at hl;simp only[hk',M3,Na];rw[Nn hk,az hN2];exact hl
  ·have hk':((aN 59 r).1 != 2)=true:=by rw[OR];exact hk
   simp only[hk',Nj];rw[M9 hk,f0];rfl
end Go.Proofs.YtighgcgmocboaaaGreatDoor
