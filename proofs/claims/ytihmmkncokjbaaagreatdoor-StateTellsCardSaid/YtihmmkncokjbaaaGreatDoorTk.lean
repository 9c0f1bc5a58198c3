/- What the functions compute, part 11. Conditions: bounds. -/
import Derived.Test.YtihmmkncokjbaaaGreatDoorTj
set_option linter.defProp false
set_option linter.unusedSimpArgs false
set_option linter.unusedVariables false
namespace Go.Proofs.YtihmmkncokjbaaaGreatDoor
open Go Go.Av Go.Av.Ap
set_option maxRecDepth 100000
def pT{v:Val}(h:Rv v)(hk:v.kind=1):(v.n=0\/v.n=1)/\v=cZ (v.n== 1):=by
 unfold Rv at h;obtain⟨k,n,ns,vs⟩:=v;simp only[Pq]at hk;subst hk;simp only[bc,Pq,Pu,Pp,Po]at h|-;simp only[show ((1:Int)== 0||(1:Int)== 1)=true from rfl,PQ,PO,Qk,QF]at h;obtain⟨⟨h1,h2⟩,h3⟩:=h;have e1:=P6 h1;have e2:=P6 h2;subst e1 e2;rcases h3 with(h3|h3)|h3
 ·simp at h3
 ·subst h3;exact⟨.inl rfl,rfl⟩
 ·subst h3;exact⟨.inr rfl,rfl⟩
def yb{v:Val}(h:Rv v)(hk:¬v.kind=2):v.names=[]:=by
 unfold Rv bc at h;split at h
 ·simp only[PO,Qk]at h;exact P6 h.1.1
 ·simp only[PO,Qk]at h;exact absurd h.1.1.1.1.1 hk
section
variable {p:List Mod} {full:List Int} {nm:SNm} {m:Ms} {h:Hp}
theorem zL(R:RepR p full nm 0 m h)(e:Exp)(v:Val)(hv:v.names.length=v.values.length)(h8:v.names.length<=8)(y4 y5 y6 y7:AV):∀(n i:Nat),v.names.length-i=n->i<=v.names.length->
  ia p full nm ((match dh (v.names.drop i) (v.values.drop i) e.s with|some x=>X.ok x|none=>X.er 13) m) (ao (L202_0 (aj pg) ao) [.hp 0 0,.ip (aa e.av),.ip (aa v.av),.int .i64 i,y4,y5,y6,y7] h):=by
 intro n
 induction n with
 |zero=>
  intro i hn hi;obtain rfl:i=v.names.length:=by omega
  rw[RN,FL202_0];have hls:aN T 22 (strs v.names)=some (.int .i64 v.names.length):=dA _;have hns:ai T 22 (.ip ((aa v.av).drop 2))=some (strs v.names):=by simp
  simp only[L202_0,ax,aE,FA45_2,hns,hls,bC,ak,am,Q0,QR,PM,PP];exact cM R 13 (by decide)
 | succ n ih=>
  intro i hn hi;have hlt:i<v.names.length:=by omega
  have hlt2:i<v.values.length:=by omega
  have h1:(i:Int)<(v.names.length:Int):=by omega
  have hix:=mG (l:=v.names) (n:=(i:Int)) (by omega) h1;rw[show ((i:Int)).toNat=i by omega,PY v.names i hlt]at hix;have hiv:=hM (l:=v.values) (n:=(i:Int)) (by omega) (by omega);rw[show ((i:Int)).toNat=i by omega,PY v.values i hlt2]at hiv;have hls:aN T 22 (strs v.names)=some (.int .i64 v.names.length):=dA _;have hns:ai T 22 (.ip ((aa v.av).drop 2))=some (strs v.names):=by simp
  have hvs:ai T 30 (.ip ((aa v.av).drop 3))=some (vals v.values):=by simp
  have hes:ai T 9 (.ip ((aa e.av).drop 2))=some (.str e.s):=by simp
  have hld:ai T 45 (.ip (aa v.values[i].av))=some v.values[i].av:=by simp
  have hst:ai T 9 (.ip (aa (AV.str v.names[i])))=some (.str v.names[i]):=rfl;have hw:IntKind.i64.wrap ((i:Int)+1)=((i+1:Nat):Int):=cr (by omega);have hf:dh (v.names.drop i) (v.values.drop i) e.s=if v.names[i]=e.s then some v.values[i]else dh (v.names.drop (i+1)) (v.values.drop (i+1)) e.s:=by
   rw[P9 hlt,P9 hlt2];rfl
  rw[hf,FL202_0];simp only[L202_0,ax,aE,FA45_2,FA45_3,hns,hvs,hls,bC,ak,am,h1,QA,PQ,hix,hst,FA66_2,hes,qE];by_cases hs:v.names[i]=e.s
  ·have hsb:(v.names[i]== e.s)=true:=by simpa using hs
   simp only[hsb,PQ,PS hs,hiv,hld,ak];exact qx R
  ·have hsb:(v.names[i]== e.s)=false:=by simpa using hs
   simp only[hsb,PM,PP,if_neg hs,cy,ak,hw];exact ih (i+1) (by omega) (by omega)
def M2(r:Exp->X Val)(e:Exp):X Val:=
 if e.op=3\/e.op=4\/e.op=5\/e.op=6\/e.op=7 then(r e.args[0]!).bind fun a=>(r e.args[1]!).bind fun b=>km e.op a b
 else if e.op=8\/e.op=9 then(boolX (r e.args[0]!)).bind fun x=>if x=(e.op== 9)then .ok (cZ (e.op== 9))else(boolX (r e.args[1]!)).bind fun y=>.ok (cZ y)
 else if e.op=10 then(boolX (r e.args[0]!)).bind fun x=>.ok (cZ !x)
 else if e.op=11 then(boolX (r e.args[0]!)).bind fun x=>if x=true then r e.args[1]! else r e.args[2]!
 else(r e.args[0]!).bind fun v=>(match dh v.names v.values e.s with|some x=>if v.kind=2 then .ok x else .er 13|none=>.er 13)
theorem Bn{n:Nat}(IH:Dg p full nm n)(own:Int)(ns:List aR)(vs:List Val)(a:Exp)(R:RepR p full nm 0 m h)(G:GoodM p m)(hn:m.fuel<=n)(hs:Sc p own ns vs m)(he:bh a):
  ia p full nm (bo p n own ns vs a m) (af (aj pg 152 [.hp 0 0,aM own ns vs,a.av]) (fun v=>af (az 4 [] v) fun v=>ay (AV.agg [ae (aa v) 0,ae (aa v) 1,ae (aa v) 2,ae (aa v) 3])) h):=by
 have H:=IH own ns vs a m h R G hn hs he;generalize bo p n own ns vs a m=r at H |-;cases r with
 |ok v s=>
  obtain⟨h',e1,R'⟩:=H;rw[bn e1,lC,ap,cW];exact⟨h',rfl,R'⟩
 |er c s=>
  obtain⟨w,h',e1,R'⟩:=H;rw[bn e1,lC,ap,cW];exact⟨w,h',rfl,R'⟩
theorem t202{n:Nat}(IH:Dg p full nm n)(own:Int)(ns:List aR)(vs:List Val)(e:Exp)(hop:e.op=3\/e.op=4\/e.op=5\/e.op=6\/e.op=7\/e.op=8\/e.op=9\/e.op=10\/e.op=11\/e.op=14)(hlen:bg e.op=e.args.length)(R:RepR p full nm 0 m h)(G:GoodM p m)(hn:m.fuel<=n)(hs:Sc p own ns vs m)(he:bh e):
  ia p full nm (M2 (bo p n own ns vs) e m) (aj pg 202 [.hp 0 0,aM own ns vs,e.av] h):=by
 have hscl:ai T 185 (.ip [.int .i64 own,strs ns,vals vs])=some (aM own ns vs):=rfl;have hpos:0<e.args.length:=by
  rcases hop with h|h|h|h|h|h|h|h|h|h<;>rw[h]at hlen<;>simp[bg]at hlen<;>omega
 have ixN:∀k:Nat,k<e.args.length->au T 24 (bE e.args) (.int .i64 (k:Int))=some (.ip (aa e.args[k]!.av)):=fun k hk=>by
  have:=kL (l:=e.args) (n:=(k:Int)) (by omega) (by omega)
  rw[show ((k:Int)).toNat=k by omega]at this;exact this
 have i0:au T 24 (bE e.args) (.int .i64 0)=some (.ip (aa e.args[0]!.av)):=ixN 0 hpos;have hex:∀a:Exp,ai T 66 (.ip (aa a.av))=some a.av:=fun a=>by simp
 have hmem:∀k:Nat,k<e.args.length->bh e.args[k]!:=fun k hk=>by
  rw[PY e.args k hk];exact bz he (P2 hk)
 have hes:ai T 24 (.ip ((aa e.av).drop 5))=some (bE e.args):=by simp
 have heop:ai T 3 (.ip ((aa e.av).drop 0))=some (.int .i64 e.op):=by simp
 have hvk:∀v:Val,ai T 3 (.ip ((aa v.av).drop 0))=some (.int .i64 v.kind):=fun v=>by simp
 have hvn:∀v:Val,ai T 3 (.ip ((aa v.av).drop 1))=some (.int .i64 v.n):=fun v=>by simp
 have hvl:∀v:Val,ai T 45 (.ip (aa v.av))=some v.av:=fun v=>by simp
 have htr:∀b:Bool,af (aj pg 196 [AV.bool b]) (fun v13=>af (az 4 [] v13) fun v14=>ay (AV.agg [ae (aa v14) 0,ae (aa v14) 1,ae (aa v14) 2,ae (aa v14) 3]))=ay (cZ b).av:=fun b=>by
  rw[t196,ap,lC,ap,cW]
 generalize hcode:aj pg 202 [.hp 0 0,aM own ns vs,e.av] h=code;rw[C202]at hcode;simp -implicitDefEqProofs only[S202,bH,hscl,ak,FA66_5,hes,i0,hex]at hcode;rw[<- hcode];have hopx:M2 (bo p n own ns vs) e=(bo p n own ns vs e.args[0]!).bind (fun v=>
   if e.op=14 then(match dh v.names v.values e.s with|some x=>if v.kind=2 then .ok x else .er 13|none=>.er 13)
   else if e.op=3\/e.op=4\/e.op=5\/e.op=6\/e.op=7 then(bo p n own ns vs e.args[1]!).bind fun b=>km e.op v b
   else if v.kind=1 then
    (if e.op=8\/e.op=9 then(if(v.n== 1)=(e.op== 9)then .ok (cZ (e.op== 9))else(boolX (bo p n own ns vs e.args[1]!)).bind fun y=>.ok (cZ y))
    else if e.op=10 then .ok (cZ !(v.n== 1))
    else(if(v.n== 1)=true then bo p n own ns vs e.args[1]! else bo p n own ns vs e.args[2]!))
   else .er 13):=by
  unfold M2 boolX;by_cases h37:e.op=3\/e.op=4\/e.op=5\/e.op=6\/e.op=7
  ·have n14:¬e.op=14:=by omega
   simp only[PS h37,if_neg n14]
  simp only[if_neg h37];by_cases h89:e.op=8\/e.op=9
  ·have n14:¬e.op=14:=by omega
   simp only[PS h89,if_neg n14,fJ];funext s;simp only[X.bind];cases bo p n own ns vs e.args[0]! s with
   |ok v t=>simp only;by_cases hk:v.kind=1<;>simp[hk,X.ok,X.er]
   |er c t=>rfl
  simp only[if_neg h89];by_cases h10:e.op=10
  ·have n14:¬e.op=14:=by omega
   simp only[PS h10,if_neg n14,fJ];funext s;simp only[X.bind];cases bo p n own ns vs e.args[0]! s with
   |ok v t=>simp only;by_cases hk:v.kind=1<;>simp[hk,X.ok,X.er]
   |er c t=>rfl
  simp only[if_neg h10];by_cases h11:e.op=11
  ·have n14:¬e.op=14:=by omega
   simp only[PS h11,if_neg n14,fJ];funext s;simp only[X.bind];cases bo p n own ns vs e.args[0]! s with
   |ok v t=>simp only;by_cases hk:v.kind=1<;>simp[hk,X.ok,X.er]
   |er c t=>rfl
  have h14:e.op=14:=by omega
  simp only[if_neg h11,PS h14]
 rw[hopx];have hen:∀ {c:Int} {s:Ms} {w:Val} {h':Hp},c≠0->qH p full nm c s h'->∀k2:M AV,(if((c:Int) != 0)=true then af (ah (some w.av)) (fun v=>af (az 4 [] v) fun v=>ay (AV.agg [ae (aa v) 0,ae (aa v) 1,ae (aa v) 2,ae (aa v) 3]))else k2) h'= .ok w.av h':=fun{c s w h'} hc RE k2=>by
  have hne:(c != 0)=true:=by simpa using hc
  rw[PS hne,ak,lC,ap,cW];rfl
 refine fR (IH own ns vs _ m h R G hn hs (hmem 0 hpos)) (fun a s h=>ji h) (fun v s1 h2 hv R2=>?_) (fun c s w h' hc RE=>?_)
 rotate_left
 ·have hne:(c != 0)=true:=by simpa using hc
  refine⟨w,h',?_,RE⟩;generalize hcode2:af (aW 4 w.av) _ h'=code2;simp -implicitDefEqProofs only[fF,ap,bl,aZ,ak,FH182_1,FH162_0,Qb,Qu,RE.lErr,fD,hne,am,PQ,hvl,lC,cW]at hcode2;rw[<- hcode2];rfl
 obtain⟨G2,rv,f2⟩:=G.eval hs.right hv;have hs2:=hs.less f2;have hn2:s1.fuel<=n:=by omega
 generalize hcode2:af (aW 4 v.av) _ h2=code2;simp -implicitDefEqProofs only[fF,ap,bl,aZ,ak,FH182_1,FH162_0,Qb,Qu,R2.lErr,fD,Ra,am,PM,PP,FA66_0,heop,dJ,ci]at hcode2;rw[<- hcode2];by_cases h14:e.op=14
 ·have h14b:(e.op== 14)=true:=by simp[h14]
  simp only[h14b,PQ,PS h14];have h8:=sr rv;have heq:v.names.length=v.values.length:=su rv
  have:=zL R2 e v heq h8 (.int .i64 0) (.int .i64 0) (.sl []) (.sl []) _ 0 rfl (by omega)
  simp only[Qe]at this;have hz:((0:Nat):Int)=0:=rfl;rw[hz]at this;have hm:(match dh v.names v.values e.s with|some x=>if v.kind=2 then X.ok x else X.er 13|none=>X.er 13)=(match dh v.names v.values e.s with|some x=>X.ok x|none=>X.er 13:X Val):=by
   by_cases hk:v.kind=2
   ·simp only[hk,PQ]
   ·have:v.names=[]:=yb rv hk;rw[this];rfl
  rw[hm];exact this
 have h14b:(e.op== 14)=false:=by simpa using h14
 simp only[h14b,PM,PP,if_neg h14]
 -- the second argument
 by_cases h37:e.op=3\/e.op=4\/e.op=5\/e.op=6\/e.op=7
 ·have hl2:1<e.args.length:=by
   rcases h37 with h|h|h|h|h<;>rw[h]at hlen<;>simp[bg]at hlen<;>omega
  have i1:au T 24 (bE e.args) (.int .i64 1)=some (.ip (aa e.args[1]!.av)):=ixN 1 hl2;have b10:(e.op== 10)=false:=by rcases h37 with h|h|h|h|h<;>rw[h]<;>rfl
  have b11:(e.op== 11)=false:=by rcases h37 with h|h|h|h|h<;>rw[h]<;>rfl
  have b8:(e.op== 8)=false:=by rcases h37 with h|h|h|h|h<;>rw[h]<;>rfl
  have b9:(e.op== 9)=false:=by rcases h37 with h|h|h|h|h<;>rw[h]<;>rfl
  simp only[PS h37];generalize hcode3:(if(e.op== 10)=true then _ else _:M AV) h2=code3;simp -implicitDefEqProofs only[b10,b11,b8,b9,PM,PP,K202_0,ax,aE,am,hscl,ak,FA66_5,hes,i1,hex]at hcode3;rw[<- hcode3];refine fR (IH own ns vs _ s1 h2 R2 G2 hn2 hs2 (hmem 1 hl2)) (fun a s h=>ji h) (fun b s3 h3 hb R3=>?_) (fun c s w h' hc RE=>?_)
  ·obtain⟨G3,rb,f3⟩:=G2.eval hs.right hb;have H2:=t244 R3 e.op v b h37 rv rb;generalize hcode4:af (aW 4 b.av) _ h3=code4;simp -implicitDefEqProofs only[fF,ap,bl,aZ,ak,FH182_1,FH162_0,Qb,Qu,R3.lErr,fD,Ra,am,PM,PP,FA66_0,heop,hvl]at hcode4;rw[<- hcode4];generalize km e.op v b s3=r at H2 |-;cases r with
   |ok x s=>
    obtain⟨h',e1,R'⟩:=H2;rw[bn e1,lC,ap,cW];exact⟨h',rfl,R'⟩
   |er c s=>
    obtain⟨w,h',e1,R'⟩:=H2;rw[bn e1,lC,ap,cW];exact⟨w,h',rfl,R'⟩
  ·have hne:(c != 0)=true:=by simpa using hc
   refine⟨w,h',?_,RE⟩;generalize hcode4:af (aW 4 w.av) _ h'=code4;simp -implicitDefEqProofs only[fF,ap,bl,aZ,ak,FH182_1,FH162_0,Qb,Qu,RE.lErr,fD,hne,am,PQ,hvl,lC,cW]at hcode4;rw[<- hcode4];rfl
 simp only[if_neg h37];have hrest:e.op=8\/e.op=9\/e.op=10\/e.op=11:=by omega
 -- K with the flag
 have hK:∀y5 y6 y7 y8:AV,ia p full nm ((if v.kind=1 then
    (if e.op=8\/e.op=9 then(if(v.n== 1)=(e.op== 9)then .ok (cZ (e.op== 9))else(boolX (bo p n own ns vs e.args[1]!)).bind fun y=>.ok (cZ y))
    else if e.op=10 then .ok (cZ !(v.n== 1))
    else(if(v.n== 1)=true then bo p n own ns vs e.args[1]! else bo p n own ns vs e.args[2]!))
   else .er 13:X Val) s1) (K202_0 (aj pg) ao [.hp 0 0,.ip [.int .i64 own,strs ns,vals vs],.ip (aa e.av),.ip (aa v.av),.bool true,y5,y6,y7,y8] h2):=by
  intro y5 y6 y7 y8;generalize hcode3:K202_0 (aj pg) ao [.hp 0 0,.ip [.int .i64 own,strs ns,vals vs],.ip (aa e.av),.ip (aa v.av),.bool true,y5,y6,y7,y8] h2=code3;simp -implicitDefEqProofs only[K202_0,ax,aE,am,PQ,FA45_0,hvk,ak,fL,FA66_0,heop,dJ]at hcode3;rw[<- hcode3];by_cases hk:v.kind=1
  rotate_left
  ·have hk':(v.kind != 1)=true:=by simpa using hk
   simp only[hk',PQ,if_neg hk];exact cM R2 13 (by decide)
  have hk':(v.kind != 1)=false:=by simp[hk]
  obtain⟨hv01,hvt⟩:=pT rv hk;simp only[hk',PM,PP,PS hk];by_cases h10:e.op=10
  ·have b10:(e.op== 10)=true:=by simp[h10]
   have n89:¬(e.op=8\/e.op=9):=by omega
   simp only[b10,PQ,if_neg n89,PS h10,FA45_1,hvn,ak,dJ,htr];have:(v.n== 0)= !(v.n== 1):=by rcases hv01 with h|h<;>rw[h]<;>rfl
   rw[this];exact jO R2
  have b10:(e.op== 10)=false:=by simpa using h10
  simp only[b10,PM,PP,if_neg h10];by_cases h11:e.op=11
  ·have b11:(e.op== 11)=true:=by simp[h11]
   have n89:¬(e.op=8\/e.op=9):=by omega
   have hl3:e.args.length=3:=by rw[h11]at hlen;simp[bg]at hlen;omega
   have hw:IntKind.i64.wrap (2-v.n)=2-v.n:=bd (by omega) (by omega);simp only[b11,PQ,if_neg n89,hscl,ak,FA66_5,hes,FA45_1,hvn,gL,hw];rcases hv01 with h|h
   ·have hf:¬((v.n== 1)=true):=by rw[h];decide
    have i2:au T 24 (bE e.args) (.int .i64 (2-v.n))=some (.ip (aa e.args[2]!.av)):=by
     rw[h];exact ixN 2 (by omega)
    simp only[if_neg hf,i2,ak,hex];exact Bn IH own ns vs _ R2 G2 hn2 hs2 (hmem 2 (by omega))
   ·have hf:(v.n== 1)=true:=by rw[h];decide
    have i1:au T 24 (bE e.args) (.int .i64 (2-v.n))=some (.ip (aa e.args[1]!.av)):=by
     rw[h];exact ixN 1 (by omega)
    simp only[PS hf,i1,ak,hex];exact Bn IH own ns vs _ R2 G2 hn2 hs2 (hmem 1 (by omega))
  have b11:(e.op== 11)=false:=by simpa using h11
  have h89:e.op=8\/e.op=9:=by omega
  have hl2:1<e.args.length:=by
   rcases h89 with h|h<;>rw[h]at hlen<;>simp[bg]at hlen<;>omega
  have i1:au T 24 (bE e.args) (.int .i64 1)=some (.ip (aa e.args[1]!.av)):=ixN 1 hl2;simp only[b11,PM,PP,PS h89,FA45_1,hvn,ak,dJ,uP,am];by_cases hx:(v.n== 1)=(e.op== 9)
  ·have hxb:((v.n== 1)== (e.op== 9))=true:=by rw[hx];simp
   simp only[hxb,PQ,PS hx,hvl,ak,lC,ap,cW];have:v=cZ (e.op== 9):=by rw[<- hx];exact hvt
   rw[<- this];exact jO R2
  ·have hxb:((v.n== 1)== (e.op== 9))=false:=by simpa using hx
   simp only[hxb,PM,PP,if_neg hx,hscl,ak,FA66_5,hes,i1,hex];have hbx:(boolX (bo p n own ns vs e.args[1]!)).bind (fun y=>X.ok (cZ y))=(bo p n own ns vs e.args[1]!).bind (fun w=>if w.kind=1 then .ok (cZ (w.n== 1))else .er 13):=by
    unfold boolX;funext s;simp only[X.bind];cases bo p n own ns vs e.args[1]! s with
    |ok w t=>simp only;by_cases hw:w.kind=1<;>simp[hw,X.ok,X.er]
    |er c t=>rfl
   rw[hbx];refine fR (IH own ns vs _ s1 h2 R2 G2 hn2 hs2 (hmem 1 hl2)) (fun a s h=>ji h) (fun b s3 h3 hb R3=>?_) (fun c s w h' hc RE=>?_)
   ·obtain⟨G3,rb,f3⟩:=G2.eval hs.right hb;generalize hcode4:af (aW 4 b.av) _ h3=code4;simp -implicitDefEqProofs only[fF,ap,bl,aZ,ak,FH182_1,FH162_0,Qb,Qu,R3.lErr,m8,QL,FA45_0,hvk,fL,bI,ax,ek,QJ,am,hvl,lC,cW]at hcode4;rw[<- hcode4];by_cases hbk:b.kind=1
    ·have hb':(b.kind != 1)=false:=by simp[hbk]
     simp only[hb',PM,PP,PS hbk];rw[<- (pT rb hbk).2];exact jO R3
    ·have hb':(b.kind != 1)=true:=by simpa using hbk
     simp only[hb',PQ,if_neg hbk];exact cM R3 13 (by decide)
   ·have hneb:(c== 0)=false:=by simpa using hc
    refine⟨w,h',?_,RE⟩;generalize hcode4:af (aW 4 w.av) _ h'=code4;simp -implicitDefEqProofs only[fF,ap,bl,aZ,ak,FH182_1,FH162_0,Qb,Qu,RE.lErr,m8,hneb,aF,P3,List.replicate,ax,aI,am,PM,PP,hvl,lC,cW]at hcode4;rw[<- hcode4];rfl
 have hK':=hK (.int .i64 0) (.int .i64 0) (.sl []) (.sl []);rcases hrest with h|h|h|h
 ·have b10:(e.op== 10)=false:=by rw[h];rfl
  have b11:(e.op== 11)=false:=by rw[h];rfl
  have b8:(e.op== 8)=true:=by rw[h];rfl
  simp only[b10,b11,b8,PM,PP,PQ];exact hK'
 ·have b10:(e.op== 10)=false:=by rw[h];rfl
  have b11:(e.op== 11)=false:=by rw[h];rfl
  have b8:(e.op== 8)=false:=by rw[h];rfl
  have b9:(e.op== 9)=true:=by rw[h];rfl
  simp only[b9]at hK';simp only[b10,b11,b8,b9,PM,PP];exact hK'
 ·have b10:(e.op== 10)=true:=by rw[h];rfl
  simp only[b10,PQ];exact hK'
 ·have b10:(e.op== 10)=false:=by rw[h];rfl
  have b11:(e.op== 11)=true:=by rw[h];rfl
  simp only[b10,b11,PM,PP,PQ];exact hK'
end
end Go.Proofs.YtihmmkncokjbaaaGreatDoor
namespace Go.Proofs.YtihmmkncokjbaaaGreatDoor
open Go Go.Av Go.Av.Ap
set_option maxRecDepth 100000
def KY{β:Type}(c d b:Bool)(k:AV->M β):af (aF (gv c false (.bool d)) true 1 (ay [.bool b])) (fun v30=>af (aF (.bool c) false 1 (af (ah (aI (gv c false (.bool d)) (ae v30 0) (.bool false))) fun v31=>ay [v31])) fun v32=>af (ah (aI (.bool c) (.bool true) (ae v32 0))) k)=k (.bool (c||(d&&b))):=by
 cases c<;>cases d<;>rfl
section
variable {p:List Mod} {full:List Int} {nm:SNm} {m:Ms} {h:Hp}
theorem rT(R:RepR p full nm 0 m h)(own:Int)(ns:List aR)(vs:List Val)(e:Exp)(x1 x2 x3 x4:AV)(hl:ns.length=vs.length)(hb:ns.length<=1099511627776):∀(i:Nat),i<=ns.length->
  ia p full nm ((match i7 (ns.take i) (vs.take i) e.s with|some v=>X.ok v|none=>X.er 12) m) (ao (L152_0 (aj pg) ao) [.hp 0 0,.ip [.int .i64 own,strs ns,vals vs],.ip (aa e.av),.int .i64 ((i:Int)-1),x1,x2,x3,x4] h)
 |0,_=>by
  rw[FL152_0];have hge:decide ((0:Int)<=((0:Nat):Int)-1)=false:=rfl;simp only[L152_0,ax,aE,ix,ak,am,hge,PM,PP];exact cM R 12 (by decide)
 | i+1,hi=>by
  have ih:=rT R own ns vs e x1 x2 x3 x4 hl hb i (by omega);have h1:i<ns.length:=by omega
  have h2:i<vs.length:=by omega
  have h3:(ns.take (i+1))=ns.take i++[ns[i]]:=by simp
  have h4:(vs.take (i+1))=vs.take i++[vs[i]]:=by simp
  rw[h3,h4,oV _ _ _ _ _ (by simp;omega),FL152_0];have e1:((i+1:Nat):Int)-1=(i:Int):=by omega
  rw[e1];have hge:decide ((0:Int)<=(i:Int))=true:=by simp
  have hix:=mG (l:=ns) (n:=(i:Int)) (by omega) (by omega);rw[show ((i:Int)).toNat=i by omega,PY ns i h1]at hix;have hiv:=hM (l:=vs) (n:=(i:Int)) (by omega) (by omega);rw[show ((i:Int)).toNat=i by omega,PY vs i h2]at hiv;have l1:ai T 22 (.ip ([AV.int .i64 own,strs ns,vals vs].drop 1))=some (strs ns):=rfl;have l2:ai T 30 (.ip ([AV.int .i64 own,strs ns,vals vs].drop 2))=some (vals vs):=rfl;have hes:ai T 9 (.ip ((aa e.av).drop 2))=some (.str e.s):=by simp
  have hst:ai T 9 (.ip (aa (AV.str ns[i])))=some (.str ns[i]):=rfl;have hvl:ai T 45 (.ip (aa vs[i].av))=some vs[i].av:=by simp
  have hw:IntKind.i64.wrap ((i:Int)-1)=(i:Int)-1:=bd (by omega) (by omega);simp only[L152_0,ax,aE,ix,ak,am,hge,PQ,FA185_1,FA185_2,l1,l2,hix,hst,FA66_2,hes,qE];by_cases hs:ns[i]=e.s
  ·have hsb:(ns[i]== e.s)=true:=by simpa using hs
   simp only[hsb,PQ,PS hs,hiv,hvl,ak];exact qx R
  ·have hsb:(ns[i]== e.s)=false:=by simpa using hs
   simp only[hsb,PM,PP,if_neg hs,gL,ak,hw];exact ih
theorem OZ{full:List Int}(LB:LimB p)(hfl:full.length<=1099511627776):∀n,Dg p full nm n:=by
 intro n
 induction n with
 |zero=>
  intro own ns vs e m h R G hn hs he;have hf:m.fuel=0:=by have:=G.fuel;omega
  generalize hcode:aj pg 152 [.hp 0 0,aM own ns vs,e.av] h=code;rw[C152]at hcode;simp -implicitDefEqProofs only[S152,aZ,ak,FH182_1,FH162_0,FH182_4,Qb,Qu,R.lErr,fD,Ra,am,PM,PP,R.lFuel,hf,ml,Re,QA,PQ]at hcode;rw[<- hcode];exact cM R 16 (by decide)
 | succ n IH=>
  intro own ns vs e m h R G hn hs he;obtain⟨le1,le2⟩:=fO he;generalize hcode:aj pg 152 [.hp 0 0,aM own ns vs,e.av] h=code;rw[C152]at hcode;simp -implicitDefEqProofs only[S152,aZ,ak,FH182_1,FH162_0,FH182_4,Qb,Qu,R.lErr,fD,Ra,am,PM,PP,R.lFuel,ml]at hcode;by_cases hf:0<m.fuel
  rotate_left
  ·have e1:bo p (n+1) own ns vs e m= .er 16 m:=by
    show kJ p (bo p n) own ns vs e m=_;unfold kJ X.get;simp only;rw[PS (by omega)];rfl
   have hle:decide (m.fuel<=0)=true:=by simp;omega
   simp only[hle,PQ]at hcode;rw[e1,<- hcode];exact cM R 16 (by decide)
  have hspec:bo p (n+1) own ns vs e m=(if bg e.op= -2\/(bg e.op≠-1/\bg e.op≠e.args.length)then .er 13
   else if e.op=0 then .ok (kB e.n)
   else if e.op=1 then(if e.n=0\/e.n=1 then .ok (cZ (e.n== 1))else .er 13)
   else if e.op=2 then(match i7 ns vs e.s with|some v=>.ok v|none=>.er 12)
   else if e.op=12 then(bo p n own ns vs e.args[0]!).bind fun v=>bo p n own (ns++[e.s]) (vs++[v]) e.args[1]!
   else if e.op=13 then iC (bo p n own ns vs) e
   else if e.op=15 then mL p (bo p n) own ns vs e
   else if e.op=16 then sQ (bo p n own ns vs e.args[0]!) e
   else if e.op=17\/e.op=18 then s7 p (bo p n own ns vs) own e
   else M2 (bo p n own ns vs) e:X Val) (d9 m):=by
   show kJ p (bo p n) own ns vs e m=_;unfold kJ X.get;simp only;rw[if_neg (by omega)];show (if bg e.op= -2\/(bg e.op≠-1/\bg e.op≠e.args.length)then _ else _:X Val) (d9 m)=_;congr 1;by_cases hc:bg e.op= -2\/(bg e.op≠-1/\bg e.op≠e.args.length)
   ·rw[PS hc,PS hc]
   rw[if_neg hc,if_neg hc];have hk:bg e.op≠-2:=fun h=>hc (.inl h);have hops:e.op=0\/e.op=1\/e.op=2\/e.op=17\/e.op=10\/e.op=14\/e.op=16\/e.op=18\/e.op=3\/e.op=4\/e.op=5\/e.op=6\/e.op=7\/e.op=8\/e.op=9\/e.op=12\/e.op=11\/e.op=13\/e.op=15:=by
    refine Ru fun hno=>hk ?_;unfold bg;rw[if_neg (by omega),if_neg (by omega),if_neg (by omega),if_neg (by omega),if_neg (by omega)]
   rcases hops with h|h|h|h|h|h|h|h|h|h|h|h|h|h|h|h|h|h|h<;>simp only[h,M2]<;>rfl
  have hbm:=G.bud;have G1:GoodM p (d9 m):=⟨G.right,by simp only[mu,d9]at hbm |-;omega,G.fr,by simp only[d9];omega,G.shape⟩;have hmu:mu (d9 m)<1000000:=by simp only[mu,d9]at hbm |-;omega
  have hn1:(d9 m).fuel<=n:=by simp only[d9];omega
  have hft:(d9 m).fuel<=m.fuel:=by simp only[d9];omega
  have hs1:Sc p own ns vs (d9 m):=hs.less hft;have hle:decide (m.fuel<=0)=false:=by simp;omega
  have hw:IntKind.i64.wrap (m.fuel-1)=m.fuel-1:=bd (by omega) (by simp only[mu]at hbm;omega);obtain⟨h1,s1,R1⟩:=R.sFuel (m.fuel-1);have R1':RepR p full nm 0 (d9 m) h1:=R1;clear R1;have heop:ai T 3 (.ip ((aa e.av).drop 0))=some (.int .i64 e.op):=by simp
  have hen:ai T 3 (.ip ((aa e.av).drop 1))=some (.int .i64 e.n):=by simp
  have hestr:ai T 9 (.ip ((aa e.av).drop 2))=some (.str e.s):=by simp
  have hes:ai T 24 (.ip ((aa e.av).drop 5))=some (bE e.args):=by simp
  have hel:aN T 24 (bE e.args)=some (.int .i64 e.args.length):=eP _;have hscl:ai T 185 (.ip [.int .i64 own,strs ns,vals vs])=some (aM own ns vs):=rfl;have hexl:ai T 66 (.ip (aa e.av))=some e.av:=by simp
  have hex:∀a:Exp,ai T 66 (.ip (aa a.av))=some a.av:=fun a=>by simp
  have hmem:∀k:Nat,k<e.args.length->bh e.args[k]!:=fun k hk=>by
   rw[PY e.args k hk];exact bz he (P2 hk)
  have ixN:∀k:Nat,k<e.args.length->au T 24 (bE e.args) (.int .i64 (k:Int))=some (.ip (aa e.args[k]!.av)):=fun k hk=>by
   have:=kL (l:=e.args) (n:=(k:Int)) (by omega) (by omega)
   rw[show ((k:Int)).toNat=k by omega]at this;exact this
  have hwrapR:∀ {r:Rs Val} {c:M AV} {h:Hp},ia p full nm r (c h)->ia p full nm r (af c (fun v=>af (az 4 [] v) fun v=>ay (AV.agg [ae (aa v) 0,ae (aa v) 1,ae (aa v) 2,ae (aa v) 3])) h):=fun{r c h} H=>by
   cases r with
   |ok v s=>
    obtain⟨h',e1,R'⟩:=H;rw[bn e1,lC,ap,cW];exact⟨h',rfl,R'⟩
   |er c s=>
    obtain⟨w,h',e1,R'⟩:=H;rw[bn e1,lC,ap,cW];exact⟨w,h',rfl,R'⟩
  simp -implicitDefEqProofs only[hle,PM,PP,aZ,ak,FH182_4,Qb,R.lFuel,gL,hw,s1,FA66_0,heop,t195,ap,dJ,ix,bI,ax,FA66_5,hes,hel,fL,ek,eV,am]at hcode;simp -implicitDefEqProofs only[KY,am]at hcode;rw[hspec,<- hcode];clear hcode hspec;by_cases hc:bg e.op= -2\/(bg e.op≠-1/\bg e.op≠e.args.length)
  ·have hcb:(bg e.op== -2||(decide (0<=bg e.op)&&bg e.op != (e.args.length:Int)))=true:=by
    rcases hc with h|⟨h1,h2⟩
    ·simp[h]
    ·by_cases h3:bg e.op= -2
     ·simp[h3]
     ·have:0<=bg e.op:=by
       unfold bg at h1 h3 |-;split
       ·decide
       ·split
        ·decide
        ·split
         ·decide
         ·split
          ·decide
          ·split<;>simp_all
      simp[this,h2]
   simp only[hcb,PQ,PS hc];exact cM R1' 13 (by decide)
  have hcb:(bg e.op== -2||(decide (0<=bg e.op)&&bg e.op != (e.args.length:Int)))=false:=by
   rw[<- Rc];simp only[QF,PO,Qk,Rf,PW];rintro (h|⟨h1,h2⟩)
   ·exact hc (.inl h)
   ·exact hc (.inr ⟨by omega,h2⟩)
  simp only[hcb,PM,PP,if_neg hc];by_cases o0:e.op=0
  ·have b0:(e.op== 0)=true:=by simp[o0]
   have hB:aT T false 45 [(0,.int .i64 0),(1,.int .i64 e.n)]=some (kB e.n).av:=rfl;simp only[b0,PQ,PS o0,FA66_1,hen,ak,hB];exact qx R1'
  have b0:(e.op== 0)=false:=by simpa using o0
  simp only[b0,PM,PP,if_neg o0];by_cases o1:e.op=1
  ·have b1:(e.op== 1)=true:=by simp[o1]
   simp only[b1,PQ,PS o1,FA66_1,hen,ak,bC,jf,bI,ap,ax,eV,am];by_cases hn01:e.n=0\/e.n=1
   ·have hb:(decide (e.n<0)||decide (1<e.n))=false:=by
     rcases hn01 with h|h<;>rw[h]<;>rfl
    simp only[hb,PM,PP,PS hn01,dJ,ak,t196,ap];exact qx R1'
   ·have hb:(decide (e.n<0)||decide (1<e.n))=true:=by
     simp only[QF,PW];omega
    simp only[hb,PQ,if_neg hn01];exact cM R1' 13 (by decide)
  have b1:(e.op== 1)=false:=by simpa using o1
  simp only[b1,PM,PP,if_neg o1];by_cases o2:e.op=2
  ·have b2:(e.op== 2)=true:=by simp[o2]
   have hnb:ns.length<=1099511627776:=by
    have:=hs.len
    have:=G.fuel
    omega
   have l1:ai T 22 (.ip ([AV.int .i64 own,strs ns,vals vs].drop 1))=some (strs ns):=rfl;have hll:aN T 22 (strs ns)=some (.int .i64 ns.length):=dA _;have hwn:IntKind.i64.wrap ((ns.length:Int)-1)=(ns.length:Int)-1:=bd (by omega) (by omega)
   have:=rT R1' own ns vs e (.int .i64 0) (.int .i64 0) (.sl []) (.sl []) hs.right.1 hnb ns.length (P5 _)
   rw[Rt,Q6 (by have:=hs.right.1;omega)]at this;simp only[b2,PQ,PS o2,bH,FA185_1,l1,hll,gL,hwn,ak];exact this
  have b2:(e.op== 2)=false:=by simpa using o2
  simp only[b2,PM,PP,if_neg o2];by_cases o13:e.op=13
  ·have b13:(e.op== 13)=true:=by simp[o13]
   have o12:¬e.op=12:=by omega
   simp only[b13,PQ,if_neg o12,PS o13,bH,hscl,hexl,ak];exact hwrapR (t197 IH own ns vs e R1' G1 hn1 hs1 he)
  have b13:(e.op== 13)=false:=by simpa using o13
  simp only[b13,PM,PP];by_cases o15:e.op=15
  ·have b15:(e.op== 15)=true:=by simp[o15]
   have o12:¬e.op=12:=by omega
   simp only[b15,PQ,if_neg o12,if_neg o13,PS o15,bH,hscl,hexl,ak];exact hwrapR (t198 LB IH own ns vs e R1' G1 hmu hn1 hs1 he)
  have b15:(e.op== 15)=false:=by simpa using o15
  simp only[b15,PM,PP];by_cases o16:e.op=16
  ·have b16:(e.op== 16)=true:=by simp[o16]
   have o12:¬e.op=12:=by omega
   have hl1:e.args.length=1:=by
    have:bg e.op=1:=by rw[o16];rfl
    rw[this]at hc;omega
   obtain⟨a,ha⟩:=F9 hl1;have e0:e.args[0]! = a:=by rw[ha];rfl
   simp only[b16,PQ,if_neg o12,if_neg o13,if_neg o15,PS o16,bH,hscl,hexl,ak,e0];exact hwrapR (t199 IH hfl own ns vs e a ha R1' G1 hmu hn1 hs1 he)
  have b16:(e.op== 16)=false:=by simpa using o16
  simp only[b16,PM,PP,ci];by_cases o17:e.op=17\/e.op=18
  ·have o12:¬e.op=12:=by omega
   have hop:e.op=17\/e.op=18/\∃a,e.args=[a]:=by
    rcases o17 with h|h
    ·exact .inl h
    ·refine .inr ⟨h,F9 ?_⟩;have:bg e.op=1:=by rw[h];rfl
     rw[this]at hc;omega
   have hv:=hwrapR (t200 LB IH own ns vs e hop R1' G1 hn1 hs1 he);have hb:(e.op== 17)=true\/(e.op== 17)=false/\(e.op== 18)=true:=by
    rcases o17 with h|h
    ·exact .inl (by rw[h];rfl)
    ·exact .inr ⟨by rw[h];rfl,by rw[h];rfl⟩
   simp only[if_neg o12,if_neg o13,if_neg o15,if_neg o16,PS o17,bH];rcases hb with hb|⟨hb1,hb2⟩
   ·simp only[hb,PQ,K152_0,ax,aE,am,hscl,hexl,ak];exact hv
   ·simp only[hb1,hb2,PM,PP,PQ,K152_0,ax,aE,am,hscl,hexl,ak];exact hv
  have b17:(e.op== 17)=false:=by simp;omega
  have b18:(e.op== 18)=false:=by simp;omega
  simp only[if_neg o13,if_neg o15,if_neg o16,if_neg o17,b17,b18,PM,PP,K152_0,ax,aE,am,bH,dJ,ak];by_cases o12:e.op=12
  ·have b12:(e.op== 12)=true:=by simp[o12]
   have hl2:e.args.length=2:=by
    have:bg e.op=2:=by rw[o12];rfl
    rw[this]at hc;omega
   have i0:au T 24 (bE e.args) (.int .i64 0)=some (.ip (aa e.args[0]!.av)):=ixN 0 (by omega);have i1:au T 24 (bE e.args) (.int .i64 1)=some (.ip (aa e.args[1]!.av)):=ixN 1 (by omega);have hnb:ns.length<=1099511627776/\vs.length<=1099511627776:=by
    have:=hs.len
    have:=G.fuel
    have:=hs.right.1
    omega
   have hvl:∀v:Val,ai T 45 (.ip (aa v.av))=some v.av:=fun v=>by simp
   simp only[b12,PQ,PS o12,hscl,ak,FA66_5,hes,i0,hex];refine fR (IH own ns vs _ (d9 m) h1 R1' G1 hn1 hs1 (hmem 0 (by omega))) (fun a s h=>ji h) (fun v s2 h2 hv R2=>?_) (fun c s w h' hc RE=>?_)
   ·obtain⟨G2,rv,f2⟩:=G1.eval hs1.right hv;have hwt:=t201 own ns vs e.s v hnb.1 hnb.2;simp only[fF,ap,bl,ak,FA66_2,hestr,hvl,hwt,bA,i1,hex];refine hwrapR (IH own (ns++[e.s]) (vs++[v]) _ s2 h2 R2 G2 (by omega) ⟨hs.own,⟨by simp[hs.right.1],fun w hw=>?_⟩,?_⟩ (hmem 1 (by omega)))
    ·rcases Qp.1 hw with k|k
     ·exact hs.right.2 w k
     ·simp only[Qt]at k;subst k;exact rv
    ·have hsl:=hs.len;have htk:(d9 m).fuel=m.fuel-1:=rfl;simp only[P0,Qs];omega
   ·have hwt:=t201 own ns vs e.s w hnb.1 hnb.2;have hev:=uS hc RE (aM own (ns++[e.s]) (vs++[w])) (e.args[1]!).av;refine⟨default,h',?_,RE⟩;simp only[fF,ap,bl,ak,FA66_2,hestr,hvl,hwt,bA,i1,hex];rw[bn hev,lC,ap,cW];rfl
  have b12:(e.op== 12)=false:=by simpa using o12
  simp only[b12,PM,PP,if_neg o12,hscl,hexl,ak];have hk:bg e.op≠-2:=fun h=>hc (.inl h);have hops:e.op=3\/e.op=4\/e.op=5\/e.op=6\/e.op=7\/e.op=8\/e.op=9\/e.op=10\/e.op=11\/e.op=14:=by
   refine Ru fun hno=>hk ?_;unfold bg;rw[if_neg (by omega),if_neg (by omega),if_neg (by omega),if_neg (by omega),if_neg (by omega)]
  have hlen:bg e.op=e.args.length:=by
   have h1:bg e.op≠-1:=by
    unfold bg;rcases hops with h|h|h|h|h|h|h|h|h|h<;>rw[h]<;>decide
   exact Ru fun h=>hc (.inr ⟨h1,h⟩)
  exact hwrapR (t202 IH own ns vs e hops hlen R1' G1 hn1 hs1 he)
end
end Go.Proofs.YtihmmkncokjbaaaGreatDoor
namespace Go.Proofs.YtihmmkncokjbaaaGreatDoor
open Go Go.Av Go.Av.Ap
set_option maxRecDepth 100000
def m9:∀(d:Nat)(v:Val),fV d v=bc d v:=by
 intro d
 induction d with
 |zero=>intro v;simp[fV,bc]
 | succ d ih=>
  intro v;have hfd:fV d=bc d:=funext ih;unfold fV bc;rw[hfd];by_cases hk0:v.kind=0
  ·by_cases hl:v.names.length=v.values.length
   ·rw[if_neg (by omega),PS hk0,PS (by simp[hk0]),QG];simp only[PO,QF,Qk];omega
   ·rw[PS (.inr hl),PS (by simp[hk0])];symm;rw[RF];left;rw[<- Rc];simp only[PO,Qk];omega
  by_cases hk1:v.kind=1
  ·by_cases hl:v.names.length=v.values.length
   ·have e1:(v.names.length== 0&&decide (0<=v.n)&&decide (v.n<=1))=(v.names.length== 0&&v.values.length== 0&&(v.kind== 0||v.n== 0||v.n== 1)):=by
     rw[hl,QG];simp only[PO,QF,Qk,PW];constructor
     ·rintro⟨⟨a,b⟩,c⟩;exact⟨⟨a,a⟩,by omega⟩
     ·rintro⟨⟨a,_⟩,c⟩;refine⟨⟨a,?_⟩,?_⟩<;>rcases c with(c|c)|c<;>omega
    rw[if_neg (by omega),if_neg hk0,PS hk1,PS (by simp[hk1])];exact e1
   ·rw[PS (.inr hl),PS (by simp[hk1])];symm;rw[RF];left;rw[<- Rc];simp only[PO,Qk];omega
  by_cases hk2:v.kind=2
  ·rw [if_neg (show ¬((v.kind== 0||v.kind== 1)=true) by simp[hk2])];by_cases hl:v.names.length=v.values.length
   ·rw [if_neg (by omega),if_neg hk0,if_neg hk1];by_cases hn:v.n=0
    ·by_cases h8:8<v.names.length
     ·rw[PS (.inl (.inr h8))];have:decide (v.names.length<=8)=false:=by simp;omega
      simp[this]
     ·have h8':decide (v.names.length<=8)=true:=by simp;omega
      cases ha:oH v.names with
      |false=>simp
      |true=>
       rw[if_neg (by simp[hn];omega)];simp[hk2,hn,hl]at h8' |-;omega
    ·rw[PS (.inl (.inl hn))];simp[hn]
   ·rw[PS (.inr hl)];have:(v.names.length== v.values.length)=false:=by simpa using hl
    simp[this]
  ·rw[PS (.inl (by omega)),if_neg (by simp[hk0,hk1])];have:(v.kind== 2)=false:=by simpa using hk2
   simp[this]
theorem tQ{α:Type}(F:α->Bool):∀(l:List α)(i:Nat)(h:i<l.length)(c:Int),F l[i]=true->((bj F l c=c+i)↔(l.take i).any F=false)
 |x:: l,0,h,c,hF=>by
  have:F x=true:=hF;simp[bj,this]
 | x:: l,i+1,h,c,hF=>by
  have h':i<l.length:=by simpa using h
  have ih:=tQ F l i h' (c+1) (by simpa using hF);simp only[bj,Rz,Sd];cases hx:F x with
  |true=>
   simp only[PQ,Bool.true_or,Bool.true_eq_false,iff_false];omega
  |false=>
   simp only[PM,PP,SE];rw[<- ih];omega
theorem t107(p:List Mod)(hp:p.length<=1099511627776):aj pg 107 [dI p]=ay (.int .i64 (gR p)):=by
 have loop:∀(n i:Nat),p.length-i=n->i<=p.length->ao (L107_0 (aj pg) ao) [dI p,.int .i64 i]=ay (.int .i64 (if((List.range' i (p.length-i)).any fun k=>(p.take k).any fun m=>m.name== (p[k]?.getD default).name)=true then 5 else 0)):=by
  intro n
  induction n with
  |zero=>
   intro i hn hi;obtain rfl:i=p.length:=by omega
   rw[FL107_0];have hll:aN T 92 (dI p)=some (.int .i64 p.length):=mW _;simp only[L107_0,ax,aE,hll,bC,ak,am,Q0,QR,PM,PP];simp
  | succ n ih=>
   intro i hn hi;have hlt:i<p.length:=by omega
   have h1:(i:Int)<(p.length:Int):=by omega
   have hll:aN T 92 (dI p)=some (.int .i64 p.length):=mW _;have hix:=nu (l:=p) (n:=(i:Int)) (by omega) h1;rw[show ((i:Int)).toNat=i by omega,PY p i hlt]at hix;have hmd:=t150 p hp p[i].name;have hnm:ai T 9 (.ip ((aa p[i].av).drop 0))=some (.str p[i].name):=by simp
   have hw:IntKind.i64.wrap ((i:Int)+1)=((i+1:Nat):Int):=cr (by omega);have hrange:List.range' i (p.length-i)=i:: List.range' (i+1) (p.length-(i+1)):=by
    rw[show p.length-i=(p.length-(i+1))+1 by omega,R8]
   have hgi:(p[i]?.getD default)=p[i]:=by rw[P1 hlt];rfl
   have hfst:=tQ (fun m:Mod=>m.name== p[i].name) p i hlt 0 (by simp);rw[FL107_0];simp only[L107_0,ax,aE,hll,bC,ak,am,h1,QA,PQ,hix,FA29_0,hnm,hmd,ap,fL];rw[hrange];simp only[Sd,hgi];cases ha:(p.take i).any (fun m=>m.name== p[i].name)with
   | true=>
    have:¬(jb p p[i].name=(i:Int)):=fun h=>by
     have:=hfst.1 (by rw[<- h];simp[jb])
     rw[ha]at this;cases this
    have hb:(jb p p[i].name != (i:Int))=true:=by simpa using this
    simp[hb]
   | false=>
    have:jb p p[i].name=(i:Int):=by
     have:=hfst.2 ha
     simpa [jb]using this
    have hb:(jb p p[i].name != (i:Int))=false:=by simp[this]
    simp only[hb,PM,PP,cy,ak,hw,SE];exact ih (i+1) (by omega) (by omega)
 have hl:=loop p.length 0 rfl (by omega);have hll:aN T 92 (dI p)=some (.int .i64 p.length):=mW _;have hS:S107 (aj pg) ao (dI p)=ay (.int .i64 (gR p)):=by
  unfold gR;by_cases h20:20<p.length
  ·have hd:decide ((20:Int)<(p.length:Int))=true:=by simp;omega
   simp only[S107,hll,jf,ak,am,hd,PQ,PS h20]
  ·have hd:decide ((20:Int)<(p.length:Int))=false:=by simp;omega
   simp only[S107,hll,jf,ak,am,hd,PM,PP,if_neg h20];have hz:((0:Nat):Int)=0:=rfl;rw[hz]at hl;rw[hl];unfold BG;rw[Sz];rfl
 rw[C107,mn,hS,dW]
def GF:RepR [] [] Ot 0 (dO [] 100000 []) [[.hn,.int .i64 0,.int .i64 0,.int .i64 0,.hn,.hn,.hn,.hn,.hn,.hn,.int .i64 0,.int .i64 100000,.int .i64 0]]:=
 ⟨List.suffix_refl _,fun _=>rfl,fun _=>0,.hn,.hn,.hn,rfl,rfl,.inl ⟨rfl,rfl⟩,.inl ⟨rfl,rfl⟩,.inl ⟨rfl,rfl⟩,rfl,fun _=>rfl⟩
theorem t108(e:Exp)(ns:List aR)(vs:List Val)(he:bh e)(hn:ns.length<=274877906944)(hv:br vs<=4611686018427387904):aj pg 108 [e.av,strs ns,vals vs]=ay (fp (lz e ns vs)):=by
 have hra:=t151 vs hv;have hfe:(fV 4)=(bc 4):=funext (m9 4);rw[hfe]at hra;have hB:aT T true 182 [(4,.int .i64 100000)]=some (.agg [.hn,.int .i64 0,.int .i64 0,.int .i64 0,.hn,.hn,.hn,.hn,.hn,.hn,.int .i64 0,.int .i64 100000,.int .i64 0]):=rfl;have hBS:aT T false 185 [(0,.int .i64 (-1)),(1,strs ns),(2,vals vs)]=some (aM (-1) ns vs):=rfl;have hnew:∀g:AV->M AV,af (newH [.hn,.int .i64 0,.int .i64 0,.int .i64 0,.hn,.hn,.hn,.hn,.hn,.hn,.int .i64 0,.int .i64 100000,.int .i64 0]) g []=g (.hp 0 0) [[.hn,.int .i64 0,.int .i64 0,.int .i64 0,.hn,.hn,.hn,.hn,.hn,.hn,.int .i64 0,.int .i64 100000,.int .i64 0]]:=fun g=>rfl;have hex:ai T 66 (.ip (aa e.av))=some e.av:=by simp
 have hvl:∀v:Val,ai T 45 (.ip (aa v.av))=some v.av:=fun v=>by simp
 have hpair:∀v:Val,∀x:AV,(ay (AV.tup [AV.agg [ae (aa v.av) 0,ae (aa v.av) 1,ae (aa v.av) 2,ae (aa v.av) 3],x]):M AV)=ay (.tup [v.av,x]):=fun v x=>by
  rw[cw,Val.av_eq];rfl
 rw[C108,ny,eh,yV];unfold lz;obtain⟨code,hS⟩:∃c,S108 (aj pg) ao e.av (strs ns) (vals vs) []=c:=⟨_,rfl⟩;have hcode:=hS;have hgu:aF (.bool ((ns.length:Int) != (vs.length:Int))) false 1 (ay [.bool !(vs.all (bc 4))])=ay [gv ((ns.length:Int) != (vs.length:Int)) false (.bool !(vs.all (bc 4)))]:=bI _ _ _;simp -implicitDefEqProofs only[S108,dA,hP,ak,fL,hra,ap,bq,hgu,ax,eV,am]at hcode;by_cases hr:ns.length=vs.length/\vs.all (bc 4)=true
 ·rw[PS hr];have hb:((ns.length:Int) != (vs.length:Int)||!(vs.all (bc 4)))=false:=by simp[hr.1,hr.2]
  have hrs:kN ns vs:=⟨hr.1,fun v hv=>(P7.1 hr.2) v hv⟩;have hev:=OZ (full:=[]) xC (by simp) 100000 (-1) ns vs e _ _ GF xi (by simp[dO]) ⟨by simp,hrs,by simp only[dO];omega⟩ he;simp -implicitDefEqProofs only[hb,PM,PP,hB,ak,bl,hnew,hBS,hex]at hcode;cases hx:bo [] 100000 (-1) ns vs e (dO [] 100000 [])with
  |ok v s=>
   rw[hx]at hev;obtain⟨h',e1,R'⟩:=hev;rw[bn e1]at hcode;simp -implicitDefEqProofs only[fF,ap,bl,aZ,ak,FH182_1,FH162_0,Qb,Qu,R'.lErr,fD,Ra,am,PM,PP,hvl,lC,hpair]at hcode;exact nR (h':=h') (hS.trans hcode.symm) fun g=>mo g _ _
  |er c s=>
   rw[hx]at hev;have hc0:(c != 0)=true:=by have:=nI hx;simpa using this
   obtain⟨w,h',e1,R'⟩:=hev;rw[bn e1]at hcode;simp -implicitDefEqProofs only[fF,ap,bl,aZ,ak,FH182_1,FH162_0,Qb,Qu,R'.lErr,fD,hc0,am,PQ,jE,lC,hpair]at hcode;exact nR (h':=h') (hS.trans hcode.symm) fun g=>mo g _ _
 ·rw [if_neg hr];have hb:((ns.length:Int) != (vs.length:Int)||!(vs.all (bc 4)))=true:=by
   by_cases h1:ns.length=vs.length
   ·have:vs.all (bc 4)=false:=by
     rw[<- Rc];exact fun h2=>hr ⟨h1,h2⟩
    simp[this]
   ·have:((ns.length:Int) != (vs.length:Int))=true:=by
     rw[Rf];omega
    simp[this]
  simp -implicitDefEqProofs only[hb,PQ,jE,ak,lC,ap,hpair]at hcode;exact nR (h':=[]) (hS.trans hcode.symm) fun g=>mo g _ _
theorem uk(outer:List AV->M AV)(p:List Mod)(out:List Vars)(k:Int)(x:Mod)(hes:∀e∈x.init,bh e)(hlen:x.init.length<=274877906944)(hout:out.length<=1099511627776)(hk1:-4611686018427387904<=k)(hk2:k<=4611686018427387904):∀(B A:List Exp)(acc:List Val),A++B=x.init->acc.length=A.length->
  ao (L66_0 (aj pg) ao outer) [dI p,dR out,.int .i64 k,.ip (aa x.av),.int .i64 A.length,.str x.name,vals acc]=
  match i6 B with
  |.error c=>ay (.tup [.sl [],.int .i64 c])
  |.ok vs=>outer [dI p,dR (out++[⟨x.name,acc++vs⟩]),.int .i64 (k+1)]
 |[],A,acc,e,hac=>by
  simp only[Qq]at e;subst e;have hle:aN T 24 (bE x.init)=some (.int .i64 x.init.length):=eP _;have hes5:ai T 24 (.ip ((aa x.av).drop 3))=some (bE x.init):=by simp
  have hb:aG T 89 1 [(0,.agg [.str x.name,vals acc])]=some (dR [⟨x.name,acc⟩]):=rfl;have ha:cf T 89 (dR out) (dR [⟨x.name,acc⟩])=some (dR (out++[⟨x.name,acc⟩])):=L9 (by simp;omega);have hw:IntKind.i64.wrap (k+1)=k+1:=bd (by omega) (by omega);rw[FL66_0];simp -implicitDefEqProofs only[L66_0,ax,aE,FA29_3,hes5,hle,bC,ak,am,Q0,QR,PM,PP,hb,ha,cy,hw];simp[i6]
 | y:: B,A,acc,e,hac=>by
  have hll:A.length+(B.length+1)=x.init.length:=by rw[<- e];simp
  have h1:(A.length:Int)<(x.init.length:Int):=by omega
  have hx:x.init[A.length]'(by omega)=y:=by simp[<- e]
  have hm:y∈x.init:=by rw[<- e];simp
  have hix:=kL (l:=x.init) (n:=(A.length:Int)) (by omega) h1;rw[show ((A.length:Int)).toNat=A.length by omega,PY x.init A.length (by omega),hx]at hix;have hex:ai T 66 (.ip (aa y.av))=some y.av:=by simp
  have hle:aN T 24 (bE x.init)=some (.int .i64 x.init.length):=eP _;have hes5:ai T 24 (.ip ((aa x.av).drop 3))=some (bE x.init):=by simp
  have hcall:aj pg 108 [y.av,.sl [],.sl []]=ay (fp (lz y [] [])):=t108 y [] [] (hes y hm) (by simp) (by simp[br]);have hw:IntKind.i64.wrap ((A.length:Int)+1)=((A.length+1:Nat):Int):=cr (by omega);rw[FL66_0];simp -implicitDefEqProofs only[L66_0,ax,aE,FA29_3,hes5,hle,bC,ak,am,h1,QA,PQ,hix,hex,hcall,ap];unfold i6;cases hr:lz y [] []with
  | er c s=>
   have hc0:(c != 0)=true:=by
    have:=lN hr
    simpa using this
   simp -implicitDefEqProofs only[fp,aO,PU,PZ,ak,bu (cL default),ap,fD,hc0,am,PQ]
  |ok v s=>
   have hb2:aG T 30 1 [(0,v.av)]=some (vals [v]):=by rw[v.av_eq];simp[vals,dP,v.av_eq];rfl
   have ha2:cf T 30 (vals acc) (vals [v])=some (vals (acc++[v])):=kj (by simp;omega);have hc1:cp (vals (acc++[v]))=ay (vals (acc++[v])):=rfl;have hvv:∀v:Val,AV.agg (aa v.av)=v.av:=fun v=>by simp
   have h00:((0:Int) != 0)=false:=rfl;have hvl:ai T 45 (.ip (aa v.av))=some v.av:=by simp
   have ih:=uk outer p out k x hes hlen hout hk1 hk2 B (A++[y]) (acc++[v]) (by rw[<- e];simp) (by simp[hac]);simp only[QP,Rb,P0,Qs]at ih;simp -implicitDefEqProofs only[fp,aO,PU,PZ,ak,bu (cL v),ap,fD,h00,am,PM,PP,hvv,hvl,hb2,ha2,hc1,cy,hw,ih];cases i6 B<;>rfl
theorem t66(p:List Mod)(hp:p.length<=1099511627776)(hm:∀m∈p,m.vars.length<=1099511627776/\m.init.length<=274877906944/\∀e∈m.init,bh e):aj pg 66 [dI p]=ay (iz (fb p)):=by
 have hlm:aN T 92 (dI p)=some (.int .i64 p.length):=mW _;have hloop:∀(B A:List Mod)(out:List Vars),A++B=p->out.length=A.length->ao (L66_1 (aj pg) ao) [dI p,dR out,.int .i64 A.length]=
   ay (match fY B with|.error c=>.tup [.sl [],.int .i64 c]|.ok r=>.tup [dR (out++r),.int .i64 0]):=by
  intro B
  induction B with
  |nil=>
   intro A out e ho;simp only[Qq]at e;subst e;rw[FL66_1];simp -implicitDefEqProofs only[L66_1,ax,aE,hlm,bC,ak,am,Q0,QR,PM,PP,fY,Qq]
  | cons x B ih=>
   intro A out e ho;have hll:A.length+(B.length+1)=p.length:=by rw[<- e];simp
   have h1:(A.length:Int)<(p.length:Int):=by omega
   have hx:p[A.length]'(by omega)=x:=by simp[<- e]
   have hmm:x∈p:=by rw[<- e];simp
   obtain⟨m1,m2,m3⟩:=hm x hmm;have hix:=nu (l:=p) (n:=(A.length:Int)) (by omega) h1;rw[show ((A.length:Int)).toNat=A.length by omega,PY p A.length (by omega),hx]at hix;have hB:aT T true 94 [(0,.str x.name)]=some (.agg [.str x.name,.hn]):=rfl;have hC:az 2 [1] (.agg [.str x.name,.hn])=ay (.agg [.str x.name,.hn]):=rfl;have hes5:ai T 24 (.ip ((aa x.av).drop 3))=some (bE x.init):=by simp
   have hps2:ai T 23 (.ip ((aa x.av).drop 2))=some (bm x.vars):=by simp
   have hnm0:ai T 9 (.ip ((aa x.av).drop 0))=some (.str x.name):=by simp
   have hldm:ai T 29 (.ip (aa x.av))=some x.av:=rfl;have hin:=uk (ao (L66_1 (aj pg) ao)) p out A.length x m3 m2 (by omega) (by omega) (by omega) x.init [] [] rfl rfl;rw[FL66_1];simp -implicitDefEqProofs only[L66_1,ax,aE,hlm,bC,ak,am,h1,QA,PQ,hix,hldm,bu (kE x),ap];have hag:aa (AV.agg (aa x.av))=aa x.av:=rfl;simp -implicitDefEqProofs only[hag,FA29_0,FA29_2,FA29_3,hes5,hps2,hnm0,ak,eP,bU,hB,hC,fL,am,ap,bl,ax,aE];unfold fY;by_cases hl:x.init.length=x.vars.length
   ·have hl':((x.init.length:Int) != (x.vars.length:Int))=false:=by simp[hl]
    simp only[hl',PM,PP,PS hl];have hz:((([]:List Exp).length:Nat):Int)=0:=rfl;rw[hz]at hin;have hv0:vals []= .sl []:=rfl;rw[hv0]at hin;rw[hin];cases i6 x.init with
    |error c=>rfl
    |ok vs=>
     have:=ih (A++[x]) (out++[⟨x.name,vs⟩]) (by rw[<- e];simp) (by simp[ho])
     simp only[P0,Qs]at this;have hcast:((A.length:Int)+1)=((A.length+1:Nat):Int):=by omega
     simp only[Qv,hcast,this];cases fY B<;>simp
   ·have hl':((x.init.length:Int) != (x.vars.length:Int))=true:=by
     rw[Rf];omega
    simp only[hl',PQ,if_neg hl]
 have h0:=hloop p [] [] rfl rfl;have hS:S66 (aj pg) ao (dI p)=ay (iz (fb p)):=by
  unfold fb;by_cases hn:gR p=0
  ·have hn':(gR p != 0)=false:=by simp[hn]
   simp -implicitDefEqProofs only[S66,t107 p hp,ap,fD,ak,hn',am,PM,PP];rw[PS hn];simp only[Qr,Qv]at h0;have:dR []= .sl []:=rfl;rw[this]at h0;have hz:((0:Nat):Int)=0:=rfl;rw[hz]at h0;rw[h0];cases fY p<;>rfl
  ·have hn':(gR p != 0)=true:=by simp[hn]
   simp -implicitDefEqProofs only[S66,t107 p hp,ap,fD,ak,hn',am,PQ];rw[if_neg hn];rfl
 rw[C66,mn,hS];exact bw fun g=>by
  cases fb p with
  |error e=>rfl
  |ok st=>simp[iz,cl,eM]
theorem lW(a b:Int):aw T .neq 3 (.int .i64 a) (.int .i64 b)=some (.bool (a != b)):=rfl
theorem qj(a b:Int):aw T .gtr 3 (.int .i64 a) (.int .i64 b)=some (.bool (decide (b<a))):=rfl
def kd{k:Nat}(h:k<=4611686018427387904):aw T BinOp.add 3 (.int .i64 (k:Int)) (.int .i64 1)=some (.int .i64 (k+1:Nat)):=by
 have:IntKind.i64.wrap ((k:Int)+1)=((k+1:Nat):Int):=by rw[bd (by omega) (by omega)];omega
 simp[this]
def rL(s:aR)(g:Val->Bool):Bool->List aR->List Val->Bool
 |b,n:: ns,v:: vs=>rL s g (if n=s then g v else b) ns vs
 |b,_,_=>b
theorem rM{s:aR}{g:Val->Bool}:∀(ns:List aR)(vs:List Val)(b:Bool),ns.Nodup->rL s g b ns vs=match dh ns vs s with|some x=>g x|none=>b
 |[],_,_,_=>rfl
 |n:: ns,[],_,_=>rfl
 | n :: ns,v:: vs,b,h=>by
  rw[SA]at h;rw[rL,rM ns vs _ h.2,dh];by_cases hn:n=s
  ·rw[PS hn,PS hn];have hno:∀(ms:List aR)(ws:List Val),s ∉ ms->dh ms ws s=none:=by
    intro ms
    induction ms with
    |nil=>intro ws _;cases ws<;>rfl
    |cons m ms ih=>
     intro ws hm;rw[Qm,not_or]at hm;cases ws with
     |nil=>rfl
     |cons w ws=>rw[dh,if_neg (fun e=>hm.1 e.symm)];exact ih ws hm.2
   rw[hno ns vs (by rw[<- hn];exact h.1)]
  ·rw[if_neg hn,if_neg hn]
def CB{l:List aR}(h:oH l=true):l.Nodup:=by
 have hp:=E4 l h;exact hp.imp fun{a b} hab e=>by rw[e,gX]at hab;cases hab
def wU{d:Nat}{f:cE}{v:Val}(hl:v.names.length=v.values.length):(decide (0<=jJ v.names f.1)&&iI d f.2 v.values[(jJ v.names f.1).toNat]!)=match dh v.names v.values f.1 with|some x=>iI d f.2 x|none=>false:=by
 unfold jJ;rcases py (s:=f.1) v.names v.values 0 hl (Re _)with⟨h1,h2⟩|⟨k,h1,h2,h3⟩
 ·rw[h1,h2];rfl
 ·rw[h1,h3,Int.zero_add,P8,PY v.values k h2,P1 h2,PT (by omega),QJ]
theorem FJ:∀ {n:Nat} {v:Val},bc n v=true->oH v.names=true
 |0,v,h=>by cases h
 | n+1,v,h=>by
  unfold bc at h;split at h
  ·simp only[PO,Qk]at h;rw[P6 h.1.1];rfl
  ·simp only[PO]at h;exact h.1.2
def KZ(k0:List AV->M AV)(d:Nat)(t:Ty)(v:Val)(i:Nat)(hi:i<t.fields.length)(ht:t.fields.length<=8)(hl:v.names.length=v.values.length)(h8:v.names.length<=8)(hx:∀x∈v.values,aj pg 60 [t.fields[i].2.av,x.av]=ay (.bool (iI d t.fields[i].2 x))):∀(r k:Nat)(b:Bool),v.names.length-k=r->k<=v.names.length->
  ao (L60_0 (aj pg) ao k0) [.ip (aa t.av),.ip (aa v.av),.int .i64 (i:Int),.bool b,.int .i64 (k:Int)]=if rL t.fields[i].1 (iI d t.fields[i].2) b (v.names.drop k) (v.values.drop k)=true then k0 [.ip (aa t.av),.ip (aa v.av),.int .i64 (i+1:Nat)]else ay (.bool false):=by
 have hix:=gp (l:=t.fields) (n:=(i:Int)) (by omega) (by omega);rw[P8,PY t.fields i hi]at hix;generalize t.fields[i]=f at hix hx;intro r
 induction r with
 |zero=>
  intro k b hr hk;have hke:k=v.names.length:=by omega
  subst hke;have h1:¬((v.names.length:Int)<(v.names.length:Int)):=by omega
  rw[FL60_0,RN];cases b with
  |false=>simp only[L60_0,ax,aE,Kk,Kl,ak,dA,db,PX h1,am,PM,PP,bq,Qd,PQ,rL]
  |true=>simp only[L60_0,ax,aE,Kk,Kl,ak,dA,db,PX h1,am,PM,PP,bq,Qa,PQ,rL,kd (k:=i) (by omega)]
 | succ r IH=>
  intro k b hr hk;have hk1:k<v.names.length:=by omega
  have hk2:k<v.values.length:=by omega
  have h1:(k:Int)<(v.names.length:Int):=by omega
  have his:=mG (l:=v.names) (n:=(k:Int)) (by omega) h1;have hiv:=hM (l:=v.values) (n:=(k:Int)) (by omega) (by omega);rw[P8,PY v.names k hk1]at his;rw[P8,PY v.values k hk2]at hiv;have hh:=hx _ (P2 hk2);rw[FL60_0,P9 hk1,P9 hk2,rL];have ih:=fun b=>IH (k+1) b (by omega) (by omega);generalize v.names[k]=nm at his;generalize v.values[k]=x at hiv hh;by_cases he:nm=f.1
  ·have hq:(nm== f.1)=true:=by simp[he]
   rw[PS he,<- ih];simp only[L60_0,K60_0,ax,aE,ci,Kk,Kl,ak,dA,db,PT h1,am,PQ,his,F7,tf1,tl1,hix,ow,oA,wM,hq,oz,oB,NJ,NK,hiv,qm,hh,bA,ap,kd (k:=k) (by omega)]
  ·have hq:(nm== f.1)=false:=Qj.2 he;rw[if_neg he,<- ih];simp only[L60_0,K60_0,ax,aE,ci,Kk,Kl,ak,dA,db,PT h1,am,PQ,his,F7,tf1,tl1,hix,ow,oA,wM,hq,PM,PP,kd (k:=k) (by omega)]
def HV(d:Nat)(t:Ty)(v:Val)(n:Nat)(ht:t.fields.length<=8)(hv:bc n v=true)(hx:∀f∈t.fields,∀x∈v.values,aj pg 60 [f.2.av,x.av]=ay (.bool (iI d f.2 x))):∀r i:Nat,t.fields.length-i=r->i<=t.fields.length->
  ao (L60_1 (aj pg) ao) [.ip (aa t.av),.ip (aa v.av),.int .i64 (i:Int)]=ay (.bool ((t.fields.drop i).all fun f=>decide (0<=jJ v.names f.1)&&iI d f.2 v.values[(jJ v.names f.1).toNat]!)):=by
 obtain⟨hl,h8,_⟩:=tI hv;have hnd:=CB (FJ hv);intro r
 induction r with
 |zero=>
  intro i hr hi;have hie:i=t.fields.length:=by omega
  subst hie;have h1:¬((t.fields.length:Int)<(t.fields.length:Int)):=by omega
  rw[FL60_1,RN];simp only[L60_1,ax,aE,tf1,tl1,ak,bU,db,PX h1,am,PM,PP,List.all_nil]
 |succ r IH=>
  intro i hr hi;have hi1:i<t.fields.length:=by omega
  have h1:(i:Int)<(t.fields.length:Int):=by omega
  have hin:=KZ (ao (L60_1 (aj pg) ao)) d t v i hi1 ht hl h8 (hx _ (P2 hi1)) v.names.length 0 false rfl (Qy _);have ih:=IH (i+1) (by omega) (by omega);rw[Qe,Qe,rM _ _ _ hnd,ih]at hin;have hin':ao (L60_0 (aj pg) ao (ao (L60_1 (aj pg) ao))) [.ip (aa t.av),.ip (aa v.av),.int .i64 (i:Int),.bool false,.int .i64 0]=_:=hin;rw[FL60_1,P9 hi1,QH,wU hl];simp only[L60_1,ax,aE,tf1,tl1,ak,bU,db,PT h1,am,PQ,hin'];generalize (match dh v.names v.values t.fields[i].1 with|some x=>iI d t.fields[i].2 x|none=>false)=c;cases c<;>simp
theorem Nq:∀(d:Nat)(t:Ty)(n:Nat)(v:Val),cj d t=true->bc n v=true->aj pg 60 [t.av,v.av]=ay (.bool (iI d t v))
 |0,_,_,_,h,_=>by cases h
 | d+1,t,n,v,h,hv=>by
  have h2:=h;rw[dQ]at h2;simp only[PO,PW,P7]at h2;have h8:t.fields.length<=8:=by omega
  obtain⟨_,_,hk⟩:=tI hv;have ho:=HV d t v n h8 hv (fun f hf x hx=>by
   obtain⟨m,hm⟩:=hk x hx;exact Nq d f.2 m x (h2.2.1 f hf).2 hm) t.fields.length 0 rfl (Qy _)
  rw[Qe]at ho;have ho':ao (L60_1 (aj pg) ao) [.ip (aa t.av),.ip (aa v.av),.int .i64 0]=_:=ho;rw[C60,kp,gO];have e:S60 (aj pg) ao t.av v.av=ay (.bool (iI (d+1) t v)):=by
   rw[iI];by_cases hkk:t.kind=v.kind
   ·have hq:(t.kind != v.kind)=false:=by simp[hkk]
    have hq2:(t.kind== v.kind)=true:=by simp[hkk]
    simp only[S60,tf0,tl0,IK,IL,ak,lW,hq,am,PM,PP,ho',hq2,QJ]
   ·have hq:(t.kind != v.kind)=true:=by simpa using hkk
    have hq2:(t.kind== v.kind)=false:=by simpa using hkk
    simp only[S60,tf0,tl0,IK,IL,ak,lW,hq,am,PQ,hq2,QZ]
  rw[e];exact dK _
def t25(t:Ty)(v:Val)(ht:t.Lim)(hz:v.sz<=1099511627776):aj pg 25 [t.av,v.av]=ay (.bool (fc t v)):=by
 have h1:=t58 t ht;have h2:=t59 v (by omega);rw[m9]at h2;rw[C25,kp,gO];have e:S25 (aj pg) ao t.av v.av=ay (.bool (fc t v)):=by
  unfold fc;cases hr:dx t with
  |false=>
   rw[hr]at h1;simp only[S25,Da,ak,h1,ap,dl,List.replicate,ax,aS,QZ]
  | true=>
   rw[hr]at h1;cases hv:bc 4 v with
   |false=>
    rw[hv]at h2;simp only[S25,Da,qm,ak,h1,h2,ap,aL,dl,List.replicate,ax,aY,aS,QZ,QJ]
   |true=>
    rw[hv]at h2;have h3:=Nq 4 t 4 v hr hv;simp only[S25,Da,qm,ak,h1,h2,h3,ap,aL,ax,aY,QJ]
 rw[e];exact dK _
def Lh(d:Nat)(t:Ty)(hk:t.fields.length<=8)(hx:∀f∈t.fields,aj pg 61 [f.2.av]=ay (fK d f.2).av)(a b c e:AV):∀r k:Nat,t.fields.length-k=r->k<=t.fields.length->
  ao (L61_0 (aj pg) ao) [.ip (aa t.av),.int .i64 (k:Int),a,b,c,e,.int .i64 t.kind,.int .i64 0,strs ((t.fields.take k).map (·.1)),vals ((t.fields.take k).map fun f=>fK d f.2)]=ay (fK (d+1) t).av:=by
 intro r
 induction r with
 |zero=>
  intro k hr hkl;have hke:k=t.fields.length:=by omega
  subst hke;have h1:¬((t.fields.length:Int)<(t.fields.length:Int)):=by omega
  have cn:∀(ns:List aR)(vs:List Val),az 4 [] (.agg [.int .i64 t.kind,.int .i64 0,strs ns,vals vs])=ay (.agg [.int .i64 t.kind,.int .i64 0,strs ns,vals vs]):=fun _ _=>rfl;rw[FL61_0,Rt];simp only[L61_0,ax,aE,tf1,tl1,bU,db,ak,am,PX h1,PM,PP,cn,ap,Hj];rfl
 |succ r IH=>
  intro k hr hkl;have hk1:k<t.fields.length:=by omega
  have h1:(k:Int)<(t.fields.length:Int):=by omega
  have hix:=gp (l:=t.fields) (n:=(k:Int)) (by omega) h1;rw[P8,PY t.fields k hk1]at hix;have hz:=hx _ (P2 hk1);have ih:=IH (k+1) (by omega) (by omega);rw[Q1 hk1,Rw,Rw]at ih;have hap:∀s:aR,cf T 22 (strs ((t.fields.take k).map (·.1))) (strs [s])=some (strs ((t.fields.take k).map (·.1)++[s])):=fun s=>oC (by simp;omega);have hap2:∀v:Val,cf T 30 (vals ((t.fields.take k).map fun f=>fK d f.2)) (vals [v])=some (vals ((t.fields.take k).map (fun f=>fK d f.2)++[v])):=fun v=>kj (by simp;omega);have c1:∀l:List aR,cp (strs l)=ay (strs l):=fun _=>rfl;have c2:∀l:List Val,cp (vals l)=ay (vals l):=fun _=>rfl;rw[FL61_0];generalize t.fields[k]=f at hix hz ih;simp only[L61_0,ax,aE,tf1,tl1,bU,db,ak,am,PT h1,PQ,hix,ow,oA,LM,hap,c1,ap,oz,oB,hz,bA,LN,hap2,c2,kd (k:=k) (by omega)];exact ih
theorem t61:∀(d:Nat)(t:Ty),cj d t=true->aj pg 61 [t.av]=ay (fK d t).av
 |0,_,h=>by cases h
 | d+1,t,h=>by
  have h2:=h;rw[dQ]at h2;simp only[PO,PW,P7]at h2;have bb:aT T true 45 [(0,.int .i64 t.kind)]=some (.agg [.int .i64 t.kind,.int .i64 0,.hn,.hn]):=rfl;have cn:az 4 [2,3] (.agg [.int .i64 t.kind,.int .i64 0,.hn,.hn])=ay (.agg [.int .i64 t.kind,.int .i64 0,.hn,.hn]):=rfl;have L:=Lh d t (by omega) (fun f hf=>t61 d f.2 (h2.2.1 f hf).2) (.int .i64 0) (.int .i64 0) (.sl []) (.sl []) t.fields.length 0 rfl (Qy _);have L':ao (L61_0 (aj pg) ao) [.ip (aa t.av),.int .i64 0,.int .i64 0,.int .i64 0,.sl [],.sl [],.int .i64 t.kind,.int .i64 0,.sl [],.sl []]=ay (fK (d+1) t).av:=L;rw[C61,kp];have e:S61 (aj pg) ao t.av=ay (fK (d+1) t).av:=by
   simp only[S61,tf0,tl0,ak,bb,cn,ap,Hj,ax,aE,L']
  rw[e];exact iM _
theorem t26(t:Ty)(ht:t.Lim):aj pg 26 [t.av]=ay (fm t).av:=by
 have hR:=t58 t ht;have b0:aT T false 45 []=some (Val.mk 0 0 [] []).av:=rfl;have va:∀v:Val,AV.agg [ae (aa v.av) 0,ae (aa v.av) 1,ae (aa v.av) 2,ae (aa v.av) 3]=v.av:=fun v=>by cases v;rfl
 have cn:∀v:Val,az 4 [] v.av=ay v.av:=fun v=>by simp
 rw[C26,kp];have e:S26 (aj pg) ao t.av=ay (fm t).av:=by
  unfold fm;cases hr:dx t with
  |false=>
   rw[hr]at hR;simp only[S26,Da,ak,hR,ap,bq,Qd,am,PQ,b0,cn,va,PM,PP]
  |true=>
   rw[hr]at hR;have hz:=t61 4 t hr;simp only[S26,Da,ak,hR,ap,bq,Qa,am,PM,PP,PQ,hz,cn,va]
 rw[e];exact iM _
theorem tT:∀(l:List aR)(a:aR),b6 [44] (l++[a])=if l=[]then a else b6 [44] l++44:: a
 |[],a=>rfl
 |[b],a=>by simp[b6]
 |b:: c:: l,a=>by
  have:=tT (c:: l) a
  rw[if_neg (by simp)]at this;rw[if_neg (by simp)];simp only[QC,b6]at this |-;rw[this];simp
def t105(n:Int)(h0:-9223372036854775808<=n)(h1:n<=9223372036854775807):aj pg 105 [.int .i64 n]=ay (.str (cI n)):=by
 rw[dB aH (E:=lq) rfl];simp only[lq,PT h0,PT h1,Ry,PV];rfl
def Li(v:Val)(hl:v.names.length=v.values.length)(h8:v.names.length<=8)(hj:(b6 [44] (List.zipWith bv v.names v.values)).length<=1000000)(hjt:∀k,(b6 [44] ((List.zipWith bv v.names v.values).take k)).length<=1000000)(hx:∀x∈v.values,aj pg 64 [x.av]=ay (.str (cO x))):∀r k:Nat,v.names.length-k=r->k<=v.names.length->
  ao (L64_0 (aj pg) ao) [.ip (aa v.av),.str (123:: b6 [44] ((List.zipWith bv v.names v.values).take k)),.int .i64 (k:Int)]=ay (.str (123:: (b6 [44] (List.zipWith bv v.names v.values)++[125]))):=by
 intro r
 induction r with
 |zero=>
  intro k hr hk;have hke:k=v.names.length:=by omega
  subst hke;have h1:¬((v.names.length:Int)<(v.names.length:Int)):=by omega
  have htk:(List.zipWith bv v.names v.values).take v.names.length=List.zipWith bv v.names v.values:=Q6 (by simp[hl]);have c2:=Di (123:: b6 [44] (List.zipWith bv v.names v.values)) [125] (by simp only[P4,Qr];omega);rw[FL64_0,htk];simp only[L64_0,ax,aE,Kk,Kl,dA,db,ak,am,PX h1,PM,PP,c2];simp
 | succ r IH=>
  intro k hr hk;have hk1:k<v.names.length:=by omega
  have hk2:k<v.values.length:=by omega
  have h1:(k:Int)<(v.names.length:Int):=by omega
  have hix:=mG (l:=v.names) (n:=(k:Int)) (by omega) h1;have hiv:=hM (l:=v.values) (n:=(k:Int)) (by omega) (by omega);rw[P8,PY v.names k hk1]at hix;rw[P8,PY v.values k hk2]at hiv;have hz:=hx _ (P2 hk2);have hzl:k<(List.zipWith bv v.names v.values).length:=by simp;omega
  have htk:(List.zipWith bv v.names v.values).take (k+1)=(List.zipWith bv v.names v.values).take k++[bv v.names[k] v.values[k]]:=by
   rw[Q1 hzl];simp
  have ih:=IH (k+1) (by omega) (by omega);have hb1:=hjt k;have hb2:=hjt (k+1);rw[htk,tT]at ih hb2;have hemp:((List.zipWith bv v.names v.values).take k=[])↔k=0:=by
   constructor
   ·intro h
    have:=PR List.length h
    rw[Rh,Qr]at this;omega
   ·intro h;rw[h];rfl
  rw[FL64_0];generalize v.names[k]=nm at hix ih hb2;generalize v.values[k]=x at hiv hz ih hb2;generalize (List.zipWith bv v.names v.values).take k=l at ih hb1 hb2 hemp |-;by_cases hk0:k=0
  ·have hle:=hemp.2 hk0;have g0:¬((0:Int)<(k:Int)):=by omega
   rw[PS hle]at ih hb2;have hp2:(bv nm x).length=nm.length+(1+(cO x).length):=by unfold bv;simp only[P0,P4];omega
   have e0:b6 [44] l=[]:=by rw[hle];rfl
   have c1:=Di [123] nm (by simp only[P4,Qr];omega);have c2:=Di ([123]++nm) [61] (by simp only[P0,P4,Qr];omega);have c3:=Di ([123]++nm++[61]) (cO x) (by simp only[P0,P4,Qr];omega);have e3:[123]++nm++[61]++cO x=123:: bv nm x:=by simp[bv]
   rw[e0];simp only[L64_0,K64_0,ci,ax,aE,Kk,Kl,dA,db,qj,ak,am,PT h1,PQ,PX g0,PM,PP,NJ,NK,hiv,qm,hz,ap,hix,F7,c1,c2,c3,e3,kd (k:=k) (by omega)];exact ih
  ·have hle:¬l=[]:=fun h=>hk0 (hemp.1 h);have g0:(0:Int)<(k:Int):=by omega
   rw[if_neg hle]at ih hb2;have hp2:(bv nm x).length=nm.length+(1+(cO x).length):=by unfold bv;simp only[P0,P4];omega
   rw[P0,P4]at hb2;have c0:=Di (123:: b6 [44] l) [44] (by simp only[P4,Qr];omega);have c1:=Di (123:: b6 [44] l++[44]) nm (by simp only[P0,P4,Qr];omega);have c2:=Di (123:: b6 [44] l++[44]++nm) [61] (by simp only[P0,P4,Qr];omega);have c3:=Di (123:: b6 [44] l++[44]++nm++[61]) (cO x) (by simp only[P0,P4,Qr];omega);have e3:123:: b6 [44] l++[44]++nm++[61]++cO x=123:: (b6 [44] l++44:: bv nm x):=by simp[bv]
   simp only[L64_0,K64_0,ci,ax,aE,Kk,Kl,dA,db,qj,ak,am,PT h1,PQ,PT g0,c0,NJ,NK,hiv,qm,hz,ap,hix,F7,c1,c2,c3,e3,kd (k:=k) (by omega)];exact ih
theorem tU:∀(l:List aR)(k:Nat),(b6 [44] (l.take k)).length<=(b6 [44] l).length
 |[],k=>by simp
 |[a],k=>by cases k<;>simp[b6]
 | a:: b:: l,k=>by
  cases k with
  |zero=>simp[b6]
  | succ k=>
   cases k with
   |zero=>simp[b6]
   |succ k=>
    have:=tU (b:: l) (k+1)
    simp only[Rz,b6,P0]at this |-;omega
def t64:∀(N:Nat)(v:Val),SizeOf.sizeOf v<=N->bc 4 v=true->qI v->(cO v).length<=1000000->aj pg 64 [v.av]=ay (.str (cO v)):=by
 intro N
 induction N with
 |zero=>intro v h;cases v;simp at h
 | succ N ih=>
  intro v hN hf hi hlen;have hib:=(lT v).1 hi;rw[C64,gO];by_cases h0:v.kind=0
  ·have ht:cO v=cI v.n:=by unfold cO;rw[PS hf,eL,PS h0]
   have hI:=t105 v.n hib.1.1 hib.1.2;rw[ht];have e:S64 (aj pg) ao v.av=ay (.str (cI v.n)):=by
    simp only[S64,IK,IL,ak,mH,PT h0,am,PQ,Nt,Nu,hI,ap]
   rw[e];exact iL _
  ·by_cases h1:v.kind=1
   ·have ht:cO v=if v.n=1 then jZ else gQ:=by unfold cO;rw[PS hf,eL,if_neg h0,PS h1]
    rw[ht];have e:S64 (aj pg) ao v.av=ay (.str (if v.n=1 then jZ else gQ)):=by
     by_cases hn:v.n=1
     ·simp only[S64,IK,IL,ak,mH,PX h0,PT h1,am,PM,PP,PQ,Nt,Nu,PT hn,PS hn];rfl
     ·simp only[S64,IK,IL,ak,mH,PX h0,PT h1,am,PM,PP,PQ,Nt,Nu,PX hn,if_neg hn];rfl
    rw[e];exact iL _
   ·obtain⟨ht,g1,g2,g3⟩:=yt hf h0 h1;have hj:(b6 [44] (List.zipWith bv v.names v.values)).length<=1000000:=by
     have e:(cO v).length=(b6 [44] (List.zipWith bv v.names v.values)).length+2:=by
      rw[ht];show (123:: (b6 [44] (List.zipWith bv v.names v.values)++[125])).length=_;simp
     omega
    have hx:∀x∈v.values,aj pg 64 [x.av]=ay (.str (cO x)):=fun x hx=>by
     obtain⟨i,hi1,rfl⟩:=RH.1 hx;have hm:bv v.names[i] v.values[i]∈List.zipWith bv v.names v.values:=by
      refine RH.2 ⟨i,by simp;omega,by simp⟩
     have h4:=nS hm;have h5:(cO v.values[i]).length<=(bv v.names[i] v.values[i]).length:=by unfold bv;simp only[P0,P4];omega
     exact ih _ (by have:=vU hx;omega) (g3 _ hx) (hib.2 _ hx) (by omega)
    have hL:=Li v g1 g2 hj (fun k=>QQ (tU _ k) hj) hx v.names.length 0 rfl (Qy _);have hL':ao (L64_0 (aj pg) ao) [.ip (aa v.av),.str [123],.int .i64 0]=ay (.str (123:: (b6 [44] (List.zipWith bv v.names v.values)++[125]))):=hL;have ht':cO v=123:: (b6 [44] (List.zipWith bv v.names v.values)++[125]):=ht;rw[ht'];have e:S64 (aj pg) ao v.av=ay (.str (123:: (b6 [44] (List.zipWith bv v.names v.values)++[125]))):=by
     simp only[S64,IK,IL,ak,mH,PX h0,PX h1,am,PM,PP,hL']
    rw[e];exact iL _
def t29(v:Val)(hz:v.sz<=1099511627776)(hi:qI v)(hlen:(cO v).length<=1000000):aj pg 29 [v.av]=ay (.str (cO v)):=by
 have hR:=t59 v (by omega);rw[m9]at hR;rw[C29,gO];have e:S29 (aj pg) ao v.av=ay (.str (cO v)):=by
  cases hf:bc 4 v with
  |false=>
   rw[hf]at hR;have ht:cO v=[]:=by unfold cO;rw[if_neg (by simp[hf])]
   rw[ht];simp only[S29,qm,ak,hR,ap,bq,Qd,am,PQ]
  |true=>
   rw[hf]at hR;have hT:=t64 _ v (P5 _) hf hi hlen;simp only[S29,qm,ak,hR,ap,bq,Qa,am,PM,PP,hT]
 rw[e];exact iL _
theorem O0(a b:Int):aw T .geq 5 (.int .u8 a) (.int .u8 b)=some (.bool (decide (b<=a))):=rfl
theorem O3(a b:Int):aw T .leq 5 (.int .u8 a) (.int .u8 b)=some (.bool (decide (a<=b))):=rfl
theorem Oc(a b:Int):aw T .eql 5 (.int .u8 a) (.int .u8 b)=some (.bool (decide (a=b))):=rfl
theorem nO(a b:Int):aw T .geq 3 (.int .i64 a) (.int .i64 b)=some (.bool (decide (b<=a))):=rfl
def vd{s:aR}{k:Nat}(h:k<s.length):bV T 9 (.str s) (.int .i64 (k:Int))=some (.int .u8 s[k].toNat):=by
 show (if(k:Int)<0 then none else s[((k:Int)).toNat]?.map fun b=>AV.int .u8 b.toNat)=_;rw[if_neg (by omega),P8,P1 h];rfl
theorem t101(c:UInt8):aj pg 101 [.int .u8 c.toNat]=ay (.bool (cN c)):=by
 have hc:cl aB (.int .u8 (c.toNat:Int))= .int .u8 (c.toNat:Int):=rfl;rw[C101,hc];have hq:(((decide ((97:Int)<=c.toNat)&&decide ((c.toNat:Int)<=122))||(decide ((65:Int)<=c.toNat)&&decide ((c.toNat:Int)<=90)))||(decide ((48:Int)<=c.toNat)&&decide ((c.toNat:Int)<=57))||decide ((c.toNat:Int)=95))=cN c:=by
  unfold cN;rw[QG];simp only[PO,QF,PW];omega
 have e:S101 (aj pg) ao (.int .u8 (c.toNat:Int))=ay (.bool (cN c)):=by
  simp only[S101,O0,O3,Oc,ax,ak,bI,Ci,Cj,zu,ek,eV,ap,hq]
 rw[e];exact dK _
def r8(o:Option Int)(r:AV):Prop:=match o with
 |some n=>r= .tup [.int .i64 n,.bool true]
 |none=>∃n:Int,r= .tup [.int .i64 n,.bool false]
theorem H5(s ds:aR)(hs:s.length<=1000000)(hds:ds.length<=1000000)(hlen:(ds.length=s.length)↔¬s.head? = some 45):∀(r k:Nat)(n:Int),ds.length-k=r->k<=ds.length->(-9223372036854775808<=n/\n<=9223372036854775807)->
  ∃v,ao (L100_0 (aj pg) ao) [.str s,.str ds,.int .i64 n,.int .i64 (k:Int)]=ay v/\r8 (match iH n (ds.drop k)with|none=>none|some m=>if cI (jQ s m)=s then some (jQ s m)else none) v:=by
 intro r
 induction r with
 | zero=>
  intro k n hr hk hn;have hke:k=ds.length:=by omega
  subst hke;have h1:¬((ds.length:Int)<(ds.length:Int)):=by omega
  have hw:-9223372036854775808<=jQ s n/\jQ s n<=9223372036854775807:=by
   unfold jQ;split
   ·exact hn
   ·rw[IntKind.wrap_i64];omega
  have hD:=t105 (jQ s n) hw.1 hw.2;have ng:eX UnOp.neg (.int .i64 n)=some (.int .i64 (IntKind.i64.wrap (0-n))):=rfl;rw[FL100_0,RN];show ∃v,_/\r8 (if cI (jQ s n)=s then some (jQ s n)else none) v;have hres:r8 (if cI (jQ s n)=s then some (jQ s n)else none) (.tup [.int .i64 (jQ s n),.bool (cI (jQ s n)== s)]):=by
   by_cases he:cI (jQ s n)=s
   ·rw[PS he,Qk.2 he];exact rfl
   ·rw[if_neg he,Qj.2 he];exact⟨_,rfl⟩
  refine⟨_,?_,hres⟩;by_cases h45:s.head? = some 45
  ·have hl:¬(ds.length:Int)=(s.length:Int):=fun h=>(hlen.1 (by omega)) h45;have hsg:jQ s n=n:=by unfold jQ;rw[PS h45]
   rw[hsg]at hD |-;simp only[L100_0,K100_0,ci,ax,aE,dz,db,ak,am,PX h1,PM,PP,mH,PX hl,hD,ap,wM]
  ·have hl:(ds.length:Int)=(s.length:Int):=by have:=hlen.2 h45;omega
   have hsg:jQ s n=IntKind.i64.wrap (0-n):=by unfold jQ;rw[if_neg h45]
   rw[hsg]at hD |-;simp only[L100_0,K100_0,ci,ax,aE,dz,db,ak,am,PX h1,PM,PP,mH,PT hl,PQ,ng,hD,ap,wM]
 | succ r IH=>
  intro k n hr hk hn;have hk1:k<ds.length:=by omega
  have h1:(k:Int)<(ds.length:Int):=by omega
  have hix:=vd (s:=ds) hk1;have hadd:=kd (k:=k) (by omega);rw[FL100_0,P9 hk1,iH];generalize ds[k]=c at hix;by_cases hc:c.toNat<48\/57<c.toNat
  ·rw[PS hc];refine⟨_,?_,⟨0,rfl⟩⟩;have hq:(decide ((c.toNat:Int)<48)||decide ((57:Int)<(c.toNat:Int)))=true:=by simp;omega
   simp only[L100_0,ax,aE,dz,db,ak,am,PT h1,PQ,hix,OU,OP,bI,eV,ap,hq]
  ·rw[if_neg hc];have hq:(decide ((c.toNat:Int)<48)||decide ((57:Int)<(c.toNat:Int)))=false:=by simp;omega
   have hmul:aw T .mul 3 (.int .i64 n) (.int .i64 10)=some (.int .i64 (IntKind.i64.wrap (n*10))):=rfl;have hs8:aw T .sub 5 (.int .u8 (c.toNat:Int)) (.int .u8 48)=some (.int .u8 (c.toNat-48:Nat)):=by
    show some (AV.int .u8 (IntKind.u8.wrap ((c.toNat:Int)-48)))=_;have hb:=c.toNat_lt;have:IntKind.u8.wrap ((c.toNat:Int)-48)=((c.toNat-48:Nat):Int):=by rw[IntKind.wrap_u8];omega
    rw[this]
   have hcv:wF T 5 3 (.int .u8 ((c.toNat-48:Nat):Int))=some (.int .i64 ((c.toNat-48:Nat):Int)):=by
    show some (AV.int .i64 (IntKind.i64.wrap ((c.toNat-48:Nat):Int)))=_;have hb:=c.toNat_lt;rw[bd (by omega) (by omega)]
   have hsub:aw T .sub 3 (.int .i64 (IntKind.i64.wrap (n*10))) (.int .i64 ((c.toNat-48:Nat):Int))=some (.int .i64 (IntKind.i64.wrap (IntKind.i64.wrap (n*10)-((c.toNat-48:Nat):Int)))):=rfl;obtain⟨v,e1,e2⟩:=IH (k+1) (IntKind.i64.wrap (IntKind.i64.wrap (n*10)-((c.toNat-48:Nat):Int))) (by omega) (by omega) (by rw[IntKind.wrap_i64];omega);refine⟨v,?_,e2⟩;rw[<- e1];simp only[L100_0,ax,aE,dz,db,ak,am,PT h1,PQ,hix,OU,OP,bI,eV,ap,hq,PM,PP,hmul,hs8,hcv,hsub,hadd]
theorem t100(s:aR)(hs:s.length<=1000000):∃v,aj pg 100 [.str s]=ay v/\r8 (ql s) v:=by
 have hcs:cl aB (.str s)= .str s:=rfl;rw[C100,hcs];have e:∃v,S100 (aj pg) ao (.str s)=ay v/\r8 (ql s) v:=by
  have tailR:∀ds:aR,uN s=ds->ds.length<=1000000->((ds.length=s.length)↔¬s.head? = some 45)->∃v,K100_1 (aj pg) ao [.str s,.str ds]=ay v/\r8 (ql s) v:=fun ds hd hl hlen=>by
   unfold ql;rw[hd];by_cases hc:ds.length=0\/19<ds.length
   ·have hq:(decide ((ds.length:Int)=0)||decide ((19:Int)<(ds.length:Int)))=true:=by
     rcases hc with h|h
     ·rw[PT (by omega)];rfl
     ·rw[PT (p:=(19:Int)<(ds.length:Int)) (by omega),Bool.or_true]
    rw[PS hc];refine⟨_,?_,⟨0,rfl⟩⟩;simp only[K100_1,ax,aE,dz,mH,qj,ak,bI,eV,ap,hq,am,PQ]
   ·have hq:(decide ((ds.length:Int)=0)||decide ((19:Int)<(ds.length:Int)))=false:=by
     rw[not_or]at hc;rw[PX (by omega),PX (by omega)];rfl
    rw[if_neg hc];obtain⟨v,e1,e2⟩:=H5 s ds hs hl hlen ds.length 0 0 rfl (Qy _) ⟨by decide,by decide⟩;refine⟨v,?_,by
     rw[Qe]at e2;cases hd2:iH 0 ds with
     |none=>rw[hd2]at e2;exact e2
     |some m=>rw[hd2]at e2;exact e2⟩
    rw[<- e1];simp only[K100_1,ax,aE,dz,mH,qj,ak,bI,eV,ap,hq,am,PM,PP];rfl
  cases s with
  |nil=>
   obtain⟨v,e1,e2⟩:=tailR [] rfl (by simp) (by simp);refine⟨v,?_,e2⟩;rw[<- e1];have g0:¬((0:Int)<((([]:aR).length:Nat):Int)):=by simp
   simp only[S100,ci,dz,qj,PX g0,ak,dl,ap,aS,am,PM,PP]
  | cons c t=>
   have g0:(0:Int)<(((c:: t).length:Nat):Int):=by simp only[P4];omega
   have hix:bV T 9 (.str (c:: t)) (.int .i64 0)=some (.int .u8 c.toNat):=vd (s:=c:: t) (k:=0) (by simp);by_cases h45:c=45
   ·have hc:decide ((c.toNat:Int)=45)=true:=by rw[h45];decide
    have hsl:cV T 9 (.str (c:: t)) (some (.int .i64 1)) none none=some (.str t):=by
     have:=qD (c:: t) (n:=1) (by omega) (by simp only[P4];omega)
     simpa using this
    obtain⟨v,e1,e2⟩:=tailR t (by unfold uN;rw[h45];rfl) (by simp only[P4]at hs;omega) (by simp[h45]);refine⟨v,?_,e2⟩;rw[<- e1];simp only[S100,ci,dz,qj,PT g0,ak,aL,hix,Oc,hc,ap,ax,aY,am,PQ,hsl]
   ·have hc:decide ((c.toNat:Int)=45)=false:=by
     refine PX fun h=>h45 ?_;have:c.toNat=45:=by omega
     exact SX.1 this
    obtain⟨v,e1,e2⟩:=tailR (c:: t) (by unfold uN;rw[if_neg (by simpa using h45)]) hs (by simp[h45]);refine⟨v,?_,e2⟩;rw[<- e1];simp only[S100,ci,dz,qj,PT g0,ak,aL,hix,Oc,hc,ap,ax,aY,am,PM,PP]
 obtain⟨v,e1,e2⟩:=e;refine⟨v,?_,e2⟩;rw[e1];refine bw fun g=>?_;unfold r8 at e2;cases hn:ql s with
 |none=>rw[hn]at e2;obtain⟨n,rfl⟩:=e2;rfl
 |some n=>rw[hn]at e2;rw[e2];rfl
def gb(s:aR)(o:Option (Val×aR)):AV:=match o with
 |some x=>.tup [x.1.av,.int .i64 ((s.length:Int)-x.2.length)]
 |none=>.tup [(Val.mk 0 0 [] []).av,.int .i64 (-1)]
def Kb(s:aR)(o:Option (Val×aR)):Ap.Clean (gb s o):=fun g=>by cases o<;>simp[gb,cl,eM]
theorem yy(p:UInt8->Bool):∀l:aR,(l.takeWhile p).length<=l.length/\(∀k (h:k<l.length),k<(l.takeWhile p).length->p l[k]=true)/\(∀h:(l.takeWhile p).length<l.length,p l[(l.takeWhile p).length]=false)/\l.take (l.takeWhile p).length=l.takeWhile p/\l.drop (l.takeWhile p).length=l.dropWhile p
 |[]=>⟨by simp,fun k h=>by simp at h,fun h=>by simp at h,rfl,rfl⟩
 | c:: l=>by
  obtain⟨i1,i2,i3,i4,i5⟩:=yy p l;cases hc:p c with
  |false=>
   have e1:(c:: l).takeWhile p=[]:=by rw[RA,hc];rfl
   have e2:(c:: l).dropWhile p=c:: l:=by rw[Sf,hc];rfl
   rw[e1,e2];exact⟨by simp,fun k h hk=>by simp at hk,fun h=>by simpa using hc,rfl,rfl⟩
  | true=>
   have e1:(c:: l).takeWhile p=c:: l.takeWhile p:=by rw[RA,hc];rfl
   have e2:(c:: l).dropWhile p=l.dropWhile p:=by rw[Sf,hc];rfl
   rw[e1,e2];refine⟨by simp only[P4];omega,fun k h hk=>?_,fun h=>?_,?_,?_⟩
   ·cases k with
    |zero=>simpa using hc
    |succ k=>simpa using i2 k (by simpa using h) (by simpa using hk)
   ·simpa using i3 (by simpa using h)
   ·rw[P4,Rz,i4]
   ·rw[P4,Qf,i5]
def xL(c:UInt8)(k:UInt8):((c.toNat:Int) != (k.toNat:Int))= !(c== k):=by
 rw[QG];simp only[Rf,QU,Qj];constructor
 ·intro h e;exact h (by rw[e])
 ·intro h e;exact h (SX.1 (by omega))
theorem AF:aT T false 45 []=some (Val.mk 0 0 [] []).av:=rfl
def ly(v:Val):az 4 [] v.av=ay v.av:=by simp
def lB(v:Val):AV.agg [ae (aa v.av) 0,ae (aa v.av) 1,ae (aa v.av) 2,ae (aa v.av) 3]=v.av:=by cases v;rfl
def uZ{s:aR}{k:Nat}(h:k<s.length):(s.drop k).head? = some s[k]:=by rw[P9 h];rfl
def vP(s:aR)(k:Nat):(s.drop k).tail=s.drop (k+1):=by simp
def Kj(p:UInt8->Bool)(s:aR)(a:Nat):∃n,(s.drop a).takeWhile p=(s.drop a).take n/\(s.drop a).dropWhile p=s.drop (a+n)/\n=((s.drop a).takeWhile p).length/\n+a<=max s.length a/\(∀k (h:k<s.length),a<=k->k<a+n->p s[k]=true)/\(∀h:a+n<s.length,p s[a+n]=false):=by
 obtain⟨f1,f2,f3,f4,f5⟩:=yy p (s.drop a);refine⟨_,f4.symm,by rw[<- f5,S4],rfl,by rw[Rj]at f1;omega,fun k h h1 h2=>?_,fun h=>?_⟩
 ·have:=f2 (k-a) (by rw[Rj];omega) (by omega)
  rw[List.getElem_drop]at this;have e:a+(k-a)=k:=by omega
  simp only[e]at this;exact this
 ·have:=f3 (by rw[Rj];omega)
  rw[List.getElem_drop]at this;exact this
theorem G8(s:aR)(a:Nat)(ha:a<=s.length)(hs:s.length<=1000000)(x1 x2 x3 x4:AV):∀(r e:Nat),a<=e->e+r=a+((s.drop a).takeWhile dn).length->
  ao (L57_0 (aj pg) ao) [.str s,.int .i64 (a:Int),.int .i64 (e:Int),x1,x2,x3,x4]=ay (gb s (match cH ((s.drop a).takeWhile dn)with|none=>none|some v=>some (v,(s.drop a).dropWhile dn))):=by
 obtain⟨n,t1,t2,t3,t4,t5,t6⟩:=Kj dn s a;have hn:a+n<=s.length:=by omega
 intro r
 induction r with
 | zero=>
  intro e he hr;have hee:e=a+n:=by omega
  subst hee;have hsl:cV T 9 (.str s) (some (.int .i64 (a:Int))) (some (.int .i64 ((a+n:Nat):Int))) none=some (.str ((s.drop a).takeWhile dn)):=by
   have e0:cV T 9 (.str s) (some (.int .i64 (a:Int))) (some (.int .i64 ((a+n:Nat):Int))) none=(match cg (some (.int .i64 ((a+n:Nat):Int))) s.length s.length with|none=>none|some h=>match cg (some (.int .i64 (a:Int))) 0 h with|none=>none|some l=>some (AV.str ((s.take h).drop l))):=rfl;have b1:cg (some (.int .i64 ((a+n:Nat):Int))) s.length s.length=some (a+n):=by simp[cg];omega
   have b2:cg (some (.int .i64 (a:Int))) 0 (a+n)=some a:=by simp[cg];omega
   rw[e0,b1];simp only;rw[b2];simp only;rw[t1,S3];congr 3;omega
  have hstop:∃c1 c2:Bool,(∀f:AV->M AV,(af (ah (aw T .lss 3 (.int .i64 ((a+n:Nat):Int)) (.int .i64 s.length))) fun v12=>af (aF v12 true 1 (af (ah (bV T 9 (.str s) (.int .i64 ((a+n:Nat):Int)))) (fun v13=>af (ah (aw T BinOp.neq 5 v13 (AV.int IntKind.u8 44))) (fun v14=>ay [v14])))) (fun v15=>af (ah (aI v12 (ae v15 0) (AV.bool false))) (fun v16=>af (aF v16 true 1 (af (ah (bV T 9 (.str s) (.int .i64 ((a+n:Nat):Int)))) (fun v17=>af (ah (aw T BinOp.neq 5 v17 (AV.int IntKind.u8 125))) (fun v18=>ay [v18])))) (fun v19=>af (ah (aI v16 (ae v19 0) (AV.bool false))) f))))=f (.bool false))/\c1=c2:=by
   refine⟨true,true,fun f=>?_,rfl⟩;by_cases hlt:a+n<s.length
   ·have hix:=vd hlt;have hst:=t6 hlt;unfold dn at hst;simp only[Si,SC,List.contains_nil,S6]at hst;have h1:((a+n:Nat):Int)<(s.length:Int):=by omega
    generalize s[a+n]=c at hix hst;have n1:=xL c 44;have n2:=xL c 125;simp only[UInt8.reduceToNat,RD]at n1 n2;cases h44:(c== 44)with
    |true=>
     rw[h44]at n1;simp only[db,PT h1,ak,aL,hix,Dj,n1,Qa,ap,ax,aY,dl,List.replicate,aS]
    |false=>
     rw[h44,SE]at hst;rw[hst]at n2;rw[h44]at n1;simp only[db,PT h1,ak,aL,hix,Dj,n1,n2,Qa,Qd,ap,ax,aY]
   ·have h1:¬((a+n:Nat):Int)<(s.length:Int):=by omega
    simp only[db,PX h1,ak,dl,ap,List.replicate,ax,aS]
  obtain⟨_,_,hstop,-⟩:=hstop;have hdl:((s.drop a).dropWhile dn).length=s.length-(a+n):=by rw[t2,Rj]
  have hpos:((a+n:Nat):Int)=(s.length:Int)-((s.drop a).dropWhile dn).length:=by rw[hdl];omega
  have hnum:=t100 ((s.drop a).takeWhile dn) (by rw[<- t3];omega);have b1:aT T false 45 [(0,.int .i64 1),(1,.int .i64 1)]=some (Val.mk 1 1 [] []).av:=rfl;have b2:aT T false 45 [(0,.int .i64 1)]=some (Val.mk 1 0 [] []).av:=rfl;have b3:∀n:Int,aT T false 45 [(1,.int .i64 n)]=some (Val.mk 0 n [] []).av:=fun _=>rfl;rw[FL57_0];by_cases w1:(s.drop a).takeWhile dn=jZ
  ·have hx:cH ((s.drop a).takeWhile dn)=some (.mk 1 1 [] []):=by rw[w1];rfl
   have q1:((s.drop a).takeWhile dn== ([116,114,117,101]:aR))=true:=by rw[w1];rfl
   rw[hx];show _=ay (AV.tup [(Val.mk 1 1 [] []).av,.int .i64 ((s.length:Int)-((s.drop a).dropWhile dn).length)]);rw[<- hpos];simp only[L57_0,ax,aE,dz,ak];rw[hstop];simp only[am,PM,PP,hsl,ak,wM,q1,PQ,b1,ly,ap,lB]
  ·have q1:((s.drop a).takeWhile dn== ([116,114,117,101]:aR))=false:=Qj.2 w1;by_cases w2:(s.drop a).takeWhile dn=gQ
   ·have hx:cH ((s.drop a).takeWhile dn)=some (.mk 1 0 [] []):=by rw[w2];rfl
    have q2:((s.drop a).takeWhile dn== ([102,97,108,115,101]:aR))=true:=by rw[w2];rfl
    rw[hx];show _=ay (AV.tup [(Val.mk 1 0 [] []).av,.int .i64 ((s.length:Int)-((s.drop a).dropWhile dn).length)]);rw[<- hpos];simp only[L57_0,ax,aE,dz,ak];rw[hstop];simp only[am,PM,PP,hsl,ak,wM,q1,q2,PQ,b2,ly,ap,lB]
   ·have q2:((s.drop a).takeWhile dn== ([102,97,108,115,101]:aR))=false:=Qj.2 w2;rw[Bl w1 w2];obtain⟨v,e1,e2⟩:=hnum;cases hN:ql ((s.drop a).takeWhile dn)with
    |none=>
     rw[hN]at e2;obtain⟨m,rfl⟩:=e2;simp only[L57_0,ax,aE,dz,ak];rw[hstop];simp only[am,PM,PP,hsl,ak,wM,q1,q2,e1,ap,aO,PU,PZ,bq,Qd,PQ,AF,ly,lB,gb,Option.map_none]
    |some m=>
     rw[hN]at e2;have e3:v= .tup [.int .i64 m,.bool true]:=e2;subst e3;show _=ay (AV.tup [(Val.mk 0 m [] []).av,.int .i64 ((s.length:Int)-((s.drop a).dropWhile dn).length)]);rw[<- hpos];simp only[L57_0,ax,aE,dz,ak];rw[hstop];simp only[am,PM,PP,hsl,ak,wM,q1,q2,e1,ap,aO,PU,PZ,bq,Qa,b3,ly,lB]
 |succ r IH=>
  intro e he hr;have hlt:e<s.length:=by omega
  have hix:=vd hlt;have hst:=t5 e hlt he (by omega);unfold dn at hst;simp only[QU,SC,List.contains_nil,S6,Rl]at hst;have h1:(e:Int)<(s.length:Int):=by omega
  generalize s[e]=c at hix hst;have n1:=xL c 44;have n2:=xL c 125;simp only[UInt8.reduceToNat,RD]at n1 n2;rw[hst.1]at n1;rw[hst.2]at n2;have ih:=IH (e+1) (by omega) (by omega);rw[FL57_0,<- ih];simp only[L57_0,ax,aE,dz,db,PT h1,ak,aL,hix,Dj,n1,n2,Qd,ap,aY,am,PQ,kd (k:=e) (by omega)]
end Go.Proofs.YtihmmkncokjbaaaGreatDoor
