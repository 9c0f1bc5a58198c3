/- What the functions of the seat compute, part 7: the texts of the claim, one behind the other. Conditions: bounds, as each theorem names them. -/
import Derived.Test.YtnipfhmghjdnmaaGreatTf
set_option linter.defProp false
set_option linter.unusedSimpArgs false
set_option linter.unusedVariables false
namespace Go.Proofs.YtnipfhmghjdnmaaGreat
open Go Go.Av Go.Av.Ap
set_option maxRecDepth 100000
def pQ{v:Val}(h:Rv v)(hk:v.kind=1):(v.n=0\/v.n=1)/\v=cC (v.n== 1):=by
 unfold Rv at h;obtain⟨k,n,ns,vs⟩:=v;simp only[Nt]at hk;subst hk;simp only[bU,Nt,Ny,Nr,Nq]at h|-;simp only[show ((1:Int)== 0||(1:Int)== 1)=true from rfl,NS,NG,Ol,Ox]at h;obtain⟨⟨h1,h2⟩,h3⟩:=h;have e1:=NV h1;have e2:=NV h2;subst e1 e2;rcases h3 with(h3|h3)|h3
 ·simp at h3
 ·subst h3;exact⟨.inl rfl,rfl⟩
 ·subst h3;exact⟨.inr rfl,rfl⟩
def xV{v:Val}(h:Rv v)(hk:¬v.kind=2):v.names=[]:=by
 unfold Rv bU at h;split at h
 ·simp only[NG,Ol]at h;exact NV h.1.1
 ·simp only[NG,Ol]at h;exact absurd h.1.1.1.1.1 hk
section
variable {p:List Mod} {full:List Int} {nm:SNm} {m:Ms} {h:Hp}
theorem zA(R:RepR p full nm 0 m h)(e:Exp)(v:Val)(hv:v.names.length=v.values.length)(h8:v.names.length<=8)(y4 y5 y6 y7:AV):∀(n i:Nat),v.names.length-i=n->i<=v.names.length->
  gb p full nm ((match eP (v.names.drop i) (v.values.drop i) e.s with|some x=>X.ok x|none=>X.er 13) m) (aj (L163_0 (ai pg) aj) [.hp 0 0,.ip (aa e.av),.ip (aa v.av),.int .i64 i,y4,y5,y6,y7] h):=by
 intro n
 induction n with
 |zero=>
  intro i hn hi;obtain rfl:i=v.names.length:=by omega
  rw[QS,FL163_0];have hls:aJ T 28 (strs v.names)=some (.int .i64 v.names.length):=kV _;have hns:af T 28 (.ip ((aa v.av).drop 2))=some (strs v.names):=by simp
  simp only[L163_0,aL,aY,FA71_2,hns,hls,bV,am,az,Po,OU,NC,NK];exact cp R 13 (by decide)
 | succ n ih=>
  intro i hn hi;have hlt:i<v.names.length:=by omega
  have hlt2:i<v.values.length:=by omega
  have h1:(i:Int)<(v.names.length:Int):=by omega
  have hix:=yE (l:=v.names) (n:=(i:Int)) (by omega) h1;rw[show ((i:Int)).toNat=i by omega,ND v.names i hlt]at hix;have hiv:=ou (l:=v.values) (n:=(i:Int)) (by omega) (by omega);rw[show ((i:Int)).toNat=i by omega,ND v.values i hlt2]at hiv;have hls:aJ T 28 (strs v.names)=some (.int .i64 v.names.length):=kV _;have hns:af T 28 (.ip ((aa v.av).drop 2))=some (strs v.names):=by simp
  have hvs:af T 61 (.ip ((aa v.av).drop 3))=some (vals v.values):=by simp
  have hes:af T 9 (.ip ((aa e.av).drop 2))=some (.str e.s):=by simp
  have hld:af T 71 (.ip (aa v.values[i].av))=some v.values[i].av:=by simp
  have hst:af T 9 (.ip (aa (AV.str v.names[i])))=some (.str v.names[i]):=rfl;have hw:IntKind.i64.wrap ((i:Int)+1)=((i+1:Nat):Int):=fb (by omega);have hf:eP (v.names.drop i) (v.values.drop i) e.s=if v.names[i]=e.s then some v.values[i]else eP (v.names.drop (i+1)) (v.values.drop (i+1)) e.s:=by
   rw[NI hlt,NI hlt2];rfl
  rw[hf,FL163_0];simp only[L163_0,aL,aY,FA71_2,FA71_3,hns,hvs,hls,bV,am,az,h1,OH,NS,hix,hst,FA31_2,hes,vE];by_cases hs:v.names[i]=e.s
  ·have hsb:(v.names[i]== e.s)=true:=by simpa using hs
   simp only[hsb,NS,NE hs,hiv,hld,am];exact qq R
  ·have hsb:(v.names[i]== e.s)=false:=by simpa using hs
   simp only[hsb,NC,NK,if_neg hs,dD,am,hw];exact ih (i+1) (by omega) (by omega)
def LR(r:Exp->X Val)(e:Exp):X Val:=
 if e.op=3\/e.op=4\/e.op=5\/e.op=6\/e.op=7 then(r e.args[0]!).bind fun a=>(r e.args[1]!).bind fun b=>jK e.op a b
 else if e.op=8\/e.op=9 then(boolX (r e.args[0]!)).bind fun x=>if x=(e.op== 9)then .ok (cC (e.op== 9))else(boolX (r e.args[1]!)).bind fun y=>.ok (cC y)
 else if e.op=10 then(boolX (r e.args[0]!)).bind fun x=>.ok (cC !x)
 else if e.op=11 then(boolX (r e.args[0]!)).bind fun x=>if x=true then r e.args[1]! else r e.args[2]!
 else(r e.args[0]!).bind fun v=>(match eP v.names v.values e.s with|some x=>if v.kind=2 then .ok x else .er 13|none=>.er 13)
theorem A6{n:Nat}(IH:CF p full nm n)(own:Int)(ns:List bk)(vs:List Val)(a:Exp)(R:RepR p full nm 0 m h)(G:GoodM p m)(hn:m.fuel<=n)(hs:Sc p own ns vs m)(he:bc a):
  gb p full nm (ba p n own ns vs a m) (ae (ai pg 113 [.hp 0 0,aD own ns vs,a.av]) (fun v=>ae (ap 4 [] v) fun v=>M.pure (AV.agg [nth (aa v) 0,nth (aa v) 1,nth (aa v) 2,nth (aa v) 3])) h):=by
 have H:=IH own ns vs a m h R G hn hs he;generalize ba p n own ns vs a m=r at H |-;cases r with
 |ok v s=>
  obtain⟨h',e1,R'⟩:=H;rw[aZ e1,kT,aA,cz];exact⟨h',rfl,R'⟩
 |er c s=>
  obtain⟨w,h',e1,R'⟩:=H;rw[aZ e1,kT,aA,cz];exact⟨w,h',rfl,R'⟩
theorem t163{n:Nat}(IH:CF p full nm n)(own:Int)(ns:List bk)(vs:List Val)(e:Exp)(hop:e.op=3\/e.op=4\/e.op=5\/e.op=6\/e.op=7\/e.op=8\/e.op=9\/e.op=10\/e.op=11\/e.op=14)(hlen:aW e.op=e.args.length)(R:RepR p full nm 0 m h)(G:GoodM p m)(hn:m.fuel<=n)(hs:Sc p own ns vs m)(he:bc e):
  gb p full nm (LR (ba p n own ns vs) e m) (ai pg 163 [.hp 0 0,aD own ns vs,e.av] h):=by
 have hscl:af T 174 (.ip [.int .i64 own,strs ns,vals vs])=some (aD own ns vs):=rfl;have hpos:0<e.args.length:=by
  rcases hop with h|h|h|h|h|h|h|h|h|h<;>rw[h]at hlen<;>simp[aW]at hlen<;>omega
 have ixN:∀k:Nat,k<e.args.length->ak T 29 (cb e.args) (.int .i64 (k:Int))=some (.ip (aa e.args[k]!.av)):=fun k hk=>by
  have:=kQ (l:=e.args) (n:=(k:Int)) (by omega) (by omega)
  rw[show ((k:Int)).toNat=k by omega]at this;exact this
 have i0:ak T 29 (cb e.args) (.int .i64 0)=some (.ip (aa e.args[0]!.av)):=ixN 0 hpos;have hex:∀a:Exp,af T 31 (.ip (aa a.av))=some a.av:=fun a=>by simp
 have hmem:∀k:Nat,k<e.args.length->bc e.args[k]!:=fun k hk=>by
  rw[ND e.args k hk];exact bg he (NW hk)
 have hes:af T 29 (.ip ((aa e.av).drop 5))=some (cb e.args):=by simp
 have heop:af T 3 (.ip ((aa e.av).drop 0))=some (.int .i64 e.op):=by simp
 have hvk:∀v:Val,af T 3 (.ip ((aa v.av).drop 0))=some (.int .i64 v.kind):=fun v=>by simp
 have hvn:∀v:Val,af T 3 (.ip ((aa v.av).drop 1))=some (.int .i64 v.n):=fun v=>by simp
 have hvl:∀v:Val,af T 71 (.ip (aa v.av))=some v.av:=fun v=>by simp
 have htr:∀b:Bool,ae (ai pg 157 [AV.bool b]) (fun v13=>ae (ap 4 [] v13) fun v14=>M.pure (AV.agg [nth (aa v14) 0,nth (aa v14) 1,nth (aa v14) 2,nth (aa v14) 3]))=M.pure (cC b).av:=fun b=>by
  rw[t157,aA,kT,aA,cz]
 generalize hcode:ai pg 163 [.hp 0 0,aD own ns vs,e.av] h=code;rw[C163]at hcode;simp -implicitDefEqProofs only[S163,bu,hscl,am,FA31_5,hes,i0,hex]at hcode;rw[<- hcode];have hopx:LR (ba p n own ns vs) e=(ba p n own ns vs e.args[0]!).bind (fun v=>
   if e.op=14 then(match eP v.names v.values e.s with|some x=>if v.kind=2 then .ok x else .er 13|none=>.er 13)
   else if e.op=3\/e.op=4\/e.op=5\/e.op=6\/e.op=7 then(ba p n own ns vs e.args[1]!).bind fun b=>jK e.op v b
   else if v.kind=1 then
    (if e.op=8\/e.op=9 then(if(v.n== 1)=(e.op== 9)then .ok (cC (e.op== 9))else(boolX (ba p n own ns vs e.args[1]!)).bind fun y=>.ok (cC y))
    else if e.op=10 then .ok (cC !(v.n== 1))
    else(if(v.n== 1)=true then ba p n own ns vs e.args[1]! else ba p n own ns vs e.args[2]!))
   else .er 13):=by
  unfold LR boolX;by_cases h37:e.op=3\/e.op=4\/e.op=5\/e.op=6\/e.op=7
  ·have n14:¬e.op=14:=by omega
   simp only[NE h37,if_neg n14]
  simp only[if_neg h37];by_cases h89:e.op=8\/e.op=9
  ·have n14:¬e.op=14:=by omega
   simp only[NE h89,if_neg n14,eU];funext s;simp only[X.bind];cases ba p n own ns vs e.args[0]! s with
   |ok v t=>simp only;by_cases hk:v.kind=1<;>simp[hk,X.ok,X.er]
   |er c t=>rfl
  simp only[if_neg h89];by_cases h10:e.op=10
  ·have n14:¬e.op=14:=by omega
   simp only[NE h10,if_neg n14,eU];funext s;simp only[X.bind];cases ba p n own ns vs e.args[0]! s with
   |ok v t=>simp only;by_cases hk:v.kind=1<;>simp[hk,X.ok,X.er]
   |er c t=>rfl
  simp only[if_neg h10];by_cases h11:e.op=11
  ·have n14:¬e.op=14:=by omega
   simp only[NE h11,if_neg n14,eU];funext s;simp only[X.bind];cases ba p n own ns vs e.args[0]! s with
   |ok v t=>simp only;by_cases hk:v.kind=1<;>simp[hk,X.ok,X.er]
   |er c t=>rfl
  have h14:e.op=14:=by omega
  simp only[if_neg h11,NE h14]
 rw[hopx];have hen:∀ {c:Int} {s:Ms} {w:Val} {h':Hp},c≠0->qx p full nm c s h'->∀k2:M AV,(if((c:Int) != 0)=true then ae (ah (some w.av)) (fun v=>ae (ap 4 [] v) fun v=>M.pure (AV.agg [nth (aa v) 0,nth (aa v) 1,nth (aa v) 2,nth (aa v) 3]))else k2) h'= .ok w.av h':=fun{c s w h'} hc RE k2=>by
  have hne:(c != 0)=true:=by simpa using hc
  rw[NE hne,am,kT,aA,cz];rfl
 refine e8 (IH own ns vs _ m h R G hn hs (hmem 0 hpos)) (fun a s h=>iz h) (fun v s1 h2 hv R2=>?_) (fun c s w h' hc RE=>?_)
 rotate_left
 ·have hne:(c != 0)=true:=by simpa using hc
  refine⟨w,h',?_,RE⟩;generalize hcode2:ae (aK 4 w.av) _ h'=code2;simp -implicitDefEqProofs only[eS,aA,bd,aQ,am,FH171_1,FH75_0,NU,Oi,RE.lErr,gn,hne,az,NS,hvl,kT,cz]at hcode2;rw[<- hcode2];rfl
 obtain⟨G2,rv,f2⟩:=G.eval hs.right hv;have hs2:=hs.less f2;have hn2:s1.fuel<=n:=by omega
 generalize hcode2:ae (aK 4 v.av) _ h2=code2;simp -implicitDefEqProofs only[eS,aA,bd,aQ,am,FH171_1,FH75_0,NU,Oi,R2.lErr,gn,Pu,az,NC,NK,FA31_0,heop,dj,eQ]at hcode2;rw[<- hcode2];by_cases h14:e.op=14
 ·have h14b:(e.op== 14)=true:=by simp[h14]
  simp only[h14b,NS,NE h14];have h8:=sf rv;have heq:v.names.length=v.values.length:=sg rv
  have:=zA R2 e v heq h8 (.int .i64 0) (.int .i64 0) (.sl []) (.sl []) _ 0 rfl (by omega)
  simp only[NZ]at this;have hz:((0:Nat):Int)=0:=rfl;rw[hz]at this;have hm:(match eP v.names v.values e.s with|some x=>if v.kind=2 then X.ok x else X.er 13|none=>X.er 13)=(match eP v.names v.values e.s with|some x=>X.ok x|none=>X.er 13:X Val):=by
   by_cases hk:v.kind=2
   ·simp only[hk,NS]
   ·have:v.names=[]:=xV rv hk;rw[this];rfl
  rw[hm];exact this
 have h14b:(e.op== 14)=false:=by simpa using h14
 simp only[h14b,NC,NK,if_neg h14]
 -- the second argument
 by_cases h37:e.op=3\/e.op=4\/e.op=5\/e.op=6\/e.op=7
 ·have hl2:1<e.args.length:=by
   rcases h37 with h|h|h|h|h<;>rw[h]at hlen<;>simp[aW]at hlen<;>omega
  have i1:ak T 29 (cb e.args) (.int .i64 1)=some (.ip (aa e.args[1]!.av)):=ixN 1 hl2;have b10:(e.op== 10)=false:=by rcases h37 with h|h|h|h|h<;>rw[h]<;>rfl
  have b11:(e.op== 11)=false:=by rcases h37 with h|h|h|h|h<;>rw[h]<;>rfl
  have b8:(e.op== 8)=false:=by rcases h37 with h|h|h|h|h<;>rw[h]<;>rfl
  have b9:(e.op== 9)=false:=by rcases h37 with h|h|h|h|h<;>rw[h]<;>rfl
  simp only[NE h37];generalize hcode3:(if(e.op== 10)=true then _ else _:M AV) h2=code3;simp -implicitDefEqProofs only[b10,b11,b8,b9,NC,NK,K163_0,aL,aY,az,hscl,am,FA31_5,hes,i1,hex]at hcode3;rw[<- hcode3];refine e8 (IH own ns vs _ s1 h2 R2 G2 hn2 hs2 (hmem 1 hl2)) (fun a s h=>iz h) (fun b s3 h3 hb R3=>?_) (fun c s w h' hc RE=>?_)
  ·obtain⟨G3,rb,f3⟩:=G2.eval hs.right hb;have H2:=t183 R3 e.op v b h37 rv rb;generalize hcode4:ae (aK 4 b.av) _ h3=code4;simp -implicitDefEqProofs only[eS,aA,bd,aQ,am,FH171_1,FH75_0,NU,Oi,R3.lErr,gn,Pu,az,NC,NK,FA31_0,heop,hvl]at hcode4;rw[<- hcode4];generalize jK e.op v b s3=r at H2 |-;cases r with
   |ok x s=>
    obtain⟨h',e1,R'⟩:=H2;rw[aZ e1,kT,aA,cz];exact⟨h',rfl,R'⟩
   |er c s=>
    obtain⟨w,h',e1,R'⟩:=H2;rw[aZ e1,kT,aA,cz];exact⟨w,h',rfl,R'⟩
  ·have hne:(c != 0)=true:=by simpa using hc
   refine⟨w,h',?_,RE⟩;generalize hcode4:ae (aK 4 w.av) _ h'=code4;simp -implicitDefEqProofs only[eS,aA,bd,aQ,am,FH171_1,FH75_0,NU,Oi,RE.lErr,gn,hne,az,NS,hvl,kT,cz]at hcode4;rw[<- hcode4];rfl
 simp only[if_neg h37];have hrest:e.op=8\/e.op=9\/e.op=10\/e.op=11:=by omega
 -- K with the flag
 have hK:∀y5 y6 y7 y8:AV,gb p full nm ((if v.kind=1 then
    (if e.op=8\/e.op=9 then(if(v.n== 1)=(e.op== 9)then .ok (cC (e.op== 9))else(boolX (ba p n own ns vs e.args[1]!)).bind fun y=>.ok (cC y))
    else if e.op=10 then .ok (cC !(v.n== 1))
    else(if(v.n== 1)=true then ba p n own ns vs e.args[1]! else ba p n own ns vs e.args[2]!))
   else .er 13:X Val) s1) (K163_0 (ai pg) aj [.hp 0 0,.ip [.int .i64 own,strs ns,vals vs],.ip (aa e.av),.ip (aa v.av),.bool true,y5,y6,y7,y8] h2):=by
  intro y5 y6 y7 y8;generalize hcode3:K163_0 (ai pg) aj [.hp 0 0,.ip [.int .i64 own,strs ns,vals vs],.ip (aa e.av),.ip (aa v.av),.bool true,y5,y6,y7,y8] h2=code3;simp -implicitDefEqProofs only[K163_0,aL,aY,az,NS,FA71_0,hvk,am,gC,FA31_0,heop,dj]at hcode3;rw[<- hcode3];by_cases hk:v.kind=1
  rotate_left
  ·have hk':(v.kind != 1)=true:=by simpa using hk
   simp only[hk',NS,if_neg hk];exact cp R2 13 (by decide)
  have hk':(v.kind != 1)=false:=by simp[hk]
  obtain⟨hv01,hvt⟩:=pQ rv hk;simp only[hk',NC,NK,NE hk];by_cases h10:e.op=10
  ·have b10:(e.op== 10)=true:=by simp[h10]
   have n89:¬(e.op=8\/e.op=9):=by omega
   simp only[b10,NS,if_neg n89,NE h10,FA71_1,hvn,am,dj,htr];have:(v.n== 0)= !(v.n== 1):=by rcases hv01 with h|h<;>rw[h]<;>rfl
   rw[this];exact iZ R2
  have b10:(e.op== 10)=false:=by simpa using h10
  simp only[b10,NC,NK,if_neg h10];by_cases h11:e.op=11
  ·have b11:(e.op== 11)=true:=by simp[h11]
   have n89:¬(e.op=8\/e.op=9):=by omega
   have hl3:e.args.length=3:=by rw[h11]at hlen;simp[aW]at hlen;omega
   have hw:IntKind.i64.wrap (2-v.n)=2-v.n:=aF (by omega) (by omega);simp only[b11,NS,if_neg n89,hscl,am,FA31_5,hes,FA71_1,hvn,gD,hw];rcases hv01 with h|h
   ·have hf:¬((v.n== 1)=true):=by rw[h];decide
    have i2:ak T 29 (cb e.args) (.int .i64 (2-v.n))=some (.ip (aa e.args[2]!.av)):=by
     rw[h];exact ixN 2 (by omega)
    simp only[if_neg hf,i2,am,hex];exact A6 IH own ns vs _ R2 G2 hn2 hs2 (hmem 2 (by omega))
   ·have hf:(v.n== 1)=true:=by rw[h];decide
    have i1:ak T 29 (cb e.args) (.int .i64 (2-v.n))=some (.ip (aa e.args[1]!.av)):=by
     rw[h];exact ixN 1 (by omega)
    simp only[NE hf,i1,am,hex];exact A6 IH own ns vs _ R2 G2 hn2 hs2 (hmem 1 (by omega))
  have b11:(e.op== 11)=false:=by simpa using h11
  have h89:e.op=8\/e.op=9:=by omega
  have hl2:1<e.args.length:=by
   rcases h89 with h|h<;>rw[h]at hlen<;>simp[aW]at hlen<;>omega
  have i1:ak T 29 (cb e.args) (.int .i64 1)=some (.ip (aa e.args[1]!.av)):=ixN 1 hl2;simp only[b11,NC,NK,NE h89,FA71_1,hvn,am,dj,uG,az];by_cases hx:(v.n== 1)=(e.op== 9)
  ·have hxb:((v.n== 1)== (e.op== 9))=true:=by rw[hx];simp
   simp only[hxb,NS,NE hx,hvl,am,kT,aA,cz];have:v=cC (e.op== 9):=by rw[<- hx];exact hvt
   rw[<- this];exact iZ R2
  ·have hxb:((v.n== 1)== (e.op== 9))=false:=by simpa using hx
   simp only[hxb,NC,NK,if_neg hx,hscl,am,FA31_5,hes,i1,hex];have hbx:(boolX (ba p n own ns vs e.args[1]!)).bind (fun y=>X.ok (cC y))=(ba p n own ns vs e.args[1]!).bind (fun w=>if w.kind=1 then .ok (cC (w.n== 1))else .er 13):=by
    unfold boolX;funext s;simp only[X.bind];cases ba p n own ns vs e.args[1]! s with
    |ok w t=>simp only;by_cases hw:w.kind=1<;>simp[hw,X.ok,X.er]
    |er c t=>rfl
   rw[hbx];refine e8 (IH own ns vs _ s1 h2 R2 G2 hn2 hs2 (hmem 1 hl2)) (fun a s h=>iz h) (fun b s3 h3 hb R3=>?_) (fun c s w h' hc RE=>?_)
   ·obtain⟨G3,rb,f3⟩:=G2.eval hs.right hb;generalize hcode4:ae (aK 4 b.av) _ h3=code4;simp -implicitDefEqProofs only[eS,aA,bd,aQ,am,FH171_1,FH75_0,NU,Oi,R3.lErr,mL,OB,FA71_0,hvk,gC,bP,aL,ec,PG,az,hvl,kT,cz]at hcode4;rw[<- hcode4];by_cases hbk:b.kind=1
    ·have hb':(b.kind != 1)=false:=by simp[hbk]
     simp only[hb',NC,NK,NE hbk];rw[<- (pQ rb hbk).2];exact iZ R3
    ·have hb':(b.kind != 1)=true:=by simpa using hbk
     simp only[hb',NS,if_neg hbk];exact cp R3 13 (by decide)
   ·have hneb:(c== 0)=false:=by simpa using hc
    refine⟨w,h',?_,RE⟩;generalize hcode4:ae (aK 4 w.av) _ h'=code4;simp -implicitDefEqProofs only[eS,aA,bd,aQ,am,FH171_1,FH75_0,NU,Oi,RE.lErr,mL,hneb,aB,NQ,List.replicate,aL,aM,az,NC,NK,hvl,kT,cz]at hcode4;rw[<- hcode4];rfl
 have hK':=hK (.int .i64 0) (.int .i64 0) (.sl []) (.sl []);rcases hrest with h|h|h|h
 ·have b10:(e.op== 10)=false:=by rw[h];rfl
  have b11:(e.op== 11)=false:=by rw[h];rfl
  have b8:(e.op== 8)=true:=by rw[h];rfl
  simp only[b10,b11,b8,NC,NK,NS];exact hK'
 ·have b10:(e.op== 10)=false:=by rw[h];rfl
  have b11:(e.op== 11)=false:=by rw[h];rfl
  have b8:(e.op== 8)=false:=by rw[h];rfl
  have b9:(e.op== 9)=true:=by rw[h];rfl
  simp only[b9]at hK';simp only[b10,b11,b8,b9,NC,NK];exact hK'
 ·have b10:(e.op== 10)=true:=by rw[h];rfl
  simp only[b10,NS];exact hK'
 ·have b10:(e.op== 10)=false:=by rw[h];rfl
  have b11:(e.op== 11)=true:=by rw[h];rfl
  simp only[b10,b11,NC,NK,NS];exact hK'
end
end Go.Proofs.YtnipfhmghjdnmaaGreat
namespace Go.Proofs.YtnipfhmghjdnmaaGreat
open Go Go.Av Go.Av.Ap
set_option maxRecDepth 100000
def Jz{β:Type}(c d b:Bool)(k:AV->M β):ae (aB (gv c false (.bool d)) true 1 (M.pure [.bool b])) (fun v30=>ae (aB (.bool c) false 1 (ae (ah (aM (gv c false (.bool d)) (nth v30 0) (.bool false))) fun v31=>M.pure [v31])) fun v32=>ae (ah (aM (.bool c) (.bool true) (nth v32 0))) k)=k (.bool (c||(d&&b))):=by
 cases c<;>cases d<;>rfl
section
variable {p:List Mod} {full:List Int} {nm:SNm} {m:Ms} {h:Hp}
theorem rQ(R:RepR p full nm 0 m h)(own:Int)(ns:List bk)(vs:List Val)(e:Exp)(x1 x2 x3 x4:AV)(hl:ns.length=vs.length)(hb:ns.length<=1099511627776):∀(i:Nat),i<=ns.length->
  gb p full nm ((match ij (ns.take i) (vs.take i) e.s with|some v=>X.ok v|none=>X.er 12) m) (aj (L113_0 (ai pg) aj) [.hp 0 0,.ip [.int .i64 own,strs ns,vals vs],.ip (aa e.av),.int .i64 ((i:Int)-1),x1,x2,x3,x4] h)
 |0,_=>by
  rw[FL113_0];have hge:decide ((0:Int)<=((0:Nat):Int)-1)=false:=rfl;simp only[L113_0,aL,aY,gB,am,az,hge,NC,NK];exact cp R 12 (by decide)
 | i+1,hi=>by
  have ih:=rQ R own ns vs e x1 x2 x3 x4 hl hb i (by omega);have h1:i<ns.length:=by omega
  have h2:i<vs.length:=by omega
  have h3:(ns.take (i+1))=ns.take i++[ns[i]]:=by simp
  have h4:(vs.take (i+1))=vs.take i++[vs[i]]:=by simp
  rw[h3,h4,oP _ _ _ _ _ (by simp;omega),FL113_0];have e1:((i+1:Nat):Int)-1=(i:Int):=by omega
  rw[e1];have hge:decide ((0:Int)<=(i:Int))=true:=by simp
  have hix:=yE (l:=ns) (n:=(i:Int)) (by omega) (by omega);rw[show ((i:Int)).toNat=i by omega,ND ns i h1]at hix;have hiv:=ou (l:=vs) (n:=(i:Int)) (by omega) (by omega);rw[show ((i:Int)).toNat=i by omega,ND vs i h2]at hiv;have l1:af T 28 (.ip ([AV.int .i64 own,strs ns,vals vs].drop 1))=some (strs ns):=rfl;have l2:af T 61 (.ip ([AV.int .i64 own,strs ns,vals vs].drop 2))=some (vals vs):=rfl;have hes:af T 9 (.ip ((aa e.av).drop 2))=some (.str e.s):=by simp
  have hst:af T 9 (.ip (aa (AV.str ns[i])))=some (.str ns[i]):=rfl;have hvl:af T 71 (.ip (aa vs[i].av))=some vs[i].av:=by simp
  have hw:IntKind.i64.wrap ((i:Int)-1)=(i:Int)-1:=aF (by omega) (by omega);simp only[L113_0,aL,aY,gB,am,az,hge,NS,FA174_1,FA174_2,l1,l2,hix,hst,FA31_2,hes,vE];by_cases hs:ns[i]=e.s
  ·have hsb:(ns[i]== e.s)=true:=by simpa using hs
   simp only[hsb,NS,NE hs,hiv,hvl,am];exact qq R
  ·have hsb:(ns[i]== e.s)=false:=by simpa using hs
   simp only[hsb,NC,NK,if_neg hs,gD,am,hw];exact ih
theorem Nk{full:List Int}(LB:LimB p)(hfl:full.length<=1099511627776):∀n,CF p full nm n:=by
 intro n
 induction n with
 |zero=>
  intro own ns vs e m h R G hn hs he;have hf:m.fuel=0:=by have:=G.fuel;omega
  generalize hcode:ai pg 113 [.hp 0 0,aD own ns vs,e.av] h=code;rw[C113]at hcode;simp -implicitDefEqProofs only[S113,aQ,am,FH171_1,FH75_0,FH171_4,NU,Oi,R.lErr,gn,Pu,az,NC,NK,R.lFuel,hf,lN,PC,OH,NS]at hcode;rw[<- hcode];exact cp R 16 (by decide)
 | succ n IH=>
  intro own ns vs e m h R G hn hs he;obtain⟨le1,le2⟩:=eY he;generalize hcode:ai pg 113 [.hp 0 0,aD own ns vs,e.av] h=code;rw[C113]at hcode;simp -implicitDefEqProofs only[S113,aQ,am,FH171_1,FH75_0,FH171_4,NU,Oi,R.lErr,gn,Pu,az,NC,NK,R.lFuel,lN]at hcode;by_cases hf:0<m.fuel
  rotate_left
  ·have e1:ba p (n+1) own ns vs e m= .er 16 m:=by
    show j9 p (ba p n) own ns vs e m=_;unfold j9 X.get;simp only;rw[NE (by omega)];rfl
   have hle:decide (m.fuel<=0)=true:=by simp;omega
   simp only[hle,NS]at hcode;rw[e1,<- hcode];exact cp R 16 (by decide)
  have hspec:ba p (n+1) own ns vs e m=(if aW e.op= -2\/(aW e.op≠-1/\aW e.op≠e.args.length)then .er 13
   else if e.op=0 then .ok (jW e.n)
   else if e.op=1 then(if e.n=0\/e.n=1 then .ok (cC (e.n== 1))else .er 13)
   else if e.op=2 then(match ij ns vs e.s with|some v=>.ok v|none=>.er 12)
   else if e.op=12 then(ba p n own ns vs e.args[0]!).bind fun v=>ba p n own (ns++[e.s]) (vs++[v]) e.args[1]!
   else if e.op=13 then gI (ba p n own ns vs) e
   else if e.op=15 then mb p (ba p n) own ns vs e
   else if e.op=16 then sJ (ba p n own ns vs e.args[0]!) e
   else if e.op=17\/e.op=18 then sX p (ba p n own ns vs) own e
   else LR (ba p n own ns vs) e:X Val) (dB m):=by
   show j9 p (ba p n) own ns vs e m=_;unfold j9 X.get;simp only;rw[if_neg (by omega)];show (if aW e.op= -2\/(aW e.op≠-1/\aW e.op≠e.args.length)then _ else _:X Val) (dB m)=_;congr 1;by_cases hc:aW e.op= -2\/(aW e.op≠-1/\aW e.op≠e.args.length)
   ·rw[NE hc,NE hc]
   rw[if_neg hc,if_neg hc];have hk:aW e.op≠-2:=fun h=>hc (.inl h);have hops:e.op=0\/e.op=1\/e.op=2\/e.op=17\/e.op=10\/e.op=14\/e.op=16\/e.op=18\/e.op=3\/e.op=4\/e.op=5\/e.op=6\/e.op=7\/e.op=8\/e.op=9\/e.op=12\/e.op=11\/e.op=13\/e.op=15:=by
    refine Pj fun hno=>hk ?_;unfold aW;rw[if_neg (by omega),if_neg (by omega),if_neg (by omega),if_neg (by omega),if_neg (by omega)]
   rcases hops with h|h|h|h|h|h|h|h|h|h|h|h|h|h|h|h|h|h|h<;>simp only[h,LR]<;>rfl
  have hbm:=G.bud;have G1:GoodM p (dB m):=⟨G.right,by simp only[mu,dB]at hbm |-;omega,G.fr,by simp only[dB];omega,G.shape⟩;have hmu:mu (dB m)<1000000:=by simp only[mu,dB]at hbm |-;omega
  have hn1:(dB m).fuel<=n:=by simp only[dB];omega
  have hft:(dB m).fuel<=m.fuel:=by simp only[dB];omega
  have hs1:Sc p own ns vs (dB m):=hs.less hft;have hle:decide (m.fuel<=0)=false:=by simp;omega
  have hw:IntKind.i64.wrap (m.fuel-1)=m.fuel-1:=aF (by omega) (by simp only[mu]at hbm;omega);obtain⟨h1,s1,R1⟩:=R.sFuel (m.fuel-1);have R1':RepR p full nm 0 (dB m) h1:=R1;clear R1;have heop:af T 3 (.ip ((aa e.av).drop 0))=some (.int .i64 e.op):=by simp
  have hen:af T 3 (.ip ((aa e.av).drop 1))=some (.int .i64 e.n):=by simp
  have hestr:af T 9 (.ip ((aa e.av).drop 2))=some (.str e.s):=by simp
  have hes:af T 29 (.ip ((aa e.av).drop 5))=some (cb e.args):=by simp
  have hel:aJ T 29 (cb e.args)=some (.int .i64 e.args.length):=f7 _;have hscl:af T 174 (.ip [.int .i64 own,strs ns,vals vs])=some (aD own ns vs):=rfl;have hexl:af T 31 (.ip (aa e.av))=some e.av:=by simp
  have hex:∀a:Exp,af T 31 (.ip (aa a.av))=some a.av:=fun a=>by simp
  have hmem:∀k:Nat,k<e.args.length->bc e.args[k]!:=fun k hk=>by
   rw[ND e.args k hk];exact bg he (NW hk)
  have ixN:∀k:Nat,k<e.args.length->ak T 29 (cb e.args) (.int .i64 (k:Int))=some (.ip (aa e.args[k]!.av)):=fun k hk=>by
   have:=kQ (l:=e.args) (n:=(k:Int)) (by omega) (by omega)
   rw[show ((k:Int)).toNat=k by omega]at this;exact this
  have hwrapR:∀ {r:Rs Val} {c:M AV} {h:Hp},gb p full nm r (c h)->gb p full nm r (ae c (fun v=>ae (ap 4 [] v) fun v=>M.pure (AV.agg [nth (aa v) 0,nth (aa v) 1,nth (aa v) 2,nth (aa v) 3])) h):=fun{r c h} H=>by
   cases r with
   |ok v s=>
    obtain⟨h',e1,R'⟩:=H;rw[aZ e1,kT,aA,cz];exact⟨h',rfl,R'⟩
   |er c s=>
    obtain⟨w,h',e1,R'⟩:=H;rw[aZ e1,kT,aA,cz];exact⟨w,h',rfl,R'⟩
  simp -implicitDefEqProofs only[hle,NC,NK,aQ,am,FH171_4,NU,R.lFuel,gD,hw,s1,FA31_0,heop,t156,aA,dj,gB,bP,aL,FA31_5,hes,hel,gC,ec,gT,az]at hcode;simp -implicitDefEqProofs only[Jz,az]at hcode;rw[hspec,<- hcode];clear hcode hspec;by_cases hc:aW e.op= -2\/(aW e.op≠-1/\aW e.op≠e.args.length)
  ·have hcb:(aW e.op== -2||(decide (0<=aW e.op)&&aW e.op != (e.args.length:Int)))=true:=by
    rcases hc with h|⟨h1,h2⟩
    ·simp[h]
    ·by_cases h3:aW e.op= -2
     ·simp[h3]
     ·have:0<=aW e.op:=by
       unfold aW at h1 h3 |-;split
       ·decide
       ·split
        ·decide
        ·split
         ·decide
         ·split
          ·decide
          ·split<;>simp_all
      simp[this,h2]
   simp only[hcb,NS,NE hc];exact cp R1' 13 (by decide)
  have hcb:(aW e.op== -2||(decide (0<=aW e.op)&&aW e.op != (e.args.length:Int)))=false:=by
   rw[<- Pm];simp only[Ox,NG,Ol,Qv,Oa];rintro (h|⟨h1,h2⟩)
   ·exact hc (.inl h)
   ·exact hc (.inr ⟨by omega,h2⟩)
  simp only[hcb,NC,NK,if_neg hc];by_cases o0:e.op=0
  ·have b0:(e.op== 0)=true:=by simp[o0]
   have hB:aN T false 71 [(0,.int .i64 0),(1,.int .i64 e.n)]=some (jW e.n).av:=rfl;simp only[b0,NS,NE o0,FA31_1,hen,am,hB];exact qq R1'
  have b0:(e.op== 0)=false:=by simpa using o0
  simp only[b0,NC,NK,if_neg o0];by_cases o1:e.op=1
  ·have b1:(e.op== 1)=true:=by simp[o1]
   simp only[b1,NS,NE o1,FA31_1,hen,am,bV,na,bP,aA,aL,gT,az];by_cases hn01:e.n=0\/e.n=1
   ·have hb:(decide (e.n<0)||decide (1<e.n))=false:=by
     rcases hn01 with h|h<;>rw[h]<;>rfl
    simp only[hb,NC,NK,NE hn01,dj,am,t157,aA];exact qq R1'
   ·have hb:(decide (e.n<0)||decide (1<e.n))=true:=by
     simp only[Ox,Oa];omega
    simp only[hb,NS,if_neg hn01];exact cp R1' 13 (by decide)
  have b1:(e.op== 1)=false:=by simpa using o1
  simp only[b1,NC,NK,if_neg o1];by_cases o2:e.op=2
  ·have b2:(e.op== 2)=true:=by simp[o2]
   have hnb:ns.length<=1099511627776:=by
    have:=hs.len
    have:=G.fuel
    omega
   have l1:af T 28 (.ip ([AV.int .i64 own,strs ns,vals vs].drop 1))=some (strs ns):=rfl;have hll:aJ T 28 (strs ns)=some (.int .i64 ns.length):=kV _;have hwn:IntKind.i64.wrap ((ns.length:Int)-1)=(ns.length:Int)-1:=aF (by omega) (by omega)
   have:=rQ R1' own ns vs e (.int .i64 0) (.int .i64 0) (.sl []) (.sl []) hs.right.1 hnb ns.length (NL _)
   rw[Pp,OY (by have:=hs.right.1;omega)]at this;simp only[b2,NS,NE o2,bu,FA174_1,l1,hll,gD,hwn,am];exact this
  have b2:(e.op== 2)=false:=by simpa using o2
  simp only[b2,NC,NK,if_neg o2];by_cases o13:e.op=13
  ·have b13:(e.op== 13)=true:=by simp[o13]
   have o12:¬e.op=12:=by omega
   simp only[b13,NS,if_neg o12,NE o13,bu,hscl,hexl,am];exact hwrapR (t158 IH own ns vs e R1' G1 hn1 hs1 he)
  have b13:(e.op== 13)=false:=by simpa using o13
  simp only[b13,NC,NK];by_cases o15:e.op=15
  ·have b15:(e.op== 15)=true:=by simp[o15]
   have o12:¬e.op=12:=by omega
   simp only[b15,NS,if_neg o12,if_neg o13,NE o15,bu,hscl,hexl,am];exact hwrapR (t159 LB IH own ns vs e R1' G1 hmu hn1 hs1 he)
  have b15:(e.op== 15)=false:=by simpa using o15
  simp only[b15,NC,NK];by_cases o16:e.op=16
  ·have b16:(e.op== 16)=true:=by simp[o16]
   have o12:¬e.op=12:=by omega
   have hl1:e.args.length=1:=by
    have:aW e.op=1:=by rw[o16];rfl
    rw[this]at hc;omega
   obtain⟨a,ha⟩:=ES hl1;have e0:e.args[0]! = a:=by rw[ha];rfl
   simp only[b16,NS,if_neg o12,if_neg o13,if_neg o15,NE o16,bu,hscl,hexl,am,e0];exact hwrapR (t160 IH hfl own ns vs e a ha R1' G1 hmu hn1 hs1 he)
  have b16:(e.op== 16)=false:=by simpa using o16
  simp only[b16,NC,NK,eQ];by_cases o17:e.op=17\/e.op=18
  ·have o12:¬e.op=12:=by omega
   have hop:e.op=17\/e.op=18/\∃a,e.args=[a]:=by
    rcases o17 with h|h
    ·exact .inl h
    ·refine .inr ⟨h,ES ?_⟩;have:aW e.op=1:=by rw[h];rfl
     rw[this]at hc;omega
   have hv:=hwrapR (t161 LB IH own ns vs e hop R1' G1 hn1 hs1 he);have hb:(e.op== 17)=true\/(e.op== 17)=false/\(e.op== 18)=true:=by
    rcases o17 with h|h
    ·exact .inl (by rw[h];rfl)
    ·exact .inr ⟨by rw[h];rfl,by rw[h];rfl⟩
   simp only[if_neg o12,if_neg o13,if_neg o15,if_neg o16,NE o17,bu];rcases hb with hb|⟨hb1,hb2⟩
   ·simp only[hb,NS,K113_0,aL,aY,az,hscl,hexl,am];exact hv
   ·simp only[hb1,hb2,NC,NK,NS,K113_0,aL,aY,az,hscl,hexl,am];exact hv
  have b17:(e.op== 17)=false:=by simp;omega
  have b18:(e.op== 18)=false:=by simp;omega
  simp only[if_neg o13,if_neg o15,if_neg o16,if_neg o17,b17,b18,NC,NK,K113_0,aL,aY,az,bu,dj,am];by_cases o12:e.op=12
  ·have b12:(e.op== 12)=true:=by simp[o12]
   have hl2:e.args.length=2:=by
    have:aW e.op=2:=by rw[o12];rfl
    rw[this]at hc;omega
   have i0:ak T 29 (cb e.args) (.int .i64 0)=some (.ip (aa e.args[0]!.av)):=ixN 0 (by omega);have i1:ak T 29 (cb e.args) (.int .i64 1)=some (.ip (aa e.args[1]!.av)):=ixN 1 (by omega);have hnb:ns.length<=1099511627776/\vs.length<=1099511627776:=by
    have:=hs.len
    have:=G.fuel
    have:=hs.right.1
    omega
   have hvl:∀v:Val,af T 71 (.ip (aa v.av))=some v.av:=fun v=>by simp
   simp only[b12,NS,NE o12,hscl,am,FA31_5,hes,i0,hex];refine e8 (IH own ns vs _ (dB m) h1 R1' G1 hn1 hs1 (hmem 0 (by omega))) (fun a s h=>iz h) (fun v s2 h2 hv R2=>?_) (fun c s w h' hc RE=>?_)
   ·obtain⟨G2,rv,f2⟩:=G1.eval hs1.right hv;have hwt:=t162 own ns vs e.s v hnb.1 hnb.2;simp only[eS,aA,bd,am,FA31_2,hestr,hvl,hwt,cX,i1,hex];refine hwrapR (IH own (ns++[e.s]) (vs++[v]) _ s2 h2 R2 G2 (by omega) ⟨hs.own,⟨by simp[hs.right.1],fun w hw=>?_⟩,?_⟩ (hmem 1 (by omega)))
    ·rcases N6.1 hw with k|k
     ·exact hs.right.2 w k
     ·simp only[OA]at k;subst k;exact rv
    ·have hsl:=hs.len;have htk:(dB m).fuel=m.fuel-1:=rfl;simp only[N3,Oy];omega
   ·have hwt:=t162 own ns vs e.s w hnb.1 hnb.2;have hev:=uJ hc RE (aD own (ns++[e.s]) (vs++[w])) (e.args[1]!).av;refine⟨default,h',?_,RE⟩;simp only[eS,aA,bd,am,FA31_2,hestr,hvl,hwt,cX,i1,hex];rw[aZ hev,kT,aA,cz];rfl
  have b12:(e.op== 12)=false:=by simpa using o12
  simp only[b12,NC,NK,if_neg o12,hscl,hexl,am];have hk:aW e.op≠-2:=fun h=>hc (.inl h);have hops:e.op=3\/e.op=4\/e.op=5\/e.op=6\/e.op=7\/e.op=8\/e.op=9\/e.op=10\/e.op=11\/e.op=14:=by
   refine Pj fun hno=>hk ?_;unfold aW;rw[if_neg (by omega),if_neg (by omega),if_neg (by omega),if_neg (by omega),if_neg (by omega)]
  have hlen:aW e.op=e.args.length:=by
   have h1:aW e.op≠-1:=by
    unfold aW;rcases hops with h|h|h|h|h|h|h|h|h|h<;>rw[h]<;>decide
   exact Pj fun h=>hc (.inr ⟨h1,h⟩)
  exact hwrapR (t163 IH own ns vs e hops hlen R1' G1 hn1 hs1 he)
end
end Go.Proofs.YtnipfhmghjdnmaaGreat
namespace Go.Proofs.YtnipfhmghjdnmaaGreat
open Go Go.Av Go.Av.Ap
set_option maxRecDepth 100000
def Jy:∀(d:Nat)(v:Val),iS d v=bU d v:=by
 intro d
 induction d with
 |zero=>intro v;simp[iS,bU]
 | succ d ih=>
  intro v;have hfd:iS d=bU d:=funext ih;unfold iS bU;rw[hfd];by_cases hk0:v.kind=0
  ·by_cases hl:v.names.length=v.values.length
   ·rw[if_neg (by omega),NE hk0,NE (by simp[hk0]),Pa];simp only[NG,Ox,Ol];omega
   ·rw[NE (.inr hl),NE (by simp[hk0])];symm;rw[Pq];left;rw[<- Pm];simp only[NG,Ol];omega
  by_cases hk1:v.kind=1
  ·by_cases hl:v.names.length=v.values.length
   ·have e1:(v.names.length== 0&&decide (0<=v.n)&&decide (v.n<=1))=(v.names.length== 0&&v.values.length== 0&&(v.kind== 0||v.n== 0||v.n== 1)):=by
     rw[hl,Pa];simp only[NG,Ox,Ol,Oa];constructor
     ·rintro⟨⟨a,b⟩,c⟩;exact⟨⟨a,a⟩,by omega⟩
     ·rintro⟨⟨a,_⟩,c⟩;refine⟨⟨a,?_⟩,?_⟩<;>rcases c with(c|c)|c<;>omega
    rw[if_neg (by omega),if_neg hk0,NE hk1,NE (by simp[hk1])];exact e1
   ·rw[NE (.inr hl),NE (by simp[hk1])];symm;rw[Pq];left;rw[<- Pm];simp only[NG,Ol];omega
  by_cases hk2:v.kind=2
  ·rw [if_neg (show ¬((v.kind== 0||v.kind== 1)=true) by simp[hk2])];by_cases hl:v.names.length=v.values.length
   ·rw [if_neg (by omega),if_neg hk0,if_neg hk1];by_cases hn:v.n=0
    ·by_cases h8:8<v.names.length
     ·rw[NE (.inl (.inr h8))];have:decide (v.names.length<=8)=false:=by simp;omega
      simp[this]
     ·have h8':decide (v.names.length<=8)=true:=by simp;omega
      cases ha:sG v.names with
      |false=>simp
      |true=>
       rw[if_neg (by simp[hn];omega)];simp[hk2,hn,hl]at h8' |-;omega
    ·rw[NE (.inl (.inl hn))];simp[hn]
   ·rw[NE (.inr hl)];have:(v.names.length== v.values.length)=false:=by simpa using hl
    simp[this]
  ·rw[NE (.inl (by omega)),if_neg (by simp[hk0,hk1])];have:(v.kind== 2)=false:=by simpa using hk2
   simp[this]
def Ft:RepR [] [] M1 0 (dA [] 100000 []) [[.hn,.int .i64 0,.int .i64 0,.int .i64 0,.hn,.hn,.hn,.hn,.hn,.hn,.int .i64 0,.int .i64 100000,.int .i64 0]]:=
 ⟨List.suffix_refl _,fun _=>rfl,fun _=>0,.hn,.hn,.hn,rfl,rfl,.inl ⟨rfl,rfl⟩,.inl ⟨rfl,rfl⟩,.inl ⟨rfl,rfl⟩,rfl,fun _=>rfl⟩
theorem t81(e:Exp)(ns:List bk)(vs:List Val)(he:bc e)(hn:ns.length<=274877906944)(hv:bJ vs<=4611686018427387904):ai pg 81 [e.av,strs ns,vals vs]=M.pure (jB (nn e ns vs)):=by
 have hra:=t112 vs hv;have hfe:(iS 4)=(bU 4):=funext (Jy 4);rw[hfe]at hra;have hB:aN T true 171 [(4,.int .i64 100000)]=some (.agg [.hn,.int .i64 0,.int .i64 0,.int .i64 0,.hn,.hn,.hn,.hn,.hn,.hn,.int .i64 0,.int .i64 100000,.int .i64 0]):=rfl;have hBS:aN T false 174 [(0,.int .i64 (-1)),(1,strs ns),(2,vals vs)]=some (aD (-1) ns vs):=rfl;have hnew:∀g:AV->M AV,ae (newH [.hn,.int .i64 0,.int .i64 0,.int .i64 0,.hn,.hn,.hn,.hn,.hn,.hn,.int .i64 0,.int .i64 100000,.int .i64 0]) g []=g (.hp 0 0) [[.hn,.int .i64 0,.int .i64 0,.int .i64 0,.hn,.hn,.hn,.hn,.hn,.hn,.int .i64 0,.int .i64 100000,.int .i64 0]]:=fun g=>rfl;have hex:af T 31 (.ip (aa e.av))=some e.av:=by simp
 have hvl:∀v:Val,af T 71 (.ip (aa v.av))=some v.av:=fun v=>by simp
 have hpair:∀v:Val,∀x:AV,(M.pure (AV.tup [AV.agg [nth (aa v.av) 0,nth (aa v.av) 1,nth (aa v.av) 2,nth (aa v.av) 3],x]):M AV)=M.pure (.tup [v.av,x]):=fun v x=>by
  rw[bW,Val.av_eq];rfl
 rw[C81,nc,qj,uA];unfold nn;obtain⟨code,hS⟩:∃c,S81 (ai pg) aj e.av (strs ns) (vals vs) []=c:=⟨_,rfl⟩;have hcode:=hS;have hgu:aB (.bool ((ns.length:Int) != (vs.length:Int))) false 1 (M.pure [.bool !(vs.all (bU 4))])=M.pure [gv ((ns.length:Int) != (vs.length:Int)) false (.bool !(vs.all (bU 4)))]:=bP _ _ _;simp -implicitDefEqProofs only[S81,kV,ov,am,gC,hra,aA,kH,hgu,aL,gT,az]at hcode;by_cases hr:ns.length=vs.length/\vs.all (bU 4)=true
 ·rw[NE hr];have hb:((ns.length:Int) != (vs.length:Int)||!(vs.all (bU 4)))=false:=by simp[hr.1,hr.2]
  have hrs:kc ns vs:=⟨hr.1,fun v hv=>(Oc.1 hr.2) v hv⟩;have hev:=Nk (full:=[]) xr (by simp) 100000 (-1) ns vs e _ _ Ft wX (by simp[dA]) ⟨by simp,hrs,by simp only[dA];omega⟩ he;simp -implicitDefEqProofs only[hb,NC,NK,hB,am,bd,hnew,hBS,hex]at hcode;cases hx:ba [] 100000 (-1) ns vs e (dA [] 100000 [])with
  |ok v s=>
   rw[hx]at hev;obtain⟨h',e1,R'⟩:=hev;rw[aZ e1]at hcode;simp -implicitDefEqProofs only[eS,aA,bd,aQ,am,FH171_1,FH75_0,NU,Oi,R'.lErr,gn,Pu,az,NC,NK,hvl,kT,hpair]at hcode;exact nF (h':=h') (hS.trans hcode.symm) fun g=>lP g _ _
  |er c s=>
   rw[hx]at hev;have hc0:(c != 0)=true:=by have:=wA hx;simpa using this
   obtain⟨w,h',e1,R'⟩:=hev;rw[aZ e1]at hcode;simp -implicitDefEqProofs only[eS,aA,bd,aQ,am,FH171_1,FH75_0,NU,Oi,R'.lErr,gn,hc0,az,NS,iN,kT,hpair]at hcode;exact nF (h':=h') (hS.trans hcode.symm) fun g=>lP g _ _
 ·rw [if_neg hr];have hb:((ns.length:Int) != (vs.length:Int)||!(vs.all (bU 4)))=true:=by
   by_cases h1:ns.length=vs.length
   ·have:vs.all (bU 4)=false:=by
     rw[<- Pm];exact fun h2=>hr ⟨h1,h2⟩
    simp[this]
   ·have:((ns.length:Int) != (vs.length:Int))=true:=by
     rw[Qv];omega
    simp[this]
  simp -implicitDefEqProofs only[hb,NS,iN,am,kT,aA,hpair]at hcode;exact nF (h':=[]) (hS.trans hcode.symm) fun g=>lP g _ _
end Go.Proofs.YtnipfhmghjdnmaaGreat
namespace Go.Proofs.YtnipfhmghjdnmaaGreat
open Go Go.Av Go.Av.Ap
set_option maxRecDepth 100000
def iL{α β:Type}{m:M α}{f:α->M β}{h h':Hp}{a:α}(e:m h= .ok a h'):ae m f h=f a h':=by simp only[ae,e]
section
variable {V:Type} {f:V->AV} {t et:Nat} {ei:TI} {h:Hp} {l:Nat} {es:List (aG×V)}
theorem tK(hm:f5 T t=some (37,et))(he:T et=some ei)(hl:h[l]? = some [.tup (es.map (ee f))])(k:aG)(ok:Bool):
  gQ T t (.mp l) (bp k) ok h= .ok (match fu es k with|some v=>(bif ok then .tup [f v,.bool true]else f v)|none=>(bif ok then .tup [fy ei,.bool false]else fy ei)) h:=by
 unfold gQ jj;simp only[hl,EY f hm he];cases fu es k<;>rfl
theorem r6(hm:f5 T t=some (37,et))(hl:h[l]? = some [.tup (es.map (ee f))])(k:aG)(v:V):
  r5 T t (.mp l) (bp k) (f v) h= .ok (.tup []) (h.set l [.tup ((gU es k v).map (ee f))]):=by
 unfold r5;have hc:wi T 20 37 (bp k)=true:=rfl;simp only[hm,hc,NF,hl,A8 f]
end
def Kv:∃ei,T 90=some ei/\fy ei=sE.av:=⟨_,rfl,rfl⟩
def Ku:∃ei,T 37=some ei/\fy ei=bp ([],[]):=⟨_,rfl,rfl⟩
def jd(p:List Mod)(h:Hp)(l:Nat):Prop:=h[l]? = some [.tup ((cW p).map (ee Fun.av))]
def rO{p:List Mod}{h:Hp}{l:Nat}(hl:jd p h l)(k:aG)(ok:Bool):gQ T 110 (.mp l) (bp k) ok h= .ok (bif ok then .tup [((cd p k).getD sE).av,.bool (cd p k).isSome]else((cd p k).getD sE).av) h:=by
 obtain⟨ei,h1,h2⟩:=Kv;rw[tK E5 h1 hl,ql,h2];cases cd p k<;>cases ok<;>rfl
def GU(l:List bk)(hb:l.length<=1099511627776):∀(n:Nat)(i:Int),l.length-i.toNat=n->0<=i->i<=l.length->
  aj (L130_0 (ai pg) aj) [.str [],strs l,.int .i64 l.length,.int .i64 i]=M.pure (.str (((l.drop i.toNat).find? fun x=>!(x== [])).getD [])):=by
 intro n
 induction n with
 |zero=>
  intro i hn hi hl;rw[FL130_0];simp only[L130_0];have h1:¬(i<(l.length:Int)):=by omega
  have h2:l.drop i.toNat=[]:=NN (by omega);simp[h1,h2]
 | succ n ih=>
  intro i hn hi hl;have h1:i<(l.length:Int):=by omega
  have hlt:i.toNat<l.length:=by omega
  have h4:=ih (i+1) (by omega) (by omega) (by omega);rw[show (i+1).toNat=i.toNat+1 by omega]at h4;rw[FL130_0,NI hlt];simp only[L130_0,O9];by_cases h0:l[i.toNat]=[]
  ·simp (disch:=omega) [h1,aF,yE,h4,h0,ND l i.toNat hlt]
  ·have h0':(l[i.toNat]== [])=false:=Oh.2 h0;simp (disch:=omega) [h1,aF,yE,h0,h0',ND l i.toNat hlt]
def t130(a b:bk):ai pg 130 [strs [a,b]]=M.pure (.str (if a=[]then b else a)):=by
 rw[C130]
 have:=GU [a,b] (by simp) 2 0 rfl (by omega) (by simp)
 simp at this;simp[S130,this];by_cases h1:a=[]
 ·by_cases h2:b=[]
  ·simp[h1,h2]
  ·have:(b== [])=false:=Oh.2 h2;simp only[h1,QO,Pv,NS];cases b with
   |nil=>exact absurd rfl h2
   |cons c b=>rfl
 ·have:(a== [])=false:=Oh.2 h1;simp[h1,this]
theorem t129(p:List Mod)(f:aG)(e:Exp)(h:Hp)(la lf:Nat)(o:List (aG×Bool))(ha:jd p h la)(hf:h[lf]? = some [.tup (o.map (ee AV.bool))]):
  ai pg 129 [e.av,.ip [.str f.1,.str f.2],.ip [.mp la],.ip [.mp lf]] h= .ok (.tup []) (h.set lf [.tup ((lq p f o e).map (ee AV.bool))]):=by
 rw[C129];have hB:∀x y:bk,au T 28 2 [(0,.str x),(1,.str y)]=some (strs [x,y]):=fun x y=>rfl;have hB2:∀x y:bk,aN T false 37 [(0,.str x),(1,.str y)]=some (bp (x,y)):=fun x y=>rfl;have hset:h.set lf [.tup (o.map (ee AV.bool))]=h:=by
  apply Pt;intro i;rw[OP];split
  ·rename_i hi;subst hi;obtain⟨h1,h2⟩:=NO.1 hf;simp[h1,h2]
  ·rfl
 have hlook:=rO ha (pW f e) true;have hput:=r6 (f:=AV.bool) LP hf (pW f e) true;have htg:pW f e=(if e.m=[]then f.1 else e.m,e.s):=rfl;simp[S129,hB,t130,hB2,cX];rw[<- htg];have hcm:aK 2 (bp (pW f e))=M.pure (bp (pW f e)):=by rw[bG (iX _),ej,jP]
 simp[hcm];rw[iL hlook];unfold lq kM;cases hfi:cd p (pW f e)with
 |none=>simp[hfi,hset];rfl
 |some g=>
  simp[hfi];split
  ·rw[iL hput];rfl
  ·rw[hset];rfl
end Go.Proofs.YtnipfhmghjdnmaaGreat
namespace Go.Proofs.YtnipfhmghjdnmaaGreat
open Go Go.Av Go.Av.Ap
set_option maxRecDepth 100000
def qJ{e x:Exp}(h:x∈e.args):SizeOf.sizeOf x<SizeOf.sizeOf e:=by
 cases e with
 |mk o n s m ns es=>
  have:=Qt h
  simp only[Exp.mk.sizeOf_spec];show SizeOf.sizeOf x<1+SizeOf.sizeOf o+SizeOf.sizeOf n+SizeOf.sizeOf s+SizeOf.sizeOf m+SizeOf.sizeOf ns+SizeOf.sizeOf es;have h2:SizeOf.sizeOf x<SizeOf.sizeOf es:=this;omega
def JY{σ:Type}{H:σ->Hp}{st:σ->Exp->σ}{g:AV}{l:List Exp}(hl:l.length<=140737488355328)(ih:∀x∈l,∀s,ai pg 67 [x.av,g] (H s)= .ok (.tup []) (H ((fw x).foldl st s))):
  ∀(n:Nat) (i:Int) s,l.length-i.toNat=n->0<=i->i<=l.length->aj (L67_0 (ai pg) aj) [g,cb l,.int .i64 l.length,.int .i64 i] (H s)= .ok (.tup []) (H (((l.drop i.toNat).flatMap fw).foldl st s)):=by
 intro n
 induction n with
 |zero=>
  intro i s hn hi hb;rw[FL67_0];simp only[L67_0];have h1:¬(i<(l.length:Int)):=by omega
  have h2:l.drop i.toNat=[]:=NN (by omega);simp[h1,h2];rfl
 |succ n IH=>
  intro i s hn hi hb;have h1:i<(l.length:Int):=by omega
  have hlt:i.toNat<l.length:=by omega
  have h4:=IH (i+1) ((fw l[i.toNat]).foldl st s) (by omega) (by omega) (by omega);rw[show (i+1).toNat=i.toNat+1 by omega]at h4;have h5:=ih _ (NW hlt) s;rw[FL67_0];simp only[L67_0];simp (disch:=omega) [h1,aF,kQ,ND l i.toNat hlt];rw[iL h5,h4,NI hlt,OV,Ql]
def t67{σ:Type}{H:σ->Hp}{st:σ->Exp->σ}{g:AV}(hg:∀s e,cO (ai pg) g [e.av] (H s)= .ok (.tup []) (H (st s e))):
  ∀(n:Nat)(e:Exp),SizeOf.sizeOf e<=n->e.Lim->∀s,ai pg 67 [e.av,g] (H s)= .ok (.tup []) (H ((fw e).foldl st s)):=by
 intro n
 induction n with
 |zero=>intro e he;cases e;simp at he
 |succ n ih=>
  intro e he hL s;rw[C67];have h1:=hg s e;have h2:=JY (H:=H) (st:=st) (g:=g) hL.len (fun x hx s=>ih x (by have:=qJ hx;omega) (hL.kid hx) s) e.args.length 0 (st s e) rfl (by omega) (by omega);simp[S67];rw[iL h1];simp at h2;simp[h2];rw[oT];rfl
theorem nM{α β γ:Type}{f:β->Option γ}{k:α->β}{g:α->γ}(hf:∀x,f (k x)=some (g x)):∀l:List α,(l.map k).mapM f=some (l.map g)
 |[]=>rfl
 |x:: l=>by
  rw[N8,Qf,hf,nM hf l];rfl
def E2(m:Mod):zD m.av=some (m.name,m.funcs.map fun f=>(f.name,f.av)):=by
 show ((m.funcs.map Fun.av).mapM wR).map (fun l=>(m.name,l))=_;rw[nM (f:=wR) (k:=Fun.av) (g:=fun f:Fun=>(f.name,f.av)) (fun f=>by cases f with|mk a b c r w e=>cases r;cases e;rfl)];rfl
def t53(p:List Mod)(h1:p.length<=1000000)(h2:∀m∈p,m.funcs.length<=1000000)(h:Hp):ai pg 53 [mods p] h= .ok (.mp h.length) (h++[[.tup ((cW p).map (ee Fun.av))]]):=by
 rw[eL hOther (E:=rA) rfl];show (match (p.map Mod.av).mapM zD with|some l=>_|none=>_)=_;rw[nM (g:=fun m:Mod=>(m.name,m.funcs.map fun f=>(f.name,f.av))) E2];simp only;rw[NE ⟨by simpa using h1,fun m hm=>by
  obtain⟨m',hm',rfl⟩:=O4.1 hm;simpa using h2 m' hm'⟩]
 have:(p.map fun m:Mod=>(m.name,m.funcs.map fun f=>(f.name,f.av)))=(p.map oZ).map fun m=>(m.1,m.2.map fun x=>(x.1,x.2.av)):=by
  rw[P2];apply PU;intro m _;simp[oZ]
 rw[this]
 have:=rn Fun.av (p.map oZ) [] []
 rw[PD]at this;rw[this,P2];rfl
def t64{V:Type}{f:V->AV}{h:Hp}{l:Nat}{es:List (aG×V)}(hl:h[l]? = some [.tup (es.map (ee f))])(hb:es.length<=1000000)(g:Nat)(hg:g=173\/g=173):
  ai pg 64 [.fn (.func g) [] [.ip [.mp l]],.fn (.func 66) [] []] h= .ok (aI (cP (es.map (·.1)))) h:=by
 rw[eL hOther (E:=oc [173,173] 66) rfl];have hk:(es.map (ee f)).mapM xj=some (es.map (·.1)):=nM (f:=xj) (k:=ee f) (g:=fun x:aG×V=>x.1) (fun x=>rfl) es;have hm:(eI [173,173] g&&Nat.beq 66 66)=true:=by rcases hg with rfl|rfl<;>rfl
 show (bif eI [173,173] g&&Nat.beq 66 66 then _ else _:R AV)=_;rw[hm];show (match jj h (.mp l)with|some es=>_|none=>_)=_;simp only[jj,hl,hk,Pn,NE hb]
def LA(f:Fun):qX T 90 f.av 5=some f.body.av:=by
 cases f with|mk a b c r w e=>cases r;cases e;rfl
def t91{p:List Mod}{h:Hp}{la:Nat}(ha:jd p h la)(f:aG)(hL:(kL p f).Lim)(hb:(found p f).length<=1000000):
  ai pg 91 [.mp la,bp f] h= .ok (aI (dm p f)) (h++[[.tup ((found p f).map (ee AV.bool))]]):=by
 rw[C91];have hla:la<h.length:=(NO.1 ha).1;let H0:List (aG×Bool)->Hp:=fun o=>h++[[.tup (o.map (ee AV.bool))]];have h0:=t67 (H:=H0) (st:=lq p f) (g:=.fn (.func 129) [] [.ip [.str f.1,.str f.2],.ip [.mp la],.ip [.mp h.length]]) (fun o e=>by
  have:=t129 p f e (h++[[.tup (o.map (ee AV.bool))]]) la h.length o (by unfold jd;rw[NJ hla];exact ha) (by simp)
  show ai pg 129 ([]++[e.av]++_) _=_;simp only[N4,Ob];rw[this];simp[H0]) _ (kL p f) (NL _) hL []
 have hlk:=rO (p:=p) (h:=h++[[.tup []]]) (l:=la) (by unfold jd;rw[NJ hla];exact ha) f false;have hs:=t64 (f:=AV.bool) (h:=h++[[.tup ((found p f).map (ee AV.bool))]]) (l:=h.length) (es:=found p f) (by simp) hb 173 (.inl rfl);have hk:ai pg 131 [.mp h.length]=M.pure (.fn (.func 173) [] [.ip [.mp h.length]]):=C131 _;simp[S91];rw[iL (m:=ky) (h:=h) rfl];have hc1:aK 1 (.mp h.length)=M.pure (.agg [.mp h.length]):=bG rfl;have hc2:∀n,aa (.mp n)=[.mp n]:=fun _=>rfl;simp only[hc1];simp[hk,hc2];rw[iL hlk];simp[LA];refine (iL h0).trans ?_;refine (iL hs).trans ?_;rfl
structure Sm (p:List Mod):Prop where
 len:p.length<=1000000
 funcs:∀m∈p,m.funcs.length<=1000000
 idx:(cW p).length<=1000000
 body:∀r,(kL p r).Lim
def Sm.calls{p:List Mod}(S:Sm p)(f:aG):(dm p f).length<=1000000:=by
 have:=dN (l:=dm p f) (m:=(cW p).map (·.1)) (je p f) (fun x hx=>(lx p x).2 (we hx))
 have:=S.idx
 simp at *;omega
def Sm.found{p:List Mod}(S:Sm p)(f:aG):(found p f).length<=1000000:=by
 have h1:=S.calls f;have h2:(dm p f).length=((Ap.found p f).map (·.1)).length:=(cN _).length_eq;simp at h2;omega
def set_mid(h:Hp)(x y:List AV)(J:Hp):(h++x:: J).set h.length y=h++y:: J:=by simp[List.set_append]
def xw{h:Hp}{l:Nat}{es:List (aG×aG)}(hl:h[l]? = some [.tup (es.map (ee bp))])(k:aG):gQ T 108 (.mp l) (bp k) true h= .ok (.tup [bp ((fu es k).getD ([],[])),.bool (fu es k).isSome]) h:=by
 obtain⟨ei,h1,h2⟩:=Ku;rw[tK E4 h1 hl,h2];cases fu es k<;>rfl
def xO(D:List (aG×List aG)):(D.map zM).map (·.1)=D.map (·.1):=by rw[P2];rfl
def wU(D:List (aG×List aG))(r:aG):(fu (D.map zM) r).isSome=decide (r∈D.map (·.1)):=by
 rw[<- xO];cases h:fu (D.map zM) r with
 |none=>rw[PE (lR.1 h)];rfl
 |some v=>rw[OM (O4.2 ⟨_,wT h,rfl⟩)];rfl
def Fg{V:Type}(l:List (aG×V))(k:aG)(v:V)(h:k ∉ l.map (·.1)):gU l k v=l++[(k,v)]:=by
 induction l with
 |nil=>rfl
 |cons x l ih=>
  simp only[N8,NP,not_or]at h;simp only[gU];rw[if_neg (fun e=>h.1 e.symm),ih h.2];rfl
theorem Gx(x:aG)(l:List aG):BK T 42 (aI (x:: l)) (some (.int .i64 1))=some (aI l):=by
 have:BK T 42 (aI (x:: l)) (some (.int .i64 1))=dh T 42 (.sl ((x:: l).map bp)) (some (.int .i64 1)) none none:=rfl;rw[this,o7 (e:=37) rfl rfl rfl ((x:: l).map bp) (tU _) (n:=1) (by decide) (by simp;omega)];rfl
def Nh(y:aG)(l:List aG):ak T 42 (aI (y:: l)) (.int .i64 0)=some (.ip (aa (bp y))):=by
 rw[ot (by omega) (by simp<;>omega)];rfl
def sk(h:Hp)(D:List (aG×List aG))(J:Hp):(h++kG D:: J)[h.length]? = some [.tup ((D.map zM).map (ee bp))]:=by simp[kG]
def Fx(h:Hp)(D:List (aG×List aG))(J:Hp)(c:List aG)(r y:aG)(hc:c.getLast? = some y)(hr:r ∉ D.map (·.1)):r5 T 108 (.mp h.length) (bp r) (bp y) (h++kG D:: J)= .ok (.tup []) (h++kG (D++[(r,c++[r])]):: J):=by
 rw[r6 E4 (sk h D J),set_mid,Fg _ _ _ (by rw[xO];exact hr)];simp only[kG,Ps,N8,PD,Cm c r y hc]
def JX(la:Nat)(h:Hp)(J:Hp)(l:List aG)(y:aG)(c:List aG)(hc:c.getLast? = some y)(k:Nat)(K:List AV->M AV):∀(n:Nat)(i:Int)(D:List (aG×List aG)),l.length-i.toNat=n->0<=i->i<=l.length->k<=D.length->D.length+n<=4000000->l.length<=4000000->
  aj (L52_0 (ai pg) aj K) [.mp la,.mp h.length,aI (y:: (D.map (·.1)).drop k),aI l,.int .i64 l.length,.int .i64 i] (h++kG D:: J)=
   K [.mp la,.mp h.length,aI ((((l.drop i.toNat).foldl (lJ c) D).map (·.1)).drop k)] (h++kG ((l.drop i.toNat).foldl (lJ c) D):: J):=by
 intro n
 induction n with
 |zero=>
  intro i D hn hi hb _ _ _;rw[FL52_0];simp only[L52_0];have h1:¬(i<(l.length:Int)):=by omega
  have h2:l.drop i.toNat=[]:=NN (by omega);simp[h1,h2,Gx]
 | succ n IH=>
  intro i D hn hi hb hk hD hll;have h1:i<(l.length:Int):=by omega
  have hlt:i.toNat<l.length:=by omega
  have h3:=xw (sk h D J) l[i.toNat];rw[wU]at h3;have hcm:∀r,aK 2 (bp r)=M.pure (bp r):=fun r=>by rw[bG (iX _),ej,jP]
  rw[FL52_0];simp only[L52_0];simp (disch:=omega) [h1,aF,ot,ND l i.toNat hlt,hcm];rw[iL h3];have hB:∀x:aG,au T 42 1 [(0,bp x)]=some (aI [x]):=fun x=>rfl;by_cases hr:l[i.toNat]∈D.map (·.1)
  ·have h4:=IH (i+1) D (by omega) (by omega) (by omega) hk (by omega) hll;rw[show (i+1).toNat=i.toNat+1 by omega]at h4;have h5:lJ c D l[i.toNat]=D:=NE hr;simp only[hr,OH];simp[hcm];rw[h4,NI hlt,OR,h5]
  ·have h4:=IH (i+1) (D++[(l[i.toNat],c++[l[i.toNat]])]) (by omega) (by omega) (by omega) (by simp;omega) (by simp;omega) hll;rw[show (i+1).toNat=i.toNat+1 by omega]at h4;have h5:lJ c D l[i.toNat]=D++[(l[i.toNat],c++[l[i.toNat]])]:=if_neg hr;have h6:=Fx h D J c l[i.toNat] y hc hr;have h7:((D++[(l[i.toNat],c++[l[i.toNat]])]).map (·.1)).drop k=(D.map (·.1)).drop k++[l[i.toNat]]:=by
    rw[Ps,List.drop_append_of_le_length (by simpa using hk)];rfl
   rw[h7]at h4;simp only[hr,OU];simp[hcm];simp[Nh,hB];rw[iL h6];have h8:ck T 42 (aI (y:: (D.map (·.1)).drop k)) (aI [l[i.toNat]])=some (aI (y:: ((D.map (·.1)).drop k++[l[i.toNat]]))):=by
    rw[KS (by simp;omega)];rfl
   simp only[h8];simp;rw[h4,NI hlt,OR,h5]
theorem GY{p:List Mod}(S:Sm p){f:aG}(la:Nat)(h:Hp)(ha:jd p h la):∀(n k:Nat)(D:List (aG×List aG))(J:Hp),DInv p f k D->(cW p).length<=k+n->k<=D.length->
  ∃J':Hp,J'.length+k=J.length+(kh (dm p) n k D).length/\aj (L52_1 (ai pg) aj) [.mp la,.mp h.length,aI ((D.map (·.1)).drop k)] (h++kG D:: J)= .ok (.mp h.length) (h++kG (kh (dm p) n k D):: J'):=by
 have hla:la<h.length:=(NO.1 ha).1;intro n
 induction n with
 |zero=>
  intro k D J I hn hk
  have:=I.len
  have h1:(D.map (·.1)).drop k=[]:=NN (by simp;omega);refine⟨J,by simp only[kh];omega,?_⟩;rw[h1,FL52_1];simp only[L52_1];simp[aI];rfl
 | succ n IH=>
  intro k D J I hn hk;cases hD:D[k]? with
  |none=>
   have h0:=Qc.1 hD;have h1:(D.map (·.1)).drop k=[]:=NN (by simp;omega);refine⟨J,by simp only[kh,hD];omega,?_⟩;rw[h1,FL52_1];simp only[L52_1,kh,hD];simp[aI];rfl
  | some e=>
   obtain⟨x,c⟩:=e;obtain⟨hlt,he⟩:=NO.1 hD;have hI:=S.idx;have hIl:=I.len;have hcl:=S.calls x;have h1:(D.map (·.1)).drop k=x:: (D.map (·.1)).drop (k+1):=by
    rw[NI (by simpa using hlt)];simp[he]
   have hc:=t91 (p:=p) (h:=h++kG D:: J) (la:=la) (by unfold jd;rw[NJ hla];exact ha) x (S.body x) (S.found x);have hlast:c.getLast? = some x:=I.last (Ov hD);have h2:=JX la h (J++[[.tup ((found p x).map (ee AV.bool))]]) (dm p x) x c hlast (k+1) (aj (L52_1 (ai pg) aj)) (dm p x).length 0 D rfl (by omega) (by omega) (by omega) (by omega) (by omega);obtain⟨J',hJ,h3⟩:=IH (k+1) (D++xD (dm p) D x c) (J++[[.tup ((found p x).map (ee AV.bool))]]) (I.step hD) (by omega) (by simp;omega);refine⟨J',by simp only[kh,hD];simp at hJ;omega,?_⟩;have hdr:(dm p x).drop (0:Int).toNat=dm p x:=rfl;rw[hdr,AZ _ _ _ _ (je p x),h3]at h2;rw[h1,FL52_1];simp only[L52_1,kh,hD];have hpos:(0:Int)<((D.map (·.1)).drop (k+1)).length+1:=by omega
   simp[Nh];rw[iL hc];have hj:(h++kG D:: J)++[[.tup ((found p x).map (ee AV.bool))]]=h++kG D:: (J++[[.tup ((found p x).map (ee AV.bool))]]):=by simp
   rw[hj];have hlen:aJ T 42 (aI (dm p x))=some (.int .i64 (dm p x).length):=by simp[aI]
   simp only[hlen];simp;exact h2
theorem t52{p:List Mod}(S:Sm p){h:Hp}{la:Nat}(ha:jd p h la)(f:aG):
  ∃J:Hp,J.length=(df p f).length/\ai pg 52 [.mp la,bp f] h=if(cd p f).isSome=true then .ok (.mp h.length) (h++kG (df p f):: J)else .ok .nilm h:=by
 have hla:la<h.length:=(NO.1 ha).1;have h1:=rO ha f true;by_cases hf:(cd p f).isSome=true
 ·obtain⟨J,hJ,h2⟩:=GY S la h ha ((cW p).length+1) 0 [(f,[f])] [] (DInv.zero hf) (by omega) (by simp);have h3:df p f=kh (dm p) ((cW p).length+1) 0 [(f,[f])]:=NE hf;refine⟨J,by rw[h3];simpa using hJ,?_⟩;rw[NE hf];rw[h3,C52];simp[S52];rw[iL h1];simp[hf];rw[iL (m:=ky) (h:=h) rfl];have h4:=r6 (f:=bp) (h:=h++[[.tup []]]) (l:=h.length) (es:=[]) E4 (by simp) f f;rw[iL h4];have hB:au T 42 1 [(0,bp f)]=some (aI [f]):=rfl;have h5:(h++[[AV.tup []]]).set h.length [.tup ((gU [] f f).map (ee bp))]=h++kG [(f,[f])]:: []:=by
   rw[set_mid];rfl
  simp only[hB];rw[h5];exact h2
 ·refine⟨[],by unfold df;rw[if_neg hf];rfl,?_⟩;rw[if_neg hf];have hf':(cd p f).isSome=false:=by simpa using hf
  rw[C52];simp[S52];rw[iL h1];simp[hf'];rfl
def MX{m:M AV}{a:AV}{h:Hp}(hm:m []= .ok a h)(hc:Go.Av.Ap.Clean a):aH m=M.pure a:=by
 funext h0;simp only[aH,hm,hc.frz];rfl
def eN(l:List aG):Go.Av.Ap.Clean (aI l):=fun g=>qi g l
def MW{p:List Mod}(S:Sm p):ai pg 53 [mods p] []= .ok (.mp 0) [[.tup ((cW p).map (ee Fun.av))]]:=t53 p S.len S.funcs []
def Cq{p:List Mod}(S:Sm p)(f:aG):(df p f).length<=1000000:=by
 by_cases h:(cd p f).isSome=true
 ·have:=(Cp h).len;have:=S.idx;omega
 ·unfold df;rw[if_neg h];simp
def Kl{l:Hp}{n:Nat}(h1:l.length=n)(h2:∀x∈l,x=[]):l=List.replicate n []:=List.eq_replicate_iff.2 ⟨h1,h2⟩
def sL{h:Hp}{q:Nat}{P:List aG}(hq:h[q]? = some (cQ P))(h0:P≠[])(hb:P.length<=4000000)(r:aG):
  appH T 42 false (.hs q 0 P.length 2 true) (aI [r]) h= .ok (.hs h.length 0 (P++[r]).length 2 true) (h.set q []++[cQ (P++[r])]):=by
 have hp:0<P.length:=by cases P with|nil=>exact absurd rfl h0|cons _ _=>simp
 have:=Lh (T:=T) (t:=42) (e:=37) (ti:=_) (ei:=_) rfl rfl rfl (x:=bp r) rfl (by decide) (by decide) (h:=h) (q:=q) (n:=P.length) (cs:=cQ P) hq (lO P) (fq P) hp (by show (P.length+1)*32<=_;omega)
 rw[qN,N3];exact this
def IG(a b:aG):ao T .neq 37 (bp a) (bp b)=some (.bool !decide (a=b)):=by
 show (yA T 20 37 (bp a) (bp b)).map (fun b=>AV.bool !b)=_;rw[Jq];rfl
def pr(a b:aG):ao T .eql 37 (bp a) (bp b)=some (.bool (decide (a=b))):=by
 show (yA T 20 37 (bp a) (bp b)).map AV.bool=_;rw[Jq];rfl
def Gv{α:Type}{b:Bool}{x y:α}(h:b=true):(bif b then x else y)=x:=by rw[h];rfl
theorem uM:∀l:List aG,(l.map px).flatten=cQ l
 |[]=>rfl
 |r:: l=>by
  rw[N8,PK,uM l];rfl
theorem t77{h:Hp}{q:Nat}{P:List aG}(hq:h[q]? = some (cQ P))(h0:P≠[])(hb:P.length<=4000000):
  ai pg 77 [.hs q 0 P.length 2 true,.fn (.func 66) [] []] h= .ok (.tup []) (h.set q (cQ (cP P))):=by
 rw[eL hOther (E:=gV 66) rfl];show mi dM 66 gx (ai pg) [.hs q 0 P.length 2 true,.fn (.func 66) [] []] h=_;have hp:0<P.length:=by cases P with|nil=>exact absurd rfl h0|cons _ _=>simp
 have h1:dM.dec (((cQ P).drop 0).take (P.length*dM.k))=some P:=by
  show mG (((cQ P).drop 0).take (P.length*2))=some P;rw[NZ,<- fq,Pp,<- uM];exact za P
 have h2:((gx P).map dM.ea).flatten=cQ (cP P):=by
  rw[o9];exact uM _
 have h3:(Nat.beq 66 66&&Nat.beq 2 dM.k&&decide (0<P.length)&&decide (0+P.length*dM.k<=(cQ P).length)&&decide (P.length=P.length)&&decide (P.length<4611686018427387904)&&decide ((gx P).length=P.length)&&(cQ P).all bh&&((gx P).map dM.ea).flatten.all bh)=true:=by
  rw[h2,o9,gw,lO,lO,fq];have:dM.k=2:=rfl;rw[this];simp;omega
 simp only[OH]at h3;simp only[mi,hq,h1];refine (Gv ?_).trans ?_
 ·simpa using h3
 congr 2;rw[h2];unfold setCells;simp only[Px,N4,NU,fq,gw];rw[NN (by rw[fq];omega),OE]
def BX(p:List Mod)(q:Nat):aG:=((cW p)[q]?.map (·.1)).getD ([],[])
def uj(p:List Mod)(f k:aG)(g:Fun):Bool:=decide (f∈(df p k).map (·.1))&&g.pub
def zV(p:List Mod)(f:aG)(q:Nat):Bool:=((cW p)[q]?.map fun e=>uj p f e.1 e.2).getD false
def BF(p:List Mod)(f:aG)(q:Nat):Nat:=1+(df p (BX p q)).length+(if zV p f q=true then 1 else 0)
def lH(p:List Mod)(f:aG)(qs:List Nat):List aG:=(qs.filter (zV p f)).map (BX p)
def BG(p:List Mod)(f:aG)(n:Nat)(qs:List Nat):Nat:=qs.foldl (fun n q=>n+BF p f q) n
def bA(p:List Mod)(f:aG):List aG:=cP (lH p f (List.range (cW p).length))
inductive OutRc (h:Hp):AV->List aG->Prop
 |nil:OutRc h .hn []
 |cons (q:Nat) (P:List aG):2<=q->h[q]? = some (cQ P)->P≠[]->OutRc h (.hs q 0 P.length 2 true) P
def OutRc.grow{h:Hp}{out:AV}{P:List aG}(H:OutRc h out P)(J:Hp):OutRc (h++J) out P:=by
 cases H with
 |nil=>exact .nil
 |cons q P h1 h2 h3=>exact .cons q P h1 (by rw[NJ (NO.1 h2).1];exact h2) h3
def OutRc.put{h:Hp}{out:AV}{P:List aG}(H:OutRc h out P)(hb:P.length<=4000000)(h2:2<=h.length)(r:aG):∃out' h',appH T 42 false out (aI [r]) h= .ok out' h'/\OutRc h' out' (P++[r])/\h'.length=h.length+1/\∀i,i<2->h'[i]? = h[i]?:=by
 cases H with
 |nil=>
  refine⟨.hs h.length 0 1 2 true,h++[cQ [r]],rfl,.cons h.length [r] h2 (by simp) (by simp),by simp,fun i hi=>by rw[NJ (by omega)]⟩
 | cons q P h3 h4 h5=>
  have:=sL h4 h5 hb r
  refine⟨_,_,this,.cons h.length (P++[r]) h2 ?_ (by simp),by simp,fun i hi=>?_⟩
  ·have:(h.set q []).length=h.length:=by simp
   rw[<- this];simp
  ·rw[NJ (by simp;omega),OW (by omega)]
def OutRc.set1{h:Hp}{out:AV}{P:List aG}(H:OutRc h out P)(x:List AV):OutRc (h.set 1 x) out P:=by
 cases H with
 |nil=>exact .nil
 |cons q P h1 h2 h3=>exact .cons q P h1 (by rw[OW (by omega)];exact h2) h3
def OutRc.done{h:Hp}{out:AV}{P:List aG}(H:OutRc h out P)(hb:P.length<=4000000):ae (ai pg 77 [out,.fn (.func 66) [] []]) (fun _=>ae (ah (some out)) vO) h= .ok (aI (cP P)) (List.replicate h.length []):=by
 have hrep:∀h:Hp,h.map (fun _=>([]:List AV))=List.replicate h.length []:=fun h=>Kl (Pn _) (fun x hx=>by obtain⟨_,_,rfl⟩:=O4.1 hx;rfl);cases H with
 | nil=>
  have h1:ai pg 77 [.hn,.fn (.func 66) [] []] h= .ok (.tup []) h:=by
   rw[eL hOther (E:=gV 66) rfl];rfl
  rw[iL h1];simp only[am,vO,hrep];rfl
 |cons q P h1 h2 h3=>
  rw[iL (t77 h2 h3 hb)];simp only[am,vO,hrep,Pr];have hql:q<h.length:=(NO.1 h2).1
  have:=EA (h:=h.set q (cQ (cP P))) (l:=q) (P:=cP P) (OZ hql) 5
  rw[gw]at this;rw[this]
def FC(p:List Mod)(f:aG)(qs:List Nat):(lH p f qs).length<=qs.length:=by
 unfold lH;rw[Pn];exact List.length_filter_le _ _
def Cv(p:List Mod)(f:aG){a b:List Nat}(h:a.Perm b):(lH p f a).Perm (lH p f b):=(h.filter _).map _
def BH(p:List Mod)(f:aG){a b:List Nat}(h:a.Perm b)(n:Nat):BG p f n a=BG p f n b:=h.foldl_eq' (fun x _ y _ z=>by omega) n
theorem JU{p:List Mod}(S:Sm p)(f:aG):∀(n:Nat)(qs:List Nat)(P:List aG)(out:AV)(h:Hp)(c:AV),qs.length=n->qs.Nodup->(∀q∈qs,q<(cW p).length)->OutRc h out P->P.length+n<=3000000->
  jd p h 0->h[1]? = some [.tup [],.mp 0,.int .i64 (cW p).length,jC qs,c]->
  aj (L41_0 (ai pg) aj) [.ip [.str f.1,.str f.2],.mp 0,out,.it 1] h= .ok (aI (cP (P++lH p f qs))) (List.replicate (BG p f h.length qs) []):=by
 intro n
 induction n with
 |zero=>
  intro qs P out h c hn _ _ hO hb hi h1;obtain rfl:qs=[]:=PW.1 hn;rw[FL41_0];simp only[L41_0,aL,aY];rw[Hb h1 hi (by simp)]
  have:=(hO.set1 []).done (by omega)
  rw[this];simp[lH,BG]
 | succ n IH=>
  intro qs P out h c hn hnd hlt hO hb hi h1;rw[FL41_0];simp only[L41_0,aL,aY];have hhl:2<=h.length:=by have:=(NO.1 h1).1;omega
  apply E7 h1 hi (by simp)
  ·intro e;rw[e]at hn;cases hn
  intro q hq;have hqI:=hlt q hq;have hent:((cW p).map (ee Fun.av))[q]? = some (.tup [bp (cW p)[q].1,(cW p)[q].2.av]):=by
   rw[Ou,NH hqI];rfl
  have hk:BX p q=(cW p)[q].1:=by simp[BX,hqI]
  have hs:zV p f q=uj p f (cW p)[q].1 (cW p)[q].2:=by simp[zV,hqI]
  generalize hg:(cW p)[q]=e at hent hk hs;obtain⟨k,g⟩:=e;simp only at hent hk hs;have hmem:(k,g)∈cW p:=hg▸NW hqI;have hfk:(cd p k).isSome=true:=(lx p k).1 (O4.2 ⟨_,hmem,rfl⟩);let h2:=h.set 1 [.tup [],.mp 0,.int .i64 (cW p).length,jC (qs.filter fun r=>!(Nat.beq r q)),.int .i64 (q:Nat)];have hi2:jd p h2 0:=by unfold jd;rw[OW (by omega)];exact hi
  have h12:h2[1]? = some [.tup [],.mp 0,.int .i64 (cW p).length,jC (qs.filter fun r=>!(Nat.beq r q)),.int .i64 (q:Nat)]:=OZ (by omega);have hO2:OutRc h2 out P:=hO.set1 _;have hl2:h2.length=h.length:=Pr;have he:=Em (h:=h2) h12 hi2 (by simp) hent;have hcm:∀r,aK 2 (bp r)=M.pure (bp r):=fun r=>by rw[bG (iX _),ej,jP]
  obtain⟨J,hJ,hsp⟩:=t52 S hi2 k;rw[NE hfk]at hsp;have hlk:=xw (sk h2 (df p k) J) f;rw[wU]at hlk;have hp:=pP hnd hq;have hnl:(qs.filter fun r=>!(Nat.beq r q)).length=n:=by have:=hp.length_eq;simp only[Of]at this;omega
  have hlt2:∀r∈qs.filter (fun r=>!(Nat.beq r q)),r<(cW p).length:=fun r hr=>hlt r (OS.1 hr).1;have hO3:=hO2.grow (kG (df p k):: J);have hhl3:(h2++kG (df p k):: J).length=h.length+(1+(df p k).length):=by simp[hl2,hJ];omega
  have hi3:jd p (h2++kG (df p k):: J) 0:=by unfold jd;rw[NJ (by omega)];exact hi2
  have h13:(h2++kG (df p k):: J)[1]? = some [.tup [],.mp 0,.int .i64 (cW p).length,jC (qs.filter fun r=>!(Nat.beq r q)),.int .i64 (q:Nat)]:=by rw[NJ (by omega)];exact h12
  have hres1:cP (P++lH p f qs)=cP (P++lH p f (q:: qs.filter fun r=>!(Nat.beq r q))):=mj ((Cv p f hp).append_left P);rw[hres1,BH p f hp];have hcnt:BG p f h.length (q:: qs.filter fun r=>!(Nat.beq r q))=BG p f (h.length+BF p f q) (qs.filter fun r=>!(Nat.beq r q)):=rfl;rw[hcnt];refine (iL he).trans ?_;simp[hcm];refine (iL hsp).trans ?_;refine (iL hlk).trans ?_;simp[hcm];have hB:au T 42 1 [(0,bp k)]=some (aI [k]):=rfl;by_cases hu:uj p f k g=true
  ·have hsel:lH p f (q:: qs.filter fun r=>!(Nat.beq r q))=k:: lH p f (qs.filter fun r=>!(Nat.beq r q)):=by
    unfold lH;rw[Qi (by rw[hs];exact hu),N8,hk]
   have hc1:BF p f q=1+(df p k).length+1:=by unfold BF;rw[hs,hk,NE hu]
   obtain⟨out',h',a1,a2,a3,a4⟩:=hO3.put (by omega) (by omega) k;have h4:=IH (qs.filter fun r=>!(Nat.beq r q)) (P++[k]) out' h' (.int .i64 (q:Nat)) hnl (nP hnd) hlt2 a2 (by simp;omega) (by unfold jd;rw[a4 0 (by omega)];exact hi3) (by rw[a4 1 (by omega)];exact h13);rw[a3,hhl3]at h4;have hu':(decide (f∈(df p k).map (·.1))&&g.pub)=true:=hu;rw[NE hu',hsel,hc1];simp only[hB,am];refine (iL a1).trans ?_;rw[h4];simp only[Oz,Ob,N4];congr 3
  ·have hsel:lH p f (q:: qs.filter fun r=>!(Nat.beq r q))=lH p f (qs.filter fun r=>!(Nat.beq r q)):=by
    unfold lH;rw[Qh (by rw[hs];exact hu)]
   have hc1:BF p f q=1+(df p k).length:=by unfold BF;rw[hs,hk,if_neg hu];rfl
   have h4:=IH (qs.filter fun r=>!(Nat.beq r q)) P out (h2++kG (df p k):: J) (.int .i64 (q:Nat)) hnl (nP hnd) hlt2 hO3 (by omega) hi3 h13;rw[hhl3]at h4;have hu':¬(decide (f∈(df p k).map (·.1))&&g.pub)=true:=hu;rw[if_neg hu',hsel,hc1];exact h4
def t41{p:List Mod}(S:Sm p)(f:aG):ai pg 41 [mods p,bp f]=M.pure (aI (bA p f)):=by
 rw[C41];have h3:∃h',S41 (ai pg) aj (mods p) (bp f) []= .ok (aI (bA p f)) h':=by
  simp only[S41];rw[iL (MW S)];have hr:kE T 110 (.mp 0) [[.tup ((cW p).map (ee Fun.av))]]= .ok (.it 1) [[.tup ((cW p).map (ee Fun.av))],[.tup [],.mp 0,.int .i64 (cW p).length,jC (List.range (cW p).length),.any]]:=by
   simp[kE,E5]
  have:=JU S f _ (List.range (cW p).length) [] .hn [[.tup ((cW p).map (ee Fun.av))],[.tup [],.mp 0,.int .i64 (cW p).length,jC (List.range (cW p).length),.any]] .any rfl QN (fun q hq=>Qg.1 hq) .nil (by have:=S.idx;simp;omega) rfl rfl
  exact⟨_,(iL hr).trans this⟩
 obtain⟨h',h3⟩:=h3;simp only[ix,mE];exact MX h3 (eN _)
def JQ(l:List aG)(r:aG)(hb:l.length<=40000000):∀(n:Nat)(i:Int),l.length-i.toNat=n->0<=i->i<=l.length->aj (L32_0 (ai pg) aj) [aI l,.ip [.str r.1,.str r.2],.int .i64 i]=M.pure (.bool (decide (r∈l.drop i.toNat))):=by
 intro n
 induction n with
 |zero=>
  intro i hn hi hl;rw[FL32_0];simp only[L32_0];have h1:¬(i<(l.length:Int)):=by omega
  have h2:l.drop i.toNat=[]:=NN (by omega);have h3:aJ T 42 (aI l)=some (.int .i64 l.length):=by simp[aI]
  simp[h1,h2,h3]
 | succ n ih=>
  intro i hn hi hl;have h1:i<(l.length:Int):=by omega
  have hlt:i.toNat<l.length:=by omega
  have h3:aJ T 42 (aI l)=some (.int .i64 l.length):=by simp[aI]
  have h4:=ih (i+1) (by omega) (by omega) (by omega);rw[show (i+1).toNat=i.toNat+1 by omega]at h4;rw[FL32_0];simp only[L32_0];have h5:(r∈l.drop i.toNat)↔(l[i.toNat]=r\/r∈l.drop (i.toNat+1)):=by
   rw[NI hlt,NP];exact⟨fun h=>h.imp Eq.symm id,fun h=>h.imp Eq.symm id⟩
  simp (disch:=omega) [h1,h3,aF,ot,h4,ND l i.toNat hlt,pr];simp only[h5];by_cases h6:l[i.toNat]=r
  ·simp[h6]
  ·simp[h6]
def t32(l:List aG)(r:aG)(hb:l.length<=40000000):ai pg 32 [aI l,bp r]=M.pure (.bool (decide (r∈l))):=by
 rw[C32]
 have:=JQ l r hb l.length 0 rfl (by omega) (by omega)
 simp at this;simp[S32,this]
def ku{o n:Int}{s m:bk}{ns:List bk}{es:List Exp}(h1:ns.length<=8796093022208)(h2:es.length<=140737488355328)(h3:∀x∈es,x.Lim):(Exp.mk o n s m ns es).Lim:=fun k=>by
 cases k with
 |zero=>trivial
 |succ k=>exact⟨h1,h2,fun x hx=>h3 x hx k⟩
def EU:Bg.Lim:=ku (by simp) (by simp) (fun x hx=>by cases hx)
def vZ{p:List Mod}(h:∀m∈p,∀f∈m.funcs,f.body.Lim)(r:aG):(kL p r).Lim:=by
 unfold kL;cases hf:cd p r with
 |none=>exact EU
 | some g=>
  unfold cd at hf;split at hf
  ·rename_i m hm;exact h m (PP hm) g (PP hf)
  ·cases hf
def st{α β:Type}{m:M α}{a:α}{f:α->M β}{r:M β}(e:m=M.pure a)(h:f a=r):ae m f=r:=by rw[e,aA];exact h
def bD{x:Option AV}{a:AV}(e:x=some a):ah x=M.pure a:=by rw[e];rfl
def np{α:Type}{m:M α}{a:α}(e:m=M.pure a):bH m=M.pure a:=by rw[e];rfl
def gE{m:M (List AV)}{r:M (List AV)}(e:m=r):aB (.bool true) true 1 m=r:=by rw[<- e];rfl
theorem IQ(x y:bk):aN T false 37 [(0,.str x),(1,.str y)]=some (bp (x,y)):=rfl
theorem MV(x y:aG):au T 42 2 [(0,bp x),(1,bp y)]=some (aI [x,y]):=rfl
def lu(r:aG):aK 2 (bp r)=M.pure (bp r):=by rw[bG (iX _),ej,jP]
theorem JC(r:aG):af T 37 (.ip (aa (bp r)))=some (bp r):=rfl
def Ko{p:List Mod}(hM:∀m∈p,m.Lim)(h1:p.length<=9)(h2:∀m∈p,m.funcs.length<=9):Sm p where
 len:=by omega
 funcs:=fun m hm=>by have:=h2 m hm;omega
 idx:=by
  have h3:=GL p;have h4:=CQ p h2;have:p.length*9<=9*9:=NY 9 h1;omega
 body:=vZ fun m hm f hf=>((hM m hm).fns f hf).body
def F8{p:List Mod}(S:Sm p)(f:aG):(oz p f).length<=1000000:=by
 unfold oz;rw[gw,Pn];exact Cq S f
def gH(l:List aG):aJ T 42 (aI l)=some (.int .i64 l.length):=by simp[aI]
def vA{p:List Mod}{f:aG}{q:Nat}(hq:q<(cW p).length):BX p q=(cW p)[q].1/\zV p f q=uj p f (cW p)[q].1 (cW p)[q].2/\cd p (cW p)[q].1=some (cW p)[q].2:=by
 refine⟨by simp[BX,hq],by simp[zV,hq],?_⟩;rw[<- ql];exact mO (oL p) (NW hq)
def oR{p:List Mod}{f r:aG}:r∈bA p f↔∃g,cd p r=some g/\g.pub=true/\f∈oz p r:=by
 unfold bA;rw[(cN _).mem_iff];unfold lH;rw[O4];constructor
 ·rintro⟨q,hq,rfl⟩;obtain⟨h1,h2⟩:=OS.1 hq;have hq':=Qg.1 h1;obtain⟨a,b,c⟩:=vA (f:=f) hq';rw[b]at h2;unfold uj at h2;rw[NG,Oa]at h2;exact⟨_,by rw[a];exact c,h2.2,by rw[a,AW];exact h2.1⟩
 ·rintro⟨g,h1,h2,h3⟩;rw[<- ql]at h1;obtain⟨q,hq,e⟩:=Qz (wT h1);obtain⟨a,b,c⟩:=vA (f:=f) hq;refine⟨q,OS.2 ⟨Qg.2 hq,?_⟩,by rw[a,e]⟩;rw[b,e];unfold uj;rw[NG,Oa];exact⟨AW.1 h3,h2⟩
def yy(p:List Mod)(f:aG):(bA p f).Nodup:=by
 unfold bA;refine (cN _).nodup_iff.2 ?_;unfold lH List.Nodup;rw[QF];refine List.Pairwise.imp_of_mem ?_ (List.nodup_range.filter (zV p f));intro a b ha hb hne e;have ha':=Qg.1 (OS.1 ha).1;have hb':=Qg.1 (OS.1 hb).1;rw[(vA (f:=f) ha').1,(vA (f:=f) hb').1]at e
 have:=PO.1 (oL p)
 rcases QG a b with h|h|h
 ·have:=this a b (by simpa using ha') (by simpa using hb') h;simp at this;exact this e
 ·exact hne h
 ·have:=this b a (by simpa using hb') (by simpa using ha') h;simp at this;exact this e.symm
def Af(p:List Mod)(f:aG)(r:aG):Bool:=decide (r∈bA p f)
def Kt{p:List Mod}{f r:aG}{g:Fun}(h:cd p r=some g):Af p f r=(g.pub&&decide (f∈oz p r)):=by
 unfold Af;rw[Pa,Oa,oR,NG,Oa];constructor
 ·rintro⟨g',h1,h2⟩;rw[h]at h1;cases h1;exact h2
 ·exact fun h2=>⟨g,h,h2⟩
def ui{p:List Mod}(S:Sm p)(f:aG):(bA p f).length<=1000000:=by
 unfold bA;rw[gw]
 have:=FC p f (List.range (cW p).length)
 rw[List.length_range]at this
 have:=S.idx
 omega
def t111(a b:aG):ai pg 111 [bp a,bp b]=M.pure (.bool (m8 a b)):=by
 rw[C111];unfold m8;simp[S111]
def bn(o:Option Fun):AV:=.tup [(o.getD sE).av,.bool o.isSome]
theorem jF:aN T false 90 []=some sE.av:=rfl
def gp(g:Fun):ap 12 [] g.av=M.pure g.av:=by rw[bM (jY g),fp,ri]
def J6(r:aG)(l:List Fun)(hl:l.length<=1000000)(b3 b4 b5 b6 b7 b8 b9 b10 b11 b12 b13 b14:AV):∀(n j:Nat),l.length-j=n->j<=l.length->
  aj (L78_0 (ai pg) aj) [.ip [.str r.1,.str r.2],kp l,.int .i64 j,b3,b4,b5,b6,b7,b8,b9,b10,b11,b12,b13,b14]=M.pure (bn ((l.drop j).find? fun f=>f.name== r.2)):=by
 intro n
 induction n with
 |zero=>
  intro j hn hj;have h1:¬j<l.length:=by omega
  have h2:l.drop j=[]:=NN (by omega);rw[FL78_0];simp only[L78_0,h2];simp[h1,jF,gp,bn]
 | succ n ih=>
  intro j hn hj;have hlt:j<l.length:=by omega
  have h4:=ih (j+1) (by omega) (by omega);have h4':aj (L78_0 (ai pg) aj) [.ip [.str r.1,.str r.2],kp l,.int .i64 ((j:Int)+1),b3,b4,b5,b6,b7,b8,b9,b10,b11,b12,b13,b14]=_:=h4;have h5:l.drop j=l[j]:: l.drop (j+1):=NI hlt;rw[FL78_0];simp only[L78_0,h5,O9];by_cases he:l[j].name=r.2
  ·have he':(l[j].name== r.2)=true:=Ol.2 he;simp (disch:=omega) [hlt,mr,ND l j hlt,aF,he',gp,bn]
  ·have he':(l[j].name== r.2)=false:=Oh.2 he;simp (disch:=omega) [hlt,mr,ND l j hlt,aF,he,he',h4']
def J7{p:List Mod}(S:Sm p)(r:aG)(b3 b4 b5 b6 b7 b8 b9 b10 b11 b12 b13 b14:AV):∀(n i:Nat),p.length-i=n->i<=p.length->
  aj (L78_1 (ai pg) aj) [mods p,.ip [.str r.1,.str r.2],.int .i64 i,b3,b4,b5,b6,b7,b8,b9,b10,b11,b12,b13,b14]=M.pure (bn (cd (p.drop i) r)):=by
 have hpl:=S.len;have hlenM:aJ T 22 (mods p)=some (.int .i64 p.length):=by simp[mods]
 intro n
 induction n with
 |zero=>
  intro i hn hi;have h1:¬i<p.length:=by omega
  have h2:p.drop i=[]:=NN (by omega);rw[FL78_1];simp only[L78_1,h2];simp[hlenM,h1,jF,gp,bn,cd]
 | succ n ih=>
  intro i hn hi;have hlt:i<p.length:=by omega
  have h4:=ih (i+1) (by omega) (by omega);have h4':aj (L78_1 (ai pg) aj) [mods p,.ip [.str r.1,.str r.2],.int .i64 ((i:Int)+1),b3,b4,b5,b6,b7,b8,b9,b10,b11,b12,b13,b14]=_:=h4;have h5:p.drop i=p[i]:: p.drop (i+1):=NI hlt;have h6:=J6 r p[i].funcs (S.funcs _ (NW hlt)) b3 b4 b5 b6 b7 b8 b9 b10 b11 b12 b13 b14 _ 0 rfl (by omega);simp only[NZ]at h6;have h6':aj (L78_0 (ai pg) aj) [.ip [.str r.1,.str r.2],kp p[i].funcs,.int .i64 0,b3,b4,b5,b6,b7,b8,b9,b10,b11,b12,b13,b14]=_:=h6;rw[FL78_1];simp only[L78_1,h5];by_cases he:p[i].name=r.1
  ·have hf:cd (p[i]:: p.drop (i+1)) r=p[i].funcs.find? fun f=>f.name== r.2:=by unfold cd;rw[List.find?_cons_of_pos (by simp[he])]
   rw[hf];simp (disch:=omega) [hlenM,hlt,fJ,ND p i hlt,aF,he,h6']
  ·have hf:cd (p[i]:: p.drop (i+1)) r=cd (p.drop (i+1)) r:=by unfold cd;rw[List.find?_cons_of_neg (by simp[he])]
   have he':(p[i].name== r.1)=false:=Oh.2 he;rw[hf];simp (disch:=omega) [hlenM,hlt,fJ,ND p i hlt,aF,he,he',h4']
def t78{p:List Mod}(S:Sm p)(r:aG):ai pg 78 [mods p,bp r]=M.pure (bn (cd p r)):=by
 rw[C78];have h:=J7 S r (.str []) (.bool false) (.sl []) (.int .i64 0) (.sl []) (.int .i64 0) (.int .i64 0) (.int .i64 0) (.str []) (.str []) (.sl []) (.sl []) _ 0 rfl (by omega);simp only[NZ]at h;have h':aj (L78_1 (ai pg) aj) [mods p,.ip [.str r.1,.str r.2],.int .i64 0,.str [],.bool false,.sl [],.int .i64 0,.sl [],.int .i64 0,.int .i64 0,.int .i64 0,.str [],.str [],.sl [],.sl []]=_:=h;simp only[ix,mE,S78,ej];rw[h'];exact bb (fun g=>by simp[bn,cl,eV])
theorem o6(r:aG):∀l:List aG,∀k,(∀i (h:i<k) (hl:i<l.length),m8 l[i] r=true)->k<=l.length->(k<l.length->∀h:k<l.length,m8 l[k] r=false)->
  kS l r=l.take k++r:: (if h:k<l.length then(if l[k]=r then l.drop (k+1)else l.drop k)else[])
 |[],k,_,hk,_=>by
  obtain rfl:k=0:=by simpa using hk
  rfl
 |x:: l,0,_,_,h2=>by
  have:=h2 (by simp) (by simp)
  simp only[List.getElem_cons_zero]at this;simp only[kS,this,NC,NK];simp;split<;>rfl
 |x:: l,k+1,h1,hk,h2=>by
  have h0:=h1 0 (by omega) (by simp);simp only[List.getElem_cons_zero]at h0
  have:=o6 r l k (fun i hi hl=>by have:=h1 (i+1) (by omega) (by simpa using hl);simpa using this) (by simpa using hk) (fun hlt h=>by have:=h2 (by simpa using hlt) (by simpa using hlt);simpa using this)
  simp only[kS,h0,NS,this];simp
def I7{a b:List aG}(h:a.length+b.length<=4000000):ck T 42 (aI a) (aI b)=some (aI (a++b)):=KS (by omega)
def M3(l:List aG)(n:Nat)(h:n<=l.length):dh T 42 (aI l) (some (.int .i64 n)) none none=some (aI (l.drop n)):=by
 unfold aI;rw[o7 (e:=37) rfl rfl rfl (l.map bp) (tU l) (n:=n) (by omega) (by simp;omega)];simp
def G0(l:List aG)(r:aG)(hl:l.length<=3000000):∀(n k:Nat),l.length-k=n->k<=l.length->(∀i (h:i<k) (hl:i<l.length),m8 l[i] r=true)->
  aj (L80_0 (ai pg) aj) [aI l,.ip [.str r.1,.str r.2],aI (l.take k),.int .i64 k]=M.pure (aI (kS l r)):=by
 intro n;have hB1:∀x:aG,au T 42 1 [(0,bp x)]=some (aI [x]):=fun x=>rfl
 induction n with
 |zero=>
  intro k hn hk hall;obtain rfl:k=l.length:=by omega
  have h1:=o6 r l l.length hall (by omega) (fun h=>by omega);rw[dif_neg (by omega)]at h1;have h2:=M3 l l.length (by omega);rw[h1,FL80_0];simp only[L80_0,K80_0];have a1:=I7 (a:=l.take l.length) (b:=[r]) (by simp;omega);have a2:=I7 (a:=l++[r]) (b:=l.drop l.length) (by simp;omega);simp only[Pp,QS]at a1 a2 h2 |-;simp[gH,hB1,a1,h2,a2,K80_0]
 | succ n ih=>
  intro k hn hk hall;have hlt:k<l.length:=by omega
  have hb:=t111 l[k] r;by_cases hc:m8 l[k] r=true
  ·rw[hc]at hb;have h4:=ih (k+1) (by omega) (by omega) (fun i h hl=>by
    by_cases e:i<k
    ·exact hall i e hl
    ·obtain rfl:i=k:=by omega
     exact hc)
   have h5:l.take (k+1)=l.take k++[l[k]]:=by rw[List.take_add_one,NH hlt];rfl
   have a1:=I7 (a:=l.take k) (b:=[l[k]]) (by simp;omega);rw[<- h5]at a1;have h4':aj (L80_0 (ai pg) aj) [aI l,.ip [.str r.1,.str r.2],aI (l.take (k+1)),.int .i64 ((k:Int)+1)]=M.pure (aI (kS l r)):=h4;rw[FL80_0];simp only[L80_0];simp (disch:=omega) [gH,hlt,ot,ND l k hlt,aF,hb,hB1,a1];exact h4'
  ·have hc':m8 l[k] r=false:=by simpa using hc
   rw[hc']at hb;have h1:=o6 r l k hall hk (fun _ _=>hc');rw[dif_pos hlt]at h1;have a1:=I7 (a:=l.take k) (b:=[r]) (by simp;omega);have a2:=I7 (a:=l.take k++[r]) (b:=l.drop k) (by simp;omega);have a3:=I7 (a:=l.take k++[r]) (b:=l.drop (k+1)) (by simp;omega);have s2:=M3 l k (by omega);have s3:=M3 l (k+1) (by omega);have s3':dh T 42 (aI l) (some (.int .i64 ((k:Int)+1))) none none=some (aI (l.drop (k+1))):=s3;rw[h1,FL80_0];simp only[L80_0,K80_0];by_cases he:l[k]=r
   ·have be:=pr l[k] r;rw[OM he]at be;simp (disch:=omega) [gH,hlt,ot,ND l k hlt,aF,hb,hB1,a1,be];simp[s3',a3,he,K80_0]
   ·have be:=pr l[k] r;rw[PE he]at be;simp (disch:=omega) [gH,hlt,ot,ND l k hlt,aF,hb,hB1,a1,be];simp[s2,a2,he,K80_0]
def t80(l:List aG)(r:aG)(hl:l.length<=3000000):ai pg 80 [aI l,bp r]=M.pure (aI (kS l r)):=by
 rw[C80];have h:=G0 l r hl _ 0 rfl (by omega) (fun i h=>by omega);have h':aj (L80_0 (ai pg) aj) [aI l,.ip [.str r.1,.str r.2],.sl [],.int .i64 0]=_:=h;simp only[qi,mE,S80,ej];rw[h'];exact bb (eN _)
def vS(p:List Mod)(f:aG)(e:Exp):Prop:=∀o,gL p o->ai pg 153 [mods p,.str f.1,e.av,aI o]=M.pure (aI ((fw e).foldl (stepW p f) o))
def LN{p:List Mod}(S:Sm p)(f:aG)(e:Exp)(hL:e.Lim)(ih:∀x∈e.args,vS p f x):∀(n j:Nat)(o:List aG),e.args.length-j=n->j<=e.args.length->gL p o->
  aj (L153_0 (ai pg) aj) [mods p,.str f.1,aI o,.ip (aa e.av),.int .i64 j]=M.pure (aI (((e.args.drop j).flatMap fw).foldl (stepW p f) o)):=by
 have hlen:=hL.len;intro n
 induction n with
 |zero=>
  intro j o hn hj ho;have h1:¬j<e.args.length:=by omega
  have h2:e.args.drop j=[]:=NN (by omega);rw[FL153_0];simp only[L153_0,h2];simp[h1]
 |succ n IH=>
  intro j o hn hj ho;have hlt:j<e.args.length:=by omega
  have h5:e.args.drop j=e.args[j]:: e.args.drop (j+1):=NI hlt;have h3:=ih _ (NW hlt) o ho;have h4:=IH (j+1) ((fw e.args[j]).foldl (stepW p f) o) (by omega) (by omega) (gL.fold _ ho);rw[h5,OV,Ql];refine QT ?_ h4;rw[FL153_0];simp only[L153_0];simp (disch:=omega) [hlt,kQ,ND e.args j hlt,aF,h3]
theorem t153{p:List Mod}(S:Sm p)(f:aG):∀(N:Nat)(e:Exp),SizeOf.sizeOf e<=N->e.Lim->vS p f e:=by
 intro N
 induction N with
 |zero=>intro e he;cases e;simp at he
 | succ N ih=>
  intro e he hL o ho;have hs:=ho.step (f:=f) e;have h1:=LN S f e hL (fun x hx=>ih x (by have:=qJ hx;omega) (hL.kid hx)) _ 0 (stepW p f o e) rfl (by omega) hs;have h2:=t78 S (pW f e);have hol:=ho.len;have hidx:=S.idx;have h3:=t80 o (pW f e) (by omega);have hB:∀x y:bk,aN T false 37 [(0,.str x),(1,.str y)]=some (bp (x,y)):=fun x y=>rfl;have hcn:∀r,ap 2 [] (bp r)=M.pure (bp r):=fun r=>by rw[bM (iX _),ej,jP]
  have hc1:∀s:bk,cI (.str s)=M.pure (.str s):=fun _=>rfl;rw[C153,oT,OR];simp only[ix,qi,uA];have hz:((0:Nat):Int)=0:=rfl;rw[hz,NZ]at h1;have hK:∀V:List AV->M AV,K153_1 (ai pg) aj V [mods p,.str f.1,aI o,.ip (aa e.av),.str (pW f e).1,.str (pW f e).2]=V [mods p,.str f.1,aI (if(match cd p (pW f e)with|some g=>e.m== []||g.pub|none=>false)=true then kS o (pW f e)else o),.ip (aa e.av)]:=by
   intro V;simp only[K153_1];cases hf:cd p (pW f e)with
   |none=>
    rw[hf]at h2;simp[h2,bn]
   | some g=>
    rw[hf]at h2;by_cases hm:e.m=[]
    ·simp[h2,bn,hm,h3]
    ·have hm':(e.m== [])=false:=Oh.2 hm;cases hp:g.pub
     ·simp[h2,bn,hm',hp,h3]
     ·simp[h2,bn,hm',hp,h3]
  have key:S153 (ai pg) aj (mods p) (.str f.1) e.av (aI o)=aj (L153_0 (ai pg) aj) [mods p,.str f.1,aI (stepW p f o e),.ip (aa e.av),.int .i64 0]:=by
   have hK':=hK (K153_0 (ai pg) aj);simp only[aO]at hK';unfold stepW kM;by_cases ho:e.op=15
   ·by_cases hm:e.m=[]
    ·have ht:pW f e=(f.1,e.s):=by unfold pW;rw[NE hm]
     rw[ht]at hK' |-;simp only[S153];simp[hB,hcn,hc1,ho,hm];simp[ho,hm]at hK';rw[hK'];simp[K153_0];cases cd p (f.1,e.s)<;>rfl
    ·have ht:pW f e=(e.m,e.s):=by unfold pW;rw[if_neg hm]
     rw[ht]at hK' |-;simp only[S153];simp[hB,hcn,hc1,ho,hm];simp[ho,hm]at hK';rw[hK'];simp[K153_0];cases cd p (e.m,e.s)<;>rfl
   ·simp only[S153];simp[hB,hcn,hc1,ho,K153_0]
  show aH (S153 (ai pg) aj (mods p) (.str f.1) e.av (aI o))=_;rw[key,h1];exact bb (eN _)
def t110{p:List Mod}(S:Sm p)(f:aG):ai pg 110 [mods p,bp f]=M.pure (aI (dm p f)):=by
 rw[C110];simp only[ix,mE];have h1:=t78 S f;have h:S110 (ai pg) aj (mods p) (bp f)=M.pure (aI (dm p f)):=by
  cases hf:cd p f with
  |none=>
   rw[hf]at h1;rw[yO hf];simp[S110,h1,bn];rfl
  |some g=>
   rw[hf]at h1;have h2:=t153 S f _ (kL p f) (NL _) (S.body f) [] (tD p);rw[yk]at h2;have hb:kL p f=g.body:=by unfold kL;rw[hf];rfl
   rw[hb]at h2;have h2':ai pg 153 [mods p,.str f.1,g.body.av,.sl []]=_:=h2;simp[S110,h1,bn,h2']
 rw[h];exact bb (eN _)
def AllOf(D:List (aG×List aG))(A:List aG):Prop:=F5 A/\∀x,x∈A↔x∈D.map (·.1)
def AllOf.len{D:List (aG×List aG)}{A:List aG}(h:AllOf D A):A.length<=D.length:=by
 have:=dN (l:=A) (m:=D.map (·.1)) (oW h.1) (fun x hx=>(h.2 x).1 hx)
 simpa using this
def EZ(p:List Mod)(l:List aG)(hl:l.length<=1000000)(c:List aG)(K:List AV->M AV)(i:Nat)(hi:i<=1000000):∀(n j:Nat)(D:List (aG×List aG))(A:List aG),l.length-j=n->j<=l.length->D.length+n<=3000000->AllOf D A->
  ∃A',AllOf ((l.drop j).foldl (lJ c) D) A'/\aj (L79_0 (ai pg) aj K) [mods p,aI (D.map (·.1)),aI A,.int .i64 i,aI l,.int .i64 j]=K [mods p,aI (((l.drop j).foldl (lJ c) D).map (·.1)),aI A',.int .i64 ((i+1:Nat):Int)]:=by
 intro n
 induction n with
 |zero=>
  intro j D A hn hj hD hA;have h1:¬j<l.length:=by omega
  have h2:l.drop j=[]:=NN (by omega);refine⟨A,by rw[h2];exact hA,?_⟩;rw[FL79_0];simp only[L79_0,h2];simp (disch:=omega) [gH,h1,aF]
 | succ n IH=>
  intro j D A hn hj hD hA;have hlt:j<l.length:=by omega
  have h5:l.drop j=l[j]:: l.drop (j+1):=NI hlt;have hAl:=hA.len;have h3:=t32 A l[j] (by omega);have hB1:∀x:aG,au T 42 1 [(0,bp x)]=some (aI [x]):=fun x=>rfl;by_cases hm:l[j]∈A
  ·have hmD:=(hA.2 _).1 hm;rw[OM hm]at h3;have hst:lJ c D l[j]=D:=NE hmD;obtain⟨A',a1,a2⟩:=IH (j+1) D A (by omega) (by omega) (by omega) hA;refine⟨A',by rw[h5,OR,hst];exact a1,?_⟩;rw[h5,OR,hst];refine QT ?_ a2;rw[FL79_0];simp only[L79_0];simp (disch:=omega) [gH,hlt,ot,ND l j hlt,aF,h3,K79_0]
  ·have hmD:l[j] ∉ D.map (·.1):=fun h=>hm ((hA.2 _).2 h);rw[PE hm]at h3;have hst:lJ c D l[j]=D++[(l[j],c++[l[j]])]:=if_neg hmD;have hA2:AllOf (D++[(l[j],c++[l[j]])]) (kS A l[j]):=⟨nW _ hA.1,fun x=>by
    rw[iW,hA.2,Ps,N6];simp[or_comm]⟩
   have h6:=t80 A l[j] (by omega);have a3:=I7 (a:=D.map (·.1)) (b:=[l[j]]) (by simp;omega);obtain⟨A',a1,a2⟩:=IH (j+1) (D++[(l[j],c++[l[j]])]) (kS A l[j]) (by omega) (by omega) (by simp;omega) hA2;refine⟨A',by rw[h5,OR,hst];exact a1,?_⟩;rw[h5,OR,hst];refine QT ?_ a2;rw[FL79_0];simp only[L79_0];simp (disch:=omega) [gH,hlt,ot,ND l j hlt,aF,h3,h6,hB1,a3,K79_0]
def E0{p:List Mod}(S:Sm p){f:aG}:∀(n k:Nat)(D:List (aG×List aG))(A:List aG),DInv p f k D->AllOf D A->(cW p).length<=k+n->k<=D.length->
  aj (L79_1 (ai pg) aj) [mods p,aI (D.map (·.1)),aI A,.int .i64 k]=M.pure (aI (cP ((kh (dm p) n k D).map (·.1)))):=by
 have hI:=S.idx;have hfin:∀(D:List (aG×List aG)) (A:List aG) k,DInv p f k D->AllOf D A->A=cP (D.map (·.1)):=fun D A k I hA=>
  ve hA.1 (o8 I.nodup) fun x=>by rw[hA.2,(cN _).mem_iff]
 intro n
 induction n with
 |zero=>
  intro k D A I hA hn hk
  have:=I.len
  have h1:¬k<D.length:=by omega
  rw[FL79_1];simp only[L79_1,kh];rw[<- hfin D A k I hA];simp[gH,h1]
 | succ n IH=>
  intro k D A I hA hn hk;have hDl:=I.len;cases hD:D[k]? with
  |none=>
   have h0:=Qc.1 hD;have h1:¬k<D.length:=by omega
   rw[FL79_1];simp only[L79_1,kh,hD];rw[<- hfin D A k I hA];simp[gH,h1]
  |some e=>
   obtain⟨x,c⟩:=e;obtain⟨hlt,he⟩:=NO.1 hD;have hcl:=S.calls x;have hc:=t110 S x;obtain⟨A',a1,a2⟩:=EZ p (dm p x) hcl c (aj (L79_1 (ai pg) aj)) k (by omega) _ 0 D A rfl (by omega) (by omega) hA;rw[NZ,AZ _ _ _ _ (je p x)]at a1 a2;have h3:=IH (k+1) _ A' (I.step hD) a1 (by omega) (by simp;omega);have hk':k<(D.map (·.1)).length:=by simpa using hlt
   have hx:(D.map (·.1))[k]=x:=by simp[he]
   simp only[kh,hD];rw[<- h3];refine QT ?_ a2;rw[FL79_1];simp only[L79_1];simp (disch:=omega) [gH,hlt,ot,he,hc]
   done
end Go.Proofs.YtnipfhmghjdnmaaGreat
