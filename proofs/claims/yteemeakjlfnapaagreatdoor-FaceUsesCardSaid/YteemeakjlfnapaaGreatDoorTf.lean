/- What the functions of the seat compute, part 6: the texts of the claim, one behind the other. Conditions: bounds, as each theorem names them. -/
import Derived.Test.YteemeakjlfnapaaGreatDoorTe
import Derived.Lib.SmallJoins
set_option linter.defProp false
set_option linter.unusedSimpArgs false
set_option linter.unusedVariables false
namespace Go.Proofs.YteemeakjlfnapaaGreatDoor
open Go Go.Av Go.Av.Ap
set_option maxRecDepth 100000
def AU(f:Fun):aE 12 f.av=M.pure f.av:=by rw[bN (kw f),gP,ki]
theorem Be(m:Ap.Mod)(hm:m.Lim)(q:Nat)(R:Bool)(hend:∀h:Hp,∃h',aj (L48_0 (ah pg) aj) [.ip (aa m.av),.mp q,iz m.funcs,.int .i64 m.funcs.length,.int .i64 m.funcs.length] h= .ok (.bool R) h'):∀(n i:Nat),m.funcs.length-i=n->i<=m.funcs.length->∀(seen:List bA)(h:Hp),h[q]? = some [.tup (setRow seen)]->
  ∃h',aj (L48_0 (ah pg) aj) [.ip (aa m.av),.mp q,iz m.funcs,.int .i64 m.funcs.length,.int .i64 i] h= .ok (.bool (l9 seen (m.funcs.drop i)&&R)) h':=by
 have hb:=hm.funcs;intro n
 induction n with
 |zero=>
  intro i hn hi seen h hq;have h2:m.funcs.drop i=[]:=HQ (by omega);obtain rfl:i=m.funcs.length:=by omega
  rw[h2];exact hend h
 | succ n ih=>
  intro i hn hi seen h hq;have hlt:i<m.funcs.length:=by omega
  have h1:(i:Int)<(m.funcs.length:Int):=by omega
  have h2:m.funcs.drop i=m.funcs[i]:: m.funcs.drop (i+1):=HK hlt;have hw:IntKind.i64.wrap ((i:Int)+1)=((i+1:Nat):Int):=be (by omega);have hix:=Cm (l:=m.funcs) (n:=(i:Int)) (by omega) h1;rw[HH,HP m.funcs i hlt]at hix;have hfl:=hm.fns _ (HD hlt);have ih':=fun s=>ih (i+1) (by omega) (by omega) (seen++[s]) (h.set q [.tup (setRow (seen++[s]))]);have hql:q<h.length:=(HN.1 hq).1;rw[h2];generalize m.funcs[i]=f at hix hfl |-;have hlk:=nB hq f.name;have hnm:=t76 f.name;have hps:=t117 f.params hfl.params hfl.pty 6;have hty:=t47 f.result hfl.result;have hre:=t118 f.body hfl.body;have hex:ao T .andNot 3 (.int .i64 f.effects) (.int .i64 15)=some (.int .i64 (cS f.effects 15)):=rfl;generalize hcode:aj (L48_0 (ah pg) aj) [.ip (aa m.av),.mp q,iz m.funcs,.int .i64 m.funcs.length,.int .i64 i] h=code;rw[FL48_0]at hcode;simp -implicitDefEqProofs only[L48_0,a7,bc,bJ,aG,h1,Iq,aY,H7,hix,gP,LD73,HG,HM,HJ,Nat.reduceAdd,Hu,HY,H9,ki,AU,aV,FA73_0,Ia,LD9]at hcode;rw[aF hlk]at hcode;have eo:l9 seen (f:: m.funcs.drop (i+1))=(!(seen.contains f.name)&&wE f&&l9 (seen++[f.name]) (m.funcs.drop (i+1))):=rfl;rw[eo];unfold wE;cases hc:seen.contains f.name with
  |true=>
   rw[hc]at hcode;refine⟨h,?_⟩;rw[<- hcode];simp[M.pure]
  | false=>
   rw[hc]at hcode;cases hn2:bY f.name with
   |false=>rw[hn2]at hnm;refine⟨h,?_⟩;rw[<- hcode];simp[hnm,M.pure]
   | true=>
    rw[hn2]at hnm;cases hp2:eM f.params 6 with
    |false=>rw[hp2]at hps;refine⟨h,?_⟩;rw[<- hcode];simp[hnm,hps,M.pure]
    | true=>
     rw[hp2]at hps;cases hr:aH f.result with
     |false=>rw[hr]at hty;refine⟨h,?_⟩;rw[<- hcode];simp[hnm,hps,hty,M.pure]
     | true=>
      rw[hr]at hty;cases hrb:qW f.body with
      |false=>rw[hrb]at hre;refine⟨h,?_⟩;rw[<- hcode];simp[hnm,hps,hty,hre,M.pure]
      | true=>
       rw[hrb]at hre;by_cases he:cS f.effects 15=0
       ·obtain⟨h',e'⟩:=ih' f.name (by rw[IC hql]);refine⟨h',?_⟩;have hp:=qF hq f.name hc;rw[<- hcode];have e'':=e';simp only[cW]at e'';simp[hnm,hps,hty,hre,hex,he];rw[aF hp];simpa [hw]using e''
       ·refine⟨h,?_⟩;rw[<- hcode];have he':(cS f.effects 15== 0)=false:=HB.2 he;simp[hnm,hps,hty,hre,hex,he,he',M.pure]
def E2(m:Ap.Mod)(hm:m.Lim)(q:Nat)(h:Hp):∃h',aj (L48_0 (ah pg) aj) [.ip (aa m.av),.mp q,iz m.funcs,.int .i64 m.funcs.length,.int .i64 m.funcs.length] h= .ok (.bool (pG m)) h':=by
 have hnm:=t76 m.name;have hv:=t117 m.vars hm.vars hm.vty 8;have hi:=t119 m.init hm.init hm.ies m.vars.length;have ho:=t117 m.old hm.old hm.oty 8;have hf:=fun n=>t119 m.forward hm.forward hm.fes n;have hb:=t119 m.back hm.back hm.bes m.old.length;refine⟨h,?_⟩;rw[FL48_0];unfold pG;generalize eM m.vars 8=b1 at hv |-;generalize (m.init.all qW&&((m.init.length:Int)== (m.vars.length:Int)))=b2 at hi |-;generalize eM m.old 8=b3 at ho |-;generalize (m.back.all qW&&((m.back.length:Int)== (m.old.length:Int)))=b4 at hb |-;cases hn:bY m.name with
 |false=>rw[hn]at hnm;simp[L48_0,hnm,M.pure]
 | true =>
  rw[hn]at hnm;by_cases hu:m.uses.length<=12
  ·have hu':¬(12<(m.uses.length:Int)):=by omega
   by_cases hfn:m.funcs.length<=30
   ·have hfn':¬(30<(m.funcs.length:Int)):=by omega
    cases b1 with
    |false=>simp[L48_0,hnm,hu,hu',hfn,hfn',hv,M.pure]
    | true=>
     cases b2 with
     |false=>simp[L48_0,hnm,hu,hu',hfn,hfn',hv,hi,M.pure]
     | true=>
      cases hmv:m.moves with
      |true=>
       have hfv:=hf m.vars.length;rw[Ht rfl];generalize (m.forward.all qW&&((m.forward.length:Int)== (m.vars.length:Int)))=b5 at hfv |-;cases b3<;>cases b5<;>cases b4<;>simp[L48_0,K48_0,hnm,hu,hu',hfn,hfn',hv,hi,ho,hfv,hb,hmv,M.pure]
      | false=>
       have hfv:=hf 0;rw[if_neg (by decide)];generalize (m.forward.all qW&&((m.forward.length:Int)== 0))=b5 at hfv |-;by_cases hz:0<m.old.length
       ·have hz':0<(m.old.length:Int):=by omega
        have hz2:¬m.old.length=0:=by omega
        simp[L48_0,K48_0,hnm,hu,hu',hfn,hfn',hv,hi,hmv,hz,hz',hz2,M.pure]
       ·have hz':¬0<(m.old.length:Int):=by omega
        have hz2:m.old.length=0:=by omega
        have hb0:ah pg 119 [cm m.back,.int .i64 0]=M.pure (.bool b4):=by
         rw[hz2]at hb;exact hb
        cases b3<;>cases b5<;>cases b4<;>simp[L48_0,K48_0,hnm,hu,hu',hfn,hfn',hv,hi,ho,hfv,hb0,hmv,hz,hz',hz2,M.pure]
   ·have hfn':30<(m.funcs.length:Int):=by omega
    simp[L48_0,hnm,hu,hu',hfn,hfn',M.pure]
  ·have hu':12<(m.uses.length:Int):=by omega
   simp[L48_0,hnm,hu,hu',M.pure]
theorem Bf(m:Ap.Mod)(hm:m.Lim)(q:Nat)(R:Bool)(hend:∀h:Hp,∃h',aj (L48_1 (ah pg) aj) [.ip (aa m.av),.mp q,strs m.uses,.int .i64 m.uses.length,.int .i64 m.uses.length] h= .ok (.bool R) h'):∀(n i:Nat),m.uses.length-i=n->i<=m.uses.length->∀(seen:List bA)(h:Hp),h[q]? = some [.tup (setRow seen)]->
  ∃h',aj (L48_1 (ah pg) aj) [.ip (aa m.av),.mp q,strs m.uses,.int .i64 m.uses.length,.int .i64 i] h= .ok (.bool (zA seen (m.uses.drop i)&&R)) h':=by
 have hb:=hm.uses;intro n
 induction n with
 |zero=>
  intro i hn hi seen h hq;have h2:m.uses.drop i=[]:=HQ (by omega);obtain rfl:i=m.uses.length:=by omega
  rw[h2];exact hend h
 | succ n ih=>
  intro i hn hi seen h hq;have hlt:i<m.uses.length:=by omega
  have h1:(i:Int)<(m.uses.length:Int):=by omega
  have h2:m.uses.drop i=m.uses[i]:: m.uses.drop (i+1):=HK hlt;have hw:IntKind.i64.wrap ((i:Int)+1)=((i+1:Nat):Int):=be (by omega);have hix:=xk (l:=m.uses) (n:=(i:Int)) (by omega) h1;rw[HH,HP m.uses i hlt]at hix;have ih':=fun s=>ih (i+1) (by omega) (by omega) (seen++[s]) (h.set q [.tup (setRow (seen++[s]))]);have hql:q<h.length:=(HN.1 hq).1;rw[h2];generalize m.uses[i]=s at hix |-;have hlk:=nB hq s;have hnm:=t76 s;generalize hcode:aj (L48_1 (ah pg) aj) [.ip (aa m.av),.mp q,strs m.uses,.int .i64 m.uses.length,.int .i64 i] h=code;rw[FL48_1]at hcode;simp -implicitDefEqProofs only[L48_1,a7,bc,bJ,aG,h1,Iq,aY,H7,hix,eS,LD9]at hcode;rw[aF hlk]at hcode;have eo:zA seen (s:: m.uses.drop (i+1))=(!(seen.contains s)&&bY s&&zA (seen++[s]) (m.uses.drop (i+1))):=rfl;rw[eo];cases hc:seen.contains s with
  |true=>
   rw[hc]at hcode;refine⟨h,?_⟩;rw[<- hcode];simp[M.pure]
  | false=>
   rw[hc]at hcode;cases hn2:bY s with
   |false=>rw[hn2]at hnm;refine⟨h,?_⟩;rw[<- hcode];simp[hnm,M.pure]
   |true=>
    rw[hn2]at hnm;obtain⟨h',e'⟩:=ih' s (by rw[IC hql]);refine⟨h',?_⟩;have hp:=qF hq s hc;rw[<- hcode];have e'':=e';simp only[cW]at e'';simp[hnm];rw[aF hp];simpa [hw]using e''
theorem t48(m:Ap.Mod)(hm:m.Lim):ah pg 48 [m.av]=M.pure (.bool (gD m)):=by
 have hend:∀h:Hp,∃h',aj (L48_1 (ah pg) aj) [.ip (aa m.av),.mp 0,strs m.uses,.int .i64 m.uses.length,.int .i64 m.uses.length] h= .ok (.bool (l9 [] m.funcs&&pG m)) h':=fun h=>by
  have h1:¬((m.uses.length:Int)<(m.uses.length:Int)):=by omega
  obtain⟨h',e⟩:=Be m hm h.length (pG m) (fun h=>E2 m hm _ h) m.funcs.length 0 rfl (H5 _) [] (h++[[.tup []]]) (by simp[setRow]);rw[Ia]at e;refine⟨h',?_⟩;rw[FL48_1];have hn:eE h= .ok (.mp h.length) (h++[[.tup []]]):=rfl;simp only[cW]at e;simp -implicitDefEqProofs only[L48_1,a7,bc,bJ,aG,h1,Ji,aY,HT,Iu];rw[aF hn];simp only[cW,FA41_4,Iw,Ia,aG,LD37,Co];exact e
 obtain⟨h',e⟩:=Bf m hm 0 _ hend m.uses.length 0 rfl (H5 _) [] ([]++[[.tup []]]) rfl;rw[Ia]at e;rw[C48];funext hp;have key:S48 (ah pg) aj (cl au m.av) []= .ok (.bool (gD m)) h':=by
  have hn:eE []= .ok (.mp 0) ([]++[[.tup []]]):=rfl;simp only[cW]at e;rw[tJ];simp -implicitDefEqProofs only[S48];rw[aF hn];simp only[cW,FA41_1,Iw,Ia,aG,LD35,xo];exact e
 show aD _ hp=R.ok (.bool (gD m)) hp;unfold aD;rw[key];rfl
def Gq{m:Ap.Mod}(K:ModOk m){fs:List Face}(hfs:∀f∈fs,f.Lim)(ha:∀f∈fs,dT f=true):CxOk m fs where
 vlen:=by have:=K.vlen;omega
 vars:=K.vars
 flen:=by have:=K.flen;omega
 ulen:=by have:=K.ulen;omega
 plen:=fun f hf=>by have:=(K.fns f hf).plen;omega
 pars:=fun f hf=>(K.fns f hf).pars
 res:=fun f hf=>(K.fns f hf).res
 slen:=fun f hf=>(hfs f hf).len
 splen:=fun f hf s hs=>((hfs f hf).sigs s hs).plen
 spars:=fun f hf s hs t ht=>by
  have:=ha f hf
  unfold dT at this;rw[Hx]at this;have h2:=this s hs;simp only[Hq,Hx]at h2;exact h2.2 t ht
 sres:=fun f hf s hs=>by
  have:=ha f hf
  unfold dT at this;rw[Hx]at this;have h2:=this s hs;simp only[Hq]at h2;exact h2.1
theorem mM(f:bi):aL T 25 1 [(0,aZ f)]=some (az [f]):=by
 have h:aL T 25 1 [(0,aZ f)]=(fL 3 [AV.agg [.str [],.int .i64 0,.sl []]] [(0,aZ f)]).map .sl:=rfl;rw[h];simp[fL,az,bZ]
def tC(s:bA)(t:Ty):aU T false 76 [(0,.str s),(1,t.av)]=some (aZ (s,t)):=by
 cases t;rfl
theorem t133:∀(n:Nat)(t:Ty),SizeOf.sizeOf t<=n->dl t->ah pg 133 [t.av]=M.pure t.av:=by
 intro n
 induction n with
 |zero=>intro t h;cases t;simp at h
 | succ n ih=>
  intro t hs ht;have hlen:=ht.len;have hloop:∀(k i:Nat)(x3 x4:AV),t.fields.length-i=k->i<=t.fields.length->aj (L133_0 (ah pg) aj) [az t.fields,.int .i64 t.fields.length,.int .i64 i,x3,x4,.int .i64 t.kind,az (t.fields.take i)]=M.pure t.av:=by
   intro k
   induction k with
   |zero=>
    intro i x3 x4 hk hi;have h1:¬(i:Int)<(t.fields.length:Int):=by omega
    have e:(AV.agg [.int .i64 t.kind,az t.fields])=t.av:=by rw[<- bW]
    have hcn:ap 2 [] t.av=M.pure t.av:=by rw[aS (Ap.fN t),bm,bW]
    rw[FL133_0,IQ (by omega)];simp only[L133_0,a7,bc,bJ,aG,h1,Ji,aY,HT,Iu,e,hcn,aV,bm]
   | succ k ihk=>
    intro i x3 x4 hk hi;have hlt:i<t.fields.length:=by omega
    have h1:(i:Int)<(t.fields.length:Int):=by omega
    rw[<- ihk (i+1) x3 x4 (by omega) (by omega)];have hix:=pR (l:=t.fields) (n:=(i:Int)) (by omega) h1;rw[HH,HP t.fields i hlt]at hix;have hmm:=HD hlt;have hm:=ih t.fields[i].2 (by have:=xb hmm;omega) (ht.kid hmm);have hw:IntKind.i64.wrap ((i:Int)+1)=((i+1:Nat):Int):=be (by omega);have hti:t.fields.take (i+1)=t.fields.take i++[t.fields[i]]:=by rw[List.take_add_one,HF hlt];rfl
    have hA:dV T 25 (az (t.fields.take i)) (az [t.fields[i]])=some (az (t.fields.take (i+1))):=by
     rw[hti];exact Am (by simp;omega)
    generalize t.fields.take i=P at *;generalize t.fields.take (i+1)=Q at *;generalize t.fields[i]=f at *;have b1:=tC f.1 f.2;have b2:=mM f;have hc1:∀l:List bi,bE (az l)=M.pure (az l):=fun l=>by rw[az,bZ];rfl
    rw[FL133_0];simp only[L133_0,a7,bc];simp[h1,hlt,hix,hm,hw,b1,b2,hA,hc1]
  have h':=hloop t.fields.length 0 (.int .i64 0) (.sl []) rfl (H5 _);rw[H9]at h';have h'':aj (L133_0 (ah pg) aj) [az t.fields,.int .i64 t.fields.length,.int .i64 0,.int .i64 0,.sl [],.int .i64 t.kind,.sl []]=M.pure t.av:=h';have b0:aU T true 27 [(0,.int .i64 t.kind)]=some (.agg [.int .i64 t.kind,.hn]):=rfl;have c0:ap 2 [1] (.agg [.int .i64 t.kind,.hn])=M.pure (.agg [.int .i64 t.kind,.hn]):=rfl;rw[C133];simp[S133,b0,c0,h'']
def t132(f:bi)(hf:f.2.Lim):ah pg 132 [aZ f]=M.pure (.bool (!(aH f.2))):=by
 rw[C132];simp[S132,t73 f.2 hf]
def tj(x:Ty×Int×Int):AV:=.tup [x.1.av,.int .i64 x.2.1,.int .i64 x.2.2]
theorem G1(m:Ap.Mod)(hm:m.Lim)(fs:List Face)(hfs:∀f∈fs,f.Lim)(hlen:fs.length<=140737488355328)(ls:List bi)(hll:ls.length<=900000)(hls:∀f∈ls,f.2.Lim)(e:Exp)(he:e.Lim):ah pg 54 [m.av,faces fs,az ls,e.av]=M.pure (tj (d9 m fs ls e)):=by
 have fin:∀(h:Hp)(x:Ty×Int×Int),gy 6 h (tj x)=tj x:=fun h x=>by
  have hc:Ap.Clean (tj x):=fun g=>by simp[tj,cl,dy]
  exact hc.frz 6 h
 have hA:=t131 (.fn (.func 132) [] []) (fun f=>!(aH f.2)) ls (by omega) (fun g=>rfl) (fun f hf=>t132 f (hls f hf));have hE:=t118 e he;have hR:=t48 m hm;have z0:aU T false 27 []=some ty0.av:=rfl;have z1:ap 2 [] ty0.av=M.pure ty0.av:=rfl;have z2:aa ty0.av=[.int .i64 0,.sl []]:=rfl;obtain⟨n1,n2⟩:=GC m fs hfs hlen [];rw[C54,tJ,yG,j0,qc];unfold d9;cases ha:ls.any fun f=>!(aH f.2)with
 |true=>
  rw[ha]at hA;refine bG (v:=tj (.mk 0 [],0,1)) (h':=[]) ?_ (fin _ _);simp[S54,hA,z0,z1,z2];rfl
 | false=>
  rw[ha]at hA;cases hb:qW e with
  |false=>
   rw[hb]at hE;refine bG (v:=tj (.mk 0 [],0,1)) (h':=[]) ?_ (fin _ _);simp[S54,hA,hE,z0,z1,z2];rfl
  | true=>
   rw[hb]at hE;cases hr:gD m with
   |false=>
    rw[hr]at hR;refine bG (v:=tj (.mk 0 [],0,1)) (h':=[]) ?_ (fin _ _);simp[S54,hA,hE,hR,z0,z1,z2];rfl
   | true=>
    rw[hr]at hR;have lm:ai T 41 (.ip (aa m.av))=some m.av:=rfl;simp only[cW]at lm;cases hf:fs.all dT with
    |false=>
     obtain⟨h',e'⟩:=n2 hf;have k1:∀g:AV->M AV,ae (ah pg 122 [m.av,faces fs]) g []=g (.tup [.nilp,.bool false]) h':=fun g=>aF e' g;refine bG (v:=tj (.mk 0 [],0,1)) (h':=h') ?_ (fin _ _);simp[S54,hA,hE,hR,lm,k1,z0,z1,z2];rfl
    | true=>
     have e1:=n1 hf;have k1:∀g:AV->M AV,ae (ah pg 122 [m.av,faces fs]) g []=g (.tup [.hp 1 0,.bool true]) ([]++[[.tup (bQ (dt [] fs))],bh m (.mp 0) 0]):=fun g=>aF e1 g;have MK:=uk hr;have hdm:∀f∈dt [] fs,f∈fs:=fun f hf=>by
      rcases oY fs [] f hf with h|h
      ·cases h
      ·exact h
     have K:CxOk m (dt [] fs):=Gq MK (fun f hff=>hfs f (hdm f hff)) (fun f hff=>Hx.1 hf f (hdm f hff));have R:JR ([]++[[.tup (bQ (dt [] fs))],bh m (.mp 0) 0]) 1 m (.mp 0) (dt [] fs) 0:=⟨rfl,.inr ⟨0,rfl,rfl⟩,by simp⟩;have hsl:∀z∈ls,dl z.2:=fun z hz=>by
      have:=J5.1 ha z hz
      exact eg (d:=4) (by simpa using this)
     obtain⟨p1,p2⟩:=Fx K 12 ls e 0 _ hb he hsl (by omega) R;generalize ([]++[[.tup (bQ (dt [] fs))],bh m (.mp 0) 0]:Hp)=h0 at *;cases ht:a6 (dG m (dt [] fs)) 12 ls e 0 with
     |er b n=>
      rw[ht]at p1;have hb0:(b != 0)=true:=JY.2 (gq _ 12 ls e 0 b n ht);have k2:∀g:AV->M AV,ae (ah pg 124 [.hp 1 0,az ls,e.av]) g h0=g (.tup [ty0.av,.int .i64 b]) (h0.set 1 (bh m (.mp 0) n)):=fun g=>aF p1 g;refine bG (v:=tj (.mk 0 [],0,b)) (h':=h0.set 1 (bh m (.mp 0) n)) ?_ (fin _ _);have cz:aE 2 ty0.av=M.pure ty0.av:=rfl;simp[S54,hA,hE,hR,lm,k1,k2,hb0,z0,z1,z2,cz];rfl
     |ok t n=>
      rw[ht]at p1;have k2:∀g:AV->M AV,ae (ah pg 124 [.hp 1 0,az ls,e.av]) g h0=g (.tup [t.av,.int .i64 0]) (h0.set 1 (bh m (.mp 0) n)):=fun g=>aF p1 g;have R2:JR (h0.set 1 (bh m (.mp 0) n)) 1 m (.mp 0) (dt [] fs) n:=R.set n;have k3:∀g:AV->M AV,ae (bz T 3 (.hp 1 10)) g (h0.set 1 (bh m (.mp 0) n))=g (.int .i64 n) (h0.set 1 (bh m (.mp 0) n)):=fun g=>aF R2.eff g;have hfr:=t133 _ t (Hu _) (p2 t n ht);have ct:aE 2 t.av=M.pure t.av:=dA t;have cn:ap 2 [] t.av=M.pure t.av:=by rw[aS (Ap.fN t),bm,bW]
      refine bG (v:=tj (t,n,0)) (h':=h0.set 1 (bh m (.mp 0) n)) ?_ (fin _ _);simp[S54,hA,hE,hR,lm,k1,k2,k3,hfr,ct,cn];rfl
def t55:∀(n:Nat)(e:Exp),SizeOf.sizeOf e<=n->e.Lim->∃b,ah pg 55 [e.av]=M.pure (.bool b)/\(b=false->NoRec e):=by
 intro n
 induction n with
 |zero=>intro e h;cases e;simp at h
 | succ n ih=>
  intro e hs he;have hlen:=he.len;have hloop:∀(k i:Nat),e.args.length-i=k->i<=e.args.length->∃b,aj (L55_0 (ah pg) aj) [.ip (aa e.av),.int .i64 i]=M.pure (.bool b)/\(b=false->e.op≠13/\∀x∈e.args.drop i,NoRec x):=by
   intro k
   induction k with
   |zero=>
    intro i hk hi;have h1:¬(i:Int)<(e.args.length:Int):=by omega
    have h2:e.args.drop i=[]:=HQ (by omega);rw[FL55_0,h2];exact⟨e.op== 13,by simp[L55_0,h1],fun h=>⟨by simpa using h,fun x hx=>by cases hx⟩⟩
   | succ k ihk=>
    intro i hk hi;have hlt:i<e.args.length:=by omega
    have h1:(i:Int)<(e.args.length:Int):=by omega
    have hix:=qY (l:=e.args) (n:=(i:Int)) (by omega) h1;rw[HH,HP e.args i hlt]at hix;have hmm:=HD hlt;have hsz:SizeOf.sizeOf e.args[i]<SizeOf.sizeOf e:=by
     cases e with
     |mk o n s m ns es=>
      have h1:SizeOf.sizeOf es[i]<SizeOf.sizeOf es:=Jr hmm;simp only[Exp.mk.sizeOf_spec];show SizeOf.sizeOf es[i]<_;omega
    obtain⟨b,hb1,hb2⟩:=ih e.args[i] (by omega) (he.kid hmm);obtain⟨b2,g1,g2⟩:=ihk (i+1) (by omega) (by omega);have hw:IntKind.i64.wrap ((i:Int)+1)=((i+1:Nat):Int):=be (by omega);rw[HK hlt];generalize e.args[i]=x at hix hb1 hb2 |-;cases b with
    |true=>exact⟨true,by rw[FL55_0];simp[L55_0,h1,hlt,hix,hb1],fun h=>by cases h⟩
    | false=>
     refine⟨b2,?_,fun h=>⟨(g2 h).1,fun y hy=>?_⟩⟩
     ·rw[<- g1,FL55_0];simp[L55_0,h1,hlt,hix,hb1,hw]
     ·rcases HO.1 hy with rfl|hy
      ·exact hb2 rfl
      ·exact (g2 h).2 y hy
  obtain⟨b,h1,h2⟩:=hloop _ 0 rfl (H5 _);have h1':aj (L55_0 (ah pg) aj) [.ip (aa e.av),.int .i64 0]=M.pure (.bool b):=h1;simp only[bp]at h1';refine⟨b,?_,fun h=>.mk e (h2 h).1 (h2 h).2⟩;rw[C55];simp[S55,h1']
theorem yy(t:Nat)(a b:Int):ao T .and t (.int .i64 a) (.int .i64 b)=some (.int .i64 (xy a b)):=rfl
theorem mN(a c:Sig):aL T 22 2 [(0,.agg [.str sF,dM a.params,.int .i64 a.result.kind,az a.result.fields,.int .i64 a.effects]),(1,.agg [.str sG,dM c.params,.int .i64 c.result.kind,az c.result.fields,.int .i64 c.effects])]=some (sigs [dY sF a,dY sG c]):=by
 have e1:(AV.agg [.str sF,dM a.params,.int .i64 a.result.kind,az a.result.fields,.int .i64 a.effects])=(dY sF a).av:=by
  rw[<- fy];rfl
 have e2:(AV.agg [.str sG,dM c.params,.int .i64 c.result.kind,az c.result.fields,.int .i64 c.effects])=(dY sG c).av:=by
  rw[<- fy];rfl
 rw[e1,e2];have h:aL T 22 2 [(0,(dY sF a).av),(1,(dY sG c).av)]=(fL 5 [AV.agg [.str [],.sl [],.int .i64 0,.sl [],.int .i64 0],AV.agg [.str [],.sl [],.int .i64 0,.sl [],.int .i64 0]] [(0,(dY sF a).av),(1,(dY sG c).av)]).map .sl:=rfl;rw[h];simp[fL,sigs]
theorem yX(call:FuncId->List AV->M AV)(W:List AV->M AV)(ls:List bi)(e:Exp)(a b c:Sig)(t u:Ty)(x y g h:Int)(r:Bool)(q1:call 54 [eL.av,faces [dK b c],az ls,e.av]=M.pure (tj (t,x,g)))(q2:call 54 [eL.av,faces [dK a c],az ls,e.av]=M.pure (tj (u,y,h)))(qr:call 55 [e.av]=M.pure (.bool r))(H:g=0->r=false->h=0/\call 56 [u.av,t.av]=M.pure (.bool true)/\xy y x=y):
  L13_0 call aj W [az ls,.ip (aa e.av),.bool true,.int .i64 ls.length,.str a.name,dM a.params,.int .i64 a.result.kind,az a.result.fields,.int .i64 a.effects,.str b.name,dM b.params,.int .i64 b.result.kind,az b.result.fields,.int .i64 b.effects,.str c.name,dM c.params,.int .i64 c.result.kind,az c.result.fields,.int .i64 c.effects]=M.pure (.bool true):=by
 have b1:aL T 35 1 [(0,.str jR)]=some (strs [jR]):=rfl;have b2:aU T false 76 [(0,.str [110])]=some (aZ ([110],.mk 0 [])):=rfl;have b3:=mM ([110],Ty.mk 0 []);have b4:aU T false 47 [(0,.int .i64 0)]=some (Exp.mk 0 0 [] [] [] []).av:=rfl;have b5:aL T 36 1 [(0,(Exp.mk 0 0 [] [] [] []).av)]=some (cm [Exp.mk 0 0 [] [] [] []]):=rfl;have b6:aU T false 41 [(0,.str [111,119,110]),(1,strs [jR]),(2,az [([110],.mk 0 [])]),(3,cm [Exp.mk 0 0 [] [] [] []])]=some eL.av:=rfl;have c6:aE 9 eL.av=M.pure eL.av:=by rw[bN (ky _),cW,na]
 have l6:ai T 41 (.ip (aa eL.av))=some eL.av:=rfl;have s1:=mN b c;have s2:=mN a c;have f1:∀a:Sig,aU T false 24 [(0,.str jR),(1,sigs [dY sF a,dY sG c])]=some (dK a c).av:=fun _=>rfl;have f2:∀f:Face,aL T 78 1 [(0,f.av)]=some (faces [f]):=fun _=>rfl;have x0:∀x:Ty×Int×Int,aB (tj x) 0=some x.1.av:=fun _=>rfl;have x1:∀x:Ty×Int×Int,aB (tj x) 1=some (.int .i64 x.2.1):=fun _=>rfl;have x2:∀x:Ty×Int×Int,aB (tj x) 2=some (.int .i64 x.2.2):=fun _=>rfl;have ct:∀t:Ty,aE 2 t.av=M.pure t.av:=fun t=>dA t;have c1:∀s:bA,bE (.str s)=M.pure (.str s):=fun _=>rfl;have eF:([102]:bA)=sF:=rfl;have eG:([103]:bA)=sG:=rfl;have eO:([103,101,111]:bA)=jR:=rfl;generalize hS:sF=vF at *;generalize hG:sG=vG at *;generalize hO:jR=vO at *;simp -implicitDefEqProofs only[L13_0,a7,bc];by_cases hg:g=0
 ·cases r with
  |true=>
   simp -implicitDefEqProofs [b1,b2,b3,b4,b5,b6,c6,l6,s1,s2,f1,f2,x0,x1,x2,ct,c1,eF,eG,eO,q1,q2,qr,hg]
  |false=>
   obtain⟨rfl,qs,h3⟩:=H hg rfl;simp -implicitDefEqProofs [b1,b2,b3,b4,b5,b6,c6,l6,s1,s2,f1,f2,x0,x1,x2,ct,c1,eF,eG,eO,q1,q2,qr,qs,hg,yy,h3]
 ·have hg':(g != 0)=true:=by simpa using hg
  simp -implicitDefEqProofs [b1,b2,b3,b4,b5,b6,c6,l6,s1,s2,f1,f2,x0,x1,x2,ct,c1,eF,eG,eO,q1,q2,qr,hg,hg']
def sT{t:Ty}(h:dl t):t.Lim:=fun n=>by
 induction n generalizing t with
 |zero=>trivial
 |succ n ih=>exact⟨by have:=h.len;omega,fun x hx=>ih (h.kid hx)⟩
def Dg(call:FuncId->List AV->M AV)(ls:List bi)(hl:ls.length<=1000)(hT:∀f∈ls,∃b,call 53 [f.2.av]=M.pure (.bool b))(x1 x4 x5 x6 x7 x8 x9 x10 x11 x12 x13 x14 x15 x16 x17 x18:AV)(hend:aj (L13_0 call aj) [az ls,x1,.bool true,.int .i64 ls.length,x4,x5,x6,x7,x8,x9,x10,x11,x12,x13,x14,x15,x16,x17,x18]=M.pure (.bool true)):∀(n i:Nat),ls.length-i=n->i<=ls.length->
  aj (L13_0 call aj) [az ls,x1,.bool true,.int .i64 i,x4,x5,x6,x7,x8,x9,x10,x11,x12,x13,x14,x15,x16,x17,x18]=M.pure (.bool true):=by
 intro n
 induction n with
 |zero=>
  intro i hn hi;obtain rfl:i=ls.length:=by omega
  exact hend
 | succ n ih=>
  intro i hn hi;have hlt:i<ls.length:=by omega
  have h1:(i:Int)<(ls.length:Int):=by omega
  have ih':=ih (i+1) (by omega) (by omega);have hix:=pR (l:=ls) (n:=(i:Int)) (by omega) h1;rw[HH,HP ls i hlt]at hix;obtain⟨b,hb⟩:=hT _ (HD hlt);have hw:IntKind.i64.wrap ((i:Int)+1)=((i+1:Nat):Int):=be (by omega);generalize ls[i]=f at hix hb;clear hend ih;cases b with
  |false=>
   clear ih';rw[FL13_0];simp -implicitDefEqProofs only[L13_0,a7,bc];simp -implicitDefEqProofs [h1,hlt,hix,hb]
  |true=>
   refine Eq.trans ?_ ih';clear ih';rw[FL13_0];simp -implicitDefEqProofs only[L13_0,a7,bc];simp -implicitDefEqProofs [h1,hlt,hix,hb,hw]
def vl:eL.Lim:=⟨by decide,by decide,fun x hx=>by
  rw[Im.1 hx];exact fun n=>by cases n with
   |zero=>trivial
   |succ n=>exact⟨by decide,fun x hx=>by cases hx⟩,by decide,fun e he=>by
  rw[Im.1 he];exact fun n=>by cases n with
   |zero=>trivial
   |succ n=>exact⟨by decide,by decide,fun x hx=>by cases hx⟩,by decide,fun f hf=>(by cases hf),by decide,fun x hx=>(by cases hx),by decide,fun x hx=>(by cases hx),by decide,fun x hx=>(by cases hx)⟩
def vj{a c:Sig}(ha:a.Lim)(hc:c.Lim):(dK a c).Lim:=⟨by show 2<=_;decide,fun s hs=>by
 have hs:s∈[dY sF a,dY sG c]:=hs;rcases HO.1 hs with rfl|hs
 ·exact⟨ha.plen,ha.ptys,ha.result⟩
 ·rw[Im]at hs;subst hs;exact⟨hc.plen,hc.ptys,hc.result⟩⟩
def t13(a b c:Sig)(ls:List bi)(e:Exp)(ha:a.Lim)(hb:b.Lim)(hc:c.Lim)(hl0:ls.length<=140737488355328)(hls:∀f∈ls,f.2.Lim)(he:e.Lim):ah pg 13 [a.av,b.av,c.av,az ls,e.av]=M.pure (.bool true):=by
 rw[C13];obtain⟨p1,h1⟩:=C6 a ha;obtain⟨p2,h2⟩:=C6 b hb;obtain⟨p3,h3⟩:=C6 c hc;obtain⟨p4,h4⟩:=Gt e he;have hsub:=t44 a b ha hb;have cs:∀s:Sig,aE 5 s.av=M.pure s.av:=fun s=>jG s
 have key:S13 (ah pg) aj a.av b.av c.av (az ls) e.av=M.pure (.bool true):=by
  cases p1 with
  |false=>simp -implicitDefEqProofs [S13,fj,cs,h1]
  | true=>cases p2 with
   |false=>simp -implicitDefEqProofs [S13,fj,cs,h1,h2]
   | true=>cases p3 with
    |false=>simp -implicitDefEqProofs [S13,fj,cs,h1,h2,h3]
    | true=>cases p4 with
     |false=>simp -implicitDefEqProofs [S13,fj,cs,h1,h2,h3,h4]
     | true=>
      by_cases h6:6<(ls.length:Int)
      ·have h6':6<ls.length:=by omega
       simp -implicitDefEqProofs [S13,fj,cs,h1,h2,h3,h4,h6,h6']
      have h6':¬6<ls.length:=by omega
      cases hs:sZ a b with
      |false=>
       rw[hs]at hsub;simp -implicitDefEqProofs [S13,fj,cs,h1,h2,h3,h4,h6,h6',hsub]
      | true=>
       rw[hs]at hsub;have q1:=G1 eL vl [dK b c] (fun f hf=>by rw[Im]at hf;subst hf;exact vj hb hc) (by simp) ls (by omega) hls e he;have q2:=G1 eL vl [dK a c] (fun f hf=>by rw[Im]at hf;subst hf;exact vj ha hc) (by simp) ls (by omega) hls e he;obtain⟨r,r1,r2⟩:=t55 _ e (Hu _) he;have main:=@Ac a b c hs ls e;have hE:aj (L13_0 (ah pg) aj) [az ls,.ip (aa e.av),.bool true,.int .i64 ls.length,.str a.name,dM a.params,.int .i64 a.result.kind,az a.result.fields,.int .i64 a.effects,.str b.name,dM b.params,.int .i64 b.result.kind,az b.result.fields,.int .i64 b.effects,.str c.name,dM c.params,.int .i64 c.result.kind,az c.result.fields,.int .i64 c.effects]=M.pure (.bool true):=by
        rw[FL13_0];generalize d9 eL [dK b c] ls e=X at *;generalize d9 eL [dK a c] ls e=Y at *;refine yX (ah pg) _ ls e a b c X.1 Y.1 X.2.1 Y.2.1 X.2.2 Y.2.2 r q1 q2 r1 fun hg hr=>?_;obtain⟨m1,m2,m3⟩:=main hg (r2 hr);refine⟨m1,?_,m3⟩;have m2':=m2;unfold jp at m2';simp only[Hq]at m2';rw[t56 Y.1 X.1 (sT (eg m2'.1.1)) (sT (eg m2'.1.2)),m2]
       have hL:=Dg (ah pg) ls (by omega) (fun f hf=>C7 f.2 (hls f hf)) _ _ _ _ _ _ _ _ _ _ _ _ _ _ _ _ hE ls.length 0 rfl (H5 _);have hL':aj (L13_0 (ah pg) aj) [az ls,.ip (aa e.av),.bool true,.int .i64 0,.str a.name,dM a.params,.int .i64 a.result.kind,az a.result.fields,.int .i64 a.effects,.str b.name,dM b.params,.int .i64 b.result.kind,az b.result.fields,.int .i64 b.effects,.str c.name,dM c.params,.int .i64 c.result.kind,az c.result.fields,.int .i64 c.effects]=M.pure (.bool true):=hL;simp only[bp]at hL';simp -implicitDefEqProofs [S13,fj,cs,h1,h2,h3,h4,h6,h6',hsub,hL']
 simp only[qd,j0,qc,key];exact jd true
end Go.Proofs.YteemeakjlfnapaaGreatDoor
namespace Go.Proofs.YteemeakjlfnapaaGreatDoor.faceUses
open Go Go.Av Go.Av.Ap Go.ChangeShapes Go.WideShapes Go.ChangeAt Go.RowKit Go.Joins Go.Deep
set_option maxRecDepth 1000000
def kids:Kids Tryz.prog (· < Tryz.prog.types.size):=kids_rows (by kernel_rfl) (by kernel_rfl)
def sS:∀t e,t<Tryz.prog.types.size->Tryz.prog.underlying t=some (.slice e)->0<Tryz.prog.cellsOf e:=slices_full_of Tryz.prog (by kernel_rfl)
def yO(H:Type)(enc:TypeId×Value->H)(W:World)(base:Nat)(args:Array Value)(ds gs:List (DataW H))(before:List MemPlace)(hval:∀(j:Nat) t v,Tryz.f13.params[j]? = some t->args[j]? = some v->Value.okWide Tryz.prog W .any base t v)(hW:DataW.Whole enc Tryz.prog Tryz.f13.params.toList Rows.faceUsesSpec.vars false W args.toList ds gs before)(hz:(DataW.weightsEach Tryz.prog (Tryz.f13.params.toList++Rows.faceUsesSpec.plain.varTypes Tryz.prog) (ds++gs)).all (· <=reachBytes)=true)(hL:laidMetH Tryz.prog Rows.faceUsesRow.laid W)(hS:W.ShapedOpen Tryz.prog):
  Calls Tryz.prog 13 args W fun e W'=>∃v,e= .returned v/\Rows.faceUsesSpec.post enc Tryz.prog Tryz.f13 false true false false W args v W':=by
 have hW':=hW;obtain⟨p,q,hA0,hV,rfl,hfz,hnd⟩:=hW;have hA:DataW.TrodAll enc Tryz.prog W 0 (fun _=>true) true Tryz.f13.params.toList args.toList ds p:=hA0;have hA1:=hA;rw[Tryz.params13]at hA hval hz;obtain⟨v0,vs0,d0,ds0,p0,q0,ha0,rfl,rfl,h0,r0⟩:=trodAll_cons hA;obtain⟨v1,vs1,d1,ds1,p1,q1,ha1,rfl,rfl,h1,r1⟩:=trodAll_cons r0;obtain⟨v2,vs2,d2,ds2,p2,q2,ha2,rfl,rfl,h2,r2⟩:=trodAll_cons r1;obtain⟨v3,vs3,d3,ds3,p3,q3,ha3,rfl,rfl,h3,r3⟩:=trodAll_cons r2;obtain⟨v4,vs4,d4,ds4,p4,q4,ha4,rfl,rfl,h4,r4⟩:=trodAll_cons r3;obtain⟨hnil,rfl,rfl⟩:=trodAll_nil r4;subst hnil;subst ha4;subst ha3;subst ha2;subst ha1;obtain rfl:args= #[v0,v1,v2,v3,v4]:=by cases args;simp_all
 obtain⟨rfl,rfl⟩:=trodVars_none hV;obtain⟨x0,k0,o0⟩:=gT (fun N=>(uq N).le (J2 N)) (fun a=>rfl) Tryz.underlying56 (hval 0 56 v0 rfl rfl) h0 (fY hz (j:=0) rfl rfl);obtain⟨x1,k1,o1⟩:=gT (fun N=>(uq N).le (J2 N)) (fun a=>rfl) Tryz.underlying56 (hval 1 56 v1 rfl rfl) h1 (fY hz (j:=1) rfl rfl);obtain⟨x2,k2,o2⟩:=gT (fun N=>(uq N).le (J2 N)) (fun a=>rfl) Tryz.underlying56 (hval 2 56 v2 rfl rfl) h2 (fY hz (j:=2) rfl rfl);obtain⟨x3,k3,o3⟩:=wb (fun N=>Bp N) Tryz.underlying25 (hval 3 25 v3 rfl rfl) h3 (fY hz (j:=3) rfl rfl);obtain⟨x4,k4,o4⟩:=gT (fun N=>zM N) (fun a=>rfl) Tryz.underlying47 (hval 4 47 v4 rfl rfl) h4 (fY hz (j:=4) rfl rfl);clear hA0;simp only[Kr]at hW' hA1;have hlt:=hW'.lt;have hv:aN (iy W) [] [x0.av,x1.av,x2.av,az x3,x4.av] [v0,v1,v2,v3,v4]:=by
  simp only[aN];exact⟨_,_,rfl,k0,_,_,rfl,k1,_,_,rfl,k2,_,_,rfl,k3,_,_,rfl,k4,rfl⟩
 refine (wO good hOther (Da hL hS) hv (by rw[t13 x0 x1 x2 x3 x4 o0 o1 o2 o3.1 o3.2 o4];rfl)).mono fun e W' ⟨he,hb⟩=>?_;subst he;exact⟨_,rfl,oC (pv:=[]) hW' (fun _ _ _=>trodAll_cons_mk (shut_bool Tryz.underlying4 _) trodAll_mk0) (fun sp hsp=>
   tw kids sS (by rw[Tryz.params13];decide +kernel) hA1 hlt hb sp hsp) (fun _ _=>rfl) (by simp)
  hb (ok_one (by kernel_rfl) rfl (okWide_bool_mk Tryz.underlying4 _))⟩
def reads(os:Os){H:Type}(enc:TypeId×Value->H):∃ds places,DataW.whole enc Tryz.prog ((ll os).forCall (fun _ _=>0) ⟨#[],#[.agg #[.string ⟨#[]⟩,.slice none 0 0,.int .i64 0,.slice none 0 0,.int .i64 0],.agg #[.string ⟨#[]⟩,.slice none 0 0,.int .i64 0,.slice none 0 0,.int .i64 0],.agg #[.string ⟨#[]⟩,.slice none 0 0,.int .i64 0,.slice none 0 0,.int .i64 0],.slice none 0 0,.agg #[.int .i64 0,.int .i64 0,.string ⟨#[]⟩,.string ⟨#[]⟩,.slice none 0 0,.slice none 0 0]],[]⟩).memory Tryz.f13.params.toList Rows.faceUsesSpec.vars false #[.agg #[.string ⟨#[]⟩,.slice none 0 0,.int .i64 0,.slice none 0 0,.int .i64 0],.agg #[.string ⟨#[]⟩,.slice none 0 0,.int .i64 0,.slice none 0 0,.int .i64 0],.agg #[.string ⟨#[]⟩,.slice none 0 0,.int .i64 0,.slice none 0 0,.int .i64 0],.slice none 0 0,.agg #[.int .i64 0,.int .i64 0,.string ⟨#[]⟩,.string ⟨#[]⟩,.slice none 0 0,.slice none 0 0]].toList 8=some (ds,[],places):=
 ⟨[.agg [.lit (.string []),.nil,.agg [.lit (.int .i64 0),.nil],.lit (.int .i64 0)],.agg [.lit (.string []),.nil,.agg [.lit (.int .i64 0),.nil],.lit (.int .i64 0)],.agg [.lit (.string []),.nil,.agg [.lit (.int .i64 0),.nil],.lit (.int .i64 0)],.nil,.agg [.lit (.int .i64 0),.lit (.int .i64 0),.lit (.string []),.lit (.string []),.nil,.nil]],[],by kernel_rfl⟩
def lifted(os:Os)(started:os.Started)(H:Type)(enc:TypeId×Value->H)(F:Stop.Interp):
  ReturnsInHanded {} Tryz.checked os 13 .any ((OpenSpec.ofChange Rows.faceUsesSpec).preRow enc Tryz.prog Tryz.f13 Rows.faceUsesRow.domain false Rows.faceUsesRow.laid) (((OpenSpec.ofChange Rows.faceUsesSpec).at F).post enc Tryz.prog Tryz.f13 false true false false):=by
 obtain⟨ds,places,hx⟩:=reads os enc;refine returnsInHanded_of_row (C:=Tryz.checked) (s:=OpenSpec.ofChange Rows.faceUsesSpec) Gz started (by kernel_rfl) Tryz.func13
  (witness_row_atRef (enc:=enc) (C:=Tryz.checked) false (ll os) #[.agg #[.string ⟨#[]⟩,.slice none 0 0,.int .i64 0,.slice none 0 0,.int .i64 0],.agg #[.string ⟨#[]⟩,.slice none 0 0,.int .i64 0,.slice none 0 0,.int .i64 0],.agg #[.string ⟨#[]⟩,.slice none 0 0,.int .i64 0,.slice none 0 0,.int .i64 0],.slice none 0 0,.agg #[.int .i64 0,.int .i64 0,.string ⟨#[]⟩,.string ⟨#[]⟩,.slice none 0 0,.slice none 0 0]] rfl (by kernel_rfl) (by kernel_rfl) (by kernel_rfl)
   (OpenSpec.preRow_of_cond 8 hx (by kernel_rfl) (fun k hk=>by cases hk) (by kernel_rfl) (zk os _))) ?_
 intro W base args ds gs before hval hW _ _ hz hL hS _;exact yO H enc W base args ds gs before hval hW hz hL hS
end Go.Proofs.YteemeakjlfnapaaGreatDoor.faceUses
