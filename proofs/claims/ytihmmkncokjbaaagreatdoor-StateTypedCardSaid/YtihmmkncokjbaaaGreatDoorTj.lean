/- What the functions of the seat compute, part 10: the texts of the claim, one behind the other. Conditions: bounds, as each theorem names them. -/
import Derived.Test.YtihmmkncokjbaaaGreatDoorTi
import Derived.Lib.SmallJoins
set_option linter.defProp false
set_option linter.unusedSimpArgs false
set_option linter.unusedVariables false
namespace Go.Proofs.YtihmmkncokjbaaaGreatDoor
open Go Go.Av Go.Av.Ap
set_option maxRecDepth 100000
def NQ{m:Ap.Mod}(hm:m.Lim)(K:ModOk m):MvOk m:=⟨hm,K.vlen,K.vars,K.ilen,K.init,K.olen,K.old,K.wlen,K.forw,K.blen,K.back⟩
def NH{m:Ap.Mod}(K:ModOk m){fs:List Face}(hfs:∀f∈fs,f.Lim)(ha:∀f∈fs,iP f=true):CxOk m fs where
 vlen:=by have:=K.vlen;omega
 vars:=K.vars
 flen:=by have:=K.flen;omega
 ulen:=by have:=K.ulen;omega
 plen:=fun f hf=>by have:=(K.fns f hf).plen;omega
 pars:=fun f hf=>(K.fns f hf).pars
 res:=fun f hf=>(K.fns f hf).res
 slen:=fun f hf=>(hfs f hf).len
 splen:=fun f hf s hs=>((hfs f hf).sigs s hs).plen
 spars:=fun f hf s hs t ht=>by
  have:=ha f hf
  unfold iP at this;rw[PG]at this;have h2:=this s hs;simp only[Po,PG]at h2;exact h2.2 t ht
 sres:=fun f hf s hs=>by
  have:=ha f hf
  unfold iP at this;rw[PG]at this;have h2:=this s hs;simp only[Po]at h2;exact h2.1
theorem Hb{m:Ap.Mod}(hm:m.Lim)(MK:ModOk m){fs:List Face}(K:CxOk m fs){q:Nat}{mp:AV}:∀(k i:Nat)(n:Int)(h:Hp),m.funcs.length-i=k->i<=m.funcs.length->JR h q m mp fs n->
  ∃h',aj (L38_0 (ai pg) aj) [.hp q 0,gC m.funcs,.int .i64 m.funcs.length,.int .i64 i] h= .ok (mi (cn ((Da m fs).drop i))) h':=by
 intro k;have hfl:=MK.flen
 induction k with
 |zero=>
  intro i n h hk hi R;have h1:¬((i:Int)<(m.funcs.length:Int)):=by omega
  have h2:(Da m fs).drop i=[]:=PD (by simp[Da];omega);refine⟨h,?_⟩;rw[FL38_0,h2];simp[L38_0,h1];rfl
 | succ k ih=>
  intro i n h hk hi R;have hlt:i<m.funcs.length:=by omega
  have h1:(i:Int)<(m.funcs.length:Int):=by omega
  have h2:(Da m fs).drop i=(m.funcs[i].name,GM (eK m fs) m.funcs[i]):: (Da m fs).drop (i+1):=by
   rw[PC (by simp[Da];exact hlt)];simp[Da]
  have hw:IntKind.i64.wrap ((i:Int)+1)=(i:Int)+1:=bz (by omega);have hix:=yA (l:=m.funcs) (n:=(i:Int)) (by omega) h1;rw[PH,Pz m.funcs i hlt]at hix;have hf:=MK.fns _ (Px hlt);have hfl2:=hm.fns _ (Px hlt);rw[h2,cn];generalize m.funcs[i]=f at hix hf hfl2 |-;have R1:=R.set 0;obtain⟨p1,p2⟩:=N3 K 12 f.params f.body 0 _ hf.body hfl2.body (fun z hz=>fH (hf.pars z hz)) (by have:=hf.plen;omega) R1;have s1:∀g:AV->M AV,ae (bP T 3 (.hp q 10) (.int .i64 0)) g h=g (.tup []) (h.set q (bi m mp 0)):=fun g=>aS (R.put 0) g;rw[FL38_0];have hne:=iy (eK m fs) 12 f.params f.body 0;cases ht:bL (eK m fs) 12 f.params f.body 0 with
  |er b n'=>
   rw[ht]at p1;have hb0:=hne b n' ht;have hb:(b != 0)=true:=QL.2 hb0;have k1:∀g:AV->M AV,ae (ai pg 78 [.hp q 0,aK f.params,f.body.av]) g (h.set q (bi m mp 0))=g (.tup [ty0.av,.int .i64 b]) ((h.set q (bi m mp 0)).set q (bi m mp n')):=fun g=>aS p1 g;have hx:GM (eK m fs) f=b:=by unfold GM;rw[ht]
   rw[hx];dsimp only;rw[if_neg hb0];refine⟨(h.set q (bi m mp 0)).set q (bi m mp n'),?_⟩;simp[L38_0,h1,hix,s1,k1,hb];rfl
  | ok t n'=>
   rw[ht]at p1;have k1:∀g:AV->M AV,ae (ai pg 78 [.hp q 0,aK f.params,f.body.av]) g (h.set q (bi m mp 0))=g (.tup [t.av,.int .i64 0]) ((h.set q (bi m mp 0)).set q (bi m mp n')):=fun g=>aS p1 g;have R2:=R1.set n';have l1:∀g:AV->M AV,ae (aW T 3 (.hp q 10)) g ((h.set q (bi m mp 0)).set q (bi m mp n'))=g (.int .i64 n') ((h.set q (bi m mp 0)).set q (bi m mp n')):=fun g=>aS R2.eff g;rw[O1]at l1;have hbl:=jY (p2 t n' ht) hf.res;have hex:am T .andNot 3 (.int .i64 n') (.int .i64 f.effects)=some (.int .i64 (eU n' f.effects)):=rfl;by_cases hb:cd t f.result=true
   case neg=>
    rw[Rx]at hb;rw[hb]at hbl;have hx:GM (eK m fs) f=13:=by unfold GM;rw[ht];simp[hb]
    rw[hx];dsimp only;rw[if_neg (by decide)];refine⟨(h.set q (bi m mp 0)).set q (bi m mp n'),?_⟩;simp[L38_0,h1,hix,s1,k1,hbl];rfl
   case pos=>
    rw[hb]at hbl;by_cases he:eU n' f.effects=0
    ·have hx:GM (eK m fs) f=0:=by unfold GM;rw[ht];simp[hb,he]
     rw[hx];dsimp only;rw[Ps rfl];obtain⟨h',e'⟩:=ih (i+1) n' _ (by omega) (by omega) R2;have e'':aj (L38_0 (ai pg) aj) [.hp q 0,gC m.funcs,.int .i64 m.funcs.length,.int .i64 ((i:Int)+1)] ((h.set q (bi m mp 0)).set q (bi m mp n'))=_:=e';rw[O1]at e'';refine⟨h',?_⟩;simp[L38_0,h1,hix,s1,k1,hbl,l1,hex,he,hw,-qk];exact e''
    ·have hx:GM (eK m fs) f=14:=by unfold GM;rw[ht];simp[hb,he]
     rw[hx];dsimp only;rw[if_neg (by decide)];have he':(eU n' f.effects != 0)=true:=QL.2 he;refine⟨(h.set q (bi m mp 0)).set q (bi m mp n'),?_⟩;simp[L38_0,h1,hix,s1,k1,hbl,l1,hex,he',-qk];rfl
def Hc{m:Ap.Mod}(hm:m.Lim)(MK:ModOk m){fs:List Face}(K:CxOk m fs){q:Nat}{mp:AV}{h:Hp}(R:JR h q m mp fs 0):∀(k i:Nat),m.uses.length-i=k->i<=m.uses.length->
  ∃h',aj (L38_1 (ai pg) aj) [.ip (ab m.av),.hp q 0,strs m.uses,.int .i64 m.uses.length,.int .i64 i] h= .ok (mi (cn ((mr m fs).drop i++jt m:: Da m fs))) h':=by
 intro k;have hul:=MK.ulen
 induction k with
 | zero=>
  intro i hk hi;have h1:¬((i:Int)<(m.uses.length:Int)):=by omega
  have h2:(mr m fs).drop i=[]:=PD (by simp[mr];omega);have hmv:=OL (NQ hm MK);rw[h2,P7,cn,FL38_1];unfold mi at hmv;by_cases hb:(jt m).2=0
  ·rw[Ps hb];obtain⟨h',e'⟩:=Hb hm MK K m.funcs.length 0 0 h rfl (P8 _) R;have e'':aj (L38_0 (ai pg) aj) [.hp q 0,gC m.funcs,.int .i64 m.funcs.length,.int .i64 0] h= .ok (mi (cn (Da m fs))) h':=e';rw[hb]at hmv;refine⟨h',?_⟩;simp[L38_1,h1,hmv,e'']
  ·rw[if_neg hb];have hb':((jt m).2 != 0)=true:=QL.2 hb;refine⟨h,?_⟩;simp[L38_1,h1,hmv,hb'];rfl
 | succ k ih=>
  intro i hk hi;have hlt:i<m.uses.length:=by omega
  have h1:(i:Int)<(m.uses.length:Int):=by omega
  have h2:(mr m fs).drop i=(m.uses[i],if(fs.find? fun f=>f.module== m.uses[i]).isNone||m.uses[i]== m.name then 12 else 0):: (mr m fs).drop (i+1):=by
   rw[PC (by simp[mr];exact hlt)];simp[mr]
  have hw:IntKind.i64.wrap ((i:Int)+1)=(i:Int)+1:=bz (by omega);have hix:=p7 (l:=m.uses) (n:=(i:Int)) (by omega) h1;rw[PH,Pz m.uses i hlt]at hix;obtain⟨h',e'⟩:=ih (i+1) (by omega) (by omega);have e'':aj (L38_1 (ai pg) aj) [.ip (ab m.av),.hp q 0,strs m.uses,.int .i64 m.uses.length,.int .i64 ((i:Int)+1)] h=_:=e';rw[h2,Qb,cn,FL38_1];generalize m.uses[i]=u at hix |-;have l1:∀g:AV->M AV,ae (aW T 105 (.hp q 9)) g h=g mp h:=fun g=>aS R.mp g;have l2:∀g:AV->M AV,ae (fa T 105 mp (.str u) true) g h=g (.tup [((fs.find? fun f=>f.module== u).getD m8).av,.bool (fs.find? fun f=>f.module== u).isSome]) h:=fun g=>aS (ow R.map u) g;simp only[bE]at e'';cases hf:fs.find? (fun f=>f.module== u)with
  |none=>
   rw[hf]at l2;refine⟨h,?_⟩;simp[L38_1,h1,hix,l1,l2,lQ,mi];rfl
  | some f=>
   rw[hf]at l2;by_cases hu:u=m.name
   ·subst hu;refine⟨h,?_⟩;simp[L38_1,h1,hix,l1,l2,lQ,mi];rfl
   ·refine⟨h',?_⟩;have hu':(u== m.name)=false:=PP.2 hu;simp[L38_1,h1,hix,l1,l2,lQ,hu,hw,e'']
theorem OJ(m:Ap.Mod)(hm:m.Lim)(fs:List Face)(hfs:∀f∈fs,f.Lim)(hlen:fs.length<=140737488355328):ai pg 38 [m.av,faces fs]=M.pure (mi (kY m fs)):=by
 have fin:∀(h:Hp)(x:a7×Int),kC 6 h (mi x)=mi x:=fun h x=>by
  have hc:Ap.Clean (mi x):=fun g=>by simp[mi,cl,dp]
  exact hc.frz 6 h
 have hR:=t76 m hm;have lm:ah T 29 (.ip (ab m.av))=some m.av:=rfl;obtain⟨n1,n2⟩:=OK m fs hfs hlen [];rw[C38,ib,EM];unfold kY;cases ha:fs.all iP with
 |false=>
  obtain⟨h',e'⟩:=n2 ha;have k1:∀g:AV->M AV,ae (ai pg 75 [m.av,faces fs]) g []=g (.tup [.nilp,.bool false]) h':=fun g=>aS e' g;refine cp (v:=mi ([],1)) (h':=h') ?_ (fin _ _);simp only[bE]at lm;simp[S38,k1,lm];rfl
 | true=>
  have e1:=n1 ha;have k1:∀g:AV->M AV,ae (ai pg 75 [m.av,faces fs]) g []=g (.tup [.hp 1 0,.bool true]) ([]++[[.tup (cC (dP [] fs))],bi m (.mp 0) 0]):=fun g=>aS e1 g;cases hr:lF m with
  |false=>
   rw[hr]at hR;refine cp (v:=mi ([],1)) (h':=[]++[[.tup (cC (dP [] fs))],bi m (.mp 0) 0]) ?_ (fin _ _);simp only[bE]at lm;simp[S38,k1,lm,hR];rfl
  | true=>
   rw[hr]at hR;have MK:=FL hr;have hdm:∀f∈dP [] fs,f∈fs:=fun f hf=>by
    rcases sN fs [] f hf with h|h
    ·cases h
    ·exact h
   have K:CxOk m (dP [] fs):=NH MK (fun f hf=>hfs f (hdm f hf)) (fun f hf=>PG.1 ha f (hdm f hf));have R:JR ([]++[[.tup (cC (dP [] fs))],bi m (.mp 0) 0]) 1 m (.mp 0) (dP [] fs) 0:=⟨rfl,.inr ⟨0,rfl,rfl⟩,by simp⟩;obtain⟨h',e'⟩:=Hc hm MK K R m.uses.length 0 rfl (P8 _);have e'':aj (L38_1 (ai pg) aj) [.ip (ab m.av),.hp 1 0,strs m.uses,.int .i64 m.uses.length,.int .i64 0] ([]++[[.tup (cC (dP [] fs))],bi m (.mp 0) 0])= .ok (mi (cn (mr m (dP [] fs)++jt m:: Da m (dP [] fs)))) h':=e';simp only[bE]at lm e'';simp only[Ry,PF];refine cp (v:=mi (cn (mr m (dP [] fs)++jt m:: Da m (dP [] fs)))) (h':=h') ?_ (fin _ _);rw[<- e''];simp[S38,k1,lm,hR]
def Oq(m:Mod):ah T 29 (.ip (ab m.av))=some m.av:=by simp
def t106(p:List Mod)(hp:p.length<=1099511627776):ai pg 106 [fZ p]=M.pure (.int .i64 (ju p)):=by
 let D:Nat->Bool:=fun i=>(p.take i).any fun m=>m.name== (p[i]?.getD default).name;have hloop:∀(n k:Nat),p.length-k=n->k<=p.length->aj (L106_0 (ai pg) aj) [fZ p,fZ p,.int .i64 p.length,.int .i64 k]=M.pure (.int .i64 (if(List.range' k n).any D=true then 5 else 0)):=by
  intro n
  induction n with
  |zero=>
   intro k hk hl;obtain rfl:k=p.length:=by omega
   rw[FL106_0];simp[L106_0]
  | succ n ih=>
   intro k hk hl;have h1:(k:Int)<(p.length:Int):=by omega
   have hlt:k<p.length:=by omega
   have hi:=BD (l:=p) (n:=(k:Int)) (by omega) h1;rw[show ((k:Int)).toNat=k by omega,Pz p k hlt]at hi;have hs:dT T 92 (fZ p) none (some (.int .i64 k)) none=some (fZ (p.take k)):=by
    have:=CY (T:=T) (t:=92) (e:=29) rfl rfl rfl (p.map Mod.av) (n:=(k:Int)) (by omega) (by simp;omega)
    simpa [fZ,List.map_take]using this
   have ha:=t148 (.fn (.func 149) [] [.ip (ab p[k].av)]) (fun m=>m.name== p[k].name) (p.take k) (by simp;omega) (fun g=>by simp[cl,dp]) (fun m _=>t149 m p[k]);have hD:D k=((p.take k).any fun m=>m.name== p[k].name):=by simp only[D,Pv hlt,Rb]
   have hw:IntKind.i64.wrap ((k:Int)+1)=((k+1:Nat):Int):=bz (by omega);rw[FL106_0];simp -implicitDefEqProofs only[L106_0,aH,aM,bV,ao,au,h1,Qi,PF,hi,Oq,aY (lx _),aB,cD,hs,ha,dj,hw];rw[ih (k+1) (by omega) (by omega),RU,Si,hD];generalize ((p.take k).any fun m=>m.name== p[k].name)=b;generalize (List.range' (k+1) n).any D=c;cases b<;>cases c<;>rfl
 rw[C106,Az];have h0:=hloop p.length 0 (by omega) (by omega);have ht:lJ p=(List.range' 0 p.length).any D:=by
  unfold lJ;rw[List.range_eq_range']
 have hS:S106 (ai pg) aj (fZ p)=M.pure (.int .i64 (ju p)):=by
  unfold ju;rw[ht];by_cases h20:20<p.length
  ·have h20':(20:Int)<(p.length:Int):=by omega
   simp only[h20,PF];simp -implicitDefEqProofs only[S106,yC,ao,ud,au,h20',Qi,PF]
  ·have:¬((20:Int)<(p.length:Int)):=by omega
   simp only[h20,PE];simp -implicitDefEqProofs only[S106,yC,ao,ud,au,this,QR,Pr,PE];exact h0
 rw[hS];exact bI fun g=>rfl
def nh:Except Int (List Vars)->AV
 |.ok st=>.tup [fc st,.int .i64 0]
 |.error e=>.tup [.sl [],.int .i64 e]
theorem wU(outer:List AV->M AV)(p:List Mod)(out:List Vars)(i:AV)(nm:a7)(es:List Exp)(hes:∀e∈es,a8 e)(hlen:es.length<=274877906944)(hout:out.length<=1099511627776):∀(B A:List Exp)(acc:List Val)(k:Int),A++B=es->acc.length=A.length->i= .int .i64 k->-4611686018427387904<=k->k<=4611686018427387904->
  aj (L65_0 (ai pg) aj outer) [fc out,fZ p,.int .i64 p.length,i,bX es,.int .i64 es.length,.int .i64 A.length,.str nm,vals acc]=
  match fP B with
  |.error c=>M.pure (.tup [.sl [],.int .i64 c])
  |.ok vs=>outer [fc (out++[⟨nm,acc++vs⟩]),fZ p,.int .i64 p.length,.int .i64 (k+1)]
 |[],A,acc,k,e,hac,hi,hk1,hk2=>by
  simp only[Qm]at e;subst e;subst hi;have hb:aJ T 89 1 [(0,.agg [.str nm,vals acc])]=some (fc [⟨nm,acc⟩]):=rfl;have ha:cQ T 89 (fc out) (fc [⟨nm,acc⟩])=some (fc (out++[⟨nm,acc⟩])):=Nh (by simp;omega);have hw:IntKind.i64.wrap (k+1)=k+1:=bq (by omega) (by omega);rw[FL65_0];simp -implicitDefEqProofs only[L65_0,aH,aM,bV,ao,au,RS,QR,Pr,PE,hb,ha,dj,hw];simp[fP]
 | x:: B,A,acc,k,e,hac,hi,hk1,hk2=>by
  have hll:A.length+(B.length+1)=es.length:=by rw[<- e];simp
  have h1:(A.length:Int)<(es.length:Int):=by omega
  have hx:es[A.length]'(by omega)=x:=by subst e;simp
  have hm:x∈es:=by rw[<- e];simp
  have hix:=kH (l:=es) (n:=(A.length:Int)) (by omega) h1;rw[show ((A.length:Int)).toNat=A.length by omega,Pz es A.length (by omega),hx]at hix;have hex:ah T 66 (.ip (ab x.av))=some x.av:=by simp
  have hx1:∀e:Exp,AV.agg (ab e.av)=e.av:=fun _=>rfl;have hcall:=t85 x [] [] (hes x hm) (by simp) (by simp[bY]);have hcall':ai pg 85 [x.av,.sl [],.sl []]=M.pure (jc (fW x [] [])):=hcall;have hw:IntKind.i64.wrap ((A.length:Int)+1)=((A.length+1:Nat):Int):=bz (by omega);have hne:∀a b:Int,am T .neq 39 (.int .i64 a) (.int .i64 b)=some (.bool (a != b)):=fun _ _=>rfl;rw[FL65_0];simp -implicitDefEqProofs only[L65_0,aH,aM,bV,ao,au,h1,Qi,PF,hix,hex,aY (g9 x),aB,hx1,hcall'];unfold fP;cases hr:fW x [] []with
  | er c s=>
   have hc0:(c != 0)=true:=by
    have:=wB hr
    simpa using this
   simp -implicitDefEqProofs only[jc,aR,Pu,PM,ao,aY (dL default),aB,hne,hc0,au,PF]
  |ok v s=>
   have hb2:aJ T 30 1 [(0,v.av)]=some (vals [v]):=by rw[v.av_eq];simp[vals,eb,v.av_eq];rfl
   have ha2:cQ T 30 (vals acc) (vals [v])=some (vals (acc++[v])):=BC (by simp;omega);have hc1:cU (vals (acc++[v]))=M.pure (vals (acc++[v])):=rfl;have hvv:∀v:Val,AV.agg (ab v.av)=v.av:=fun v=>by simp
   have h00:((0:Int) != 0)=false:=rfl;have hvl:ah T 45 (.ip (ab v.av))=some v.av:=by simp
   have ih:=wU outer p out i nm es hes hlen hout B (A++[x]) (acc++[v]) k (by rw[<- e];simp) (by simp[hac]) hi hk1 hk2;simp only[Qq,Rp,P1,QD]at ih;simp -implicitDefEqProofs only[jc,aR,Pu,PM,ao,aY (dL v),aB,hne,h00,au,Pr,PE,hvv,hvl,hb2,ha2,hc1,dj,hw,ih];cases fP B<;>rfl
theorem t65(p:List Mod)(hp:p.length<=1099511627776)(hm:∀m∈p,m.vars.length<=1099511627776/\m.init.length<=274877906944/\∀e∈m.init,a8 e):ai pg 65 [fZ p]=M.pure (nh (iT p)):=by
 have hloop:∀(B A:List Mod)(out:List Vars),A++B=p->out.length=A.length->aj (L65_1 (ai pg) aj) [fc out,fZ p,.int .i64 p.length,.int .i64 A.length]=
   M.pure (match jp B with|.error c=>.tup [.sl [],.int .i64 c]|.ok r=>.tup [fc (out++r),.int .i64 0]):=by
  intro B
  induction B with
  |nil=>
   intro A out e ho;simp only[Qm]at e;subst e;rw[FL65_1];simp -implicitDefEqProofs only[L65_1,aH,aM,bV,ao,au,RS,QR,Pr,PE,jp,Qm]
  | cons x B ih=>
   intro A out e ho;have hll:A.length+(B.length+1)=p.length:=by rw[<- e];simp
   have h1:(A.length:Int)<(p.length:Int):=by omega
   have hx:p[A.length]'(by omega)=x:=by subst e;simp
   have hmm:x∈p:=by rw[<- e];simp
   obtain⟨m1,m2,m3⟩:=hm x hmm;have hix:=BD (l:=p) (n:=(A.length:Int)) (by omega) h1;rw[show ((A.length:Int)).toNat=A.length by omega,Pz p A.length (by omega),hx]at hix;have hB:aU T true 94 [(0,.str x.name)]=some (.agg [.str x.name,.hn]):=rfl;have hC:ay 2 [1] (.agg [.str x.name,.hn])=M.pure (.agg [.str x.name,.hn]):=rfl;have hin:=wU (aj (L65_1 (ai pg) aj)) p out (.int .i64 A.length) x.name x.init m3 m2 (by omega) x.init [] [] A.length rfl rfl rfl (by omega) (by omega);rw[FL65_1];simp -implicitDefEqProofs only[L65_1,aH,aM,bV,ao,au,h1,Qi,PF,hix,Oq,aY (lx x),aB,cD];simp -implicitDefEqProofs only[aH,aM,ao,au,aB,cD,bE,FA29_0,FA29_2,FA29_3,P6,PT,LD9,LD24,LD23,tU,dO,hB,hC,lN];unfold jp;by_cases hl:x.init.length=x.vars.length
   ·have hl':((x.init.length:Int) != (x.vars.length:Int))=false:=by simp[hl]
    simp only[hl',Pr,PE,Ps hl];have hz:((([]:List Exp).length:Nat):Int)=0:=rfl;rw[hz]at hin;have hv0:vals []= .sl []:=rfl;rw[hv0]at hin;rw[hin];cases fP x.init with
    |error c=>rfl
    |ok vs=>
     have:=ih (A++[x]) (out++[⟨x.name,vs⟩]) (by rw[<- e];simp) (by simp[ho])
     simp only[P1,QD]at this;have hcast:((A.length:Int)+1)=((A.length+1:Nat):Int):=by omega
     simp only[P7,hcast,this];cases jp B<;>simp
   ·have hl':((x.init.length:Int) != (x.vars.length:Int))=true:=by
     rw[QL];omega
    simp only[hl',PF,if_neg hl]
 have h0:=hloop p [] [] rfl rfl;have hne:∀a b:Int,am T .neq 39 (.int .i64 a) (.int .i64 b)=some (.bool (a != b)):=fun _ _=>rfl;have hS:S65 (ai pg) aj (fZ p)=M.pure (nh (iT p)):=by
  unfold iT;by_cases hn:ju p=0
  ·have hn':(ju p != 0)=false:=by simp[hn]
   simp -implicitDefEqProofs only[S65,t106 p hp,aB,hne,ao,hn',au,Pr,PE,yC];rw[Ps hn];simp only[Qa,P7]at h0;have:fc []= .sl []:=rfl;rw[this]at h0;have hz:((0:Nat):Int)=0:=rfl;rw[hz]at h0;rw[h0];cases jp p<;>rfl
  ·have hn':(ju p != 0)=true:=by simp[hn]
   simp -implicitDefEqProofs only[S65,t106 p hp,aB,hne,ao,hn',au,PF];rw[if_neg hn];rfl
 rw[C65,Az,hS];exact bI fun g=>by
  cases iT p with
  |error e=>rfl
  |ok st=>simp[nh,cl,dp]
def same_iff(a b:bd)(h:bg a.2=true):fj a b=true↔a=b:=by
 unfold fj;simp only[Po,PR,oM];refine⟨fun h=>Prod.ext h.1 h.2.2,fun e=>?_⟩;subst e;exact⟨rfl,⟨h,h⟩,rfl⟩
theorem LX(m:Ap.Mod):aJ T 92 1 [(0,m.av)]=some (fZ [m]):=rfl
theorem Kj(m:Ap.Mod)(hm:SMod m)(hi:∀e∈m.init,a8 e)(hl:m.init.length<=8):
  (∀vs,iT [m]= .ok [⟨m.name,vs⟩]->ai pg 30 [m.av]=M.pure (.tup [vals vs,.int .i64 0]))/\∀c,iT [m]= .error c->ai pg 30 [m.av]=M.pure (.tup [.sl [],.int .i64 c]):=by
 have hF:=t65 [m] (by simp) (fun x hx=>by rw[Qd.1 hx];exact⟨by have:=hm.vars;omega,by omega,hi⟩);refine⟨fun vs e=>?_,fun c e=>?_⟩
 ·rw[e]at hF;have h00:((0:Int) != 0)=false:=rfl;have hix:ak T 89 (fc [⟨m.name,vs⟩]) (.int .i64 0)=some (.ip (ab (Ap.Vars.av ⟨m.name,vs⟩))):=rfl;have hfa:aa T 94 (.ip (ab (Ap.Vars.av ⟨m.name,vs⟩))) 1=some (.ip [vals vs]):=rfl;have hld:ah T 30 (.ip [vals vs])=some (vals vs):=rfl;rw[C30,ib];have e2:S30 (ai pg) aj m.av=M.pure (.tup [vals vs,.int .i64 0]):=by
   simp -implicitDefEqProofs only[S30,uH,ao,LX,hF,aB,nh,aR,Pu,PM,xy,h00,au,Pr,PE,hix,hfa,hld]
  rw[e2];exact bI fun g=>by simp[cl,dp]
 ·rw[e]at hF;have hc:(c != 0)=true:=by simpa using zl e
  rw[C30,ib];have e2:S30 (ai pg) aj m.av=M.pure (.tup [.sl [],.int .i64 c]):=by
   simp -implicitDefEqProofs only[S30,uH,ao,LX,hF,aB,nh,aR,Pu,PM,xy,hc,au,PF]
  rw[e2];exact bI fun g=>by simp[cl,dp]
theorem HP(a b:Bool):am T .neq 4 (.bool a) (.bool b)=some (.bool (a != b)):=rfl
theorem Ho(a b:Bool):am T .eql 4 (.bool a) (.bool b)=some (.bool (a== b)):=rfl
theorem On(a b:Int):am T .neq 3 (.int .i64 a) (.int .i64 b)=some (.bool (a != b)):=rfl
theorem pJ(v:AV):List.replicate 1 v=[v]:=rfl
theorem Hm(old now:Ap.Mod)(vars:List Val)(ho:SMod old)(hn:SMod now)(hv:r5 vars)(K:AccM now)(hs:vH now)(hm:now.moves=true)(he:now.old=old.vars):
  aj (L7_0 (ai pg) aj) [vals vars,.ip (ab old.av),.ip (ab now.av),.bool true,.int .i64 old.vars.length]=M.pure (.bool true):=by
 have hF:=t12 old now vars ho hn hv;have hB:=t13 old now vars ho hn hv;have g1:=t11 old.vars vars ho.lim.vars ho.lim.vty hv.mem;have g2:=t11 now.vars vars hn.lim.vars hn.lim.vty hv.mem;have h1:¬((old.vars.length:Int)<(old.vars.length:Int)):=by omega
 have T1:=se (F:=fj) same_iff K hm he (fun e h=>hs.2.1 e h) vars;have T2:=yI (F:=fj) same_iff K hm he (fun e h=>hs.2.2 e h) vars;have c1:((1:Int)== 1)=true:=rfl;have c2:((0:Int)== 1)=false:=rfl;have c3:((6:Int)== 1)=false:=rfl;have c4:((0:Int)== 0)=true:=rfl;have c5:((1:Int)== 0)=false:=rfl;have c6:((6:Int)== 0)=false:=rfl;have c7:((6:Int)== 6)=true:=rfl;have c8:((0:Int)== 6)=false:=rfl;have d1:((1:Int) != 0)=true:=rfl;have d2:((0:Int) != 0)=false:=rfl;have d3:((6:Int) != 0)=true:=rfl;have d4:((6:Int) != 6)=false:=rfl;have d5:((1:Int) != 6)=true:=rfl;have x1:(true != true)=false:=rfl;have x2:(false != false)=false:=rfl;have x3:(true== true)=true:=rfl;have x4:(false== false)=true:=rfl;rw[FL7_0];rcases T1 with⟨a1,e1⟩|⟨a1,⟨l,e1,a3⟩|e1⟩
 ·rw[e1]at hF;rw[a1]at g1;rcases T2 with⟨b1,f1⟩|⟨b1,⟨r,f1,b3⟩|f1⟩
  ·rw[f1]at hB;rw[b1]at g2;simp -implicitDefEqProofs only[L7_0,aH,aM,fm2,qY,ao,dO,rZ,au,Pt,if_neg h1,uH,hF,hB,aB,dn,aR,Pu,PM,g1,g2,qw,xy,gp,HP,Ho,c1,c2,c3,c4,c5,c6,c7,c8,d1,d2,d3,d4,d5,x1,x2,x3,x4,P3,Qe,bp,dC,dZ,db,pJ,cw,bS,Pr,PE,PF]
  ·rw[f1]at hB;rw[b1]at g2;have g4:=t11 old.vars r ho.lim.vars ho.lim.vty (iZ b3 ho.vars).mem;rw[b3]at g4;simp -implicitDefEqProofs only[L7_0,aH,aM,fm2,qY,ao,dO,rZ,au,Pt,if_neg h1,uH,hF,hB,aB,dn,aR,Pu,PM,g1,g2,g4,qw,xy,gp,HP,Ho,c1,c2,c3,c4,c5,c6,c7,c8,d1,d2,d3,d4,d5,x1,x2,x3,x4,P3,Qe,bp,dC,dZ,db,pJ,cw,bS,Pr,PE,PF]
  ·rw[f1]at hB;rw[b1]at g2;simp -implicitDefEqProofs only[L7_0,aH,aM,fm2,qY,ao,dO,rZ,au,Pt,if_neg h1,uH,hF,hB,aB,dn,aR,Pu,PM,g1,g2,qw,xy,gp,HP,Ho,c1,c2,c3,c4,c5,c6,c7,c8,d1,d2,d3,d4,d5,x1,x2,x3,x4,P3,Qe,bp,dC,dZ,db,pJ,cw,bS,Pr,PE,PF]
 ·rw[e1]at hF;rw[a1]at g1;have g3:=t11 now.vars l hn.lim.vars hn.lim.vty (iZ a3 hn.vars).mem;rw[a3]at g3;rcases T2 with⟨b1,f1⟩|⟨b1,⟨r,f1,b3⟩|f1⟩
  ·rw[f1]at hB;rw[b1]at g2;simp -implicitDefEqProofs only[L7_0,aH,aM,fm2,qY,ao,dO,rZ,au,Pt,if_neg h1,uH,hF,hB,aB,dn,aR,Pu,PM,g1,g2,g3,qw,xy,gp,HP,Ho,c1,c2,c3,c4,c5,c6,c7,c8,d1,d2,d3,d4,d5,x1,x2,x3,x4,P3,Qe,bp,dC,dZ,db,pJ,cw,bS,Pr,PE,PF]
  ·rw[f1]at hB;rw[b1]at g2;have g4:=t11 old.vars r ho.lim.vars ho.lim.vty (iZ b3 ho.vars).mem;rw[b3]at g4;simp -implicitDefEqProofs only[L7_0,aH,aM,fm2,qY,ao,dO,rZ,au,Pt,if_neg h1,uH,hF,hB,aB,dn,aR,Pu,PM,g1,g2,g3,g4,qw,xy,gp,HP,Ho,c1,c2,c3,c4,c5,c6,c7,c8,d1,d2,d3,d4,d5,x1,x2,x3,x4,P3,Qe,bp,dC,dZ,db,pJ,cw,bS,Pr,PE,PF]
  ·rw[f1]at hB;rw[b1]at g2;simp -implicitDefEqProofs only[L7_0,aH,aM,fm2,qY,ao,dO,rZ,au,Pt,if_neg h1,uH,hF,hB,aB,dn,aR,Pu,PM,g1,g2,g3,qw,xy,gp,HP,Ho,c1,c2,c3,c4,c5,c6,c7,c8,d1,d2,d3,d4,d5,x1,x2,x3,x4,P3,Qe,bp,dC,dZ,db,pJ,cw,bS,Pr,PE,PF]
 ·rw[e1]at hF;rw[a1]at g1;rcases T2 with⟨b1,f1⟩|⟨b1,⟨r,f1,b3⟩|f1⟩
  ·rw[f1]at hB;rw[b1]at g2;simp -implicitDefEqProofs only[L7_0,aH,aM,fm2,qY,ao,dO,rZ,au,Pt,if_neg h1,uH,hF,hB,aB,dn,aR,Pu,PM,g1,g2,qw,xy,gp,HP,Ho,c1,c2,c3,c4,c5,c6,c7,c8,d1,d2,d3,d4,d5,x1,x2,x3,x4,P3,Qe,bp,dC,dZ,db,pJ,cw,bS,Pr,PE,PF]
  ·rw[f1]at hB;rw[b1]at g2;have g4:=t11 old.vars r ho.lim.vars ho.lim.vty (iZ b3 ho.vars).mem;rw[b3]at g4;simp -implicitDefEqProofs only[L7_0,aH,aM,fm2,qY,ao,dO,rZ,au,Pt,if_neg h1,uH,hF,hB,aB,dn,aR,Pu,PM,g1,g2,g4,qw,xy,gp,HP,Ho,c1,c2,c3,c4,c5,c6,c7,c8,d1,d2,d3,d4,d5,x1,x2,x3,x4,P3,Qe,bp,dC,dZ,db,pJ,cw,bS,Pr,PE,PF]
  ·rw[f1]at hB;rw[b1]at g2;simp -implicitDefEqProofs only[L7_0,aH,aM,fm2,qY,ao,dO,rZ,au,Pt,if_neg h1,uH,hF,hB,aB,dn,aR,Pu,PM,g1,g2,qw,xy,gp,HP,Ho,c1,c2,c3,c4,c5,c6,c7,c8,d1,d2,d3,d4,d5,x1,x2,x3,x4,P3,Qe,bp,dC,dZ,db,pJ,cw,bS,Pr,PE,PF]
theorem HW(old now:Ap.Mod)(vars:List Val)(ho:SMod old)(hn:SMod now)(hv:r5 vars)(K:AccM now)(hs:vH now)(hm:now.moves=true)(hl:now.old.length=old.vars.length):∀(r k:Nat),old.vars.length-k=r->k<=old.vars.length->now.old.take k=old.vars.take k->
  aj (L7_0 (ai pg) aj) [vals vars,.ip (ab old.av),.ip (ab now.av),.bool true,.int .i64 (k:Int)]=M.pure (.bool true):=by
 intro r
 induction r with
 |zero=>
  intro k hr hk he;have:k=old.vars.length:=by omega
  subst this;exact Hm old now vars ho hn hv K hs hm (by rw[Rc,<- hl,Rc]at he;exact he)
 | succ r IH=>
  intro k hr hk he;have hvl:=ho.vars;have hlt:k<old.vars.length:=by omega
  have hlo:k<now.old.length:=by omega
  have h1:(k:Int)<(old.vars.length:Int):=by omega
  have hx:=iK (l:=old.vars) (n:=(k:Int)) (by omega) h1;have hy:=iK (l:=now.old) (n:=(k:Int)) (by omega) (by omega);rw[PH,Pz old.vars k hlt]at hx;rw[PH,Pz now.old k hlo]at hy;have hS:=t39 old.vars[k].2 now.old[k].2 (ho.lim.vty _ (Px hlt)) (hn.lim.oty _ (Px hlo));have hadd:am T BinOp.add 3 (.int .i64 (k:Int)) (.int .i64 1)=some (.int .i64 (k+1:Nat)):=by
   have:IntKind.i64.wrap ((k:Int)+1)=((k+1:Nat):Int):=by rw[bq (by omega) (by omega)];omega
   simp[this]
  have ih:old.vars[k]=now.old[k]->_:=fun e=>IH (k+1) (by omega) (by omega) (by rw[Re hlo,Re hlt,he,e]);generalize old.vars[k]=a at hx hS ih;generalize now.old[k]=b at hy hS ih;have Jv:aa T 27 (.ip ((ab now.av).drop 6)) 0=some (.ip ((ab now.av).drop 6)):=rfl;rw[FL7_0];cases hc:a.1 != b.1 with
  |true=>
   simp -implicitDefEqProofs only[L7_0,aH,aM,fm2,qY,fm6,Jv,C6,ao,dO,rZ,au,Pt,Ps h1,hx,hy,Hq,Hx,NR,hc,dZ,pJ,aB,cw,PF]
  | false=>
   cases hd:bg a.2&&bg b.2&&jT a.2 b.2 with
   |false=>
    rw[hd]at hS;simp -implicitDefEqProofs only[L7_0,aH,aM,fm2,qY,fm6,Jv,C6,ao,dO,rZ,au,Pt,Ps h1,hx,hy,Hq,Hx,Cg,Cv,NR,hc,bp,hS,dc,gp,Qe,aB,bS,PF]
   | true=>
    rw[hd]at hS;have hab:a=b:=by
     simp only[Po]at hd;simp at hc;exact Prod.ext hc ((oM _ _).1 hd.2)
    simp -implicitDefEqProofs only[L7_0,aH,aM,fm2,qY,fm6,Jv,C6,ao,dO,rZ,au,Pt,Ps h1,hx,hy,Hq,Hx,Cg,Cv,NR,hc,bp,hS,dc,gp,P3,aB,bS,Pr,PE,hadd,ih hab]
theorem t7(old now:Ap.Mod)(vars:List Val)(ho:old.Lim)(hn:now.Lim)(hl:vars.length<=140737488355328)(hv:∀v∈vars,v.Lim):ai pg 7 [old.av,now.av,vals vars]=M.pure (.bool true):=by
 obtain⟨b1,e1,q1⟩:=t9 old ho;obtain⟨b2,e2,q2⟩:=Ou now hn;obtain⟨b3,e3,q3⟩:=t10 vars hl hv;have hC:ai pg 38 [now.av,.sl []]=M.pure (mi (kY now [])):=OJ now hn [] (fun f hf=>by cases hf) (by simp);rw[C7,ib,ib,jk]
 have e:S7 (ai pg) aj old.av now.av (vals vars)=M.pure (.bool true):=by
  cases hb:(b1&&b2&&b3)with
  |false=>
   have hb':(!b1||!b2||!b3)=true:=by cases b1<;>cases b2<;>cases b3<;>simp_all
   simp -implicitDefEqProofs only[S7,l7,aB,uH,ao,e1,e2,e3,gp,nH,hb',au,PF]
  | true=>
   simp only[Po]at hb;have hb':(!b1||!b2||!b3)=false:=by rw[hb.1.1,hb.1.2,hb.2];rfl
   obtain⟨hN,hs⟩:=q2 hb.1.2;by_cases hz:(kY now []).2=0
   ·have hz':((kY now []).2 != 0)=false:=by simp[hz]
    have K:=JI hz;obtain⟨r1,r2⟩:=Kj now hN (fun e he=>(hs.1 e he).1) (by have:=K.ok.ilen;have:=K.ok.vlen;omega);have c4:((0:Int)== 0)=true:=rfl;have c6:((6:Int)== 0)=false:=rfl;have d2:((0:Int) != 0)=false:=rfl;have d3:((6:Int) != 0)=true:=rfl;have d4:((6:Int) != 6)=false:=rfl;have hend:(if(!now.moves||((now.old.length:Int) != (old.vars.length:Int)))=true then M.pure (AV.bool true)else aj (L7_0 (ai pg) aj) [vals vars,.ip (ab old.av),.ip (ab now.av),.bool true,.int .i64 0])=M.pure (.bool true):=by
     split
     ·rfl
     ·rename_i hq;simp only[Qn,Qr,QL,not_or,Q4,Decidable.not_not]at hq
      have:=HW old now vars (q1 hb.1.1) hN (q3 hb.2).2 K hs hq.1 (by omega) old.vars.length 0 rfl (P8 _) (by simp)
      simp only[Sw]at this;exact this
    have Jv:aa T 27 (.ip ((ab now.av).drop 6)) 0=some (.ip ((ab now.av).drop 6)):=rfl;rcases wV K (fun e he=>(hs.1 e he).2)with⟨vs,h,hm⟩|h
    ·have hF:=r1 vs h;have g:=t11 now.vars vs hn.vars hn.vty (iZ hm hN.vars).mem;rw[hm]at g;simp -implicitDefEqProofs only[S7,l7,aB,uH,ao,e1,e2,e3,gp,nH,hb',au,Pr,PE,hC,mi,aR,Pu,PM,xy,hz',hF,qw,c4,d2,dC,db,pJ,bp,cw,bS,fm2,qY,g,P3,fm5,Jm,fm6,Jv,C6,dO,On];exact hend
    ·have hF:=r2 6 h;simp -implicitDefEqProofs only[S7,l7,aB,uH,ao,e1,e2,e3,gp,nH,hb',au,Pr,PE,hC,mi,aR,Pu,PM,xy,hz',hF,qw,c6,d3,d4,dC,db,pJ,bp,cw,bS,fm2,qY,P3,fm5,Jm,fm6,Jv,C6,dO,On];exact hend
   ·have hz':((kY now []).2 != 0)=true:=by simpa using hz
    simp -implicitDefEqProofs only[S7,l7,aB,uH,ao,e1,e2,e3,gp,nH,hb',au,Pr,PE,hC,mi,aR,Pu,PM,xy,hz',PF]
 rw[e];exact lV _
end Go.Proofs.YtihmmkncokjbaaaGreatDoor
namespace Go.Proofs.YtihmmkncokjbaaaGreatDoor.stateTyped
open Go Go.Av Go.Av.Ap Go.ChangeShapes Go.WideShapes Go.ChangeAt Go.RowKit Go.Joins Go.Deep
set_option maxRecDepth 1000000
def kids:Kids Tryz.prog (· < Tryz.prog.types.size):=kids_rows (by kernel_rfl) (by kernel_rfl)
def yb:∀t e,t<Tryz.prog.types.size->Tryz.prog.underlying t=some (.slice e)->0<Tryz.prog.cellsOf e:=slices_full_of Tryz.prog (by kernel_rfl)
def ET(H:Type)(enc:TypeId×Value->H)(W:World)(base:Nat)(args:Array Value)(ds gs:List (DataW H))(before:List MemPlace)(hval:∀(j:Nat) t v,Tryz.f7.params[j]? = some t->args[j]? = some v->Value.okWide Tryz.prog W .any base t v)(hW:DataW.Whole enc Tryz.prog Tryz.f7.params.toList Rows.stateTypedSpec.vars false W args.toList ds gs before)(hz:(DataW.weightsEach Tryz.prog (Tryz.f7.params.toList++Rows.stateTypedSpec.plain.varTypes Tryz.prog) (ds++gs)).all (· <=reachBytes)=true)(hL:laidMetH Tryz.prog Rows.stateTypedRow.laid W)(hS:W.ShapedOpen Tryz.prog):
  Calls Tryz.prog 7 args W fun e W'=>∃v,e= .returned v/\Rows.stateTypedSpec.post enc Tryz.prog Tryz.f7 false true false false W args v W':=by
 have hW':=hW;obtain⟨p,q,hA0,hV,rfl,hfz,hnd⟩:=hW;have hA:DataW.TrodAll enc Tryz.prog W 0 (fun _=>true) true Tryz.f7.params.toList args.toList ds p:=hA0;have hA1:=hA;rw[Tryz.params7]at hA hval hz;obtain⟨v0,vs0,d0,ds0,p0,q0,ha0,rfl,rfl,h0,r0⟩:=trodAll_cons hA;obtain⟨v1,vs1,d1,ds1,p1,q1,ha1,rfl,rfl,h1,r1⟩:=trodAll_cons r0;obtain⟨v2,vs2,d2,ds2,p2,q2,ha2,rfl,rfl,h2,r2⟩:=trodAll_cons r1;obtain⟨hnil,rfl,rfl⟩:=trodAll_nil r2;subst hnil;subst ha2;subst ha1;obtain rfl:args= #[v0,v1,v2]:=by cases args;simp_all
 obtain⟨rfl,rfl⟩:=trodVars_none hV;obtain⟨x0,k0,o0⟩:=qi (fun N=>(F9 N).le (RP N)) (fun a=>rfl) Tryz.underlying29 (hval 0 29 v0 rfl rfl) h0 (mE hz (j:=0) rfl rfl);obtain⟨x1,k1,o1⟩:=qi (fun N=>(F9 N).le (RP N)) (fun a=>rfl) Tryz.underlying29 (hval 1 29 v1 rfl rfl) h1 (mE hz (j:=1) rfl rfl);obtain⟨x2,k2,o2⟩:=BL (fun N=>H8 N) Tryz.underlying30 (hval 2 30 v2 rfl rfl) h2 (mE hz (j:=2) rfl rfl);clear hA0;simp only[Qm]at hW' hA1;have hlt:=hW'.lt;have hv:bj (ma W) [] [x0.av,x1.av,vals x2] [v0,v1,v2]:=by
  simp only[bj];exact⟨_,_,rfl,k0,_,_,rfl,k1,_,_,rfl,k2,rfl⟩
 refine (Ct NK aF (Km hL hS) hv (by rw[t7 x0 x1 x2 o0 o1 o2.1 o2.2];rfl)).mono fun e W' ⟨he,hb⟩=>?_;subst he;exact⟨_,rfl,sr (pv:=[]) hW' (fun _ _ _=>trodAll_cons_mk (shut_bool Tryz.underlying4 _) trodAll_mk0) (fun sp hsp=>
   yG kids yb (by rw[Tryz.params7];decide +kernel) hA1 hlt hb sp hsp) (fun _ _=>rfl) (by simp)
  hb (ok_one (by kernel_rfl) rfl (okWide_bool_mk Tryz.underlying4 _))⟩
def reads(os:Os){H:Type}(enc:TypeId×Value->H):∃ds places,DataW.whole enc Tryz.prog ((ot os).forCall (fun _ _=>0) ⟨#[],#[.agg #[.string ⟨#[]⟩,.slice none 0 0,.slice none 0 0,.slice none 0 0,.slice none 0 0,.bool false,.slice none 0 0,.slice none 0 0,.slice none 0 0],.agg #[.string ⟨#[]⟩,.slice none 0 0,.slice none 0 0,.slice none 0 0,.slice none 0 0,.bool false,.slice none 0 0,.slice none 0 0,.slice none 0 0],.slice none 0 0],[]⟩).memory Tryz.f7.params.toList Rows.stateTypedSpec.vars false #[.agg #[.string ⟨#[]⟩,.slice none 0 0,.slice none 0 0,.slice none 0 0,.slice none 0 0,.bool false,.slice none 0 0,.slice none 0 0,.slice none 0 0],.agg #[.string ⟨#[]⟩,.slice none 0 0,.slice none 0 0,.slice none 0 0,.slice none 0 0,.bool false,.slice none 0 0,.slice none 0 0,.slice none 0 0],.slice none 0 0].toList 8=some (ds,[],places):=
 ⟨[.agg [.lit (.string []),.nil,.nil,.nil,.nil,.lit (.bool false),.agg [.nil,.nil,.nil]],.agg [.lit (.string []),.nil,.nil,.nil,.nil,.lit (.bool false),.agg [.nil,.nil,.nil]],.nil],[],by kernel_rfl⟩
def lifted(os:Os)(started:os.Started)(H:Type)(enc:TypeId×Value->H)(F:Stop.Interp):
  ReturnsInHanded {} Tryz.checked os 7 .any ((OpenSpec.ofChange Rows.stateTypedSpec).preRow enc Tryz.prog Tryz.f7 Rows.stateTypedRow.domain false Rows.stateTypedRow.laid) (((OpenSpec.ofChange Rows.stateTypedSpec).at F).post enc Tryz.prog Tryz.f7 false true false false):=by
 obtain⟨ds,places,hx⟩:=reads os enc;refine returnsInHanded_of_row (C:=Tryz.checked) (s:=OpenSpec.ofChange Rows.stateTypedSpec) NS started (by kernel_rfl) Tryz.func7
  (witness_row_atRef (enc:=enc) (C:=Tryz.checked) false (ot os) #[.agg #[.string ⟨#[]⟩,.slice none 0 0,.slice none 0 0,.slice none 0 0,.slice none 0 0,.bool false,.slice none 0 0,.slice none 0 0,.slice none 0 0],.agg #[.string ⟨#[]⟩,.slice none 0 0,.slice none 0 0,.slice none 0 0,.slice none 0 0,.bool false,.slice none 0 0,.slice none 0 0,.slice none 0 0],.slice none 0 0] rfl (by kernel_rfl) (by kernel_rfl) (by kernel_rfl)
   (OpenSpec.preRow_of_cond 8 hx (by kernel_rfl) (fun k hk=>by cases hk) (by kernel_rfl) (Fx os _))) ?_
 intro W base args ds gs before hval hW _ _ hz hL hS _;exact ET H enc W base args ds gs before hval hW hz hL hS
end Go.Proofs.YtihmmkncokjbaaaGreatDoor.stateTyped
