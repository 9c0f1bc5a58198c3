/- What the functions compute, part 10. Conditions: bounds. -/
import Derived.Test.YtbndmpiddinalacGreatDoorTi
import Derived.Lib.SmallJoins
set_option linter.defProp false
set_option linter.unusedSimpArgs false
set_option linter.unusedVariables false
namespace Go.Proofs.YtbndmpiddinalacGreatDoor
open Go Go.Av Go.Av.Ap
set_option maxRecDepth 100000
def WL(m:Mod):ax T 53 (.ip (aa m.av))=some m.av:=Z8
def t72(p:List Mod)(hp:p.length<=1099511627776):af pg 72 [mods p]=ao (.int .i64 (jR p)):=by
 let D:Nat->Bool:=fun i=>(p.take i).any fun m=>m.name== (p[i]?.getD default).name;have hloop:∀(n k:Nat),p.length-k=n->k<=p.length->ak (L72_0 (af pg) ak) [mods p,mods p,.int .i64 p.length,.int .i64 k]=ao (.int .i64 (if(List.range' k n).any D=true then 5 else 0)):=by
  intro n
  induction n with
  |zero=>
   intro k hk hl;obtain rfl:k=p.length:=Z5
   rw[FL72_0];simp[L72_0]
  | succ n ih=>
   intro k hk hl;have h1:(k:Int)<(p.length:Int):=Z5
   have hlt:k<p.length:=Z5
   have hi:=EI (l:=p) (n:=(k:Int)) Z5 h1;rw[show ((k:Int)).toNat=k by omega,XN p k hlt]at hi;have hs:dc T 22 (mods p) none (some (.int .i64 k)) none=some (mods (p.take k)):=by
    have:=F7 (T:=T) (t:=22) (e:=53) rfl rfl rfl (p.map Mod.av) (n:=(k:Int)) Z5 WD
    simpa [mods,List.map_take]using this
   have ha:=t129 (.fn (.func 130) [] [.ip (aa p[k].av)]) (fun m=>m.name== p[k].name) (p.take k) WD (fun g=>by simp[cl,fk]) (fun m _=>t130 m p[k]);have hD:D k=((p.take k).any fun m=>m.name== p[k].name):=by simp only[D,XW hlt,Y2]
   have hw:IntKind.i64.wrap ((k:Int)+1)=((k+1:Nat):Int):=aR Z5;rw[FL72_0];simp -implicitDefEqProofs only[L72_0,am,au,aB,ae,ai,h1,X8,XS,hi,WL,bc (qg _),aj,aK,hs,ha,bm,hw]
   grind [List.range']
 rw[C72,lh];have h0:=hloop p.length 0 Z5 Z5;have ht:vA p=(List.range' 0 p.length).any D:=by
  unfold vA;rw[ZE]
 have hS:S72 (af pg) ak (mods p)=ao (.int .i64 (jR p)):=by
  unfold jR;rw[ht];by_cases h20:20<p.length
  ·have h20':(20:Int)<(p.length:Int):=Z5
   simp_all[S72]
  ·have:¬((20:Int)<(p.length:Int)):=Z5
   simp only[h20,XO];simp -implicitDefEqProofs only[S72,Gr,ae,dO,ai,this,Y4,XH,XO];exact h0
 simp_all
def mI:Except Int (List Vars)->AV
 |.ok st=>.tup [bn st,.int .i64 0]
 |.error e=>.tup [.sl [],.int .i64 e]
def G7{e:Exp}{ns:List ba}{vs:List Val}{c:Int}{s:Ms}(h:yl e ns vs= .er c s):c≠0:=by
 grind [yl,zV]
theorem Ag(outer:List AV->M AV)(p:List Mod)(out:List Vars)(i:AV)(nm:ba)(es:List Exp)(hes:∀e∈es,bX e)(hlen:es.length<=274877906944)(hout:out.length<=1099511627776):∀(B A:List Exp)(acc:List Val)(k:Int),A++B=es->acc.length=A.length->i= .int .i64 k->-4611686018427387904<=k->k<=4611686018427387904->
  ak (L28_0 (af pg) ak outer) [bn out,mods p,.int .i64 p.length,i,dn es,.int .i64 es.length,.int .i64 A.length,.str nm,vals acc]=
  match oM B with
  |.error c=>ao (.tup [.sl [],.int .i64 c])
  |.ok vs=>outer [bn (out++[⟨nm,acc++vs⟩]),mods p,.int .i64 p.length,.int .i64 (k+1)]
 |[],A,acc,k,e,hac,hi,hk1,hk2=>by
  simp only[X9]at e;subst e;subst hi;have hb:aM T 23 1 [(0,.agg [.str nm,vals acc])]=some (bn [⟨nm,acc⟩]):=rfl;have ha:dH T 23 (bn out) (bn [⟨nm,acc⟩])=some (bn (out++[⟨nm,acc⟩])):=TC WD;have hw:IntKind.i64.wrap (k+1)=k+1:=aW Z5 Z5;rw[FL28_0];simp_all[L28_0,oM]
 | x:: B,A,acc,k,e,hac,hi,hk1,hk2=>by
  have hll:A.length+(B.length+1)=es.length:=by rw[<- e];simp
  have h1:(A.length:Int)<(es.length:Int):=Z5
  have hx:es[A.length]'(Z5)=x:=by subst e;simp
  have hm:x∈es:=by rw[<- e];simp
  have hix:=nf (l:=es) (n:=(A.length:Int)) Z5 h1;rw[show ((A.length:Int)).toNat=A.length by omega,XN es A.length Z5,hx]at hix;have hex:ax T 121 (.ip (aa x.av))=some x.av:=Z8
  have hx1:∀e:Exp,AV.agg (aa e.av)=e.av:=fun _=>rfl;have hcall:=t73 x [] [] (hes x hm) Z8 (by simp[de]);have hcall':af pg 73 [x.av,.sl [],.sl []]=ao (nN (yl x [] [])):=hcall;have hw:IntKind.i64.wrap ((A.length:Int)+1)=((A.length+1:Nat):Int):=aR Z5;have hne:∀a b:Int,cB T .neq 26 (.int .i64 a) (.int .i64 b)=some (.bool (a != b)):=fun _ _=>rfl;rw[FL28_0];simp -implicitDefEqProofs only[L28_0,am,au,aB,ae,ai,h1,X8,XS,hix,hex,bc (qe x),aj,hx1,hcall'];unfold oM;cases hr:yl x [] []with
  | er c s=>
   have hc0:(c != 0)=true:=by
    have:=G7 hr
    simpa using this
   simp_all[nN]
  |ok v s=>
   have hb2:aM T 28 1 [(0,v.av)]=some (vals [v]):=by rw[v.av_eq];simp[vals,d5,v.av_eq];rfl
   have ha2:dH T 28 (vals acc) (vals [v])=some (vals (acc++[v])):=EH WD;have hc1:fW (vals (acc++[v]))=ao (vals (acc++[v])):=rfl;have hvv:∀v:Val,AV.agg (aa v.av)=v.av:=fun v=>Z8
   have h00:((0:Int) != 0)=false:=rfl;have hvl:ax T 30 (.ip (aa v.av))=some v.av:=Z8
   have ih:=Ag outer p out i nm es hes hlen hout B (A++[x]) (acc++[v]) k Z7 (by simp[hac]) hi hk1 hk2;simp only[Yz,List.singleton_append,X1,List.length_singleton]at ih;simp -implicitDefEqProofs only[nN,eN,List.getElem?_cons_zero,Yv,ae,bc (d3 v),aj,hne,h00,ai,XH,XO,hvv,hvl,hb2,ha2,hc1,bm,hw,ih]
   grind
theorem t28(p:List Mod)(hp:p.length<=1099511627776)(hm:∀m∈p,m.vars.length<=1099511627776/\m.init.length<=274877906944/\∀e∈m.init,bX e):af pg 28 [mods p]=ao (mI (lD p)):=by
 have hloop:∀(B A:List Mod)(out:List Vars),A++B=p->out.length=A.length->ak (L28_1 (af pg) ak) [bn out,mods p,.int .i64 p.length,.int .i64 A.length]=
   ao (match lC B with|.error c=>.tup [.sl [],.int .i64 c]|.ok r=>.tup [bn (out++r),.int .i64 0]):=by
  intro B
  induction B with
  |nil=>
   simp_all[FL28_1,L28_1,lC]
  | cons x B ih=>
   intro A out e ho;have hll:A.length+(B.length+1)=p.length:=by rw[<- e];simp
   have h1:(A.length:Int)<(p.length:Int):=Z5
   have hx:p[A.length]'(Z5)=x:=by subst e;simp
   have hmm:x∈p:=by rw[<- e];simp
   obtain⟨m1,m2,m3⟩:=hm x hmm;have hix:=EI (l:=p) (n:=(A.length:Int)) Z5 h1;rw[show ((A.length:Int)).toNat=A.length by omega,XN p A.length Z5,hx]at hix;have hB:cH T true 58 [(0,.str x.name)]=some (.agg [.str x.name,.hn]):=rfl;have hC:bH 2 [1] (.agg [.str x.name,.hn])=ao (.agg [.str x.name,.hn]):=rfl;have hin:=Ag (ak (L28_1 (af pg) ak)) p out (.int .i64 A.length) x.name x.init m3 m2 Z5 x.init [] [] A.length rfl rfl rfl Z5 Z5;rw[FL28_1];simp -implicitDefEqProofs only[L28_1,am,au,aB,ae,ai,h1,X8,XS,hix,WL,bc (qg x),aj,aK];simp -implicitDefEqProofs only[am,au,ae,ai,aj,aK,eY,FA53_0,FA53_2,FA53_3,X3,X0,LD9,LD48,LD47,oV,mh,hB,hC,gC];unfold lC;by_cases hl:x.init.length=x.vars.length
   ·have hl':((x.init.length:Int) != (x.vars.length:Int))=false:=by simp[hl]
    simp only[hl',XH,XO,XK hl];have hz:((([]:List Exp).length:Nat):Int)=0:=rfl;rw[hz]at hin;have hv0:vals []= .sl []:=rfl;rw[hv0]at hin;rw[hin];cases oM x.init with
    |error c=>rfl
    |ok vs=>
     have:=ih (A++[x]) (out++[⟨x.name,vs⟩]) Z7 (by simp[ho])
     simp only[X1,List.length_singleton]at this
     grind
   grind
 have h0:=hloop p [] [] rfl rfl;have hne:∀a b:Int,cB T .neq 26 (.int .i64 a) (.int .i64 b)=some (.bool (a != b)):=fun _ _=>rfl;have hS:S28 (af pg) ak (mods p)=ao (mI (lD p)):=by
  unfold lD;by_cases hn:jR p=0
  ·have hn':(jR p != 0)=false:=by simp[hn]
   simp -implicitDefEqProofs only[S28,t72 p hp,aj,hne,ae,hn',ai,XH,XO,Gr];rw[XK hn];simp only[Yk,Ye]at h0;have:bn []= .sl []:=rfl;rw[this]at h0;have hz:((0:Nat):Int)=0:=rfl;rw[hz]at h0;rw[h0];cases lC p<;>rfl
  ·have hn':(jR p != 0)=true:=by simp[hn]
   simp -implicitDefEqProofs only[S28,t72 p hp,aj,hne,ae,hn',ai,XS];rw[XG hn];rfl
 rw[C28,lh,hS];exact dB fun g=>by
  cases lD p with
  |error e=>rfl
  |ok st=>simp[mI,cl,fk]
def ji(p:List Ap.Mod)(s t:ba)(args:List Val)(w:List Int):Proc×Int:=match iN p s t args w with
 |.ok q=>(q,0)
 |.error e=>(p0,e)
theorem Xc(x:Fnc):ax T 93 (.ip (aa x.av))=some x.av:=rfl
theorem t12(p:List Ap.Mod)(s t:ba)(args:List Val)(w:List Int)(hL:∀m∈p,m.Lim)(hc:∀m∈p,∀f∈m.funcs,dL 12 f.body<=1000)(ha:args.length<=1000000/\∀v∈args,v.sz<=4611686018427387904)(hw:w.length<=1000000):
  af pg 12 [mods p,.str s,.str t,vals args,ints w]=ao (.tup [(ji p s t args w).1.av,.int .i64 (ji p s t args w).2]):=by
 have hld:=t27 [] hL hc;rw[C12,show cl aF (mods p)=mods p by simp,show cl aF (.str s)= .str s from rfl,show cl aF (.str t)= .str t from rfl,show cl aF (vals args)=vals args by simp,show cl aF (ints w)=ints w by simp];have zp:=iB;have zc:=kU;have nee:∀a b:Int,cB T .neq 26 (.int .i64 a) (.int .i64 b)=some (.bool (a != b)):=fun a b=>rfl;have bad:∀(h:Hp)(e:Int){m:M AV},m []= .ok (.tup [p0.av,.int .i64 e]) h->bj m=ao (.tup [p0.av,.int .i64 e]):=fun h e m hm=>fZ hm rfl;by_cases hl:jw p=0
 ·have g1:af pg 27 [mods p] []= .ok (.tup [.hp 2 0,.int .i64 0]) (hY [] [.tup (bo p 0)] [.tup (cu (aY 0 p))] (lI p 0)):=hld.1 hl;obtain⟨P,hnd,hho,hrm⟩:=p7 hl hc;have hnl:¬jw p≠0:=Z5
  have h20:=P.len;have hfr:=t28 p Z5 (fun m hm=>by
   have K:=uJ (hrm m hm);have h1:=K.vlen;have h2:=K.ilen;exact⟨Z5,Z5,fun e he=>pO 12 e (K.init e he) ((hL m hm).ies e he)⟩)
  have ne0:((0:Int) != 0)=false:=rfl;cases hf:lD p with
  | error e=>
   rw[hf]at hfr;have he:e≠0:=Ct hf;have hne:(e != 0)=true:=by simpa using he
   have hs:ji p s t args w=(p0,e):=by
    unfold ji iN;rw[XG hnl,hf]
   rw[hs];refine bad (hY [] [.tup (bo p 0)] [.tup (cu (aY 0 p))] (lI p 0)) e ?_;rw[S12,ap g1];simp -implicitDefEqProofs only[wO,wP,ae,nee,ne0,ai,XH,XO,hfr,mI,aj,hne,XS,zp,zc];rfl
  | ok st=>
   rw[hf]at hfr;have MO:MapOk T 70 71 ⟨2,0,1,[.tup (bo p 0)],[.tup (cu (aY 0 p))]⟩ p:=map_ok rfl rfl hnd hho;have g2:bg T 71 (.hp 2 (0+14)) (hY [] [.tup (bo p 0)] [.tup (cu (aY 0 p))] (lI p 0))= .ok (.mp 1) (hY [] [.tup (bo p 0)] [.tup (cu (aY 0 p))] (lI p 0)):=bT rfl rfl rfl rfl;have g3:=MO.fn (hY [] [.tup (bo p 0)] [.tup (cu (aY 0 p))] (lI p 0)) rfl s t;cases hx:fj p s t with
   | none=>
    rw[hx]at g3;have hs:ji p s t args w=(p0,4):=by
     unfold ji iN;rw[XG hnl,hf];simp only[hx]
    rw[hs];have c1:ct 7 (kK none)=ao (.agg (aa (kK none))):=bc rfl;refine bad (hY [] [.tup (bo p 0)] [.tup (cu (aY 0 p))] (lI p 0)) 4 ?_;rw[S12,ap g1];simp -implicitDefEqProofs only[wO,wP,ae,nee,ne0,ai,XH,XO,hfr,mI,aj,aJ,FH73_2];rw[ap g2,ww,ae,ap g3];simp -implicitDefEqProofs only[wO,wP,ae,c1,aj,Zt,aT,Yi,ai,XS,zp,zc];rfl
   | some x=>
    rw[hx]at g3;have F:=lz hx;have cb:=P.code _ _ _ hx;have g3':d8 T 71 (.mp 1) (.agg [.str s,.str t]) true (hY [] [.tup (bo p 0)] [.tup (cu (aY 0 p))] (lI p 0))= .ok (.tup [x.av,.bool true]) (hY [] [.tup (bo p 0)] [.tup (cu (aY 0 p))] (lI p 0)):=g3;have r1:=t29 args x.cod.params Z7 ha.2;cases hr:fp args x.cod.params with
    | false=>
     rw[hr]at r1;have hs:ji p s t args w=(p0,13):=by
      unfold ji iN;rw[XG hnl,hf];simp only[hx,hr,XH,XO]
     rw[hs];refine bad (hY [] [.tup (bo p 0)] [.tup (cu (aY 0 p))] (lI p 0)) 13 ?_;rw[S12,ap g1];simp -implicitDefEqProofs only[wO,wP,ae,nee,ne0,ai,XH,XO,hfr,mI,aj,aJ,FH73_2];rw[ap g2,ww,ae,ap g3'];simp -implicitDefEqProofs only[wO,wP,ae,cX,aj,aT,XZ,ai,XH,XO,aK,fX2,NQ,Ob,r1,Yi,XS,zp,zc];rfl
    | true=>
     rw[hr]at r1;have hs:ji p s t args w=(Gl ⟨p,st,[],w,⟨0,default,[],[],[]⟩,false⟩ [] s x args,0):=by
      unfold ji iN;rw[XG hnl,hf];simp only[hx,hr,XS]
     rw[hs];have s1:bN T 23 (.hp 2 (0+0+1)) (bn st) (hY [] [.tup (bo p 0)] [.tup (cu (aY 0 p))] (lI p 0))= .ok (.tup []) (hY [] [.tup (bo p 0)] [.tup (cu (aY 0 p))] [mods p,bn st,.hn,.hn,.int .i64 0,.int .i64 0,.int .i64 0,.hn,.hn,.hn,.hn,.hn,.bool false,.mp 0,.mp 1]):=by
      rw[bU (T:=T) (t:=23) rfl (show (hY [] [.tup (bo p 0)] [.tup (cu (aY 0 p))] (lI p 0))[2]? = some (lI p 0)from rfl) rfl (by show (_:Nat)<=15;decide) Z6];rfl
     have s2:bN T 25 (.hp 2 (0+0+3)) (ints w) (hY [] [.tup (bo p 0)] [.tup (cu (aY 0 p))] [mods p,bn st,.hn,.hn,.int .i64 0,.int .i64 0,.int .i64 0,.hn,.hn,.hn,.hn,.hn,.bool false,.mp 0,.mp 1])= .ok (.tup []) (hY [] [.tup (bo p 0)] [.tup (cu (aY 0 p))] [mods p,bn st,.hn,ints w,.int .i64 0,.int .i64 0,.int .i64 0,.hn,.hn,.hn,.hn,.hn,.bool false,.mp 0,.mp 1]):=by
      rw[bU (T:=T) (t:=25) rfl (show (hY [] [.tup (bo p 0)] [.tup (cu (aY 0 p))] [mods p,bn st,.hn,.hn,.int .i64 0,.int .i64 0,.int .i64 0,.hn,.hn,.hn,.hn,.hn,.bool false,.mp 0,.mp 1])[2]? = some [mods p,bn st,.hn,.hn,.int .i64 0,.int .i64 0,.int .i64 0,.hn,.hn,.hn,.hn,.hn,.bool false,.mp 0,.mp 1]from rfl) rfl Z7 Z6];rfl
     let L:MLay:=⟨2,0,1,[.tup (bo p 0)],[.tup (cu (aY 0 p))]⟩;let q:Proc:=⟨p,st,[],w,⟨0,default,[],[],[]⟩,false⟩;have R0:MRG Xl L (fun r=>if r=2 then 0 else 1) (bn st) .hn .hn .hn [.int .i64 0,.int .i64 0,.hn,.hn] q (hY [] [.tup (bo p 0)] [.tup (cu (aY 0 p))] [mods p,bn st,.hn,ints w,.int .i64 0,.int .i64 0,.int .i64 0,.hn,.hn,.hn,.hn,.hn,.bool false,.mp 0,.mp 1]):=
      ⟨rfl,rfl,rfl,rfl,rfl,rfl,rfl,.inl ⟨rfl,.inl rfl,rfl⟩,.inl ⟨rfl,.inl rfl,rfl⟩,.inl ⟨rfl,.inl rfl,rfl⟩,.inr ⟨rfl,rfl⟩,rfl⟩
     obtain⟨h2,tag2,av,e2,K2,V2⟩:=mA (T:=T) (t:=28) (e:=30) rfl rfl rfl rfl rfl Z6 (af pg) (fun r=>if r=2 then 0 else 1) (hY [] [.tup (bo p 0)] [.tup (cu (aY 0 p))] [mods p,bn st,.hn,ints w,.int .i64 0,.int .i64 0,.int .i64 0,.hn,.hn,.hn,.hn,.hn,.bool false,.mp 0,.mp 1]) args (X4 (XR _ ha.1) Z6) 11;have R2:=R0.keep K2 (fun k hk=>hk.elim);obtain⟨h3,e3,tag3,fv3,dv3,cv3,vc3,R3⟩:=t31 R2 s x V2 Z7 cb.2 ha.1 Z7;have Q3:=R3.pr (tA (qU 5 h3) st) rfl;have g4:bg T 36 (.hp 2 (0+0)) h3= .ok (.agg ((fF L (Gl q [] s x args) (bn st) fv3 dv3 cv3 vc3).take 13)) h3:=Q3.load rfl rfl rfl;obtain⟨cn,c0,c1,c2,c3,c4,c5,c6,c7,c8,c9,c10,c11,c12,hcs⟩:=Q3.cells;refine fZ (a:=.tup [.agg ((fF L (Gl q [] s x args) (bn st) fv3 dv3 cv3 vc3).take 13),.int .i64 0]) (h':=h3) ?_ (Q3.tup 0);rw[S12,ap g1];simp -implicitDefEqProofs only[wO,wP,ae,nee,ne0,ai,XH,XO,hfr,mI,aj,aJ,FH73_2];rw[ap g2,ww,ae,ap g3'];simp -implicitDefEqProofs only[wO,wP,ae,cX,aj,aT,XZ,ai,XH,XO,aK,fX2,NQ,Ob,r1,Q6 w hw,aJ,FH73_0,FH36_1,FH36_3,Xc];rw[ap s1,ap s2,ap ((xN _ _).trans e2),ap e3,ap g4,cn,aj,aK,hcs];rfl
 ·obtain⟨h',g1⟩:=hld.2 hl;have hs:ji p s t args w=(p0,jw p):=by
   unfold ji iN;rw[XK hl]
  rw[hs];have hne:(jw p != 0)=true:=by simpa using hl
  refine bad h' (jw p) ?_;rw[S12,ap g1];simp -implicitDefEqProofs only[wO,wP,ae,nee,hne,ai,XS,zp,zc,aj];rfl
def gS{F:(List AV->M AV)->List AV->M AV}(hF:∀vs,ak F vs=F (ak F) vs)(st:Nat->List AV)(n:Nat)(hend:F (ak F) (st n)=ao (.bool true))(hstep:∀k,k<n->F (ak F) (st k)=ak F (st (k+1))):ak F (st 0)=ao (.bool true):=by
 have h:=pS hF st n (fun _=>true) hend (fun k hk=>Z7) 0 (X2 _)
 grind
@[simp] theorem ou(t:Nat)(a b:ba):cB T .neq t (.str a) (.str b)=some (.bool !(a== b)):=rfl
def t48(l:List ba)(hb:l.length<=4611686018427387904):af pg 48 [strs l,strs l]=ao (.bool true):=by
 have h:=gS (FL48_0 (af pg)) (fun k=>[strs l,strs l,.int .i64 (k:Int)]) l.length (by simp[L48_0]) (fun k hk=>by
  have h1:(k:Int)<(l.length:Int):=Z5
  have hix:=oU (l:=l) (n:=(k:Int)) Z5 h1;have hw:IntKind.i64.wrap ((k:Int)+1)=((k+1:Nat):Int):=aR Z5;simp only[L48_0,am,au,g9,ae,aB,h1,X8,ai,XS,hix,mj,LD9,ou,Yf,XZ,XH,XO,bm,hw])
 have h':ak (L48_0 (af pg) ak) [strs l,strs l,.int .i64 0]=ao (.bool true):=h;rw[C48];simp[S48,h']
def t47(l:List Exp)(hb:l.length<=4611686018427387904)(hk:∀e∈l,af pg 104 [e.av,e.av]=ao (.bool true)):af pg 47 [dn l,dn l]=ao (.bool true):=by
 have h:=gS (FL47_0 (af pg)) (fun k=>[dn l,dn l,.int .i64 (k:Int)]) l.length (by simp[L47_0]) (fun k hk'=>by
  have h1:(k:Int)<(l.length:Int):=Z5
  have hix:=nf (l:=l) (n:=(k:Int)) Z5 h1;rw[XP,XN l k hk']at hix;have hm:=hk _ (XU hk');have hw:IntKind.i64.wrap ((k:Int)+1)=((k+1:Nat):Int):=aR Z5;generalize l[k]=e at hix hm;simp only[L47_0,am,au,oV,ae,aB,h1,X8,ai,XS,hix,cr,LD121,Yb,Yk,XX,Nat.reduceAdd,XM,Yr,Yq,kL,hm,da,aj,aT,XZ,XH,XO,bm,hw])
 have h':ak (L47_0 (af pg) ak) [dn l,dn l,.int .i64 0]=ao (.bool true):=h;rw[C47];simp[S47,h']
def G9{e:Exp}{x:Exp}(h:x∈e.args):SizeOf.sizeOf x<SizeOf.sizeOf e:=by
 cases e with
 |mk o n s m ns es=>
  have:=Y7 (show x∈es from h)
  grind
def t104:∀(n:Nat)(e:Exp),SizeOf.sizeOf e<=n->e.Lim->af pg 104 [e.av,e.av]=ao (.bool true):=by
 intro n
 induction n with
 |zero=>intro e h;cases e;simp at h
 |succ n ih=>
  intro e hs he;have h1:=t48 e.names (by have:=he.names;omega);have h2:=t47 e.args (by have:=he.len;omega) (fun x hx=>ih x (by have:=G9 hx;omega) (he.kid hx));rw[C104];simp[S104,h1,h2]
def t46(l:List fu)(hb:l.length<=4611686018427387904)(hk:∀f∈l,af pg 103 [f.2.av,f.2.av]=ao (.bool true)):af pg 46 [ca l,ca l]=ao (.bool true):=by
 have h:=gS (FL46_0 (af pg)) (fun k=>[ca l,ca l,.int .i64 (k:Int)]) l.length (by simp[L46_0]) (fun k hk'=>by
  have h1:(k:Int)<(l.length:Int):=Z5
  have hix:=vJ (l:=l) (n:=(k:Int)) Z5 h1;rw[XP,XN l k hk']at hix;have hm:=hk _ (XU hk');have hw:IntKind.i64.wrap ((k:Int)+1)=((k+1:Nat):Int):=aR Z5;generalize l[k]=f at hix hm;simp only[L46_0,am,au,mh,ae,aB,h1,X8,ai,XS,hix,kC,FA143_0,FA143_1,X0,X3,LD9,ou,Yf,XZ,aS,LD119,Yb,Yk,XX,Nat.reduceAdd,XM,Yr,Yq,yp,hm,da,aj,aT,bD,XH,XO,bm,hw])
 have h':ak (L46_0 (af pg) ak) [ca l,ca l,.int .i64 0]=ao (.bool true):=h;rw[C46];simp[S46,h']
def KT{t:Ty}{f:fu}(h:f∈t.fields):SizeOf.sizeOf f.2<SizeOf.sizeOf t:=by
 cases t with
 |mk k fs=>
  have h1:=Y7 (show f∈fs from h)
  grind
def t103:∀(n:Nat)(t:Ty),SizeOf.sizeOf t<=n->t.Lim->af pg 103 [t.av,t.av]=ao (.bool true):=by
 intro n
 induction n with
 |zero=>intro t h;cases t;simp at h
 |succ n ih=>
  intro t hs ht;have h2:=t46 t.fields (by have:=ht.len;omega) (fun f hf=>ih f.2 (by have:=KT hf;omega) (ht.kid hf));rw[C103];simp[S103,h2]
theorem t45(f:Fun)(hf:f.Lim):af pg 45 [f.av,f.av]=ao (.bool true):=by
 have h1:=t46 f.params (by have:=hf.params;omega) (fun x hx=>t103 _ x.2 (XM _) (hf.pty x hx));have h2:=t103 _ f.result (XM _) hf.result;have h3:=t104 _ f.body (XM _) hf.body;have hb:cB T .eql 4 (.bool f.pub) (.bool f.pub)=some (.bool (f.pub== f.pub)):=rfl;rw[C45];simp[S45,h1,h2,h3,hb]
theorem t22(m:Mod)(h:m.Lim):af pg 22 [m.av,m.av]=ao (.bool true):=by
 have hfl:=h.funcs;have s1:=t48 m.uses (by have:=h.uses;omega);have s2:=t46 m.vars (by have:=h.vars;omega) (fun x hx=>t103 _ x.2 (XM _) (h.vty x hx));have s3:=t47 m.init (by have:=h.init;omega) (fun x hx=>t104 _ x (XM _) (h.ies x hx));have s4:=t46 m.old (by have:=h.old;omega) (fun x hx=>t103 _ x.2 (XM _) (h.oty x hx));have s5:=t47 m.forward (by have:=h.forward;omega) (fun x hx=>t104 _ x (XM _) (h.fes x hx));have s6:=t47 m.back (by have:=h.back;omega) (fun x hx=>t104 _ x (XM _) (h.bes x hx));have hb:cB T .eql 4 (.bool m.moves) (.bool m.moves)=some (.bool (m.moves== m.moves)):=rfl;have hl:=gS (FL22_0 (af pg)) (fun k=>[.ip (aa m.av),.ip (aa m.av),.int .i64 (k:Int)]) m.funcs.length (by simp_all[L22_0]) (fun k hk'=>by
  have h1:(k:Int)<(m.funcs.length:Int):=Z5
  have hix:=BE (l:=m.funcs) (n:=(k:Int)) Z5 h1;rw[XP,XN m.funcs k hk']at hix;have hm:=t45 m.funcs[k] (h.fns _ (XU hk'));have hw:IntKind.i64.wrap ((k:Int)+1)=((k+1:Nat):Int):=aR Z5;generalize m.funcs[k]=f at hix hm;simp only[L22_0,am,au,eY,FA53_4,ae,X3,X0,LD49,BF,aB,h1,X8,ai,XS,hix,kD,LD123,Yb,Yk,XX,Nat.reduceAdd,XM,Yr,Yq,Ac,hm,da,aj,aT,XZ,XH,XO,bm,hw])
 have h':ak (L22_0 (af pg) ak) [.ip (aa m.av),.ip (aa m.av),.int .i64 0]=ao (.bool true):=hl;simp_all[C22,S22]
theorem pI{α:Type}[BEq α][LawfulBEq α]:∀(a b:List α),iW (fun x y=>x== y) a b=(a== b)
 |[],[]=>rfl
 |[],_:: _=>rfl
 |_:: _,[]=>rfl
 |x:: a,y:: b=>by
  simp only[iW,pI a b];rfl
def Xp(a b:List ba)(hb:a.length<=4611686018427387904):af pg 48 [strs a,strs b]=ao (.bool (a== b)):=by
 have la:∀l:List ba,bu T 27 (strs l)=some (.int .i64 l.length):=fun l=>g9 _;rw[C48,show cl aF (strs a)=strs a by simp,show cl aF (strs b)=strs b by simp];by_cases h:a.length=b.length
 ·have h0:((a.length:Int) != (b.length:Int))=false:=by simp[h]
  have hh:=pS (FL48_0 (af pg)) (fun k=>[strs a,strs b,.int .i64 (k:Int)]) a.length (fun k=>a[k]! == b[k]!) (by
   simp_all[L48_0]) (fun k hk=>by
   have h1:(k:Int)<(a.length:Int):=Z5
   have i1:=oU (l:=a) (n:=(k:Int)) Z5 h1;have i2:=oU (l:=b) (n:=(k:Int)) Z5 Z5;rw[XP]at i1 i2;have hw:IntKind.i64.wrap ((k:Int)+1)=((k+1:Nat):Int):=aR Z5;simp_all[L48_0]) 0 (X2 _)
  have hh':ak (L48_0 (af pg) ak) [strs a,strs b,.int .i64 0]=_:=hh;rw[Zl,mm (fun x y:ba=>x== y) a b h,pI]at hh';simp_all[S48]
 ·have h0:((a.length:Int) != (b.length:Int))=true:=by simp;omega
  have h2:(a== b)=false:=by
   rw[Zc];intro hh;exact h (by rw[hh])
  rw[h2];simp_all[S48]
def V5(v:Val):ax T 30 (.ip (aa v.av))=some v.av:=by cases v;rfl
def Lt(a b:List Val)(hb:a.length<=4611686018427387904)(hf:∀x∈a,∀y∈b,af pg 33 [x.av,y.av]=ao (.bool (kR x y))):af pg 15 [vals a,vals b]=ao (.bool (iW kR a b)):=by
 have la:∀l:List Val,bu T 28 (vals l)=some (.int .i64 l.length):=fun l=>qE _;rw[C15,show cl aF (vals a)=vals a by simp,show cl aF (vals b)=vals b by simp];by_cases h:a.length=b.length
 ·have h0:((a.length:Int) != (b.length:Int))=false:=by simp[h]
  have hh:=pS (FL15_0 (af pg)) (fun k=>[vals a,vals b,.int .i64 (k:Int)]) a.length (fun k=>kR a[k]! b[k]!) (by
   simp_all[L15_0]) (fun k hk=>by
   have h1:(k:Int)<(a.length:Int):=Z5
   have i1:=ta (l:=a) (n:=(k:Int)) Z5 h1;have i2:=ta (l:=b) (n:=(k:Int)) Z5 Z5;rw[XP]at i1 i2;have hw:IntKind.i64.wrap ((k:Int)+1)=((k+1:Nat):Int):=aR Z5;have m1:a[k]! ∈a:=nE hk;have m2:b[k]! ∈b:=nE Z5;have f1:=hf _ m1 _ m2;generalize a[k]! = s at i1 f1;generalize b[k]! = t at i2 f1;simp -implicitDefEqProofs only[L15_0,am,au,la,aB,ae,ai,XI,XK h1,i1,i2,V5,f1,da,aj,aT,bm,hw]
   grind) 0 (X2 _)
  have hh':ak (L15_0 (af pg) ak) [vals a,vals b,.int .i64 0]=_:=hh;rw[Zl,mm kR a b h]at hh';simp_all[S15]
 simp_all[np,S15]
def Wm:∀(n:Nat)(v w:Val),v.sz<=n->v.sz<=4611686018427387904->af pg 33 [v.av,w.av]=ao (.bool (kR v w)):=by
 intro n
 induction n with
 |zero=>intro v w h;have:=v.sz_pos;omega
 |succ n ih=>
  intro v w h hv;have h1:=Xp v.names w.names (X4 v.sz_names hv);have h2:=Lt v.values w.values (by have:=v.sz_len;omega) (fun x hx y _=>ih x y (by have:=Xs hx;omega) (by have:=Xs hx;omega));rw[C33,show cl aF v.av=v.av by simp,show cl aF w.av=w.av by simp,IF];simp -implicitDefEqProofs only[S33,bQ,Rl,Si,ae,aI,Rm,Sj,aE,aj,am,br,Rn,Sk,h1,Ro,Sl,h2];simp_all
def WU(v w:Val)(hv:v.sz<=4611686018427387904):af pg 33 [v.av,w.av]=ao (.bool (kR v w)):=Wm v.sz v w (XM _) hv
def Xo(a b:List Val)(hb:a.length<=4611686018427387904)(hf:∀x∈a,x.sz<=4611686018427387904):af pg 15 [vals a,vals b]=ao (.bool (iW kR a b)):=Lt a b hb fun x hx y _=>WU x y (hf x hx)
mutual
theorem uZ:(v:Val)->kR v v=true
 |.mk k n ns vs=>by simp[kR,nR vs]
theorem nR:(l:List Val)->ry l l=true
 |[]=>rfl
 |v:: l=>by simp[ry,uZ v,nR l]
end
def EM(l:List Val):iW kR l l=true:=by rw[<- nQ];exact nR l
def zg(l:List Val):Prop:=l.length<=4611686018427387904/\∀x∈l,x.sz<=4611686018427387904
def SR(l:List Val)(h:zg l):af pg 15 [vals l,vals l]=ao (.bool true):=by rw[Xo l l h.1 h.2,EM]
def CP(a:ba):cB T .neq 9 (.str a) (.str a)=some (.bool false):=Z9
def CO(a:Int):cB T .neq 3 (.int .i64 a) (.int .i64 a)=some (.bool false):=Z9
def Ol(a:Int):cB T .neq 26 (.int .i64 a) (.int .i64 a)=some (.bool false):=Z9
theorem Kl(a:Bool):cB T .neq 4 (.bool a) (.bool a)=some (.bool false):=by
 have e:cB T .neq 4 (.bool a) (.bool a)=some (.bool (a != a)):=rfl
 grind
def WR(l:List Vars)(hl:l.length<=4611686018427387904)(h:∀w∈l,zg w.values):af pg 21 [bn l,bn l]=ao (.bool true):=by
 have hh:=gS (FL21_0 (af pg)) (fun k=>[bn l,bn l,.int .i64 (k:Int)]) l.length (by
  simp_all[L21_0]) (fun k hk=>by
  have h1:(k:Int)<(l.length:Int):=Z5
  have i1:=yu hk;have hw:IntKind.i64.wrap ((k:Int)+1)=((k+1:Nat):Int):=aR Z5;have m1:l[k]! ∈l:=by rw[XN l k hk];exact XU hk
  have f1:=SR _ (h _ m1);generalize l[k]! = w at i1 f1;simp -implicitDefEqProofs only[L21_0,am,au,q5,aB,ae,ai,XI,XK h1,i1,Rp,Sm,CP,Hb,HG,f1,da,aj,aT,XZ,aE,am,eD,Zr,XH,XO,bm,hw])
 have hh':ak (L21_0 (af pg) ak) [bn l,bn l,.int .i64 0]=_:=hh;rw[C21,show cl aF (bn l)=bn l by simp];simp_all[S21]
section
variable (c:Ap.Call)
theorem U8:ah T 65 (.ip (aa c.av)) 0=some (.ip ((aa c.av).drop 0)):=rfl
theorem U9:ah T 65 (.ip (aa c.av)) 1=some (.ip ((aa c.av).drop 1)):=rfl
theorem VL:ax T 9 (.ip ((aa c.av).drop 0))=some (.str c.module):=rfl
theorem VM:ax T 9 (.ip ((aa c.av).drop 1))=some (.str c.func):=rfl
end
def Xk(l:List Ap.Call)(hl:l.length<=4611686018427387904)(h:∀w∈l,zg w.args):af pg 34 [calls l,calls l]=ao (.bool true):=by
 have hh:=gS (FL34_0 (af pg)) (fun k=>[calls l,calls l,.int .i64 (k:Int)]) l.length (by
  simp_all[L34_0]) (fun k hk=>by
  have h1:(k:Int)<(l.length:Int):=Z5
  have i1:=Pm (l:=l) (n:=(k:Int)) Z5 h1;rw[XP]at i1;have hw:IntKind.i64.wrap ((k:Int)+1)=((k+1:Nat):Int):=aR Z5;have m1:l[k]! ∈l:=by rw[XN l k hk];exact XU hk
  have f1:=SR _ (h _ m1);generalize l[k]! = w at i1 f1;simp -implicitDefEqProofs only[L34_0,am,au,Ea,aB,ae,ai,XI,XK h1,i1,U8,VL,CP,U9,VM,Rj,R9,f1,da,aj,aT,XZ,aE,am,eD,Zr,XH,XO,bm,hw])
 have hh':ak (L34_0 (af pg) ak) [calls l,calls l,.int .i64 0]=_:=hh;rw[C34,show cl aF (calls l)=calls l by simp];simp_all[S34]
def WQ(l:List Int)(hl:l.length<=4611686018427387904):af pg 16 [ints l,ints l]=ao (.bool true):=by
 have hh:=gS (FL16_0 (af pg)) (fun k=>[ints l,ints l,.int .i64 (k:Int)]) l.length (by
  simp_all[L16_0]) (fun k hk=>by
  have h1:(k:Int)<(l.length:Int):=Z5
  have i1:=Hz hk;have hw:IntKind.i64.wrap ((k:Int)+1)=((k+1:Nat):Int):=aR Z5;simp_all[L16_0])
 have hh':ak (L16_0 (af pg) ak) [ints l,ints l,.int .i64 0]=_:=hh;rw[C16,show cl aF (ints l)=ints l by simp];simp_all[S16]
theorem Q9(d:Deed):cB T .neq 102 d.av d.av=some (.bool false):=by
 have e2:∀n a,qO T (n+1) 3 (.int .i64 a) (.int .i64 a)=some true:=fun n a=>by
  have:qO T (n+1) 3 (.int .i64 a) (.int .i64 a)=some (a== a):=rfl
  grind
 have e:cB T .neq 102 d.av d.av=(qO T 20 102 d.av d.av).map fun b=>AV.bool !b:=rfl;have f:qO T 20 102 d.av d.av=(match qO T 18 3 (.int .i64 d.effect) (.int .i64 d.effect)with
   | some true=>(match qO T 17 3 (.int .i64 d.arg) (.int .i64 d.arg)with
    |some true=>(match qO T 16 3 (.int .i64 d.answer) (.int .i64 d.answer)with
     |some true=>some true
     |some false=>some false
     |none=>none)
    |some false=>some false
    |none=>none)
   |some false=>some false
   |none=>none):=rfl
 grind
structure CmpO (o:Out):Prop where
 value:o.value.sz<=4611686018427387904
 deeds:o.deeds.length<=4611686018427387904
 calls:o.calls.length<=4611686018427387904/\∀c∈o.calls,zg c.args
 state:o.state.length<=4611686018427387904/\∀w∈o.state,zg w.values
section
variable (o:Out)
theorem Ve:ah T 34 (.ip (aa o.av)) 0=some (.ip ((aa o.av).drop 0)):=rfl
theorem Vf:ah T 34 (.ip (aa o.av)) 1=some (.ip ((aa o.av).drop 1)):=rfl
theorem NM:ah T 34 (.ip (aa o.av)) 2=some (.ip ((aa o.av).drop 5)):=rfl
theorem Vg:ah T 34 (.ip (aa o.av)) 3=some (.ip ((aa o.av).drop 6)):=rfl
theorem Vh:ah T 34 (.ip (aa o.av)) 4=some (.ip ((aa o.av).drop 7)):=rfl
theorem VW:ax T 26 (.ip ((aa o.av).drop 0))=some (.int .i64 o.err):=rfl
theorem VX:ax T 30 (.ip ((aa o.av).drop 1))=some o.value.av:=by
 simp_all
theorem N7:ax T 31 (.ip ((aa o.av).drop 5))=some (deeds o.deeds):=rfl
theorem VY:ax T 32 (.ip ((aa o.av).drop 6))=some (calls o.calls):=rfl
theorem VZ:ax T 23 (.ip ((aa o.av).drop 7))=some (bn o.state):=rfl
end
theorem Sb(d:Deed):ax T 102 (.ip (aa d.av))=some d.av:=rfl
def WP(o:Out)(h:CmpO o):af pg 13 [o.av,o.av]=ao (.bool true):=by
 have c1:=Xk o.calls h.calls.1 h.calls.2;have c2:=WR o.state h.state.1 h.state.2;have c3:=WU o.value o.value h.value;rw[uZ]at c3;have hd:=h.deeds;have hh:=gS (FL13_0 (af pg)) (fun k=>[.ip (aa o.av),.ip (aa o.av),.int .i64 (k:Int)]) o.deeds.length (by
  have h1:¬((o.deeds.length:Int)<(o.deeds.length:Int)):=Z5
  simp -implicitDefEqProofs only[L13_0,am,au,NM,N7,Eb,aB,ae,ai,XI,XG h1,Vg,VY,c1,Vh,VZ,c2,aE,aj,br,YL]) (fun k hk=>by
  have h1:(k:Int)<(o.deeds.length:Int):=Z5
  have i1:=TJ (l:=o.deeds) (n:=(k:Int)) Z5 h1;rw[XP]at i1;have hw:IntKind.i64.wrap ((k:Int)+1)=((k+1:Nat):Int):=aR Z5;generalize o.deeds[k]! = w at i1;simp -implicitDefEqProofs only[L13_0,am,au,NM,N7,Eb,aB,ae,ai,XI,XK h1,i1,Sb,Q9,XH,XO,bm,hw])
 have hh':ak (L13_0 (af pg) ak) [.ip (aa o.av),.ip (aa o.av),.int .i64 0]=_:=hh;rw[C13,show cl aF o.av=o.av by simp];simp -implicitDefEqProofs only[S13,Ve,VW,ae,Ol,NM,N7,Eb,CO,Vf,VX,c3,aj,aT,XZ,aE,am,eD,Zr,ai,XH,XO,hh'];simp_all
structure CmpP (p:Proc):Prop where
 mods:p.mods.length<=4611686018427387904/\∀m∈p.mods,m.Lim
 state:p.state.length<=4611686018427387904/\∀w∈p.state,zg w.values
 frames:p.frames.length<=4611686018427387904/\∀f∈p.frames,zg f.locals/\zg f.stack
 world:p.world.length<=4611686018427387904
 out:CmpO p.out
theorem Sg(p:Proc):ax T 34 (.ip ((aa p.av).drop 4))=some p.out.av:=rfl
def r9(p:Proc)(h:CmpP p):af pg 9 [p.av,p.av]=ao (.bool true):=by
 have c1:=WQ p.world h.world;have c2:=WR p.state h.state.1 h.state.2;have c3:=WP p.out h.out;have hf:=h.frames.1;have hm:=h.mods.1;have cf:∀f:Frm,ct 5 f.av=ao (.agg (aa f.av)):=fun f=>bc rfl;have h0:=gS (FL9_0 (af pg)) (fun k=>[.ip (aa p.av),.ip (aa p.av),.int .i64 (k:Int)]) p.frames.length (by
  have h1:¬((p.frames.length:Int)<(p.frames.length:Int)):=Z5
  simp -implicitDefEqProofs only[L9_0,am,au,vR,vW,mM,aB,ae,ai,XI,XG h1,Cp,Sg,c3,aj]) (fun k hk=>by
  have h1:(k:Int)<(p.frames.length:Int):=Z5
  have i1:=Aw hk;have hw:IntKind.i64.wrap ((k:Int)+1)=((k+1:Nat):Int):=aR Z5;have m1:p.frames[k]! ∈p.frames:=by rw[XN _ k hk];exact XU hk
  have f1:=SR _ (h.frames.2 _ m1).1;have f2:=SR _ (h.frames.2 _ m1).2;generalize p.frames[k]! = w at i1 f1 f2;simp -implicitDefEqProofs only[L9_0,am,au,vR,vW,mM,aB,ae,ai,XI,XK h1,i1,VO,cf,aj,aK,JO,J1,CP,NK,N5,aE,eD,Fi,FB,CO,JP,J2,f1,aT,XZ,Fj,FC,f2,Zr,XH,XO,bm,hw])
 have h0':ak (L9_0 (af pg) ak) [.ip (aa p.av),.ip (aa p.av),.int .i64 0]=_:=h0;have h2:=gS (FL9_1 (af pg)) (fun k=>[.ip (aa p.av),.ip (aa p.av),.int .i64 (k:Int)]) p.mods.length (by
  have h1:¬((p.mods.length:Int)<(p.mods.length:Int)):=Z5
  simp -implicitDefEqProofs only[L9_1,am,au,Fl,FE,p5,aB,ae,ai,XI,XG h1,h0']) (fun k hk=>by
  have h1:(k:Int)<(p.mods.length:Int):=Z5
  have i1:=Ax hk;have hw:IntKind.i64.wrap ((k:Int)+1)=((k+1:Nat):Int):=aR Z5;have m1:p.mods[k]! ∈p.mods:=by rw[XN _ k hk];exact XU hk
  have f1:=t22 _ (h.mods.2 _ m1);generalize p.mods[k]! = w at i1 f1;simp -implicitDefEqProofs only[L9_1,am,au,Fl,FE,p5,aB,ae,ai,XI,XK h1,i1,Tu,f1,da,aj,aT,XZ,XH,XO,bm,hw])
 have h2':ak (L9_1 (af pg) ak) [.ip (aa p.av),.ip (aa p.av),.int .i64 0]=_:=h2;rw[C9,nY];simp -implicitDefEqProofs only[S9,Fl,FE,ae,p5,CO,vR,vW,mM,aE,aj,am,eD,Ha,J3,Kl,NV,Oa,c1,aT,XZ,Fo,FF,c2,Zr,ai,XH,XO,h2'];simp_all
structure Goes (k:Nat) (p:Proc):Prop where
 right:RightP p
 lim:∀m∈p.mods,m.Lim
 few:∀m∈p.mods,∀f∈m.funcs,dL 12 f.body<=1000
 sz:SzP k p
def Goes.pbd{k:Nat}{p:Proc}(G:Goes k p):PBd p.mods:=(p7 G.right.load G.few).1
def Goes.ostate{k:Nat}{p:Proc}(G:Goes k p):p.out.state.length<=1000000/\∀w∈p.out.state,w.values.length<=1000000/\∀v∈w.values,Rv v:=by
 rcases G.sz.ostate with h|h
 ·grind
 ·exact jF G.pbd h
def sB{v:Val}(h:Rv v):v.sz<=4611686018427387904:=X4 (nP h) Z6
def Goes.opB{k:Nat}{p:Proc}(G:Goes k p)(hk:k<=1000000):OpB p:=by
 have P:=G.pbd;have hst:=jF P G.right.st;have hfr:=mU G.right P;have hlen:=G.right.len;have hval:=su G.sz.value;have h8:=pz G.sz.value;have hos:=G.ostate;exact⟨⟨P.len,⟨hst.1,fun w hw=>(hst.2 w hw).1⟩,⟨Z5,fun f hf=>⟨(hfr f hf).1.2,(hfr f hf).1.1⟩⟩,G.sz.world,by have:=G.sz.deeds;omega,by have:=G.sz.calls;omega,hos.1,fun w hw=>(hos.2 w hw).1⟩,G.lim,G.few,
  fun m hm=>by have:=P.vars m hm;omega,fun w hw v hv=>sB ((hst.2 w hw).2 v hv),fun f hf=>⟨fun v hv=>sB ((hfr f hf).2.2 v hv),fun v hv=>sB ((hfr f hf).2.1 v hv)⟩,Z5,Z5⟩
def Goes.cmp{k:Nat}{p:Proc}(G:Goes k p)(hk:k<=1000000):CmpP p:=by
 have P:=G.pbd;have hst:=jF P G.right.st;have hfr:=mU G.right P;have hlen:=G.right.len;have hos:=G.ostate;have hp:=P.len;exact⟨⟨Z5,G.lim⟩,⟨Z5,fun w hw=>⟨Z7,fun v hv=>sB ((hst.2 w hw).2 v hv)⟩⟩,⟨Z5,fun f hf=>⟨⟨Z7,fun v hv=>sB ((hfr f hf).2.2 v hv)⟩,⟨Z7,fun v hv=>sB ((hfr f hf).2.1 v hv)⟩⟩⟩,by have:=G.sz.world;omega,
  ⟨sB G.sz.value,by have:=G.sz.deeds;omega,⟨by have:=G.sz.calls;omega,fun c hc=>⟨by have:=(G.sz.args c hc).1;omega,fun v hv=>(G.sz.args c hc).2 v hv⟩⟩,Z5,fun w hw=>⟨Z7,fun v hv=>sB ((hos.2 w hw).2 v hv)⟩⟩⟩
def Goes.run{k:Nat}{p:Proc}(G:Goes k p)(n:Nat):Goes (k+n) (jG n p):=by
 obtain⟨a,b⟩:=Ix n G.right G.pbd G.sz;exact⟨vE n G.right,by rw[b];exact G.lim,by rw[b];exact G.few,a⟩
def Goes.step{k:Nat}{p:Proc}(G:Goes k p)(he:p.ended=false):Goes (k+1) (j0 p):=by
 have:=G.run 1
 rw[show jG 1 p=j0 p by rw[xJ (by rw[he];decide)];rfl]at this;exact this
def Goes.rightB{k:Nat}{p:Proc}(G:Goes k p):dV p=true:=kz.2 G.right
def Goes.tRun{k:Nat}{p:Proc}(G:Goes k p)(hk:k<=400000){n:Nat}(hn:n<=100000):af pg 7 [p.av,.int .i64 n]=ao (.tup [(jG n p).av,.int .i64 (if(jG n p).ended=true then 0 else 16)]):=by
 rw[t7 p n (G.opB Z5) (fun _ _=>G.sz.mono Z5)];unfold qn;rw[XK ⟨G.rightB,Z5,Z5⟩,XP]
def Goes.tStep{k:Nat}{p:Proc}(G:Goes k p)(hk:k<=400000):af pg 6 [p.av]=ao (.tup [(if p.ended=true then p else j0 p).av,.int .i64 (if p.ended=true then 7 else 0)]):=by
 rw[t6 p (G.opB Z5) (fun _ _=>G.sz.mono Z5)];unfold m8;rw[XK G.rightB]
 grind
def Goes.tRight{k:Nat}{p:Proc}(G:Goes k p)(hk:k<=400000):af pg 8 [p.av]=ao (.bool true):=by rw[t8 p (G.opB Z5),G.rightB]
def Ny:CmpP p0:=⟨⟨X2 _,fun m hm=>(by cases hm)⟩,⟨X2 _,fun m hm=>(by cases hm)⟩,⟨X2 _,fun m hm=>(by cases hm)⟩,X2 _,⟨Z6,X2 _,⟨X2 _,fun m hm=>(by cases hm)⟩,⟨X2 _,fun m hm=>(by cases hm)⟩⟩⟩
def Ex:af pg 9 [p0.av,p0.av]=ao (.bool true):=r9 p0 Ny
def K9(p:Proc):ct 13 p.av=ao (.agg (aa p.av)):=bc rfl
theorem Lf(a b:Int):cB T .eql 26 (.int .i64 a) (.int .i64 b)=some (.bool (a== b)):=rfl
theorem Sq(a b:Int):cB T .neq 26 (.int .i64 a) (.int .i64 b)=some (.bool (a != b)):=rfl
def C2{p:List Ap.Mod}{s t:ba}{args:List Val}{w:List Int}{q:Proc}(h:iN p s t args w= .ok q)(hL:∀m∈p,m.Lim)(hc:∀m∈p,∀f∈m.funcs,∀d,dL d f.body<=120)(ha:args.length<=1000000)(hw:w.length<=1000000):Goes 1 q/\q.ended=false:=by
 obtain⟨H,he⟩:=Bl h;obtain⟨S,hm⟩:=IP h ha hw;exact⟨⟨H,Z7,Z7,S⟩,he⟩
end Go.Proofs.YtbndmpiddinalacGreatDoor
namespace Go.Proofs.YtbndmpiddinalacGreatDoor
open Go Go.Av Go.Av.Ap
set_option maxRecDepth 1000000
def IJ:List UInt8:=[109,111,100,117,108,101,32,109,32,59,32,118,97,114,32,110,32,105,110,116,32,61,32,53,32,59,32,112,117,98,32,102,110,32,102,32,40,32,107,32,105,110,116,32,41,32,105,110,116,32,33,32,110,101,116,32,61,32,115,101,116,32,110,32,103,101,116,32,110,32,43,32,110,101,116,32,40,32,107,32,41,32,59]
def Jf:Ty:=.mk 0 []
def Pj:Exp:=.mk 18 0 [110] [] [] [.mk 3 0 [] [] [] [.mk 17 0 [110] [] [] [],.mk 16 2 [] [] [] [.mk 2 0 [107] [] [] []]]]
def rD:Ap.Mod:=⟨[109],[],[([110],Jf)],[.mk 0 5 [] [] [] []],[⟨[102],true,[([107],Jf)],Jf,2,Pj⟩],false,[],[],[]⟩
noncomputable def WT:R AV:=ey pg 80 11 [.str IJ] []
noncomputable def OJ:AV:=match WT with
 |.ok (.tup [_,v,_]) _=>v
 |_=>.any
noncomputable def Tx:Hp:=match WT with
 |.ok _ h=>h
 |_=>[]
def oG:AV:=.agg [.str [109],.sl [],ca rD.vars,dn rD.init,iP rD.funcs,.bool false,.hn,.hn,.hn]
def H9:ey pg 80 11 [.str IJ] []= .ok (.tup [oG,OJ,.int .i64 0]) Tx:=Vc
def Ku:af pg 11 [.str IJ] []= .ok (.tup [oG,OJ,.int .i64 0]) Tx:=zD hJ H9 Z8
def OI:Proc:=⟨[rD],[⟨[109],[cg 5]⟩],[⟨[109],[102],0,[cg 2],[]⟩],[7,8],⟨0,default,[],[⟨[109],[102],[cg 2]⟩],[]⟩,false⟩
def smA:Proc:=⟨[rD],[⟨[109],[cg 12]⟩],[],[8],⟨0,cg 12,[⟨2,2,7⟩],[⟨[109],[102],[cg 2]⟩],[⟨[109],[cg 12]⟩]⟩,true⟩
def OH:Proc:=⟨[rD],[⟨[109],[cg 5]⟩],[⟨[109],[102],3,[cg 2],[cg 5,cg 7]⟩],[8],⟨0,default,[⟨2,2,7⟩],[⟨[109],[102],[cg 2]⟩],[]⟩,false⟩
def Bi:iN [rD] [109] [102] [cg 2] [7,8]= .ok OI:=Vc
def Gb:iN [rD] [109] [102] [] []= .error 13:=Vc
def Gc:iN [rD] [109] [103] [] []= .error 4:=Vc
def EA:jG 6 OI=smA:=Vc
def KL:jG 3 OI=OH:=Vc
def F9:dV p0=false:=Vc
def Ga:ey pg 80 14 [mods [rD],.str [109],.str [102],vals [cg 2],ints [7,8],.int .i64 100] []= .ok smA.out.av []:=Vc
theorem Ez:Jf.Lim:=Ty.lim_mk Z6 (fun v hv=>by cases hv)
def Em{x:fu}(h:x∈[(([110]:ba),Jf)]\/x∈[(([107]:ba),Jf)]):x.2.Lim:=by
 grind [Ez]
def KI:Pj.Lim:=by
 have e2:(Exp.mk 2 0 [107] [] [] []).Lim:=Exp.lim_mk Z6 Z6 (fun v hv=>by cases hv);have e17:(Exp.mk 17 0 [110] [] [] []).Lim:=Exp.lim_mk Z6 Z6 (fun v hv=>by cases hv);have e16:(Exp.mk 16 2 [] [] [] [.mk 2 0 [107] [] [] []]).Lim:=Exp.lim_mk Z6 Z6 (fun v hv=>Z7);have e3:(Exp.mk 3 0 [] [] [] [.mk 17 0 [110] [] [] [],.mk 16 2 [] [] [] [.mk 2 0 [107] [] [] []]]).Lim:=Exp.lim_mk Z6 Z6 (fun v hv=>by
  grind)
 exact Exp.lim_mk Z6 Z6 (fun v hv=>Z7)
def yT:∀m∈[rD],m.Lim:=by
 intro m hm;rw[Yo]at hm;subst hm;refine⟨Z6,Z6,fun x hx=>Em (.inl hx),Z6,fun e he=>?_,Z6,fun f hf=>?_,Z6,fun x hx=>(by cases hx),Z6,fun x hx=>(by cases hx),Z6,fun x hx=>(by cases hx)⟩
 ·rw[show rD.init=[Exp.mk 0 5 [] [] [] []]from rfl,Yo]at he
  grind [Exp.lim_mk]
 ·rw[show rD.funcs=[⟨[102],true,[([107],Jf)],Jf,2,Pj⟩]from rfl,Yo]at hf;subst hf;exact⟨Z6,fun x hx=>Em (.inr hx),Ez,KI⟩
def IK:∀m∈[rD],∀f∈m.funcs,∀d,dL d f.body<=120:=by
 intro m hm f hf d;rw[Yo]at hm;subst hm;rw[show rD.funcs=[⟨[102],true,[([107],Jf)],Jf,2,Pj⟩]from rfl,Yo]at hf;subst hf;show dL d Pj<=120
 have h:∀d (e:Exp) (n:Nat),(∀x∈e.args,∀k,dL k x<=n)->e.args.length<=2->dL d e<=1+2*n:=by
  intro d e n hx hl;cases d with
  |zero=>simp[dL]
  | succ d=>
   have:(e.args.map (dL d)).sum<=e.args.length*n:=by
    have key:∀l:List Exp,(∀x∈l,∀k,dL k x<=n)->(l.map (dL d)).sum<=l.length*n:=by
     intro l
     induction l with
     |nil=>intro _;simp
     |cons x l ih=>
      grind [Nat.add_mul]
    exact key e.args hx
   have h2:e.args.length*n<=2*n:=XR _ hl;simp only[dL];omega
 have l0:∀(a b:Int) (s:ba) k,dL k (.mk a b s [] [] [])<=1:=fun a b s k=>h k _ 0 (fun x hx=>by cases hx) Z9;have l1:∀k,dL k (.mk 16 2 [] [] [] [.mk 2 0 [107] [] [] []])<=3:=fun k=>h k _ 1 (fun x hx=>by
  simp_all) Z9
 have l2:∀k,dL k (.mk 3 0 [] [] [] [.mk 17 0 [110] [] [] [],.mk 16 2 [] [] [] [.mk 2 0 [107] [] [] []]])<=7:=fun k=>h k _ 3 (fun x hx j=>by
  have hx:x∈[Exp.mk 17 0 [110] [] [] [],.mk 16 2 [] [] [] [.mk 2 0 [107] [] [] []]]:=hx
  grind) Z9
 exact X4 (h d Pj 7 (fun x hx=>by
  have hx:x∈[Exp.mk 3 0 [] [] [] [.mk 17 0 [110] [] [] [],.mk 16 2 [] [] [] [.mk 2 0 [107] [] [] []]]]:=hx
  grind) (by show (1:Nat)<=2;decide)) Z6
def KJ:Goes 1 OI:=(C2 Bi yT IK Z6 Z6).1
def IL:af pg 14 [mods [rD],.str [109],.str [102],vals [cg 2],ints [7,8],.int .i64 100]=ao smA.out.av:=by
 have h1:=zD hJ Ga Z8;have e:=C14 (mods [rD]) (.str [109]) (.str [102]) (vals [cg 2]) (ints [7,8]) (.int .i64 100);rw[e]at h1 |-;funext h;generalize S14 (af pg) ak (cl aF (mods [rD])) (cl aF (.str [109])) (cl aF (.str [102])) (cl aF (vals [cg 2])) (cl aF (ints [7,8])) (cl aF (.int .i64 100))=m at h1 |-;unfold bj at h1 |-;cases hm:m []with
 |ok v h'=>
  rw[hm]at h1;simp only[R.ok.injEq]at h1;show R.ok (frz 6 h' v) h=_;rw[h1.1];rfl
 |pan v h'=>grind
 |fail=>grind
def t10(n:Int):af pg 10 [.int .i64 n]=ao (cg n).av:=by
 rw[C10];exact fZ (h':=[]) rfl rfl
theorem rE:af pg 4 []=ao (.bool true):=by
 have hcl:cl aF (.sl [oG])=cl aF (mods [rD]):=by rfl
 have st1:∀a b c d,af pg 12 [.sl [oG],a,b,c,d]=af pg 12 [mods [rD],a,b,c,d]:=fun a b c d=>by rw[C12,C12,hcl]
 have rn1:∀a b c d e,af pg 14 [.sl [oG],a,b,c,d,e]=af pg 14 [mods [rD],a,b,c,d,e]:=fun a b c d e=>by rw[C14,C14,hcl]
 have hv2:∀v∈[cg 2],v.sz<=4611686018427387904:=fun v hv=>by rw[Yo]at hv;subst hv;decide
 have cn:=fun m hm f hf=>X4 (IK m hm f hf 12) (by decide:120<=1000);have e3:=t12 [rD] [109] [102] [cg 2] [7,8] yT cn ⟨Z6,hv2⟩ Z6;have e4:=t12 [rD] [109] [102] [] [] yT cn ⟨Z6,fun v hv=>(by cases hv)⟩ Z6;have e5:=t12 [rD] [109] [103] [] [] yT cn ⟨Z6,fun v hv=>(by cases hv)⟩ Z6;unfold ji at e3 e4 e5;rw[Bi]at e3;rw[Gb]at e4;rw[Gc]at e5;have e3:af pg 12 [mods [rD],.str [109],.str [102],vals [cg 2],ints [7,8]]=ao (.tup [OI.av,.int .i64 0]):=e3;have e4:af pg 12 [mods [rD],.str [109],.str [102],.sl [],.sl []]=ao (.tup [p0.av,.int .i64 13]):=e4;have e5:af pg 12 [mods [rD],.str [109],.str [103],.sl [],.sl []]=ao (.tup [p0.av,.int .i64 4]):=e5;have G:=KJ;have GA:Goes 7 smA:=by have:=G.run 6;rw[EA]at this;exact this
 have r6:=G.tRun Z6 (n:=6) Z6;have r3:=G.tRun Z6 (n:=3) Z6;rw[EA]at r6;rw[KL]at r3;have r6:af pg 7 [OI.av,.int .i64 6]=ao (.tup [smA.av,.int .i64 0]):=r6;have r3:af pg 7 [OI.av,.int .i64 3]=ao (.tup [OH.av,.int .i64 16]):=r3;have sA:=GA.tStep Z6;have sA:af pg 6 [smA.av]=ao (.tup [smA.av,.int .i64 7]):=sA;have q1:=G.tRight Z6;have q2:=GA.tRight Z6;have q3:af pg 8 [p0.av]=ao (.bool false):=by
  rw[t8 p0 ⟨⟨Z6,⟨Z6,fun w hw=>(by cases hw)⟩,⟨Z6,fun w hw=>(by cases hw)⟩,Z6,Z6,Z6,⟨Z6,fun w hw=>(by cases hw)⟩⟩,fun m hm=>(by cases hm),fun m hm=>(by cases hm),fun m hm=>(by cases hm),fun m hm=>(by cases hm),fun m hm=>(by cases hm),⟨Z6,Z6⟩⟩,F9]
 have so:=WP smA.out (GA.cmp Z6).out;have v57:=SR [cg 5,cg 7] ⟨Z6,fun v hv=>by
  rcases Yn.1 hv with rfl|hv
  ·decide
  ·rw[Yo]at hv;subst hv;decide⟩
 have i8:=WQ [8] Z6;have cMh:ct 9 oG=ao oG:=bc rfl;have bM:aM T 22 1 [(0,oG)]=some (.sl [oG]):=rfl;have bV:aM T 28 1 [(0,(cg 2).av)]=some (vals [cg 2]):=rfl;have bW:aM T 28 2 [(0,(cg 5).av),(1,(cg 7).av)]=some (vals [cg 5,cg 7]):=rfl;have bI:aM T 25 2 [(0,.int .i64 7),(1,.int .i64 8)]=some (ints [7,8]):=rfl;have bJ:aM T 25 1 [(0,.int .i64 8)]=some (ints [8]):=rfl;have lMh:ax T 53 (.ip (aa oG))=some oG:=rfl;have x0:dA (.tup [oG,OJ,.int .i64 0]) 0=some oG:=rfl;have x1:dA (.tup [oG,OJ,.int .i64 0]) 1=some OJ:=rfl;have x2:dA (.tup [oG,OJ,.int .i64 0]) 2=some (.int .i64 0):=rfl;have t1:S4 (af pg) ak []= .ok (.bool true) Tx:=by
  rw[S4];have pw:af pg 11 [.str [109,111,100,117,108,101,32,109,32,59,32,118,97,114,32,110,32,105,110,116,32,61,32,53,32,59,32,112,117,98,32,102,110,32,102,32,40,32,107,32,105,110,116,32,41,32,105,110,116,32,33,32,110,101,116,32,61,32,115,101,116,32,110,32,103,101,116,32,110,32,43,32,110,101,116,32,40,32,107,32,41,32,59]] []= .ok (.tup [oG,OJ,.int .i64 0]) Tx:=Ku;rw[ap pw];simp -implicitDefEqProofs only[x0,x1,x2,ae,cMh,aj,lMh,bM,t10,bV,bI,st1,e3,wO,wP,K9,aK,AB,r6,r3,sA,e4,e5,q1,q2,iB,q3,rn1,IL,da,Cp,Sg,so,bW,bJ];have y1:bu T 24 (gT OH.frames)=some (.int .i64 1):=rfl;have y2:bu T 23 (bn OH.state)=some (.int .i64 1):=rfl;have y3:aA T 24 (gT OH.frames) (.int .i64 0)=some (.ip (aa (Frm.av ⟨[109],[102],3,[cg 2],[cg 5,cg 7]⟩))):=rfl;have y4:aA T 23 (bn OH.state) (.int .i64 0)=some (.ip (aa (Vars.av ⟨[109],[cg 5]⟩))):=rfl;have y5:bu T 28 (vals [cg 5])=some (.int .i64 1):=rfl;have y6:aA T 28 (vals [cg 5]) (.int .i64 0)=some (.ip (aa (cg 5).av)):=rfl;have z1:((1:Int) != 1)=false:=rfl;simp -implicitDefEqProofs only[Fo,FF,vR,vW,NV,Oa,ae,y1,y2,y3,y4,gC,z1,aS,aj,am,bD,ai,XH,XO,Hb,HG,y5,Fi,FB,Fj,FC,v57,i8,y6];have bt:∀(a:Int),(a== a)=true:=fun a=>Yf a;have eA:smA.ended=true:=rfl;have wB:OH.world=[8]:=rfl;have fV1:ah T 30 (.ip ((aa smA.av).drop 5)) 1=some (.ip ((aa smA.av).drop 6)):=rfl;have lV1:ax T 3 (.ip ((aa smA.av).drop 6))=some (.int .i64 12):=rfl;have fW1:ah T 30 (.ip (aa (cg 5).av)) 1=some (.ip ((aa (cg 5).av).drop 1)):=rfl;have lW1:ax T 3 (.ip ((aa (cg 5).av).drop 1))=some (.int .i64 5):=rfl;have un:Jh .not (.bool false)=some (.bool true):=rfl;simp -implicitDefEqProofs only[aI,bt,eA,fV1,lV1,aS,bC,am,da,Ha,NN,ae,aj,i8,wB,fW1,lW1,un];rfl
 rw[C4];exact fZ t1 rfl
end Go.Proofs.YtbndmpiddinalacGreatDoor
namespace Go.Proofs.YtbndmpiddinalacGreatDoor
open Go Go.Av Go.Av.Ap
set_option maxRecDepth 100000
def H7{p:Proc}(H:OpB p){l:List Frm}(h1:l.length<=1000000)(h2:∀f∈l,(f.locals.length<=1000000/\f.stack.length<=1000000)/\(∀v∈f.locals,v.sz<=4611686018427387904)/\∀v∈f.stack,v.sz<=4611686018427387904):OpB { p with frames:=l } :=
 ⟨⟨H.cl.mods,H.cl.state,⟨h1,fun f hf=>(h2 f hf).1⟩,H.cl.world,H.cl.deeds,H.cl.calls,H.cl.ostate⟩,H.lim,H.cnt,H.vlen,H.st,fun f hf=>(h2 f hf).2,H.val⟩
def DR{p:Proc}(F:FewPr p)(hL:Proc.Lim p):OpB p:=by
 have a1:=F.mods.1;have a2:=F.state;have a3:=F.frames;have a4:=F.world;have a5:=F.deeds;have a6:=F.calls;have a7:=F.ostate;have a8:=(F.value.2 _ (List.mem_singleton_self _)).2;have a9:=hL.value.len;exact⟨⟨Z5,⟨Z5,fun w hw=>by have:=(a2.2 w hw).1;omega⟩,⟨Z5,fun f hf=>⟨by have:=(a3.2 f hf).1.1;omega,by have:=(a3.2 f hf).2.1;omega⟩⟩,Z5,Z5,Z5,⟨Z5,fun w hw=>by have:=(a7.2 w hw).1;omega⟩⟩,hL.mods.2,
  fun m hm f hf=>X4 (F.mods.2 m hm f hf 12) Z6,fun m hm=>X4 (hL.mods.2 m hm).vars Z6,fun w hw v hv=>((a2.2 w hw).2 v hv).1,fun f hf=>⟨fun v hv=>((a3.2 f hf).1.2 v hv).1,fun v hv=>((a3.2 f hf).2.2 v hv).1⟩,Z5,a9⟩
def Hd{p:Proc}(F:FewPr p)(hr:dV p=true)(he:p.ended=false):SzP 60 p:=by
 have H:=kz.1 hr;have ho:=H.out.resolve_left (by rw[he];simp);have a4:=F.world;have hv:p.out.value=default/\p.out.state=[]:=by
  unfold qb at ho;simp only[XJ,Yt,XI]at ho;obtain⟨⟨⟨_,h1⟩,h2⟩,h3⟩:=ho;refine⟨?_,XV Z5⟩;have h4:p.out.value.names=[]:=XV Z5;have h5:p.out.value.values=[]:=XV Z5;generalize p.out.value=v at h1 h2 h4 h5;obtain⟨k,n,ns,vs⟩:=v;simp_all[Val.kind,Val.n,Val.names,Val.values];rfl
 exact⟨F.deeds,F.calls.1,fun c hc=>⟨by have:=(F.calls.2 c hc).1;omega,fun v hv=>((F.calls.2 c hc).2 v hv).1⟩,Z5,by rw[hv.1];exact mV,.inl hv.2⟩
def WB(r n:Nat):aA T 24 (.hs r 0 (n+1) 5 true) (.int .i64 (n:Int))=some (.hp r (n*5)):=by
 show (if(0:Int)<=(n:Int)/\(n:Int)<((n+1:Nat):Int)then some (AV.hp r (0+(n:Int).toNat*5))else none)=_;rw[XK Z5];simp
theorem k3(p:Proc)(F:FewPr p)(hL:Proc.Lim p):∃h',K3_0 (af pg) ak [.ip (aa p.av),.bool true,.ip (aa (m8 p).1.av),.int .i64 (m8 p).2] []= .ok (.bool true) h':=by
 have hb:=DR F hL;have e5:=t8 p hb;have z0:((0:Int)== 0)=true:=rfl;have z1:((1:Int)== 1)=true:=rfl;have z7:((7:Int)== 7)=true:=rfl;rw[K3_0];cases hr:dV p with
 |false=>
  have s1:m8 p=(p0,1):=by unfold m8;rw[XG (by rw[hr];decide)]
  rw[hr]at e5;refine⟨[],?_⟩;simp -implicitDefEqProofs only[s1,am,au,AB,ae,e5,aj,aT,Yi,ai,XS,aS,Lf,z1,bC,iB,Ex];rfl
 | true=>
  have H:=kz.1 hr;rw[hr]at e5;cases he:p.ended with
  |true=>
   have s1:m8 p=(p,7):=by unfold m8;rw[XK hr,XK he]
   refine⟨[],?_⟩;simp -implicitDefEqProofs only[s1,am,au,AB,ae,e5,aj,aT,XZ,ai,XH,XO,Ha,J3,he,fy,bC,XS,aS,Lf,z7];rfl
  | false=>
   have s1:m8 p=(j0 p,0):=by unfold m8;rw[XK hr,XG (by rw[he];decide)]
   obtain⟨fs,f,x,hp,_⟩:=kA H he;have hl:fs.length+1<=10:=by have:=F.frames.1;rw[hp]at this;simpa using this
   have hfr:∀g∈fs++[f],lx 40 g.locals/\lx 40 g.stack:=by rw[<- hp];exact F.frames.2
   have hff:=hfr f Z8;have lF:(p.frames.length:Int)=((fs.length+1:Nat):Int):=by rw[hp];simp
   have l0:(((fs.length+1:Nat):Int)== 0)=false:=by simp;omega
   have hs:cB T .sub 3 (.int .i64 ((fs.length+1:Nat):Int)) (.int .i64 1)=some (.int .i64 (fs.length:Int)):=by
    have:=qG (fs.length+1) 1 Z5 Z5
    rw[show (((fs.length+1:Nat):Int)-((1:Nat):Int))=(fs.length:Int) by omega]at this;exact this
   have cN:bH 13 [] p.av=ao (.agg p.cells):=gh rfl;have bh:∀h,mn T 24 0 [] h= .ok .he h:=fun h=>rfl;have c1:∀r n,fW (.hs r 0 n 5 true)=ao (.hs r 0 n 5 true):=fun r n=>rfl;have cb:fW (.bool true)=ao (.bool true):=rfl;have ix:aA T 24 (gT p.frames) (.int .i64 (fs.length:Int))=some (.ip (aa f.av)):=by
    rw[Aw (by rw[hp];simp),hp];simp
   have bv0:aM T 28 0 []=some (vals []):=rfl;have ap0:dH T 28 (vals []) (vals f.locals)=some (vals f.locals):=by
    have:=EH (a:=[]) (b:=f.locals) (by have:=hff.1.1;simp;omega)
    simpa using this
   have bv1:aM T 28 1 [(0,(cg 0).av)]=some (vals [cg 0]):=rfl;have ap1:dH T 28 (vals f.locals) (vals [cg 0])=some (vals (f.locals++[cg 0])):=EH (by have:=hff.1.1;simp;omega);have hap:∀h:Hp,appH T 24 false .he (gT p.frames) h= .ok (.hs h.length 0 (fs.length+1) 5 true) (h++[(fs++[f]).flatMap Frm.cells]):=by
    intro h;rw[hp]
    have:=BJ (T:=T) (t:=24) (e:=44) (l:=fs++[f]) (h:=h) rfl rfl rfl rfl rfl rfl Z8 WD
    simpa using this
   have fl3:∀r k,ah T 44 (.hp r k) 3=some (.hp r (k+3)):=fun r k=>rfl;have fl2:∀r k,ah T 44 (.hp r k) 2=some (.hp r (k+2)):=fun r k=>rfl;let fa:Frm:={ f with locals:=f.locals++[cg 0] };let fb:Frm:={ f with pc:=-1 };have st1:bN T 28 (.hp 0 (fs.length*5+3)) (vals (f.locals++[cg 0])) [(fs++[f]).flatMap Frm.cells]= .ok (.tup []) [(fs++[fa]).flatMap Frm.cells]:=Bj (T:=T) rfl rfl rfl rfl Z6 (by simp only[ZJ];rfl);have st2:bN T 3 (.hp 1 (fs.length*5+2)) (.int .i64 (-1)) [(fs++[fa]).flatMap Frm.cells,(fs++[f]).flatMap Frm.cells]= .ok (.tup []) [(fs++[fa]).flatMap Frm.cells,(fs++[fb]).flatMap Frm.cells]:=Bj (T:=T) rfl rfl rfl rfl Z6 (by simp only[ZJ];rfl);have za:=D3 (p:={ p with frames:=fs++[fa] }) (h:=[(fs++[fa]).flatMap Frm.cells,(fs++[fb]).flatMap Frm.cells]) (r:=0) (n:=fs.length+1) Z8 rfl;have zb:=D3 (p:={ p with frames:=fs++[fb] }) (h:=[[],(fs++[fb]).flatMap Frm.cells]) (r:=1) (n:=fs.length+1) Z8 rfl;have bd:∀g,(g=fa\/g=fb)->∀u∈fs++[g],(u.locals.length<=1000000/\u.stack.length<=1000000)/\(∀v∈u.locals,v.sz<=4611686018427387904)/\∀v∈u.stack,v.sz<=4611686018427387904:=by
    have old:∀u∈fs++[f],(u.locals.length<=40/\u.stack.length<=40)/\(∀v∈u.locals,v.sz<=4611686018427387904)/\∀v∈u.stack,v.sz<=4611686018427387904:=fun u hu=>
     ⟨⟨(hfr u hu).1.1,(hfr u hu).2.1⟩,fun v hv=>((hfr u hu).1.2 v hv).1,fun v hv=>((hfr u hu).2.2 v hv).1⟩
    have of:=old f Z8;intro g hg u hu;rcases Yl.1 hu with hu|hu
    ·have:=old u (by simp[hu])
     exact⟨⟨Z5,Z5⟩,this.2⟩
    ·rw[Yo]at hu;subst hu;rcases hg with rfl|rfl
     ·refine⟨⟨by simp[fa];omega,by simp[fa];omega⟩,fun v hv=>?_,of.2.2⟩;rcases Yl.1 hv with hv|hv
      ·exact of.2.1 v hv
      ·rw[Yo]at hv;subst hv;decide
     ·exact⟨⟨by simp[fb];omega,by simp[fb];omega⟩,of.2.1,of.2.2⟩
   have ra:=t8 _ (H7 hb (l:=fs++[fa]) WD (bd fa (.inl rfl)));have rb:=t8 _ (H7 hb (l:=fs++[fb]) WD (bd fb (.inr rfl)));have rc:=t8 { p with ended:=true } ⟨⟨hb.cl.mods,hb.cl.state,hb.cl.frames,hb.cl.world,hb.cl.deeds,hb.cl.calls,hb.cl.ostate⟩,hb.lim,hb.cnt,hb.vlen,hb.st,hb.fr,hb.val⟩;rw[HV H hp]at ra;rw[On]at rb;rw[Kr (by rw[hp];simp)]at rc;have tn:=t10 0;refine⟨[[],[]],?_⟩;simp -implicitDefEqProofs only[s1,am,au,AB,ae,e5,aj,aT,XZ,ai,XH,XO,Ha,J3,he,aS,vR,vW,mM,lF,aI,l0,bD,hs,cN];rw[ap (bh _),ap (hap _)];simp -implicitDefEqProofs only[Yk,Ye,c1,aj,bv0,ae,ix,JP,J2,ap0,tn,da,bv1,ap1,WB,fl3];rw[ap st1,ap (bh _),ap (hap _)];simp -implicitDefEqProofs only[Yb,Yk,Yx,Ye,c1,aj,ae,WB,fl2,XX];rw[ap st2];simp -implicitDefEqProofs only[cb,aj,aK,Proc.cells,am,au];have go:∀(w:AV)(q:Proc)(h h':Hp),lE w h= .ok q.av h'->af pg 8 [q.av]=ao (.bool false)->(ar (lE w) fun v85=>ar (af pg 8 [v85]) fun v86=>ar (bS (Jh .not v86)) fun v25=>ao [v25]) h= .ok [.bool true] h':=by
    intro w q h h' e1 e2;rw[ap e1];simp -implicitDefEqProofs only[e2,aj,aT,ae,Yi];rfl
   have rc:af pg 8 [.agg [Go.Av.Ap.mods p.mods,bn p.state,gT p.frames,ints p.world,.int .i64 p.out.err,.int .i64 p.out.value.kind,.int .i64 p.out.value.n,strs p.out.value.names,vals p.out.value.values,deeds p.out.deeds,calls p.out.calls,bn p.out.state,.bool true]]=ao (.bool false):=rc;rw[ap (go _ _ _ [[],(fs++[fb]).flatMap Frm.cells] za ra)];simp -implicitDefEqProofs only[am,bC,ae,aS];rw[ap (go _ _ _ [[],[]] zb rb)];simp -implicitDefEqProofs only[am,bC,ae,aS,rc,aj,aT,Yi,z0];rfl
theorem t3(p:Proc)(fuel:Int)(hL:Proc.Lim p):af pg 3 [p.av,.int .i64 fuel]=ao (.bool true):=by
 obtain⟨b,e1,q⟩:=t5 p hL;rw[C3,nY,show cl aF (.int .i64 fuel)= .int .i64 fuel from rfl];cases b with
 | false=>
  have fin:S3 (af pg) ak p.av (.int .i64 fuel)=ao (.bool true):=by
   simp -implicitDefEqProofs only[S3,rE,aj,AB,ae,e1,aT,Yi,fy,am,List.replicate,uh,bC,ai,XS]
  rw[fin];exact ec true
 | true=>
  have F:=q rfl;by_cases hg:60<fuel/\fuel<=100000
  ·have d1:decide (60<fuel)=true:=Yd hg.1;have d2:decide (fuel<=100000)=true:=Yd hg.2;have fin:S3 (af pg) ak p.av (.int .i64 fuel)=ao (.bool true):=by
    simp -implicitDefEqProofs only[S3,rE,aj,AB,ae,e1,aT,XZ,aS,dO,dh,d1,d2,am,bC,bD,ai,XS]
   rw[fin];exact ec true
  ·have hb:=DR F hL;have e3:=t6 p hb (fun h1 h2=>(Hd F h1 h2).mono Z6);have e4:=t7 p fuel hb (fun h1 h2=>(Hd F h1 h2).mono Z6);have e5:=t8 p hb;have hgd:(decide (60<fuel)&&decide (fuel<=100000))=false:=by
    rw[YQ,Yc,Yc];omega
   have n11:((1:Int) != 1)=false:=rfl;obtain⟨h',hK⟩:=k3 p F hL;have key:S3 (af pg) ak p.av (.int .i64 fuel) []= .ok (.bool true) h':=by
    simp -implicitDefEqProofs only[S3,rE,aj,AB,ae,e1,aT,XZ,aS,dO,dh,aE,am,br,hgd,bD,ai,XH,XO,e3,wO,wP,K9,e4,jn,e5,aB,eD,aK];cases hc:(!dV p||decide (fuel<0)||decide (100000<fuel))with
    |false=>
     simp -implicitDefEqProofs only[ai,XH,XO];exact hK
    | true=>
     have h1:qn p fuel=(p0,1):=by
      simp only[Yy,Yh,XI]at hc;unfold qn;rw[XG];rintro⟨a,b,c⟩;rcases hc with(h|h)|h
      ·rw[a]at h;cases h
      all_goals omega
     rw[h1];simp -implicitDefEqProofs only[ai,XS,Sq,n11,ae,iB,Ex,aj,aT,XZ,aS,am,bD,XH,XO];exact hK
   exact fZ key rfl
end Go.Proofs.YtbndmpiddinalacGreatDoor
namespace Go.Proofs.YtbndmpiddinalacGreatDoor.vmRefuses
open Go Go.Av Go.Av.Ap Go.ChangeShapes Go.WideShapes Go.ChangeAt Go.RowKit Go.Joins Go.Deep
set_option maxRecDepth 1000000
def kids:Kids Tryz.prog (· < Tryz.prog.types.size):=kids_rows Vc Vc
def Bh:∀t e,t<Tryz.prog.types.size->Tryz.prog.underlying t=some (.slice e)->0<Tryz.prog.cellsOf e:=slices_full_of Tryz.prog Vc
def GU(H:Type)(enc:TypeId×Value->H)(W:World)(base:Nat)(args:Array Value)(ds gs:List (DataW H))(before:List MemPlace)(hval:∀(j:Nat) t v,Tryz.f3.params[j]? = some t->args[j]? = some v->Value.okWide Tryz.prog W .any base t v)(hW:DataW.Whole enc Tryz.prog Tryz.f3.params.toList Rows.vmRefusesSpec.vars false W args.toList ds gs before)(hz:(DataW.weightsEach Tryz.prog (Tryz.f3.params.toList++Rows.vmRefusesSpec.plain.varTypes Tryz.prog) (ds++gs)).all (· <=reachBytes)=true)(hL:laidMetH Tryz.prog Rows.vmRefusesRow.laid W)(hS:W.ShapedOpen Tryz.prog):
  Calls Tryz.prog 3 args W fun e W'=>∃v,e= .returned v/\Rows.vmRefusesSpec.post enc Tryz.prog Tryz.f3 false true false false W args v W':=by
 have hW':=hW;obtain⟨p,q,hA0,hV,rfl,hfz,hnd⟩:=hW;have hA:DataW.TrodAll enc Tryz.prog W 0 (fun _=>true) true Tryz.f3.params.toList args.toList ds p:=hA0;have hA1:=hA;rw[Tryz.params3]at hA hval hz;obtain⟨v0,vs0,d0,ds0,p0,q0,ha0,rfl,rfl,h0,r0⟩:=trodAll_cons hA;obtain⟨v1,vs1,d1,ds1,p1,q1,ha1,rfl,rfl,h1,r1⟩:=trodAll_cons r0;obtain⟨hnil,rfl,rfl⟩:=trodAll_nil r1;subst hnil;subst ha1;obtain rfl:args= #[v0,v1]:=by cases args;simp_all
 obtain⟨rfl,rfl⟩:=trodVars_none hV;obtain⟨x0,k0,o0⟩:=BL (fun N=>(KF N).le (YW N)) (fun a=>rfl) Tryz.underlying36 (hval 0 36 v0 rfl rfl) h0 (tK hz (j:=0) rfl rfl);obtain⟨x1,k1,o1⟩:=Jr (fun N=>jc Tryz.underlying3) Tryz.underlying3 (hval 1 3 v1 rfl rfl) h1 (tK hz (j:=1) rfl rfl);clear hA0;simp only[X9]at hW' hA1;have hlt:=hW'.lt;have hv:bF (oB W) [] [x0.av,.int .i64 x1] [v0,v1]:=by
  simp only[bF];exact⟨_,_,rfl,k0,_,_,rfl,k1,rfl⟩
 refine (FG Vv hJ (NW hL hS) hv (by rw[t3 x0 x1 o0];rfl)).mono fun e W' ⟨he,hb⟩=>?_;subst he;exact⟨_,rfl,vZ (pv:=[]) hW' (fun _ _ _=>trodAll_cons_mk (shut_bool Tryz.underlying4 _) trodAll_mk0) (fun sp hsp=>
   BM kids Bh (by rw[Tryz.params3];decide +kernel) hA1 hlt hb sp hsp) (fun _ _=>rfl) Z8
  hb (ok_one Vc rfl (okWide_bool_mk Tryz.underlying4 _))⟩
def reads(os:Os){H:Type}(enc:TypeId×Value->H):∃ds places,DataW.whole enc Tryz.prog ((qX os).forCall (fun _ _=>0) ⟨#[],#[.agg #[.slice none 0 0,.slice none 0 0,.slice none 0 0,.slice none 0 0,.int .i64 0,.int .i64 0,.int .i64 0,.slice none 0 0,.slice none 0 0,.slice none 0 0,.slice none 0 0,.slice none 0 0,.bool false],.int .i64 0],[]⟩).memory Tryz.f3.params.toList Rows.vmRefusesSpec.vars false #[.agg #[.slice none 0 0,.slice none 0 0,.slice none 0 0,.slice none 0 0,.int .i64 0,.int .i64 0,.int .i64 0,.slice none 0 0,.slice none 0 0,.slice none 0 0,.slice none 0 0,.slice none 0 0,.bool false],.int .i64 0].toList 8=some (ds,[],places):=
 ⟨[.agg [.nil,.nil,.nil,.nil,.agg [.lit (.int .i64 0),.agg [.lit (.int .i64 0),.lit (.int .i64 0),.nil,.nil],.nil,.nil,.nil],.lit (.bool false)],.lit (.int .i64 0)],[],Vc⟩
def lifted(os:Os)(started:os.Started)(H:Type)(enc:TypeId×Value->H)(F:Stop.Interp):
  ReturnsInHanded {} Tryz.checked os 3 .any ((OpenSpec.ofChange Rows.vmRefusesSpec).preRow enc Tryz.prog Tryz.f3 Rows.vmRefusesRow.domain false Rows.vmRefusesRow.laid) (((OpenSpec.ofChange Rows.vmRefusesSpec).at F).post enc Tryz.prog Tryz.f3 false true false false):=by
 obtain⟨ds,places,hx⟩:=reads os enc;refine returnsInHanded_of_row (C:=Tryz.checked) (s:=OpenSpec.ofChange Rows.vmRefusesSpec) Wb started Vc Tryz.func3
  (witness_row_atRef (enc:=enc) (C:=Tryz.checked) false (qX os) #[.agg #[.slice none 0 0,.slice none 0 0,.slice none 0 0,.slice none 0 0,.int .i64 0,.int .i64 0,.int .i64 0,.slice none 0 0,.slice none 0 0,.slice none 0 0,.slice none 0 0,.slice none 0 0,.bool false],.int .i64 0] rfl Vc Vc Vc
   (OpenSpec.preRow_of_cond 8 hx Vc (fun k hk=>by cases hk) Vc (HH os _))) ?_
 intro W base args ds gs before hval hW _ _ hz hL hS _;exact GU H enc W base args ds gs before hval hW hz hL hS
end Go.Proofs.YtbndmpiddinalacGreatDoor.vmRefuses
