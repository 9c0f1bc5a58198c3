/- What the functions compute, part 10. Conditions: bounds. -/
import Derived.Test.YtihmmkncokjbaaaGreatDoorTi
set_option linter.defProp false
set_option linter.unusedSimpArgs false
set_option linter.unusedVariables false
namespace Go.Proofs.YtihmmkncokjbaaaGreatDoor
open Go Go.Av Go.Av.Ap
set_option maxRecDepth 100000
def OV(m:Mod):ai T 29 (.ip (aa m.av))=some m.av:=by simp
def t106(p:List Mod)(hp:p.length<=1099511627776):aj pg 106 [dI p]=ay (.int .i64 (gR p)):=by
 let D:Nat->Bool:=fun i=>(p.take i).any fun m=>m.name== (p[i]?.getD default).name;have hloop:∀(n k:Nat),p.length-k=n->k<=p.length->ao (L106_0 (aj pg) ao) [dI p,dI p,.int .i64 p.length,.int .i64 k]=ay (.int .i64 (if(List.range' k n).any D=true then 5 else 0)):=by
  intro n
  induction n with
  |zero=>
   intro k hk hl;obtain rfl:k=p.length:=by omega
   rw[FL106_0];simp[L106_0]
  | succ n ih=>
   intro k hk hl;have h1:(k:Int)<(p.length:Int):=by omega
   have hlt:k<p.length:=by omega
   have hi:=nu (l:=p) (n:=(k:Int)) (by omega) h1;rw[show ((k:Int)).toNat=k by omega,PY p k hlt]at hi;have hs:cV T 92 (dI p) none (some (.int .i64 k)) none=some (dI (p.take k)):=by
    have:=C0 (T:=T) (t:=92) (e:=29) rfl rfl rfl (p.map Mod.av) (n:=(k:Int)) (by omega) (by simp;omega)
    simpa [dI,List.map_take]using this
   have ha:=t148 (.fn (.func 149) [] [.ip (aa p[k].av)]) (fun m=>m.name== p[k].name) (p.take k) (by simp;omega) (fun g=>by simp[cl,eM]) (fun m _=>t149 m p[k]);have hD:D k=((p.take k).any fun m=>m.name== p[k].name):=by simp only[D,P1 hlt,Option.getD_some]
   have hw:IntKind.i64.wrap ((k:Int)+1)=((k+1:Nat):Int):=cr (by omega);rw[FL106_0];simp -implicitDefEqProofs only[L106_0,ax,aE,bC,ak,am,h1,QA,PQ,hi,OV,bu (kE _),ap,bl,hs,ha,cy,hw];rw[ih (k+1) (by omega) (by omega),R8,Sd,hD];generalize ((p.take k).any fun m=>m.name== p[k].name)=b;generalize (List.range' (k+1) n).any D=c;cases b<;>cases c<;>rfl
 rw[C106,mn];have h0:=hloop p.length 0 (by omega) (by omega);have ht:BG p=(List.range' 0 p.length).any D:=by
  unfold BG;rw[Sz]
 have hS:S106 (aj pg) ao (dI p)=ay (.int .i64 (gR p)):=by
  unfold gR;rw[ht];by_cases h20:20<p.length
  ·have h20':(20:Int)<(p.length:Int):=by omega
   simp only[h20,PQ];simp -implicitDefEqProofs only[S106,mW,ak,jf,am,h20',QA,PQ]
  ·have:¬((20:Int)<(p.length:Int)):=by omega
   simp only[h20,PP];simp -implicitDefEqProofs only[S106,mW,ak,jf,am,this,QR,PM,PP];exact h0
 rw[hS];exact bw fun g=>rfl
def iz:Except Int (List Vars)->AV
 |.ok st=>.tup [dR st,.int .i64 0]
 |.error e=>.tup [.sl [],.int .i64 e]
def lN{e:Exp}{ns:List aR}{vs:List Val}{c:Int}{s:Ms}(h:lz e ns vs= .er c s):c≠0:=by
 unfold lz at h;split at h
 ·exact nI h
 ·cases h;decide
theorem xf(outer:List AV->M AV)(p:List Mod)(out:List Vars)(i:AV)(nm:aR)(es:List Exp)(hes:∀e∈es,bh e)(hlen:es.length<=274877906944)(hout:out.length<=1099511627776):∀(B A:List Exp)(acc:List Val)(k:Int),A++B=es->acc.length=A.length->i= .int .i64 k->-4611686018427387904<=k->k<=4611686018427387904->
  ao (L65_0 (aj pg) ao outer) [dR out,dI p,.int .i64 p.length,i,bE es,.int .i64 es.length,.int .i64 A.length,.str nm,vals acc]=
  match i6 B with
  |.error c=>ay (.tup [.sl [],.int .i64 c])
  |.ok vs=>outer [dR (out++[⟨nm,acc++vs⟩]),dI p,.int .i64 p.length,.int .i64 (k+1)]
 |[],A,acc,k,e,hac,hi,hk1,hk2=>by
  simp only[Qq]at e;subst e;subst hi;have hb:aG T 89 1 [(0,.agg [.str nm,vals acc])]=some (dR [⟨nm,acc⟩]):=rfl;have ha:cf T 89 (dR out) (dR [⟨nm,acc⟩])=some (dR (out++[⟨nm,acc⟩])):=L9 (by simp;omega);have hw:IntKind.i64.wrap (k+1)=k+1:=bd (by omega) (by omega);rw[FL65_0];simp -implicitDefEqProofs only[L65_0,ax,aE,bC,ak,am,Q0,QR,PM,PP,hb,ha,cy,hw];simp[i6]
 | x:: B,A,acc,k,e,hac,hi,hk1,hk2=>by
  have hll:A.length+(B.length+1)=es.length:=by rw[<- e];simp
  have h1:(A.length:Int)<(es.length:Int):=by omega
  have hx:es[A.length]'(by omega)=x:=by subst e;simp
  have hm:x∈es:=by rw[<- e];simp
  have hix:=kL (l:=es) (n:=(A.length:Int)) (by omega) h1;rw[show ((A.length:Int)).toNat=A.length by omega,PY es A.length (by omega),hx]at hix;have hex:ai T 66 (.ip (aa x.av))=some x.av:=by simp
  have hx1:∀e:Exp,AV.agg (aa e.av)=e.av:=fun _=>rfl;have hcall:=t85 x [] [] (hes x hm) (by simp) (by simp[br]);have hcall':aj pg 85 [x.av,.sl [],.sl []]=ay (fp (lz x [] [])):=hcall;have hw:IntKind.i64.wrap ((A.length:Int)+1)=((A.length+1:Nat):Int):=cr (by omega);have hne:∀a b:Int,aw T .neq 39 (.int .i64 a) (.int .i64 b)=some (.bool (a != b)):=fun _ _=>rfl;rw[FL65_0];simp -implicitDefEqProofs only[L65_0,ax,aE,bC,ak,am,h1,QA,PQ,hix,hex,bu (kC x),ap,hx1,hcall'];unfold i6;cases hr:lz x [] []with
  | er c s=>
   have hc0:(c != 0)=true:=by
    have:=lN hr
    simpa using this
   simp -implicitDefEqProofs only[fp,aO,PU,PZ,ak,bu (cL default),ap,hne,hc0,am,PQ]
  |ok v s=>
   have hb2:aG T 30 1 [(0,v.av)]=some (vals [v]):=by rw[v.av_eq];simp[vals,dP,v.av_eq];rfl
   have ha2:cf T 30 (vals acc) (vals [v])=some (vals (acc++[v])):=kj (by simp;omega);have hc1:cp (vals (acc++[v]))=ay (vals (acc++[v])):=rfl;have hvv:∀v:Val,AV.agg (aa v.av)=v.av:=fun v=>by simp
   have h00:((0:Int) != 0)=false:=rfl;have hvl:ai T 45 (.ip (aa v.av))=some v.av:=by simp
   have ih:=xf outer p out i nm es hes hlen hout B (A++[x]) (acc++[v]) k (by rw[<- e];simp) (by simp[hac]) hi hk1 hk2;simp only[QP,Rb,P0,Qs]at ih;simp -implicitDefEqProofs only[fp,aO,PU,PZ,ak,bu (cL v),ap,hne,h00,am,PM,PP,hvv,hvl,hb2,ha2,hc1,cy,hw,ih];cases i6 B<;>rfl
theorem t65(p:List Mod)(hp:p.length<=1099511627776)(hm:∀m∈p,m.vars.length<=1099511627776/\m.init.length<=274877906944/\∀e∈m.init,bh e):aj pg 65 [dI p]=ay (iz (fb p)):=by
 have hloop:∀(B A:List Mod)(out:List Vars),A++B=p->out.length=A.length->ao (L65_1 (aj pg) ao) [dR out,dI p,.int .i64 p.length,.int .i64 A.length]=
   ay (match fY B with|.error c=>.tup [.sl [],.int .i64 c]|.ok r=>.tup [dR (out++r),.int .i64 0]):=by
  intro B
  induction B with
  |nil=>
   intro A out e ho;simp only[Qq]at e;subst e;rw[FL65_1];simp -implicitDefEqProofs only[L65_1,ax,aE,bC,ak,am,Q0,QR,PM,PP,fY,Qq]
  | cons x B ih=>
   intro A out e ho;have hll:A.length+(B.length+1)=p.length:=by rw[<- e];simp
   have h1:(A.length:Int)<(p.length:Int):=by omega
   have hx:p[A.length]'(by omega)=x:=by subst e;simp
   have hmm:x∈p:=by rw[<- e];simp
   obtain⟨m1,m2,m3⟩:=hm x hmm;have hix:=nu (l:=p) (n:=(A.length:Int)) (by omega) h1;rw[show ((A.length:Int)).toNat=A.length by omega,PY p A.length (by omega),hx]at hix;have hB:aT T true 94 [(0,.str x.name)]=some (.agg [.str x.name,.hn]):=rfl;have hC:az 2 [1] (.agg [.str x.name,.hn])=ay (.agg [.str x.name,.hn]):=rfl;have hin:=xf (ao (L65_1 (aj pg) ao)) p out (.int .i64 A.length) x.name x.init m3 m2 (by omega) x.init [] [] A.length rfl rfl rfl (by omega) (by omega);rw[FL65_1];simp -implicitDefEqProofs only[L65_1,ax,aE,bC,ak,am,h1,QA,PQ,hix,OV,bu (kE x),ap,bl];simp -implicitDefEqProofs only[ax,aE,ak,am,ap,bl,gw,FA29_0,FA29_2,FA29_3,Qf,Qe,LD9,LD24,LD23,eP,bU,hB,hC,fL];unfold fY;by_cases hl:x.init.length=x.vars.length
   ·have hl':((x.init.length:Int) != (x.vars.length:Int))=false:=by simp[hl]
    simp only[hl',PM,PP,PS hl];have hz:((([]:List Exp).length:Nat):Int)=0:=rfl;rw[hz]at hin;have hv0:vals []= .sl []:=rfl;rw[hv0]at hin;rw[hin];cases i6 x.init with
    |error c=>rfl
    |ok vs=>
     have:=ih (A++[x]) (out++[⟨x.name,vs⟩]) (by rw[<- e];simp) (by simp[ho])
     simp only[P0,Qs]at this;have hcast:((A.length:Int)+1)=((A.length+1:Nat):Int):=by omega
     simp only[Qv,hcast,this];cases fY B<;>simp
   ·have hl':((x.init.length:Int) != (x.vars.length:Int))=true:=by
     rw[Rf];omega
    simp only[hl',PQ,if_neg hl]
 have h0:=hloop p [] [] rfl rfl;have hne:∀a b:Int,aw T .neq 39 (.int .i64 a) (.int .i64 b)=some (.bool (a != b)):=fun _ _=>rfl;have hS:S65 (aj pg) ao (dI p)=ay (iz (fb p)):=by
  unfold fb;by_cases hn:gR p=0
  ·have hn':(gR p != 0)=false:=by simp[hn]
   simp -implicitDefEqProofs only[S65,t106 p hp,ap,hne,ak,hn',am,PM,PP,mW];rw[PS hn];simp only[Qr,Qv]at h0;have:dR []= .sl []:=rfl;rw[this]at h0;have hz:((0:Nat):Int)=0:=rfl;rw[hz]at h0;rw[h0];cases fY p<;>rfl
  ·have hn':(gR p != 0)=true:=by simp[hn]
   simp -implicitDefEqProofs only[S65,t106 p hp,ap,hne,ak,hn',am,PQ];rw[if_neg hn];rfl
 rw[C65,mn,hS];exact bw fun g=>by
  cases fb p with
  |error e=>rfl
  |ok st=>simp[iz,cl,eM]
theorem fD(a b:Int):aw T .neq 39 (.int .i64 a) (.int .i64 b)=some (.bool (a != b)):=rfl
theorem mV:(l:List Val)->(∀v∈l,Rv v)->br l<=l.length*200000
 |[],_=>by simp[br]
 |v:: l,h=>by
  have h1:=mc (h v QS);have h2:=mV l fun w hw=>h w (QN _ hw);simp only[br,P4];omega
end Go.Proofs.YtihmmkncokjbaaaGreatDoor
namespace Go.Proofs.YtihmmkncokjbaaaGreatDoor
open Go Go.Av Go.Av.Ap
set_option maxRecDepth 100000
def CX(t:Bool)(p:List Mod)(full:List Int)(e:Int)(m:Ms)(dv cv sv:AV):List AV:=[se t p,.int .i64 e,.int .i64 0,.int .i64 0,.hn,.hn,dv,cv,sv,qn t full,.int .i64 ((full.length:Int)-(m.world.length:Int)),.int .i64 m.fuel,.int .i64 m.frames]
structure RepR (p:List Mod) (full:List Int) (nm:SNm) (e:Int) (m:Ms) (h:Hp):Prop where
 sub:m.world <:+ full
 tld:nm.told=true->full=[]
 rep:ON (CX nm.told p full e) nm m h
def qH(p:List Mod)(full:List Int)(nm:SNm)(e:Int)(m:Ms)(h:Hp):Prop:=∃s,RepR p full nm e s h/\s.deeds=m.deeds/\s.calls=m.calls/\s.state=m.state
def ia(p:List Mod)(full:List Int)(nm:SNm)(r:Rs Val)(o:Av.R AV):Prop:=match r with
 |.ok v m=>∃h,o= .ok v.av h/\RepR p full nm 0 m h
 |.er e m=>∃(w:Val)(h:Hp),o= .ok w.av h/\qH p full nm e m h
section
variable {p:List Mod} {full:List Int} {nm:SNm} {e:Int} {m:Ms} {h:Hp}
theorem RepR.r0(R:RepR p full nm e m h):∃dv cv sv,h[0]? = some (CX nm.told p full e m dv cv sv):=by
 obtain⟨tag,dv,cv,sv,R⟩:=R.rep;exact⟨dv,cv,sv,R.r0⟩
theorem RepR.lErr(R:RepR p full nm e m h)(g:AV->M AV):af (bi T 39 (.hp 0 1)) g h=g (.int .i64 e) h:=by
 obtain⟨dv,cv,sv,R⟩:=R.r0;exact bn (ca rfl rfl R rfl)
theorem RepR.lFuel(R:RepR p full nm e m h)(g:AV->M AV):af (bi T 3 (.hp 0 11)) g h=g (.int .i64 m.fuel) h:=by
 obtain⟨dv,cv,sv,R⟩:=R.r0;exact bn (ca rfl rfl R rfl)
theorem RepR.lFrames(R:RepR p full nm e m h)(g:AV->M AV):af (bi T 3 (.hp 0 12)) g h=g (.int .i64 m.frames) h:=by
 obtain⟨dv,cv,sv,R⟩:=R.r0;exact bn (ca rfl rfl R rfl)
theorem RepR.lAt(R:RepR p full nm e m h)(g:AV->M AV):af (bi T 3 (.hp 0 10)) g h=g (.int .i64 ((full.length:Int)-(m.world.length:Int))) h:=by
 obtain⟨dv,cv,sv,R⟩:=R.r0;exact bn (ca rfl rfl R rfl)
theorem RepR.lWorld(R:RepR p full nm e m h)(g:AV->M AV):af (bi T 158 (.hp 0 9)) g h=g (qn nm.told full) h:=by
 obtain⟨dv,cv,sv,R⟩:=R.r0;exact bn (ca rfl rfl R rfl)
theorem RepR.lProg(R:RepR p full nm e m h)(g:AV->M AV):af (bi T 92 (.hp 0 0)) g h=g (se nm.told p) h:=by
 obtain⟨dv,cv,sv,R⟩:=R.r0;exact bn (ca rfl rfl R rfl)
theorem _root_.Go.Av.Ap.RepT.turn{row row':Ms->AV->AV->AV->List AV}{nm:SNm}{tag:Nat->Nat}{dv cv sv:AV}{m m':Ms}{h:Hp}(R:RepT row nm tag dv cv sv m h)(h1:m'.deeds=m.deeds)(h2:m'.calls=m.calls)(h3:m'.state=m.state)(h4:m.world=[]->m'.world=[]):
  RepT row' nm tag dv cv sv m' (h.set 0 (row' m' dv cv sv)):=by
 have hlt:0<h.length:=(QB.1 R.r0).1;have K:Kp tag tag (fun k=>k=0) h (h.set 0 (row' m' dv cv sv)):=fun r cs hr hk=>by
  have:r≠0:=fun e=>hk (by rw[e];exact R.t0);exact⟨by rw[RG (SB this)];exact hr,rfl⟩
 refine⟨by rw[Rr hlt],R.t0,?_,?_,?_,R.sve,fun t=>h4 (R.wok t)⟩
 ·rw[h1];exact R.ds.keep K (by decide) fun _ h=>h
 ·rw[h2];exact R.cs.keep K (by decide) fun _ h=>h.keep K (by decide)
 ·rw[h3];exact R.st.keep K (by decide) fun _ h=>⟨h.1,h.2.keep K (by omega)⟩
theorem RepR.sErr(R:RepR p full nm e m h)(e':Int):∃h',(∀g:AV->M AV,af (cq T 39 (.hp 0 1) (.int .i64 e')) g h=g (.tup []) h')/\RepR p full nm e' m h':=by
 obtain⟨tag,dv,cv,sv,R0⟩:=R.rep;exact⟨_,fun g=>bn (dT rfl R0.r0 rfl (show 1+1<=13 by decide) (by decide)),R.sub,R.tld,tag,dv,cv,sv,R0.turn rfl rfl rfl id⟩
theorem RepR.sFuel(R:RepR p full nm e m h)(f:Int):∃h',(∀g:AV->M AV,af (cq T 3 (.hp 0 11) (.int .i64 f)) g h=g (.tup []) h')/\RepR p full nm e { m with fuel:=f } h':=by
 obtain⟨tag,dv,cv,sv,R0⟩:=R.rep;exact⟨_,fun g=>bn (dT rfl R0.r0 rfl (show 11+1<=13 by decide) (by decide)),R.sub,R.tld,tag,dv,cv,sv,R0.turn (m':={ m with fuel:=f }) (row':=CX nm.told p full e) rfl rfl rfl id⟩
theorem RepR.sFrames(R:RepR p full nm e m h)(f:Int):∃h',(∀g:AV->M AV,af (cq T 3 (.hp 0 12) (.int .i64 f)) g h=g (.tup []) h')/\RepR p full nm e { m with frames:=f } h':=by
 obtain⟨tag,dv,cv,sv,R0⟩:=R.rep;exact⟨_,fun g=>bn (dT rfl R0.r0 rfl (show 12+1<=13 by decide) (by decide)),R.sub,R.tld,tag,dv,cv,sv,R0.turn (m':={ m with frames:=f }) (row':=CX nm.told p full e) rfl rfl rfl id⟩
theorem RepR.sAt(R:RepR p full nm e m h){x:Int}{w:List Int}(hw:m.world=x:: w):∃h',(∀g:AV->M AV,af (cq T 3 (.hp 0 10) (.int .i64 ((full.length:Int)-(m.world.length:Int)+1))) g h=g (.tup []) h')/\RepR p full nm e { m with world:=m.world.tail } h':=by
 obtain⟨tag,dv,cv,sv,R0⟩:=R.rep;refine⟨_,fun g=>bn (dT rfl R0.r0 rfl (show 10+1<=13 by decide) (by decide)),?_,R.tld,tag,dv,cv,sv,?_⟩
 ·exact (List.tail_suffix m.world).trans R.sub
 ·have e1:(full.length:Int)-(m.world.length:Int)+1=(full.length:Int)-((m.world.tail).length:Int):=by rw[hw];simp;omega
  have:=R0.turn (m':={ m with world:=m.world.tail }) (row':=CX nm.told p full e) rfl rfl rfl (fun h=>by rw[h];rfl)
  rw[e1];exact this
theorem RepR.er(R:RepR p full nm e m h):qH p full nm e m h:=⟨m,R,rfl,rfl,rfl⟩
theorem qH.lErr(R:qH p full nm e m h)(g:AV->M AV):af (bi T 39 (.hp 0 1)) g h=g (.int .i64 e) h:=by
 obtain⟨s,R,_⟩:=R;exact R.lErr g
theorem lC(v:Val):az 4 [] v.av=ay v.av:=by
 unfold az j9;rw[cL,Val.av_eq];rfl
theorem cW(v:Val):(ay (AV.agg [ae (aa v.av) 0,ae (aa v.av) 1,ae (aa v.av) 2,ae (aa v.av) 3]):M AV)=ay v.av:=by
 rw[cw,Val.av_eq];rfl
theorem jE:aT T false 45 []=some (default:Val).av:=rfl
theorem m8(a b:Int):aw T .eql 39 (.int .i64 a) (.int .i64 b)=some (.bool (a== b)):=rfl
theorem t194(R:RepR p full nm 0 m h)(c:Int)(hc:c≠0):∃h',aj pg 194 [.hp 0 0,.int .i64 c] h= .ok (default:Val).av h'/\RepR p full nm c m h':=by
 obtain⟨h',s1,R'⟩:=R.sErr c;refine⟨h',?_,R'⟩;generalize hcode:aj pg 194 [.hp 0 0,.int .i64 c] h=code;rw[C194]at hcode;simp -implicitDefEqProofs only[S194,ci,aZ,ak,FH182_1,FH162_0,Qb,Qu,R.lErr,m8,QL,am,PQ,s1,K194_0,jE,lC,ap,cW]at hcode;rw[<- hcode];rfl
theorem cM(R:RepR p full nm 0 m h)(c:Int)(hc:c≠0):ia p full nm (.er c m) (af (aj pg 194 [.hp 0 0,.int .i64 c]) (fun v=>af (az 4 [] v) fun v=>ay (AV.agg [ae (aa v) 0,ae (aa v) 1,ae (aa v) 2,ae (aa v) 3])) h):=by
 obtain⟨h',e1,R'⟩:=t194 R c hc;refine⟨default,h',?_,R'.er⟩;rw[bn e1,lC,ap,cW];rfl
theorem jO{v:Val}(R:RepR p full nm 0 m h):ia p full nm (.ok v m) (ay v.av h):=⟨h,rfl,R⟩
theorem qx{v:Val}(R:RepR p full nm 0 m h):ia p full nm (.ok v m) (af (az 4 [] v.av) (fun v=>ay (AV.agg [ae (aa v) 0,ae (aa v) 1,ae (aa v) 2,ae (aa v) 3])) h):=by
 rw[lC,ap,cW];exact⟨h,rfl,R⟩
theorem fR{c:M AV}{x:X Val}{f:Val->X Val}{k:AV->M AV}(H:ia p full nm (x m) (c h))(he:∀a s,x m= .er a s->a≠0)(hok:∀v s h',x m= .ok v s->RepR p full nm 0 s h'->ia p full nm (f v s) (k v.av h'))(her:∀a s (w:Val) h',a≠0->qH p full nm a s h'->∃w':Val,∃h'',k w.av h'= .ok w'.av h''/\qH p full nm a s h''):ia p full nm (x.bind f m) (af c k h):=by
 unfold X.bind;cases hx:x m with
 |ok v s=>
  rw[hx]at H;obtain⟨h',e1,R'⟩:=H;rw[bn e1];exact hok v s h' hx R'
 |er a s=>
  rw[hx]at H;obtain⟨w,h',e1,R'⟩:=H;obtain⟨w',h'',e2,R2⟩:=her a s w h' (he a s hx) R';exact⟨w',h'',by rw[bn e1,e2],R2⟩
end
theorem t196(b:Bool):aj pg 196 [.bool b]=ay (cZ b).av:=by
 rw[C196];have hb:aT T false 45 [(0,.int .i64 1)]=some (Val.mk 1 0 [] []).av:=rfl;have hc1:cp (.int .i64 1)=ay (.int .i64 1):=rfl;have hcl:cl aB (.bool b)= .bool b:=rfl;rw[hcl];have hS:S196 (aj pg) ao (.bool b)=ay (cZ b).av:=by
  simp only[S196,hb,ak,lC,ap,ci,am,hc1,K196_0];cases b<;>rfl
 rw[hS,iM]
theorem t195(n:Int):aj pg 195 [.int .i64 n]=ay (.int .i64 (bg n)):=by
 rw[C195];have hcl:cl aB (.int .i64 n)= .int .i64 n:=rfl;rw[hcl];have hS:S195 (aj pg) ao (.int .i64 n)=ay (.int .i64 (bg n)):=by
  simp only[S195,K195_0,K195_1,K195_2,ci,dJ,jf,ml,ak,am,ax,aE];by_cases h0:n=0
  ·subst h0;rfl
  by_cases h1:n=1
  ·subst h1;rfl
  by_cases h2:n=2
  ·subst h2;rfl
  by_cases h17:n=17
  ·subst h17;rfl
  by_cases h10:n=10
  ·subst h10;rfl
  by_cases h14:n=14
  ·subst h14;rfl
  by_cases h16:n=16
  ·subst h16;rfl
  by_cases h18:n=18
  ·subst h18;rfl
  by_cases h11:n=11
  ·subst h11;rfl
  by_cases h13:n=13
  ·subst h13;rfl
  by_cases h15:n=15
  ·subst h15;rfl
  by_cases h2':2<n
  ·by_cases h12:n<=12
   ·have:n=3\/n=4\/n=5\/n=6\/n=7\/n=8\/n=9\/n=12:=by omega
    rcases this with rfl|rfl|rfl|rfl|rfl|rfl|rfl|rfl<;>rfl
   ·have:bg n= -2:=by
     unfold bg;rw[if_neg (by omega),if_neg (by omega),if_neg (by omega),if_neg (by omega),if_neg (by omega)]
    simp[h0,h1,h2,h17,h10,h14,h16,h18,h11,h13,h15,h2',h12,this]
  ·have:bg n= -2:=by
    unfold bg;rw[if_neg (by omega),if_neg (by omega),if_neg (by omega),if_neg (by omega),if_neg (by omega)]
   simp[h0,h1,h2,h17,h10,h14,h16,h18,h11,h13,h15,h2',this]
 rw[hS,dW]
theorem t201(o:Int)(ns:List aR)(vs:List Val)(s:aR)(v:Val)(h1:ns.length<=1099511627776)(h2:vs.length<=1099511627776):aj pg 201 [aM o ns vs,.str s,v.av]=ay (aM o (ns++[s]) (vs++[v])):=by
 have hcl:∀g,cl g (aM o (ns++[s]) (vs++[v]))=aM o (ns++[s]) (vs++[v]):=fun g=>by simp[aM,cl,eM]
 have hcl2:cl aB (aM o ns vs)=aM o ns vs:=by simp[aM,cl,eM]
 rw[C201,hcl2,uL,gO];have hS:S201 (aj pg) ao (aM o ns vs) (.str s) v.av=ay (aM o (ns++[s]) (vs++[v])):=by
  have hc:aW 3 (aM o ns vs)=ay (aM o ns vs):=rfl;have hz1:aG T 22 0 []=some (strs []):=rfl;have hz2:aG T 30 0 []=some (vals []):=rfl;have hb1:aG T 22 1 [(0,.str s)]=some (strs [s]):=rfl;have hv:ai T 45 (.ip (aa v.av))=some v.av:=by simp
  have hb2:aG T 30 1 [(0,v.av)]=some (vals [v]):=by rw[v.av_eq];simp[vals,dP,v.av_eq];rfl
  have a1:=oC (a:=[]) (b:=ns) (by simp;omega);have a2:=oC (a:=ns) (b:=[s]) (by simp;omega);have a3:=kj (a:=[]) (b:=vs) (by simp;omega);have a4:=kj (a:=vs) (b:=[v]) (by simp;omega);rw[Qv]at a1 a3;have c1:∀l,cp (strs l)=ay (strs l):=fun _=>rfl;have c2:∀l,cp (vals l)=ay (vals l):=fun _=>rfl;have hn:∀ns' vs',az 3 [] (AV.agg [.int .i64 o,strs ns',vals vs'])=ay (aM o ns' vs'):=fun _ _=>rfl;simp only[S201,hc,ap,hz1,hz2,hb1,hv,hb2,ak,bH,ax,aE,a1,a2,a3,a4,c1,c2,hn];rfl
 rw[hS,bw hcl]
def t150(p:List Mod)(hp:p.length<=1099511627776)(s:aR):aj pg 150 [dI p,.str s]=ay (.int .i64 (jb p s)):=by
 have loop:∀(n:Nat)(i:Int),p.length-i.toNat=n->0<=i->i<=p.length->ao (L150_0 (aj pg) ao) [dI p,.str s,.int .i64 i]=ay (.int .i64 (bj (fun m=>m.name== s) (p.drop i.toNat) i)):=by
  intro n
  induction n with
  |zero=>
   intro i hn hi hl;rw[FL150_0];simp only[L150_0];have h1:¬(i<(p.length:Int)):=by omega
   have h2:p.drop i.toNat=[]:=Qg (by omega);simp[h1,h2,bj]
  |succ n ih=>
   intro i hn hi hl;have h1:i<(p.length:Int):=by omega
   have hlt:i.toNat<p.length:=by omega
   have h2:bj (fun m:Mod=>m.name== s) (p.drop i.toNat) i=if(p[i.toNat].name== s)=true then i else bj (fun m:Mod=>m.name== s) (p.drop (i.toNat+1)) (i+1):=by rw[P9 hlt];rfl
   have h4:=ih (i+1) (by omega) (by omega) (by omega);rw[show (i+1).toNat=i.toNat+1 by omega]at h4;rw[FL150_0];simp only[L150_0];simp (disch:=omega) [h1,bd,nu,h2];by_cases hs:p[i.toNat].name=s
   ·simp[hs]
   ·simpa [hs]using h4
 have hl:=loop p.length 0 rfl (by omega) (by omega);rw[C150,mn,uL];have hS:S150 (aj pg) ao (dI p) (.str s)=ay (.int .i64 (jb p s)):=hl;rw[hS,dW]
def t242(p:List Mod)(hp:p.length<=1099511627776)(hf:∀m∈p,m.funcs.length<=1099511627776)(a:Int)(ha:a<p.length)(s:aR):aj pg 242 [dI p,.int .i64 a,.str s]=ay (.int .i64 (if a<0 then -1 else ge (p[a.toNat]?.getD default).funcs s)):=by
 rw[C242,mn,uL,uK];by_cases h0:a<0
 ·have hS:S242 (aj pg) ao (dI p) (.int .i64 a) (.str s)=ay (.int .i64 (-1)):=by simp[S242,h0]
  rw[hS,dW,PS h0]
 ·have hal:a.toNat<p.length:=by omega
  have hx:p[a.toNat]?.getD default=p[a.toNat]:=by rw[P1 hal];rfl
  have hfl:=hf _ (P2 hal);have loop:∀(n:Nat)(i:Int),p[a.toNat].funcs.length-i.toNat=n->0<=i->i<=p[a.toNat].funcs.length->ao (L242_0 (aj pg) ao) [dI p,.int .i64 a,.str s,.int .i64 i]=ay (.int .i64 (bj (fun m=>m.name== s) (p[a.toNat].funcs.drop i.toNat) i)):=by
   intro n
   induction n with
   |zero=>
    intro i hn hi hl;rw[FL242_0];simp only[L242_0];have h1:¬(i<(p[a.toNat].funcs.length:Int)):=by omega
    have h2:p[a.toNat].funcs.drop i.toNat=[]:=Qg (by omega);simp (disch:=omega) [h1,h2,bj,nu,hal]
   |succ n ih=>
    intro i hn hi hl;have h1:i<(p[a.toNat].funcs.length:Int):=by omega
    have hlt:i.toNat<p[a.toNat].funcs.length:=by omega
    have h2:bj (fun m:Fun=>m.name== s) (p[a.toNat].funcs.drop i.toNat) i=if(p[a.toNat].funcs[i.toNat].name== s)=true then i else bj (fun m:Fun=>m.name== s) (p[a.toNat].funcs.drop (i.toNat+1)) (i+1):=by rw[P9 hlt];rfl
    have h4:=ih (i+1) (by omega) (by omega) (by omega);rw[show (i+1).toNat=i.toNat+1 by omega]at h4;rw[FL242_0];simp only[L242_0];simp (disch:=omega) [h1,bd,nu,Dl,h2,hal,hlt];by_cases hs:p[a.toNat].funcs[i.toNat].name=s
    ·simp[hs]
    ·simpa [hs]using h4
  have hl:=loop p[a.toNat].funcs.length 0 rfl (by omega) (by omega);have hS:S242 (aj pg) ao (dI p) (.int .i64 a) (.str s)=ay (.int .i64 (ge p[a.toNat].funcs s)):=by
   have hlt:decide (a<0)=false:=by simpa using h0
   simp only[S242,bC,ak,am,hlt,PM,PP];exact hl
  rw[hS,dW,if_neg h0,hx]
end Go.Proofs.YtihmmkncokjbaaaGreatDoor
namespace Go.Proofs.YtihmmkncokjbaaaGreatDoor
open Go Go.Av Go.Av.Ap
set_option maxRecDepth 100000
def ua(a b:Int):i8 true [.int .i64 a,.int .i64 b]=some (.int .i64 (max a b)):=by
 simp only[i8,Cv,PV];congr 2;omega
theorem t259:∀(d:Nat),d<=100->∀(v:Val),v.sz<=4611686018427387904->aj pg 259 [v.av,.int .i64 d]=ay (.int .i64 ((min (dj v) (max d 1):Nat):Int)):=by
 intro d
 induction d with
 |zero=>
  intro _ v hv;have h1:min (dj v) (max 0 1)=1:=by rw[gH];omega
  rw[C259,gO,uK];have hS:S259 (aj pg) ao v.av (.int .i64 ((0:Nat):Int))=ay (.int .i64 1):=by simp[S259]
  rw[hS,dW,h1];rfl
 | succ d ih=>
  intro hd v hv;by_cases h0:d=0
  ·subst h0;have h1:min (dj v) (max (0+1) 1)=1:=by rw[gH];omega
   rw[C259,gO,uK];have hS:S259 (aj pg) ao v.av (.int .i64 ((0+1:Nat):Int))=ay (.int .i64 1):=by simp[S259]
   rw[hS,dW,h1];rfl
  have ih':=ih (by omega);have hlen:=v.sz_len;have hl:∀(B A:List Val)(c:Nat),A++B=v.values->c<=d->ao (L259_0 (aj pg) ao) [.int .i64 ((d+1:Nat):Int),.ip (aa v.av),.int .i64 (c:Nat),.int .i64 A.length]=ay (.int .i64 ((max c (min (dw B) d)+1:Nat))):=by
   intro B
   induction B with
   |nil=>
    intro A c e hc;simp only[Qq]at e;subst e;rw[FL259_0];simp (disch:=omega) [L259_0,dw,bd]
   | cons x B ih2=>
    intro A c e hc;have hll:A.length+(B.length+1)=v.values.length:=by rw[<- e];simp
    have h1:(A.length:Int)<(v.values.length:Int):=by omega
    have hx:v.values[A.length]! = x:=by
     rw[<- e,PY _ _ (by simp)];simp
    have hm:x∈v.values:=by rw[<- e];simp
    have hx':v.values[A.length]'(by omega)=x:=by rw[<- hx,PY]
    have h3:=ih' x (by have:=Pn hm;omega);have hd1:max d 1=d:=by omega
    rw[hd1]at h3;have h4:=ih2 (A++[x]) (max c (min (dj x) d)) (by rw[<- e];simp) (by omega);have hwd:IntKind.i64.wrap (((d:Int)+1)-1)=(d:Int):=by rw[bd (by omega) (by omega)];omega
    have hwA:IntKind.i64.wrap ((A.length:Int)+1)=(A.length:Int)+1:=bd (by omega) (by omega);have hmx:∀a b:Nat,max (a:Int) ((min b d:Nat):Int)=((max a (min b d):Nat):Int):=fun a b=>by omega
    have hlv:dw (x:: B)=max (dj x) (dw B):=rfl;have hfin:max (max c (min (dj x) d)) (min (dw B) d)=max c (min (dw (x:: B)) d):=by rw[hlv];omega
    have hl1:aN T 30 (vals v.values)=some (.int .i64 v.values.length):=hP _;have hix:=hM (l:=v.values) (n:=(A.length:Int)) (by omega) h1;rw[show ((A.length:Int)).toNat=A.length by omega,hx]at hix;have hld:ai T 45 (.ip (aa x.av))=some x.av:=by simp
    have hlvs:ai T 30 (.ip ([AV.int .i64 v.kind,.int .i64 v.n,strs v.names,vals v.values].drop 3))=some (vals v.values):=rfl;rw[FL259_0];simp only[L259_0,ax,aE,cw,FA45_3,hlvs,hl1,bC,ak,am,h1,QA,PQ,hix,gL,SZ,S0,hwd];rw[<- cw x,hld];simp only[ak,h3,ap,ua,hmx,cy,hwA];simp only[P0,Qs,cw,SZ,S0]at h4;rw[h4,<- hfin]
  have hfin:min (dj v) (max (d+1) 1)=max 0 (min (dw v.values) d)+1:=by rw[gH];omega
  have:=hl v.values [] 0 rfl (by omega)
  rw[C259,gO,uK];have hgt:decide (((d+1:Nat):Int)<=1)=false:=by simp;omega
  have hS:S259 (aj pg) ao v.av (.int .i64 ((d+1:Nat):Int))=ay (.int .i64 ((max 0 (min (dw v.values) d)+1:Nat))):=by
   simp only[S259,ml,ak,am,hgt,PM,PP];exact this
  rw[hS,dW,hfin]
def t241(v:Val)(hv:v.sz<=4611686018427387904):aj pg 241 [v.av]=ay (.int .i64 ((min (dj v) 6:Nat):Int)):=by
 rw[C241,gO];have h:=t259 6 (by omega) v hv;have hld:ai T 45 (.ip (aa v.av))=some v.av:=by simp
 have hS:S241 (aj pg) ao v.av=ay (.int .i64 ((min (dj v) 6:Nat):Int)):=by
  simp only[S241,hld,ak];rw[show (AV.int IntKind.i64 6)= .int .i64 ((6:Nat):Int)from rfl,h];rfl
 rw[hS,dW]
section
variable {p:List Mod} {full:List Int} {nm:SNm} {m:Ms} {h:Hp}
theorem uS{c:Int}(hc:c≠0)(R:qH p full nm c m h)(sc x:AV):aj pg 152 [.hp 0 0,sc,x] h= .ok (default:Val).av h:=by
 have hne:(c != 0)=true:=by simpa using hc
 generalize hcode:aj pg 152 [.hp 0 0,sc,x] h=code;rw[C152]at hcode;simp -implicitDefEqProofs only[S152,aZ,ak,FH182_1,FH162_0,Qb,Qu,R.lErr,fD,hne,am,PQ,jE,lC,ap,cW]at hcode;rw[<- hcode];rfl
theorem Fz{c:Int}(hc:c≠0)(R:qH p full nm c m h)(x y z:AV):aj pg 243 [.hp 0 0,x,y,z] h= .ok (default:Val).av h:=by
 have hne:(c != 0)=true:=by simpa using hc
 generalize hcode:aj pg 243 [.hp 0 0,x,y,z] h=code;rw[C243]at hcode;simp -implicitDefEqProofs only[S243,aZ,ak,FH182_1,FH162_0,Qb,Qu,R.lErr,fD,hne,am,PQ,jE,lC,ap,cW]at hcode;rw[<- hcode];rfl
theorem fF(v:Val):aW 4 v.av=ay (.agg (aa v.av)):=bu (cL v)
theorem t244(R:RepR p full nm 0 m h)(op:Int)(a b:Val)(hop:op=3\/op=4\/op=5\/op=6\/op=7)(ra:Rv a)(rb:Rv b):ia p full nm (km op a b m) (aj pg 244 [.hp 0 0,.int .i64 op,a.av,b.av] h):=by
 have hv:∀x y (z w:Val),z.names=[]->z.values=[]->(AV.agg [.int .i64 x,.int .i64 y,strs z.names,vals z.values])=(Val.mk x y [] []).av:=fun x y z w h1 h2=>by rw[h1,h2];rfl
 have hplain:∀z:Val,Rv z->z.kind=0->z.names=[]/\z.values=[]:=fun z hz hk=>by
  have:=hz
  unfold Rv at this;simp only[bc,hk]at this;simp only[QL,Bool.true_or,PQ,PO,Qk]at this;exact⟨P6 this.1.1,P6 this.1.2⟩
 have f1:∀z:Val,ai T 3 (.ip ([AV.int .i64 z.kind,.int .i64 z.n,strs z.names,vals z.values].drop 0))=some (.int .i64 z.kind):=fun _=>rfl;have f2:∀z:Val,ai T 3 (.ip ([AV.int .i64 z.kind,.int .i64 z.n,strs z.names,vals z.values].drop 1))=some (.int .i64 z.n):=fun _=>rfl;have c1:∀n,cp (.int .i64 n)=ay (.int .i64 n):=fun _=>rfl;have hres:∀n:Int,a.kind=0->∀x1 x2 x3 x4:AV,K244_0 (aj pg) ao [.int .i64 a.kind,.int .i64 n,strs a.names,vals a.values,x1,x2,x3,x4]=ay (Val.mk 0 n [] []).av:=fun n hk x1 x2 x3 x4=>by
  obtain⟨e1,e2⟩:=hplain a ra hk;rw[hk,e1,e2];rfl
 generalize hcode:aj pg 244 [.hp 0 0,.int .i64 op,a.av,b.av] h=code;rw[C244]at hcode;simp -implicitDefEqProofs only[S244,fF,ap,bl,cw,ax,aE,dJ,fL,bC,cy,gL,AH,ak,FA45_0,FA45_1,f1,f2,bI,ek,eV,am,ci,c1]at hcode;have htr:∀b:Bool,af (aj pg 196 [AV.bool b]) (fun v13=>af (az 4 [] v13) fun v14=>ay (AV.agg [ae (aa v14) 0,ae (aa v14) 1,ae (aa v14) 2,ae (aa v14) 3]))=ay (cZ b).av:=fun b=>by
  rw[t196,ap,lC,ap,cW]
 have hne13:(13:Int)≠0:=by decide
 rw[<- hcode];unfold km;by_cases h7:op=7
 ·subst h7;by_cases hk:a.kind=b.kind/\a.kind≠2
  ·have e1:((7:Int)== 7&&a.kind== b.kind&&a.kind != 2)=true:=by simp[hk.1];rw[<- hk.1];exact hk.2
   simp only[e1,PQ,PS hk,htr];exact jO R
  ·have e1:((7:Int)== 7&&a.kind== b.kind&&a.kind != 2)=false:=by
    rw[<- Rc];simp only[PO,Qk,Rf];exact fun h=>hk ⟨h.1.2,h.2⟩
   have e2:((7:Int)== 7||a.kind != 0||b.kind != 0)=true:=rfl;simp only[e1,e2,PM,PQ,PP,if_neg hk];exact cM R 13 hne13
 ·have h7b:(op== 7)=false:=by simpa using h7
  have e1:(op== 7&&a.kind== b.kind&&a.kind != 2)=false:=by rw[h7b];rfl
  simp only[e1,PM,PP,if_neg h7];by_cases hk:a.kind=0/\b.kind=0
  ·have e2:(op== 7||a.kind != 0||b.kind != 0)=false:=by rw[h7b,hk.1,hk.2];rfl
   simp only[e2,PM,PP,PS hk];rcases hop with rfl|rfl|rfl|rfl|rfl
   ·have:=hres (IntKind.i64.wrap (a.n+b.n)) hk.1 (.int .i64 0) (.int .i64 0) (.sl []) (.sl [])
    simp only[show ((3:Int)== 6)=false from rfl,show ((3:Int)== 3)=true from rfl,PM,PP,PQ,this];exact jO R
   ·have:=hres (IntKind.i64.wrap (a.n-b.n)) hk.1 (.int .i64 0) (.int .i64 0) (.sl []) (.sl [])
    simp only[show ((4:Int)== 6)=false from rfl,show ((4:Int)== 3)=false from rfl,show ((4:Int)== 4)=true from rfl,PM,PP,PQ,this,show ¬((4:Int)=3)from by decide];exact jO R
   ·have:=hres (IntKind.i64.wrap (a.n*b.n)) hk.1 (.int .i64 0) (.int .i64 0) (.sl []) (.sl [])
    simp only[show ((5:Int)== 6)=false from rfl,show ((5:Int)== 3)=false from rfl,show ((5:Int)== 4)=false from rfl,PM,PP,PQ,this,show ¬((5:Int)=3)from by decide,show ¬((5:Int)=4)from by decide];exact jO R
   ·simp only[show ((6:Int)== 6)=true from rfl,PQ,htr,show ¬((6:Int)=3)from by decide,show ¬((6:Int)=4)from by decide,show ¬((6:Int)=5)from by decide,PP];exact jO R
   ·exact absurd rfl h7
  ·have e2:(op== 7||a.kind != 0||b.kind != 0)=true:=by
    rw[h7b];by_cases h0:a.kind=0
    ·have:b.kind≠0:=fun h=>hk ⟨h0,h⟩;simp[h0,this]
    ·simp[h0]
   simp only[e2,PQ,if_neg hk];exact cM R 13 hne13
def Dg(p:List Mod)(full:List Int)(nm:SNm)(n:Nat):Prop:=∀own ns vs e m h,RepR p full nm 0 m h->GoodM p m->m.fuel<=n->Sc p own ns vs m->bh e->ia p full nm (bo p n own ns vs e m) (aj pg 152 [.hp 0 0,aM own ns vs,e.av] h)
theorem ji{n:Nat}{own:Int}{ns:List aR}{vs:List Val}{e:Exp}{a:Int}{s:Ms}(h:bo p n own ns vs e m= .er a s):a≠0:=nI h
theorem GD{c:Int}(hc:c≠0)(R:qH p full nm c m h)(own:Int)(ns:List aR)(vs:List Val)(en:List aR)(e:Exp)(hb:e.args.length<=8)(x5 x6 x7 x8:AV):
  ∀(B A:List Exp)(acc:List Val),A++B=e.args->acc.length=A.length->∃w:Val,ao (L197_0 (aj pg) ao) [.hp 0 0,.ip (aa (aM own ns vs)),.ip (aa e.av),.int .i64 A.length,x5,x6,x7,x8,.int .i64 2,.int .i64 0,strs en,vals acc] h= .ok w.av h
 | [],A,acc,e0,ha=>by
  simp only[Qq]at e0;subst e0;refine⟨.mk 2 0 en acc,?_⟩;have hl1:aN T 24 (bE e.args)=some (.int .i64 e.args.length):=eP _;have hne:(c== 0)=false:=by simpa using hc
  have hw:(af (az 4 [] (AV.agg [.int .i64 2,.int .i64 0,strs en,vals acc])) (fun w=>ay (AV.agg [ae (aa w) 0,ae (aa w) 1,ae (aa w) 2,ae (aa w) 3])):M AV)=ay (Val.mk 2 0 en acc).av:=by
   have h1:=lC (Val.mk 2 0 en acc);have h2:=cW (Val.mk 2 0 en acc);rw[Val.av_eq]at h1 h2 |-;rw[show (AV.agg [.int .i64 2,.int .i64 0,strs en,vals acc])= .agg [.int .i64 (Val.mk 2 0 en acc).kind,.int .i64 (Val.mk 2 0 en acc).n,strs (Val.mk 2 0 en acc).names,vals (Val.mk 2 0 en acc).values]from rfl,h1,ap,h2]
  generalize hcode:ao (L197_0 (aj pg) ao) [.hp 0 0,.ip (aa (aM own ns vs)),.ip (aa e.av),.int .i64 e.args.length,x5,x6,x7,x8,.int .i64 2,.int .i64 0,strs en,vals acc] h=code;rw[FL197_0]at hcode;simp -implicitDefEqProofs only[L197_0,ax,aE,aX,FA66_5,Qf,Qe,LD24,hl1,bC,ak,am,Q0,QR,PM,PP,aZ,FH182_1,FH162_0,Qb,Qu,R.lErr,m8,hne,aF,P3,ap,List.replicate,ax,aI,hw]at hcode;rw[<- hcode];rfl
 |x:: B,A,acc,e0,ha=>by
  have hll:A.length+(B.length+1)=e.args.length:=by rw[<- e0];simp
  have h1:(A.length:Int)<(e.args.length:Int):=by omega
  have hx:e.args[A.length]'(by omega)=x:=by simp[<- e0]
  have hi:=kL (l:=e.args) (n:=(A.length:Int)) (by omega) h1;rw[show ((A.length:Int)).toNat=A.length by omega,PY e.args A.length (by omega),hx]at hi;have hl1:aN T 24 (bE e.args)=some (.int .i64 e.args.length):=eP _;have hex:ai T 66 (.ip (aa x.av))=some x.av:=by simp
  have hsc:ai T 185 (.ip (aa (aM own ns vs)))=some (aM own ns vs):=rfl;have hev:=uS hc R (aM own ns vs) x.av;have hb2:aG T 30 1 [(0,(default:Val).av)]=some (vals [default]):=rfl;have ha2:cf T 30 (vals acc) (vals [default])=some (vals (acc++[default])):=kj (by simp;omega);have hc1:∀l,cp (vals l)=ay (vals l):=fun _=>rfl;have hw:IntKind.i64.wrap ((A.length:Int)+1)=((A.length+1:Nat):Int):=cr (by omega);obtain⟨w,ih⟩:=GD hc R own ns vs en e hb x5 x6 x7 x8 B (A++[x]) (acc++[default]) (by rw[<- e0];simp) (by simp[ha]);refine⟨w,?_⟩;rw[<- ih];generalize hcode:ao (L197_0 (aj pg) ao) [.hp 0 0,.ip (aa (aM own ns vs)),.ip (aa e.av),.int .i64 A.length,x5,x6,x7,x8,.int .i64 2,.int .i64 0,strs en,vals acc] h=code;rw[FL197_0]at hcode;simp -implicitDefEqProofs only[L197_0,ax,aE,aX e,FA66_5,Qf,Qe,LD24,hl1,bC,ak,am,h1,QA,PQ,hi,hex,hsc]at hcode;rw[bn hev]at hcode;simp -implicitDefEqProofs only[hb2,ak,ha2,hc1,ap,cy,hw]at hcode;rw[<- hcode];simp only[P0,Qs,aX]
theorem t8{n:Nat}(IH:Dg p full nm n)(own:Int)(ns:List aR)(vs:List Val)(en:List aR)(e:Exp)(x5 x6 x7 x8:AV)(hes:∀x∈e.args,bh x)(h8:e.args.length<=8):
  ∀(B A:List Exp)(acc:List Val)(m:Ms)(h:Hp),A++B=e.args->acc.length=A.length->(∀v∈acc,Rv v)->en.length<=8->RepR p full nm 0 m h->GoodM p m->m.fuel<=n->Sc p own ns vs m->
  ia p full nm ((listX (bo p n own ns vs) B).bind (fun ws=>if dj (.mk 2 0 en (acc++ws))<=4 then .ok (.mk 2 0 en (acc++ws))else .er 6) m)
   (ao (L197_0 (aj pg) ao) [.hp 0 0,.ip (aa (aM own ns vs)),.ip (aa e.av),.int .i64 A.length,x5,x6,x7,x8,.int .i64 2,.int .i64 0,strs en,vals acc] h)
 | [],A,acc,m,h,e0,ha,hr,hen,R,G,hn,hs=>by
  simp only[Qq]at e0;subst e0;have hsz:(Val.mk 2 0 en acc).sz<=4611686018427387904:=by
   have h2:=mV acc hr;simp only[Val.sz];have:acc.length*200000<=8*200000:=Qi _ (by omega);omega
  have hlv:=t241 (.mk 2 0 en acc) hsz;rw[Val.av_eq]at hlv;simp only[Pq,Pu,Pp,Po]at hlv;have hw:(af (az 4 [] (AV.agg [.int .i64 2,.int .i64 0,strs en,vals acc])) (fun w=>ay (AV.agg [ae (aa w) 0,ae (aa w) 1,ae (aa w) 2,ae (aa w) 3])):M AV)=ay (Val.mk 2 0 en acc).av:=by
   have h1:=lC (Val.mk 2 0 en acc);have h2:=cW (Val.mk 2 0 en acc);rw[Val.av_eq]at h1 h2 |-;rw[show (AV.agg [.int .i64 2,.int .i64 0,strs en,vals acc])= .agg [.int .i64 (Val.mk 2 0 en acc).kind,.int .i64 (Val.mk 2 0 en acc).n,strs (Val.mk 2 0 en acc).names,vals (Val.mk 2 0 en acc).values]from rfl,h1,ap,h2]
  have hl1:aN T 24 (bE e.args)=some (.int .i64 e.args.length):=eP _;simp only[listX,iR,Qq];generalize hcode:ao (L197_0 (aj pg) ao) [.hp 0 0,.ip (aa (aM own ns vs)),.ip (aa e.av),.int .i64 e.args.length,x5,x6,x7,x8,.int .i64 2,.int .i64 0,strs en,vals acc] h=code;rw[FL197_0]at hcode;simp -implicitDefEqProofs only[L197_0,ax,aE,aX,FA66_5,Qf,Qe,LD24,hl1,bC,ak,am,Q0,QR,PM,PP,aZ,FH182_1,FH162_0,Qb,Qu,R.lErr,m8,QL,hlv,jf,bI,ap,ek,QJ,hw]at hcode;rw[<- hcode];by_cases h4:dj (.mk 2 0 en acc)<=4
  ·have h4':¬(4<((min (dj (.mk 2 0 en acc)) 6:Nat):Int)):=by omega
   simp only[h4,h4',QR,PM,PQ,PP];exact jO R
  ·have h4':(4<((min (dj (.mk 2 0 en acc)) 6:Nat):Int)):=by omega
   simp only[h4,h4',QA,PQ,PP];exact cM R 6 (by decide)
 | x:: B,A,acc,m,h,e0,ha,hr,hen,R,G,hn,hs=>by
  have hll:A.length+(B.length+1)=e.args.length:=by rw[<- e0];simp
  have h1:(A.length:Int)<(e.args.length:Int):=by omega
  have hx:e.args[A.length]'(by omega)=x:=by simp[<- e0]
  have hm:x∈e.args:=by rw[<- e0];simp
  have hi:=kL (l:=e.args) (n:=(A.length:Int)) (by omega) h1;rw[show ((A.length:Int)).toNat=A.length by omega,PY e.args A.length (by omega),hx]at hi;have hl1:aN T 24 (bE e.args)=some (.int .i64 e.args.length):=eP _;have hex:ai T 66 (.ip (aa x.av))=some x.av:=by simp
  have hsc:ai T 185 (.ip (aa (aM own ns vs)))=some (aM own ns vs):=rfl;have hb2:∀v:Val,aG T 30 1 [(0,v.av)]=some (vals [v]):=fun v=>by rw[v.av_eq];simp[vals,dP,v.av_eq];rfl
  have ha2:∀v:Val,cf T 30 (vals acc) (vals [v])=some (vals (acc++[v])):=fun v=>kj (by simp;omega);have hc1:∀l,cp (vals l)=ay (vals l):=fun _=>rfl;have hw:IntKind.i64.wrap ((A.length:Int)+1)=((A.length+1:Nat):Int):=cr (by omega);generalize hcode:ao (L197_0 (aj pg) ao) [.hp 0 0,.ip (aa (aM own ns vs)),.ip (aa e.av),.int .i64 A.length,x5,x6,x7,x8,.int .i64 2,.int .i64 0,strs en,vals acc] h=code;rw[FL197_0]at hcode;simp -implicitDefEqProofs only[L197_0,ax,aE,aX e,FA66_5,Qf,Qe,LD24,hl1,bC,ak,am,h1,QA,PQ,hi,hex,hsc]at hcode;rw[<- hcode];simp only[listX,fJ,iR];refine fR (IH own ns vs x m h R G hn hs (hes x hm)) (fun a s h=>ji h) (fun v s h' hv Rs=>?_) (fun a s w h' hc RE=>?_)
  ·obtain⟨G2,rv,f2⟩:=G.eval hs.right hv;simp only[hb2,ak,ha2,hc1,ap,cy,hw];have ih:=t8 IH own ns vs en e x5 x6 x7 x8 hes h8 B (A++[x]) (acc++[v]) s h' (by rw[<- e0];simp) (by simp[ha]) (fun w hw=>by
    rcases Qp.1 hw with k|k
    ·exact hr w k
    ·simp only[Qt]at k;subst k;exact rv) hen Rs G2 (by omega) (hs.less f2)
   simp only[QP,Rb,P0,Qs,aX]at ih;exact ih
  ·simp only[hb2,ak,ha2,hc1,ap,cy,hw];obtain⟨w',ih⟩:=GD hc RE own ns vs en e h8 x5 x6 x7 x8 B (A++[x]) (acc++[w]) (by rw[<- e0];simp) (by simp[ha]);simp only[P0,Qs,aX]at ih;exact⟨w',h',ih,RE⟩
theorem t197{n:Nat}(IH:Dg p full nm n)(own:Int)(ns:List aR)(vs:List Val)(e:Exp)(R:RepR p full nm 0 m h)(G:GoodM p m)(hn:m.fuel<=n)(hs:Sc p own ns vs m)(he:bh e):ia p full nm (iC (bo p n own ns vs) e m) (aj pg 197 [.hp 0 0,aM own ns vs,e.av] h):=by
 obtain⟨l1,l2⟩:=fO he;unfold iC;have ha:=t146 e.names (by omega);have hB:aT T true 45 [(0,.int .i64 2),(2,strs e.names)]=some (.agg [.int .i64 2,.int .i64 0,strs e.names,.hn]):=rfl;have hC:az 4 [3] (.agg [.int .i64 2,.int .i64 0,strs e.names,.hn])=ay (.agg [.int .i64 2,.int .i64 0,strs e.names,.hn]):=rfl;have hz1:aG T 22 0 []=some (strs []):=rfl;have a1:=oC (a:=[]) (b:=e.names) (by simp;omega);rw[Qv]at a1;generalize hcode:aj pg 197 [.hp 0 0,aM own ns vs,e.av] h=code;rw[C197]at hcode;simp -implicitDefEqProofs only[S197,aX,FA66_4,FA66_5,Qf,Qe,LD22,LD24,dA,eP,ak,fL,ha,ap,bI,ax,aE,bq,eV,am,jf,hz1,a1,hB,hC,bl]at hcode;rw[<- hcode];by_cases hl:e.names.length=e.args.length
 ·by_cases hasc:oH e.names=true
  ·have e1:(((e.names.length:Int) != (e.args.length:Int))||!oH e.names)=false:=by simp[hl,hasc]
   simp only[e1,PM,PP,PS (And.intro hl hasc)];by_cases h8:e.names.length<=8
   ·have h8':decide ((8:Int)<(e.names.length:Int))=false:=by simp;omega
    simp only[h8',PM,PP,PS h8]
    have:=t8 IH own ns vs e.names e (.int .i64 0) (.int .i64 0) (.sl []) (.sl []) (fun x hx=>bz he hx) (by omega) e.args [] [] m h rfl rfl (fun v hv=>by cases hv) h8 R G hn hs
    simp only[Qv,aX]at this;exact this
   ·have h8':decide ((8:Int)<(e.names.length:Int))=true:=by simp;omega
    simp only[h8',PQ,if_neg h8];exact cM R 6 (by decide)
  ·have e1:(((e.names.length:Int) != (e.args.length:Int))||!oH e.names)=true:=by simp[hasc]
   have hx:¬(e.names.length=e.args.length/\oH e.names=true):=fun h=>hasc h.2;simp only[e1,PQ,if_neg hx];exact cM R 13 (by decide)
 ·have e1:(((e.names.length:Int) != (e.args.length:Int))||!oH e.names)=true:=by
   have:((e.names.length:Int) != (e.args.length:Int))=true:=by simp;omega
   rw[this];rfl
  have hx:¬(e.names.length=e.args.length/\oH e.names=true):=fun h=>hl h.1;simp only[e1,PQ,if_neg hx];exact cM R 13 (by decide)
end
end Go.Proofs.YtihmmkncokjbaaaGreatDoor
namespace Go.Proofs.YtihmmkncokjbaaaGreatDoor
open Go Go.Av Go.Av.Ap
set_option maxRecDepth 100000
section
variable {p:List Mod} {full:List Int} {nm:SNm} {m:Ms} {h:Hp}
theorem K4(R:RepR p full nm 0 m h):∃dv cv sv tag,RepT (CX nm.told p full 0) nm tag dv cv sv m h/\∀g:AV->M AV,af (bi T 160 (.hp 0 7)) g h=g cv h:=by
 obtain⟨tag,dv,cv,sv,R0⟩:=R.rep;exact⟨dv,cv,sv,tag,R0,fun g=>bn (ca rfl rfl R0.r0 rfl)⟩
theorem zR(s t:aR)(v:AV)(h:bM v=true):cz 3 (.agg [.str s,.str t,v])=true:=by
 simp only[cz,dk,aa,QH,List.all_nil];rw[h];rfl
theorem zU(R:RepR p full nm 0 m h)(c:Ap.Call)(hb:m.calls.length<=2000000):
  ∃cv cv' h1 h2,(∀g:AV->M AV,af (bi T 160 (.hp 0 7)) g h=g cv h)/\(∀g:AV->M AV,af (appH T 160 false cv (.sl [.agg [.str c.module,.str c.func,vals c.args]])) g h=g cv' h1)/\(∀g:AV->M AV,af (cq T 160 (.hp 0 7) cv') g h1=g (.tup []) h2)/\RepR p full nm 0 { m with calls:=m.calls++[c] } h2:=by
 obtain⟨dv,cv,sv,tag,R0,l1⟩:=K4 R;obtain⟨h1,cv',tag',e1,K,H,hc⟩:=og (T:=T) (t:=160) rfl rfl rfl rfl (by decide) rfl (by decide) (x:=.agg [.str c.module,.str c.func,vals c.args]) R0.cs (fun h0=>by
  have:m.calls=[]:=P6 h0;rw[this];rfl) (fun cs h=>h.ok.1) (zR _ _ _ rfl) (show (m.calls.length+1)*56<=140737488355328 by omega)
 have h0:=(K 0 _ R0.r0 (by rw[R0.t0];decide)).1;have hac:aa cv'=[cv']:=(fe hc).2.1
 have:=R0.pushCall (m':={ m with calls:=m.calls++[c] }) (c:=c) K (.inl rfl) H rfl rfl rfl id
 refine⟨cv,cv',h1,_,l1,fun g=>bn e1,fun g=>bn (dT rfl h0 (fe hc).1 (show 7+1<=13 by decide) (by decide)),R.sub,R.tld,tag',dv,cv',sv,?_⟩;rw[hac];exact this
theorem Ct(x0:AV)(f:Fun)(a:Int)(l:List Val)(y4 y5 y6 y7:AV)(hl:l.length=f.params.length)(hb:f.params.length<=274877906944):∀(n i:Nat),l.length-i=n->i<=l.length->
  ao (L243_0 (aj pg) ao) [x0,vals l,.ip (aa f.av),.int .i64 i,y4,y5,y6,y7,.int .i64 a,strs ((f.params.take i).map (·.1)),vals (l.take i)]=ao (L243_0 (aj pg) ao) [x0,vals l,.ip (aa f.av),.int .i64 l.length,y4,y5,y6,y7,.int .i64 a,strs (f.params.map (·.1)),vals l]:=by
 intro n
 induction n with
 |zero=>
  intro i hn hi;obtain rfl:i=l.length:=by omega
  rw[Rt,Q6 (by omega)]
 |succ n ih=>
  intro i hn hi;have hlt:i<l.length:=by omega
  have hlt2:i<f.params.length:=by omega
  rw[<- ih (i+1) (by omega) (by omega)];have h1:(i:Int)<(l.length:Int):=by omega
  have hix:=hM (l:=l) (n:=(i:Int)) (by omega) h1;rw[show ((i:Int)).toNat=i by omega,PY l i hlt]at hix;have hip:=gp (l:=f.params) (n:=(i:Int)) (by omega) (by omega);rw[show ((i:Int)).toNat=i by omega,PY f.params i hlt2]at hip;have hw:=t201 a ((f.params.take i).map (·.1)) (l.take i) f.params[i].1 l[i] (by simp;omega) (by simp;omega);have hsv:(AV.agg [.int .i64 a,strs ((f.params.take i).map (·.1)),vals (l.take i)])=aM a ((f.params.take i).map (·.1)) (l.take i):=rfl;have hll:aN T 30 (vals l)=some (.int .i64 l.length):=hP _;have hps:ai T 23 (.ip ((aa f.av).drop 2))=some (bm f.params):=by simp
  have hfn:ai T 9 (.ip ((aa (bZ f.params[i])).drop 0))=some (.str f.params[i].1):=by simp
  have hld:ai T 45 (.ip (aa l[i].av))=some l[i].av:=by simp
  have hcn:∀o ns vs,az 3 [] (aM o ns vs)=ay (aM o ns vs):=fun _ _ _=>rfl;have hwi:IntKind.i64.wrap ((i:Int)+1)=((i+1:Nat):Int):=cr (by omega);have e1:(f.params.take (i+1)).map (·.1)=(f.params.take i).map (·.1)++[f.params[i].1]:=by rw[Q1 hlt2,Rw];rfl
  have e2:l.take (i+1)=l.take i++[l[i]]:=Q1 hlt;rw[FL243_0,e1,e2];simp only[L243_0,ax,aE,hll,bC,ak,am,h1,QA,PQ,FA68_2,hps,hip,FA37_0,hfn,hix,hld,hsv,hw,bA,ap,hcn,bH,cy,hwi]
theorem wK{n:Nat}(LB:LimB p)(IH:Dg p full nm n)(a:Int)(f:Fun)(l:List Val)(m:Ms)(h0:0<=a)(ha:a<p.length)(hf:f∈(p[a.toNat]?.getD default).funcs)(hl:l.length=f.params.length)(hr:∀v∈l,Rv v)(G:GoodM p m)(hmu:mu m<1000000)(hn:m.fuel<=n)(y4 y5 y6 y7:AV):
  ∀ (m1:Ms) (h1:Hp),RepR p full nm 0 m1 h1->m1= { m with calls:=if f.pub=true then m.calls++[⟨(p[a.toNat]?.getD default).name,f.name,l⟩]else m.calls } ->m.frames<60->
   ia p full nm (((bo p n a (f.params.map (·.1)) l f.body).bind fun v=>.upd (fun m=>{ m with frames:=m.frames-1 }) (.ok v)) (jh p a f l m))
    (K243_0 (aj pg) ao [.hp 0 0,.int .i64 a,vals l,.ip (aa f.av),y4,y5,y6,y7] h1):=by
 have hlt:a.toNat<p.length:=by omega
 have hmp:p[a.toNat]?.getD default∈p:=by rw[P1 hlt];exact P2 hlt
 obtain⟨hbody,hparams⟩:=LB.body _ hmp f hf;have hfb:=G.bud;have hfu:=G.fuel;have hfr:=G.fr;intro m1 h1 R1 e1 h60;have hB:aT T false 185 [(0,.int .i64 a)]=some (aM a [] []):=rfl;have hcn:∀o ns vs,az 3 [] (aM o ns vs)=ay (aM o ns vs):=fun _ _ _=>rfl;have hloop:=Ct (.hp 0 0) f a l y4 y5 y6 y7 hl hparams _ 0 rfl (by omega);have hw1:IntKind.i64.wrap (m.frames+1)=m.frames+1:=bd (by omega) (by omega);obtain⟨h2,s2,R2⟩:=R1.sFrames (m.frames+1);have e2:{ m1 with frames:=m.frames+1 } = jh p a f l m:=by rw[e1];rfl
 have hm1f:m1.frames=m.frames:=by rw[e1]
 rw[e2]at R2;have l2:=R1.lFrames;rw[hm1f]at l2;have hex:ai T 66 (.ip ((aa f.av).drop 6))=some f.body.av:=by simp
 have hll:aN T 30 (vals l)=some (.int .i64 l.length):=hP _;have hm2:(if f.pub=true then m.calls++[(⟨(p[a.toNat]?.getD default).name,f.name,l⟩:Ap.Call)]else m.calls).length<=m.calls.length+1:=by
  split
  ·simp
  ·omega
 have G2:GoodM p (jh p a f l m):=by
  refine⟨⟨G.right.1,fun c hc=>?_⟩,?_,by simp only[jh];omega,hfu,G.shape⟩
  ·simp only[jh]at hc;split at hc
   ·rcases Qp.1 hc with k|k
    ·exact G.right.2 c k
    ·simp only[Qt]at k;subst k;exact hr
   ·exact G.right.2 c hc
  ·simp only[mu,jh]at hmu |-;omega
 have hns:((f.params.map (·.1)).length:Int)+(jh p a f l m).fuel<=549755813888:=by
  simp only[Rp,jh];simp only[mu]at hfb;omega
 have hsv:(AV.agg [.int .i64 a,strs (f.params.map (·.1)),vals l])=aM a (f.params.map (·.1)) l:=rfl;generalize hcode:K243_0 (aj pg) ao [.hp 0 0,.int .i64 a,vals l,.ip (aa f.av),y4,y5,y6,y7] h1=code;simp -implicitDefEqProofs only[K243_0,ax,aE,hB,ak,hcn,ap,bH]at hcode;have hloop':ao (L243_0 (aj pg) ao) [.hp 0 0,vals l,.ip (aa f.av),.int .i64 0,y4,y5,y6,y7,.int .i64 a,strs [],vals []]=_:=hloop;rw[hloop',FL243_0]at hcode;simp -implicitDefEqProofs only[L243_0,ax,aE,hll,bC,ak,am,Q0,QR,PM,PP,aZ,FH182_5,Qb,l2,cy,hw1,s2,FA68_5,hex,hsv]at hcode;rw[<- hcode];refine fR (IH a (f.params.map (·.1)) l f.body _ _ R2 G2 hn ⟨ha,⟨by simp[hl],hr⟩,hns⟩ hbody) (fun a s h=>ji h) (fun v s h3 hv R3=>?_) (fun c s w h3 hc RE=>?_)
 ·obtain⟨G3,_,_⟩:=G2.eval ⟨by simp[hl],hr⟩ hv;obtain⟨h4,s4,R4⟩:=R3.sFrames (s.frames-1);have hfr3:=G3.fr;have hw2:IntKind.i64.wrap (s.frames-1)=s.frames-1:=bd (by omega) (by omega);have hvl:ai T 45 (.ip (aa v.av))=some v.av:=by simp
  generalize hcode2:af (aW 4 v.av) _ h3=code2;simp -implicitDefEqProofs only[fF,ap,bl,aZ,ak,FH182_5,Qb,R3.lFrames,gL,hw2,s4]at hcode2;have hvl':ai T 45 (.ip (aa (AV.agg (aa v.av))))=some v.av:=hvl;simp -implicitDefEqProofs only[bl,hvl,ak,lC,ap,cW]at hcode2;rw[<- hcode2];exact⟨h4,rfl,R4⟩
 ·obtain⟨s',R3,k1,k2,k3⟩:=RE;obtain⟨h4,s4,R4⟩:=R3.sFrames (IntKind.i64.wrap (s'.frames-1));have hvl:ai T 45 (.ip (aa w.av))=some w.av:=by simp
  refine⟨w,h4,?_,_,R4,k1,k2,k3⟩;generalize hcode2:af (aW 4 w.av) _ h3=code2;simp -implicitDefEqProofs only[fF,ap,bl,aZ,ak,FH182_5,Qb,R3.lFrames,gL,s4]at hcode2;simp -implicitDefEqProofs only[bl,hvl,ak,lC,ap,cW]at hcode2;rw[<- hcode2];rfl
theorem t243{n:Nat}(LB:LimB p)(IH:Dg p full nm n)(a:Int)(f:Fun)(l:List Val)(R:RepR p full nm 0 m h)(h0:0<=a)(ha:a<p.length)(hf:f∈(p[a.toNat]?.getD default).funcs)(hl:l.length=f.params.length)(hr:∀v∈l,Rv v)(G:GoodM p m)(hmu:mu m<1000000)(hn:m.fuel<=n):
  ia p full nm (fX p (bo p n) a f l m) (aj pg 243 [.hp 0 0,.int .i64 a,f.av,vals l] h):=by
 have hlt:a.toNat<p.length:=by omega
 have hmp:p[a.toNat]?.getD default∈p:=by rw[P1 hlt];exact P2 hlt
 obtain⟨hbody,hparams⟩:=LB.body _ hmp f hf;have hfb:=G.bud;have hfu:=G.fuel;have tail:=wK LB IH a f l m h0 ha hf hl hr G hmu hn (.int .i64 0) (.int .i64 0) (.sl []) (.sl []);have hpv:se nm.told p=dI p:=jl (fun e=>by subst e;simp at hlt);have hfp:ai T 4 (.ip ((aa f.av).drop 1))=some (.bool f.pub):=by simp
 have hfn:ai T 9 (.ip ((aa f.av).drop 0))=some (.str f.name):=by simp
 generalize hcode:aj pg 243 [.hp 0 0,.int .i64 a,f.av,vals l] h=code;rw[C243]at hcode;simp -implicitDefEqProofs only[S243,aZ,ak,FH182_1,FH162_0,FH182_5,Qb,Qu,R.lErr,fD,Ra,am,PM,PP,R.lFrames,ix]at hcode;by_cases h60:m.frames<60
 ·have hd:decide (60<=m.frames)=false:=by simp;omega
  rw[ku,PS h60];simp -implicitDefEqProofs only[hd,PM,PP,ci,FA68_1,hfp,ak,am]at hcode;by_cases hp:f.pub=true
  ·simp only[hp,PQ]at hcode tail;have hi:=nu (l:=p) (n:=a) h0 ha;rw[PY p a.toNat hlt]at hi;have e3:p[a.toNat]?.getD default=p[a.toNat]:=by rw[P1 hlt];rfl
   obtain⟨cv,cv',h1,h2,c1,c2,c3,R2⟩:=zU R ⟨p[a.toNat].name,f.name,l⟩ (by simp only[mu]at hmu;omega);have hB:aT T false 260 [(0,.str p[a.toNat].name),(1,.str f.name),(2,vals l)]=some (.agg [.str p[a.toNat].name,.str f.name,vals l]):=qU _ _ _ rfl;have hBS:=pq (.agg [.str p[a.toNat].name,.str f.name,vals l]) rfl;have hz1:aG T 30 0 []=some (vals []):=rfl;have a1:=kj (a:=[]) (b:=l) (by simp;omega);rw[Qv]at a1;simp -implicitDefEqProofs only[aZ,ak,FH182_0,FH182_1,FH162_3,Qb,Nat.reduceAdd,c1,R.lProg,hpv,hi,gw,FA29_0,Qe,LD9,FA68_0,hfn,hz1,a1,hB,hBS,c2,c3]at hcode;simp -implicitDefEqProofs only[ib,Qe,LD9,ak,hB,hBS,c2,aZ,FH182_1,FH162_3,Qb,Nat.reduceAdd,c3]at hcode tail;rw[<- hcode];exact tail _ h2 R2 (by rw[e3]) h60
  ·simp only[hp,PM,PP]at hcode tail;rw[<- hcode];exact tail m h R rfl h60
 ·have hd:decide (60<=m.frames)=true:=by simp;omega
  rw[ku,if_neg h60];simp -implicitDefEqProofs only[hd,PQ]at hcode;rw[<- hcode];exact cM R 6 (by decide)
end
end Go.Proofs.YtihmmkncokjbaaaGreatDoor
namespace Go.Proofs.YtihmmkncokjbaaaGreatDoor
open Go Go.Av Go.Av.Ap
set_option maxRecDepth 100000
section
variable {p:List Mod} {full:List Int} {nm:SNm} {m:Ms} {h:Hp}
theorem Ix(LB:LimB p)(t:Bool)(s:aR):aj pg 150 [se t p,.str s]=ay (.int .i64 (jb p s)):=by
 have:=t150 p LB.lim.len s
 by_cases hp:p=[]
 ·subst hp;cases t with
  |false=>exact this
  |true=>
   rw[C150]at this |-;exact this
 ·rw[jl hp];exact this
theorem Iw(LB:LimB p)(t:Bool)(a:Int)(ha:a<p.length)(s:aR):aj pg 242 [se t p,.int .i64 a,.str s]=ay (.int .i64 (if a<0 then -1 else ge (p[a.toNat]?.getD default).funcs s)):=by
 have:=t242 p LB.lim.len (fun m hm=>(LB.lim.funcs m hm).1) a ha s
 by_cases hp:p=[]
 ·subst hp;cases t with
  |false=>exact this
  |true=>
   rw[C242]at this |-;exact this
 ·rw[jl hp];exact this
theorem AL{c:Int}(hc:c≠0)(R:qH p full nm c m h)(own:Int)(ns:List aR)(vs:List Val)(a:Int)(f:Fun)(e:Exp)(hb:e.args.length<=274877906944)(y7 y8 y9 y10:AV):
  ∀(B A:List Exp)(acc:List Val),A++B=e.args->acc.length=A.length->∃w:Val,ao (L198_0 (aj pg) ao) [.hp 0 0,.ip (aa (aM own ns vs)),.ip (aa e.av),.int .i64 a,.ip (aa f.av),vals acc,.int .i64 A.length,y7,y8,y9,y10] h= .ok w.av h
 |[],A,acc,e0,ha=>by
  simp only[Qq]at e0;subst e0;refine⟨default,?_⟩;have hl1:aN T 24 (bE e.args)=some (.int .i64 e.args.length):=eP _;have hfl:ai T 68 (.ip (aa f.av))=some f.av:=by simp
  have hen:=Fz hc R (.int .i64 a) f.av (vals acc);generalize hcode:ao (L198_0 (aj pg) ao) [.hp 0 0,.ip (aa (aM own ns vs)),.ip (aa e.av),.int .i64 a,.ip (aa f.av),vals acc,.int .i64 e.args.length,y7,y8,y9,y10] h=code;rw[FL198_0]at hcode;simp -implicitDefEqProofs only[L198_0,ax,aE,aX,FA66_5,Qf,Qe,LD24,hl1,bC,ak,am,Q0,QR,PM,PP,hfl]at hcode;rw[bn hen,lC,ap,cW]at hcode;rw[<- hcode];rfl
 |x:: B,A,acc,e0,ha=>by
  have hll:A.length+(B.length+1)=e.args.length:=by rw[<- e0];simp
  have h1:(A.length:Int)<(e.args.length:Int):=by omega
  have hx:e.args[A.length]'(by omega)=x:=by simp[<- e0]
  have hi:=kL (l:=e.args) (n:=(A.length:Int)) (by omega) h1;rw[show ((A.length:Int)).toNat=A.length by omega,PY e.args A.length (by omega),hx]at hi;have hl1:aN T 24 (bE e.args)=some (.int .i64 e.args.length):=eP _;have hex:ai T 66 (.ip (aa x.av))=some x.av:=by simp
  have hsc:ai T 185 (.ip (aa (aM own ns vs)))=some (aM own ns vs):=rfl;have hev:=uS hc R (aM own ns vs) x.av;have hb2:aG T 30 1 [(0,(default:Val).av)]=some (vals [default]):=rfl;have ha2:cf T 30 (vals acc) (vals [default])=some (vals (acc++[default])):=kj (by simp;omega);have hw:IntKind.i64.wrap ((A.length:Int)+1)=((A.length+1:Nat):Int):=cr (by omega);obtain⟨w,ih⟩:=AL hc R own ns vs a f e hb y7 y8 y9 y10 B (A++[x]) (acc++[default]) (by rw[<- e0];simp) (by simp[ha]);refine⟨w,?_⟩;rw[<- ih];generalize hcode:ao (L198_0 (aj pg) ao) [.hp 0 0,.ip (aa (aM own ns vs)),.ip (aa e.av),.int .i64 a,.ip (aa f.av),vals acc,.int .i64 A.length,y7,y8,y9,y10] h=code;rw[FL198_0]at hcode;simp -implicitDefEqProofs only[L198_0,ax,aE,aX e,FA66_5,Qf,Qe,LD24,hl1,bC,ak,am,h1,QA,PQ,hi,hex,hsc]at hcode;rw[bn hev]at hcode;simp -implicitDefEqProofs only[hb2,ak,ha2,cy,hw]at hcode;rw[<- hcode];simp only[P0,Qs,aX]
theorem rS{n:Nat}(LB:LimB p)(IH:Dg p full nm n)(own:Int)(ns:List aR)(vs:List Val)(a:Int)(f:Fun)(e:Exp)(y7 y8 y9 y10:AV)(h0:0<=a)(hat:a<p.length)(hf:f∈(p[a.toNat]?.getD default).funcs)(hes:∀x∈e.args,bh x)(hb:e.args.length<=274877906944)(hlen:e.args.length=f.params.length):
  ∀(B A:List Exp)(acc:List Val)(m:Ms)(h:Hp),A++B=e.args->acc.length=A.length->(∀v∈acc,Rv v)->RepR p full nm 0 m h->GoodM p m->mu m<1000000->m.fuel<=n->Sc p own ns vs m->
  ia p full nm ((listX (bo p n own ns vs) B).bind (fun ws=>fX p (bo p n) a f (acc++ws)) m)
   (ao (L198_0 (aj pg) ao) [.hp 0 0,.ip (aa (aM own ns vs)),.ip (aa e.av),.int .i64 a,.ip (aa f.av),vals acc,.int .i64 A.length,y7,y8,y9,y10] h)
 | [],A,acc,m,h,e0,hac,hr,R,G,hmu,hn,hs=>by
  simp only[Qq]at e0;subst e0;have hfl:ai T 68 (.ip (aa f.av))=some f.av:=by simp
  have hl1:aN T 24 (bE e.args)=some (.int .i64 e.args.length):=eP _;have IE':=t243 LB IH a f acc R h0 hat hf (by omega) hr G hmu hn;generalize hcode:ao (L198_0 (aj pg) ao) [.hp 0 0,.ip (aa (aM own ns vs)),.ip (aa e.av),.int .i64 a,.ip (aa f.av),vals acc,.int .i64 e.args.length,y7,y8,y9,y10] h=code;rw[FL198_0]at hcode;simp -implicitDefEqProofs only[L198_0,ax,aE,aX,FA66_5,Qf,Qe,LD24,hl1,bC,ak,am,Q0,QR,PM,PP,hfl]at hcode;simp only[listX,iR,Qq];rw[<- hcode];generalize fX p (bo p n) a f acc m=r at IE' |-;cases r with
  |ok v s=>
   obtain⟨h',e1,R'⟩:=IE';rw[bn e1,lC,ap,cW];exact⟨h',rfl,R'⟩
  |er c s=>
   obtain⟨w,h',e1,R'⟩:=IE';rw[bn e1,lC,ap,cW];exact⟨w,h',rfl,R'⟩
 | x:: B,A,acc,m,h,e0,hac,hr,R,G,hmu,hn,hs=>by
  have hll:A.length+(B.length+1)=e.args.length:=by rw[<- e0];simp
  have h1:(A.length:Int)<(e.args.length:Int):=by omega
  have hx:e.args[A.length]'(by omega)=x:=by simp[<- e0]
  have hm:x∈e.args:=by rw[<- e0];simp
  have hi:=kL (l:=e.args) (n:=(A.length:Int)) (by omega) h1;rw[show ((A.length:Int)).toNat=A.length by omega,PY e.args A.length (by omega),hx]at hi;have hl1:aN T 24 (bE e.args)=some (.int .i64 e.args.length):=eP _;have hex:ai T 66 (.ip (aa x.av))=some x.av:=by simp
  have hsc:ai T 185 (.ip (aa (aM own ns vs)))=some (aM own ns vs):=rfl;have hb2:∀v:Val,aG T 30 1 [(0,v.av)]=some (vals [v]):=fun v=>by rw[v.av_eq];simp[vals,dP,v.av_eq];rfl
  have ha2:∀v:Val,cf T 30 (vals acc) (vals [v])=some (vals (acc++[v])):=fun v=>kj (by simp;omega);have hw:IntKind.i64.wrap ((A.length:Int)+1)=((A.length+1:Nat):Int):=cr (by omega);generalize hcode:ao (L198_0 (aj pg) ao) [.hp 0 0,.ip (aa (aM own ns vs)),.ip (aa e.av),.int .i64 a,.ip (aa f.av),vals acc,.int .i64 A.length,y7,y8,y9,y10] h=code;rw[FL198_0]at hcode;simp -implicitDefEqProofs only[L198_0,ax,aE,aX e,FA66_5,Qf,Qe,LD24,hl1,bC,ak,am,h1,QA,PQ,hi,hex,hsc]at hcode;rw[<- hcode];simp only[listX,fJ,iR];refine fR (IH own ns vs x m h R G hn hs (hes x hm)) (fun a s h=>ji h) (fun v s h' hv Rs=>?_) (fun c s w h' hc RE=>?_)
  ·obtain⟨G2,rv,f2⟩:=G.eval hs.right hv;obtain⟨t1,_⟩:=mE n own ns vs x m v s G.fuel hv;simp only[hb2,ak,ha2,cy,hw];have ih:=rS LB IH own ns vs a f e y7 y8 y9 y10 h0 hat hf hes hb hlen B (A++[x]) (acc++[v]) s h' (by rw[<- e0];simp) (by simp[hac]) (fun w hw=>by
    rcases Qp.1 hw with k|k
    ·exact hr w k
    ·simp only[Qt]at k;subst k;exact rv) Rs G2 (by omega) (by omega) (hs.less f2)
   simp only[QP,Rb,P0,Qs,aX]at ih;exact ih
  ·simp only[hb2,ak,ha2,cy,hw];obtain⟨w',ih⟩:=AL hc RE own ns vs a f e hb y7 y8 y9 y10 B (A++[x]) (acc++[w]) (by rw[<- e0];simp) (by simp[hac]);simp only[P0,Qs,aX]at ih;exact⟨w',h',ih,RE⟩
theorem sf{n:Nat}(LB:LimB p)(IH:Dg p full nm n)(own:Int)(ns:List aR)(vs:List Val)(e:Exp)(a:Int)(hat:a<p.length)(R:RepR p full nm 0 m h)(G:GoodM p m)(hmu:mu m<1000000)(hn:m.fuel<=n)(hs:Sc p own ns vs m)(he:bh e)(y1 y2 y3 y4:AV):
  ia p full nm ((match ln p a e.s with
   |none=>.er 12
   | some f=>if e.m=[]\/f.pub=true then
     (if e.args.length=f.params.length then(listX (bo p n own ns vs) e.args).bind fun l=>fX p (bo p n) a f l else .er 13)
    else .er 12:X Val) m)
   (K198_0 (aj pg) ao [.hp 0 0,.ip (aa (aM own ns vs)),.ip (aa e.av),.int .i64 a,y1,y2,y3,y4] h):=by
 obtain⟨l1,l2⟩:=fO he;have hfu:=Iw LB nm.told a hat e.s;generalize hcode:K198_0 (aj pg) ao [.hp 0 0,.ip (aa (aM own ns vs)),.ip (aa e.av),.int .i64 a,y1,y2,y3,y4] h=code;simp -implicitDefEqProofs only[K198_0,ax,aE,aZ,ak,FH182_0,Qb,R.lProg,aX,FA66_2,Qf,Qe,LD9,hfu,bA,ap,bC,am]at hcode;rw[<- hcode];clear hcode;by_cases h0:a<0
 ·have hx:(if a<0 then(-1:Int)else ge (p[a.toNat]?.getD default).funcs e.s)= -1:=PS h0;have hnone:ln p a e.s=none:=by unfold ln;rw[PS h0]
  rw[hx,hnone];simp only[show decide ((-1:Int)<0)=true from rfl,PQ];exact cM R 12 (by decide)
 have hx:(if a<0 then(-1:Int)else ge (p[a.toNat]?.getD default).funcs e.s)=ge (p[a.toNat]?.getD default).funcs e.s:=if_neg h0;rw[hx];have hlt:a.toNat<p.length:=by omega
 have e3:p[a.toNat]?.getD default=p[a.toNat]:=by rw[P1 hlt];rfl
 have hfd:ln p a e.s=if ge (p[a.toNat]?.getD default).funcs e.s<0 then none else(p[a.toNat]?.getD default).funcs[(ge (p[a.toNat]?.getD default).funcs e.s).toNat]?:=by
  unfold ln;rw[if_neg h0]
 rw[hfd,e3];generalize hI:ge p[a.toNat].funcs e.s=I;by_cases hi:I<0
 ·rw[PS hi];simp only[hi,QA,PQ];exact cM R 12 (by decide)
 rw[if_neg hi];have hil:I<p[a.toNat].funcs.length:=by
  rcases iK (fun(x:Fun)=>x.name== e.s) p[a.toNat].funcs 0 with k|k
  ·have:ge p[a.toNat].funcs e.s= -1:=k;omega
  ·have:ge p[a.toNat].funcs e.s=bj (fun(x:Fun)=>x.name== e.s) p[a.toNat].funcs 0:=rfl;omega
 have hit:I.toNat<p[a.toNat].funcs.length:=by omega
 rw[P1 hit];have hpv:se nm.told p=dI p:=jl (fun e=>by subst e;simp at hlt);have hix:=nu (l:=p) (n:=a) (by omega) hat;rw[PY p a.toNat hlt]at hix;have hif:=Dl (l:=p[a.toNat].funcs) (n:=I) (by omega) hil;rw[PY _ I.toNat hit]at hif;have hmem:p[a.toNat].funcs[I.toNat]∈(p[a.toNat]?.getD default).funcs:=by rw[e3];exact P2 hit
 have hmp:p[a.toNat]?.getD default∈p:=by rw[e3];exact P2 hlt
 generalize p[a.toNat].funcs[I.toNat]=f at *;have hfl:ai T 68 (.ip (aa f.av))=some f.av:=by simp
 have hpub:ai T 4 (.ip (List.drop 1 (aa f.av)))=some (.bool f.pub):=by simp
 have hpar:ai T 23 (.ip (List.drop 2 (aa f.av)))=some (bm f.params):=by simp
 have hfs:ai T 25 (.ip (List.drop 4 (aa p[a.toNat].av)))=some (mI p[a.toNat].funcs):=by simp
 have hgu:aF (.bool (!(e.m== []))) true 1 (ay [.bool !f.pub])=ay [gv (!(e.m== [])) true (.bool !f.pub)]:=bI _ _ _;have hpk:aI (.bool (!(e.m== []))) (gv (!(e.m== [])) true (.bool !f.pub)) (.bool false)=some (.bool ((!(e.m== []))&&!f.pub)):=ek _ _;have hlp:aN T 23 (bm f.params)=some (.int .i64 f.params.length):=bU _;have hle:aN T 24 (bE e.args)=some (.int .i64 e.args.length):=eP _;have hid:decide (I<0)=false:=by simp;omega
 generalize hcode:(if decide (I<0)=true then _ else _:M AV) h=code;simp -implicitDefEqProofs only[hid,PM,PP,aZ,ak,FH182_0,Qb,R.lProg,hpv,hix,FA29_4,hfs,hif,hfl,kQ,ap,bl,FA66_3,Qf,Qe,LD9,oq,FA68_1,FA68_2,hpub,hpar,bq,hgu,ax,hpk,am,FA66_5,LD24,hlp,hle,fL]at hcode;rw[<- hcode];by_cases h1:e.m=[]\/f.pub=true
 ·have h1':((!(e.m== []))&&!f.pub)=false:=by
   rcases h1 with h1|h1<;>simp[h1]
  simp only[h1',PM,PP,PS h1];by_cases h2:e.args.length=f.params.length
  ·have h2':((f.params.length:Int) != (e.args.length:Int))=false:=by simp[h2]
   simp only[h2',PM,PP,PS h2]
   have:=rS LB IH own ns vs a f e y1 y2 y3 y4 (by omega) hat hmem (fun x hx=>bz he hx) l2 h2 e.args [] [] m h rfl rfl (fun v hv=>by cases hv) R G hmu hn hs
   simp only[Qv,aX]at this;exact this
  ·have h2':((f.params.length:Int) != (e.args.length:Int))=true:=by simp;omega
   simp only[h2',PQ,if_neg h2];exact cM R 13 (by decide)
 ·have h1':((!(e.m== []))&&!f.pub)=true:=by
   have a1:¬e.m=[]:=fun h=>h1 (.inl h);have a2:¬f.pub=true:=fun h=>h1 (.inr h);simp[a1,a2]
  simp only[h1',PQ,if_neg h1];exact cM R 12 (by decide)
theorem t198{n:Nat}(LB:LimB p)(IH:Dg p full nm n)(own:Int)(ns:List aR)(vs:List Val)(e:Exp)(R:RepR p full nm 0 m h)(G:GoodM p m)(hmu:mu m<1000000)(hn:m.fuel<=n)(hs:Sc p own ns vs m)(he:bh e):ia p full nm (mL p (bo p n) own ns vs e m) (aj pg 198 [.hp 0 0,aM own ns vs,e.av] h):=by
 unfold mL;have hown:ai T 3 (.ip [.int .i64 own,strs ns,vals vs])=some (.int .i64 own):=rfl;have hmd:=Ix LB nm.told e.m;generalize hcode:aj pg 198 [.hp 0 0,aM own ns vs,e.av] h=code;rw[C198]at hcode;simp -implicitDefEqProofs only[S198,bH,aX,FA185_0,FA66_3,Qf,Qe,hown,LD9,ak,ci,oq,am]at hcode;by_cases h0:e.m=[]
 ·have h0':(!(e.m== []))=false:=by simp[h0]
  simp only[h0',PM,PP]at hcode;simp only[PS h0];rw[<- hcode]
  have:=sf LB IH own ns vs e own hs.own R G hmu hn hs he (.int .i64 0) (.int .i64 0) (.sl []) (.sl [])
  simp only[bH,aX]at this;exact this
 ·have h0':(!(e.m== []))=true:=by simp[h0]
  simp -implicitDefEqProofs only[h0',PQ,aZ,ak,FH182_0,Qb,R.lProg,hmd,bA,ap]at hcode;simp only[if_neg h0];rw[<- hcode];have hlt:jb p e.m<p.length:=by
   rcases iK (fun(x:Mod)=>x.name== e.m) p 0 with k|k
   ·show bj _ p 0<_;rw[k];omega
   ·show bj _ p 0<_;omega
  have:=sf LB IH own ns vs e (jb p e.m) hlt R G hmu hn hs he (.int .i64 0) (.int .i64 0) (.sl []) (.sl [])
  simp only[bH,aX]at this;exact this
end
end Go.Proofs.YtihmmkncokjbaaaGreatDoor
namespace Go.Proofs.YtihmmkncokjbaaaGreatDoor
open Go Go.Av Go.Av.Ap
set_option maxRecDepth 100000
section
variable {p:List Mod} {full:List Int} {nm:SNm} {m:Ms} {h:Hp}
theorem zV(R:RepR p full nm 0 m h)(d:Deed)(hb:m.deeds.length<=2000000):
  ∃dv dv' h1 h2,(∀g:AV->M AV,af (bi T 159 (.hp 0 6)) g h=g dv h)/\(∀g:AV->M AV,af (appH T 159 false dv (.sl [d.av])) g h=g dv' h1)/\(∀g:AV->M AV,af (cq T 159 (.hp 0 6) dv') g h1=g (.tup []) h2)/\RepR p full nm 0 { m with deeds:=m.deeds++[d] } h2:=by
 obtain⟨tag,dv,cv,sv,R0⟩:=R.rep;obtain⟨h1,dv',tag',e1,K,H,hc⟩:=og (T:=T) (t:=159) rfl rfl rfl rfl (by decide) rfl (by decide) (x:=d.av) R0.ds (fun h0=>by
  have:m.deeds=[]:=P6 h0;rw[this];rfl) (fun cs h=>by rw[h];exact nC _) (my d) (show (m.deeds.length+1)*24<=140737488355328 by omega)
 have h0:=(K 0 _ R0.r0 (by rw[R0.t0];decide)).1;have hac:aa dv'=[dv']:=(fe hc).2.1
 have:=R0.pushDeed (m':={ m with deeds:=m.deeds++[d] }) K H rfl rfl rfl id
 refine⟨dv,dv',h1,_,fun g=>bn (ca rfl rfl R0.r0 rfl),fun g=>bn e1,fun g=>bn (dT rfl h0 (fe hc).1 (show 6+1<=13 by decide) (by decide)),R.sub,R.tld,tag',dv',cv,sv,?_⟩;rw[hac];exact this
theorem ui(R:RepR p full nm 0 m h)(hb:m.deeds.length<=2000000)(e:Exp)(v:Val)(n:Int)(x1 x2 x3 x4:AV):
  ia p full nm (X.ok (kB n) { m with deeds:=m.deeds++[⟨e.n,v.n,n⟩] }) (K199_0 (aj pg) ao [.hp 0 0,.ip (aa e.av),.ip (aa v.av),.int .i64 n,x1,x2,x3,x4] h):=by
 obtain⟨dv,dv',h1,h2,l1,e1,s1,R2⟩:=zV R ⟨e.n,v.n,n⟩ hb;have hB:aT T false 242 [(0,.int .i64 e.n),(1,.int .i64 v.n),(2,.int .i64 n)]=some (Deed.av ⟨e.n,v.n,n⟩):=rfl;have hBS:aG T 159 1 [(0,Deed.av ⟨e.n,v.n,n⟩)]=some (.sl [Deed.av ⟨e.n,v.n,n⟩]):=rfl;have hV:aT T false 45 [(0,.int .i64 0),(1,.int .i64 n)]=some (kB n).av:=rfl;generalize hcode:K199_0 (aj pg) ao [.hp 0 0,.ip (aa e.av),.ip (aa v.av),.int .i64 n,x1,x2,x3,x4] h=code;simp -implicitDefEqProofs only[K199_0,ax,aE,aZ,ak,FH182_1,FH162_2,Qb,Nat.reduceAdd,l1,aX,FA66_1,Qf,Qe,LD3,cw,FA45_1,hB,hBS,e1,s1,hV,lC,ap,cW]at hcode;rw[<- hcode];exact jO R2
theorem C4{full w:List Int}{x:Int}{wl:List Int}(h:w <:+ full)(hw:w=x:: wl):∃k:Nat,(full.length:Int)-(w.length:Int)=(k:Int)/\∃hk:k<full.length,full[k]=x:=by
 obtain⟨pre,e⟩:=h;subst e;subst hw;refine⟨pre.length,by simp,by simp,by simp⟩
theorem t199{n:Nat}(IH:Dg p full nm n)(hfl:full.length<=1099511627776)(own:Int)(ns:List aR)(vs:List Val)(e a:Exp)(hea:e.args=[a])(R:RepR p full nm 0 m h)(G:GoodM p m)(hmu:mu m<1000000)(hn:m.fuel<=n)(hs:Sc p own ns vs m)(he:bh e):
  ia p full nm (sQ (bo p n own ns vs a) e m) (aj pg 199 [.hp 0 0,aM own ns vs,e.av] h):=by
 have ha:bh a:=bz he (by rw[hea];simp);have hex:ai T 66 (.ip (aa a.av))=some a.av:=by simp
 have hscl:ai T 185 (.ip [.int .i64 own,strs ns,vals vs])=some (aM own ns vs):=rfl;have hix:=kL (l:=e.args) (n:=0) (by omega) (by rw[hea];simp);have hx0:e.args[(0:Int).toNat]! = a:=by rw[hea];rfl
 rw[hx0]at hix;generalize hcode:aj pg 199 [.hp 0 0,aM own ns vs,e.av] h=code;rw[C199]at hcode;simp -implicitDefEqProofs only[S199,bH,aX e,FA66_5,Qf,Qe,LD24,ak,hscl,hix,hex]at hcode;rw[<- hcode];unfold sQ;refine fR (IH own ns vs a m h R G hn hs ha) (fun a s h=>ji h) (fun v s1 h2 hv R2=>?_) (fun c s w h' hc RE=>?_)
 ·obtain⟨G2,rv,f2⟩:=G.eval hs.right hv;have hk0:ai T 3 (.ip ([AV.int .i64 v.kind,.int .i64 v.n,strs v.names,vals v.values].drop 0))=some (.int .i64 v.kind):=rfl;have he1:ai T 3 (.ip ([AV.int .i64 e.op,.int .i64 e.n,.str e.s,.str e.m,strs e.names,bE e.args].drop 1))=some (.int .i64 e.n):=rfl;generalize hcode2:af (aW 4 v.av) _ h2=code2;simp -implicitDefEqProofs only[fF,ap,bl,cw,aZ,ak,FH182_1,FH162_0,Qb,Qu,R2.lErr,fD,Ra,am,PM,PP,FA45_0,hk0,fL,FA66_1,he1,bI,ax,ek,ci]at hcode2;rw[<- hcode2];by_cases hk:v.kind=0
  ·have hk':(v.kind != 0)=false:=by simp[hk]
   simp only[hk',PM,PP,PS hk];by_cases hn4:e.n=1\/e.n=2\/e.n=4\/e.n=8
   ·have hn':(e.n != 1&&e.n != 2&&e.n != 4&&e.n != 8)=false:=by
     rw[<- Rc];simp only[PO,Rf];omega
    simp only[hn',PM,PP,PS hn4];have hmu2:=(mE n own ns vs a m v s1 G.fuel hv).1;have hdl:s1.deeds.length<=2000000:=by
     have:=G2.fuel
     simp only[mu]at hmu2 hmu;omega
    show ia p full nm (X.ok (kB (s1.world.headD 0)) { s1 with world:=s1.world.tail,deeds:=s1.deeds++[⟨e.n,v.n,s1.world.headD 0⟩] }) _;have lenw:aN T 158 (qn nm.told full)=some (.int .i64 full.length):=by
     unfold qn;split
     ·rename_i ht;rw[R2.tld ht];rfl
     ·exact Ay _
    generalize hcode3:af (ah (ab T 182 (.hp 0 0) 3)) _ h2=code3;simp -implicitDefEqProofs only[aZ,ak,FH182_2,FH182_3,Qb,R2.lAt,R2.lWorld,lenw,bC,am]at hcode3;cases hwd:s1.world with
    | nil=>
     have hlt:decide ((full.length:Int)-(s1.world.length:Int)<(full.length:Int))=false:=by rw[hwd];simp
     simp only[hlt,PM,PP]at hcode3
     have:=ui R2 hdl e v 0 (.int .i64 0) (.int .i64 0) (.sl []) (.sl [])
     simp only[aX,cw]at this;rw[hcode3]at this;have e5:({ s1 with deeds:=s1.deeds++[⟨e.n,v.n,0⟩] }:Ms)= { s1 with world:=([]:List Int).tail,deeds:=s1.deeds++[⟨e.n,v.n,([]:List Int).headD 0⟩] }:=by
      cases s1;simp only at hwd;subst hwd;rfl
     rw[e5]at this;exact this
    | cons x wl=>
     have hlt:decide ((full.length:Int)-(s1.world.length:Int)<(full.length:Int))=true:=by rw[hwd];simp;omega
     obtain⟨k,hk1,hk2,hk3⟩:=C4 R2.sub hwd;have hne:full≠[]:=fun e=>by rw[e]at hk2;exact absurd hk2 (by simp)
     have hwv:qn nm.told full=ints full:=by
      unfold qn;rw[if_neg];intro ht;exact hne (R2.tld ht)
     have hixw:=IM (l:=full) (n:=(k:Int)) (by omega) (by omega);rw[show ((k:Int)).toNat=k by omega,PY full k hk2,hk3]at hixw;obtain⟨h3,s3,R3⟩:=R2.sAt hwd;have hw1:IntKind.i64.wrap ((full.length:Int)-(s1.world.length:Int)+1)=(full.length:Int)-(s1.world.length:Int)+1:=bd (by omega) (by omega);have hac1:aa (AV.int IntKind.i64 x)=[.int .i64 x]:=rfl;have hld1:ai T 3 (.ip [.int .i64 x])=some (.int .i64 x):=rfl;have hwl:au T 158 (ints full) (.int .i64 ((full.length:Int)-(s1.world.length:Int)))=some (.ip [.int .i64 x]):=by rw[hk1];exact hixw
     simp -implicitDefEqProofs only[hlt,PQ,R2.lWorld,R2.lAt,hwv,hwl,ak,hld1,cy,hw1,s3]at hcode3;rw[hwd]at R3;simp only[List.tail_cons]at R3
     have:=ui R3 hdl e v x (.int .i64 0) (.int .i64 0) (.sl []) (.sl [])
     simp only[aX,cw]at this;rw[hcode3]at this;exact this
   ·have hn':(e.n != 1&&e.n != 2&&e.n != 4&&e.n != 8)=true:=by
     simp only[PO,Rf];omega
    simp only[hn',PQ,if_neg hn4];exact cM R2 14 (by decide)
  ·have hk':(v.kind != 0)=true:=by simpa using hk
   simp only[hk',PQ,if_neg hk];exact cM R2 13 (by decide)
 ·have hne:(c != 0)=true:=by simpa using hc
  have hvl:ai T 45 (.ip (aa w.av))=some w.av:=by simp
  refine⟨w,h',?_,RE⟩;generalize hcode2:af (aW 4 w.av) _ h'=code2;simp -implicitDefEqProofs only[fF,ap,bl,aZ,ak,FH182_1,FH162_0,Qb,Qu,RE.lErr,fD,hne,am,PQ,hvl,lC,cW]at hcode2;rw[<- hcode2];rfl
theorem Cs(x0 x1:AV)(l:List cE)(hl:l.length<=1099511627776)(e:Exp)(y5 y6 y7 y8:AV):∀(n i:Nat),l.length-i=n->i<=l.length->
  ao (L200_0 (aj pg) ao) [x0,x1,.ip (aa e.av),bm l,.int .i64 i,y5,y6,y7,y8]=ao (L200_0 (aj pg) ao) [x0,x1,.ip (aa e.av),bm l,.int .i64 (if bj (fun(f:cE)=>f.1== e.s) (l.drop i) i<0 then(l.length:Int)else bj (fun(f:cE)=>f.1== e.s) (l.drop i) i),y5,y6,y7,y8]:=by
 intro n
 induction n with
 |zero=>
  intro i hn hi;obtain rfl:i=l.length:=by omega
  rw[RN];rfl
 | succ n ih=>
  intro i hn hi;have hlt:i<l.length:=by omega
  have h1:(i:Int)<(l.length:Int):=by omega
  rw[P9 hlt];simp only[bj];by_cases hs:l[i].1=e.s
  ·simp only[hs,QL,PQ];rw[if_neg (by omega)]
  ·have hsb:(l[i].1== e.s)=false:=by simpa using hs
   simp only[hsb,PM,PP];have ih':=ih (i+1) (by omega) (by omega);simp only[SZ,S0]at ih';rw[<- ih'];have hix:=gp (l:=l) (n:=(i:Int)) (by omega) h1;rw[show ((i:Int)).toNat=i by omega,PY l i hlt]at hix;have hll:aN T 23 (bm l)=some (.int .i64 l.length):=bU _;have hfn:ai T 9 (.ip ((aa (bZ l[i])).drop 0))=some (.str l[i].1):=by simp
   have hes:ai T 9 (.ip ((aa e.av).drop 2))=some (.str e.s):=by simp
   have hw:IntKind.i64.wrap ((i:Int)+1)=(i:Int)+1:=bd (by omega) (by omega)
   conv=>lhs;rw[FL200_0]
   simp only[L200_0,ax,aE,hll,bC,ak,h1,QA,hix,FA37_0,hfn,FA66_2,hes,oq,hsb,Qd,bI,ap,ek,Ry,am,PQ,cy,hw]
theorem t200{n:Nat}(LB:LimB p)(IH:Dg p full nm n)(own:Int)(ns:List aR)(vs:List Val)(e:Exp)(hop:e.op=17\/e.op=18/\∃a,e.args=[a])(R:RepR p full nm 0 m h)(G:GoodM p m)(hn:m.fuel<=n)(hs:Sc p own ns vs m)(he:bh e):
  ia p full nm (s7 p (bo p n own ns vs) own e m) (aj pg 200 [.hp 0 0,aM own ns vs,e.av] h):=by
 have hscl:ai T 185 (.ip [.int .i64 own,strs ns,vals vs])=some (aM own ns vs):=rfl;have hown:ai T 3 (.ip [.int .i64 own,strs ns,vals vs])=some (.int .i64 own):=rfl;generalize hcode:aj pg 200 [.hp 0 0,aM own ns vs,e.av] h=code;rw[C200]at hcode;simp -implicitDefEqProofs only[S200,bH,FA185_0,Qe,hown,ak,bC,am]at hcode;unfold s7;by_cases ho:own<0
 ·have ho':decide (own<0)=true:=by simpa using ho
  simp only[ho',PQ]at hcode;simp only[PS ho];rw[<- hcode];exact cM R 12 (by decide)
 have ho':decide (own<0)=false:=by simpa using ho
 simp only[if_neg ho];have hol:=hs.own;have hlt:own.toNat<p.length:=by omega
 have hix:=nu (l:=p) (n:=own) (by omega) hol;rw[PY p own.toNat hlt]at hix;have e3:p[own.toNat]?.getD default=p[own.toNat]:=by rw[P1 hlt];rfl
 have hvl:=(LB.lim.funcsAt own.toNat).2;rw[e3]at hvl |-;have hpv:se nm.told p=dI p:=jl (fun e=>by subst e;simp at hlt);have hfv:ai T 23 (.ip (List.drop 2 (aa p[own.toNat].av)))=some (bm p[own.toNat].vars):=by simp
 simp -implicitDefEqProofs only[ho',PM,PP,aZ,ak,FH182_0,Qb,R.lProg,hpv,hix,FA29_2,hfv]at hcode;have hloop:=Cs (.hp 0 0) (.ip [.int .i64 own,strs ns,vals vs]) p[own.toNat].vars hvl e (.int .i64 0) (.int .i64 0) (.sl []) (.sl []) _ 0 rfl (by omega);rw[Qe]at hloop;have hloop':ao (L200_0 (aj pg) ao) [.hp 0 0,.ip [.int .i64 own,strs ns,vals vs],.ip (aa e.av),bm p[own.toNat].vars,.int .i64 0,.int .i64 0,.int .i64 0,.sl [],.sl []]=_:=hloop;rw[hloop']at hcode;have hidx:bj (fun(f:cE)=>f.1== e.s) p[own.toNat].vars ((0:Nat):Int)=dM p[own.toNat].vars e.s:=rfl;rw[hidx]at hcode;have hll:aN T 23 (bm p[own.toNat].vars)=some (.int .i64 p[own.toNat].vars.length):=bU _;have heop:ai T 3 (.ip ((aa e.av).drop 0))=some (.int .i64 e.op):=by simp
 have hes:ai T 9 (.ip ((aa e.av).drop 2))=some (.str e.s):=by simp
 have hrng:=iK (fun(x:cE)=>x.1== e.s) p[own.toNat].vars 0;have hdef:dM p[own.toNat].vars e.s=bj (fun(x:cE)=>x.1== e.s) p[own.toNat].vars 0:=rfl;rw[<- hdef]at hrng;rw[FL200_0]at hcode;by_cases hi:dM p[own.toNat].vars e.s<0
 ·simp only[PS hi]at hcode |-;simp -implicitDefEqProofs only[L200_0,ax,aE,hll,bC,ak,Q0,QR,dl,List.replicate,ap,ax,aS,am,PM,PP,ix,Re,QA,PQ]at hcode;rw[<- hcode];exact cM R 12 (by decide)
 simp only[if_neg hi]at hcode |-
 have hname:(p[own.toNat].vars[(dM p[own.toNat].vars e.s).toNat]!.1== e.s)=true:=by
  have key:∀(l:List cE)(i:Int),0<=i->¬bj (fun(x:cE)=>x.1== e.s) l i<0->(l[(bj (fun(x:cE)=>x.1== e.s) l i-i).toNat]!.1== e.s)=true:=by
   intro l
   induction l with
   |nil=>intro i hi h;exact absurd (show (-1:Int)<0 by decide) h
   | cons x l ih=>
    intro i hi h;simp only[bj]at h|-;split at h
    ·rename_i hx;rw[PS hx];simp only[Int.sub_self,Int.toNat_zero,List.getElem!_cons_zero];exact hx
    ·rename_i hx;rw[if_neg hx]
     have:=ih (i+1) (by omega) h
     rcases iK (fun(x:cE)=>x.1== e.s) l (i+1)with k|k
     ·omega
     ·have e5:(bj (fun(x:cE)=>x.1== e.s) l (i+1)-i).toNat=(bj (fun(x:cE)=>x.1== e.s) l (i+1)-(i+1)).toNat+1:=by omega
      rw[e5,List.getElem!_cons_succ];exact this
  have:=key p[own.toNat].vars 0 (by omega) hi
  simpa [hdef]using this
 generalize hI:dM p[own.toNat].vars e.s=I at *;have hil:I<p[own.toNat].vars.length:=by omega
 have hI0:0<=I:=by omega
 have hixI:=gp (l:=p[own.toNat].vars) (n:=I) hI0 hil;have hfn:ai T 9 (.ip ((aa (bZ p[own.toNat].vars[I.toNat]!)).drop 0))=some (.str p[own.toNat].vars[I.toNat]!.1):=by simp
 have h1:decide (I<(p[own.toNat].vars.length:Int))=true:=by simpa using hil
 have h2:decide ((p[own.toNat].vars.length:Int)<=I)=false:=by simp;omega
 simp -implicitDefEqProofs only[L200_0,ax,aE,hll,bC,ak,h1,hixI,FA37_0,hfn,FA66_2,hes,oq,hname,Qa,bI,ap,ek,RI,am,PM,PP,ix,h2,FA66_0,heop,dJ]at hcode;obtain⟨l,hl1,hl2⟩:=G.shape own.toNat _ (P1 hlt);have hne:l≠[]:=fun e=>by rw[e]at hl2;simp at hl2;omega
 have hsl:own.toNat<m.state.length:=(QB.1 hl1).1;have hk:I.toNat<l.length:=by omega
 have Rk:=R;obtain⟨tag,dv,cv,sv,R0⟩:=R.rep;have lsv:∀g:AV->M AV,af (bi T 89 (.hp 0 8)) g h=g nm.sv h:=fun g=>bn (ca rfl rfl R0.r0 (by rw[<- R0.sve];rfl));obtain⟨q,r,v1,v2,v3,v4,v5,v6⟩:=R0.var (fun _=>rfl) hl1 hne;have hx1:∀st:List (List Val),own.toNat<st.length->nm.sv= .hs q 0 st.length 2 true->au T 89 nm.sv (.int .i64 own)=some (.hp q (own.toNat*2)):=fun st hst hsv=>by
  rw[hsv]
  have:=NC (t:=89) rfl rfl rfl (l:=q) (off:=0) (len:=st.length) (sz:=2) (ag:=true) (n:=own) (by omega) (by omega)
  rw[this];simp
 have hx1':=hx1 m.state hsl v1;have lv:∀g:AV->M AV,af (bi T 30 (.hp q (own.toNat*2+1))) g h=g (.hs r 0 l.length 4 true) h:=fun g=>bn (ca rfl rfl v2 v3);have hx2:au T 30 (.hs r 0 l.length 4 true) (.int .i64 I)=some (.hp r (I.toNat*4)):=by
  have:=NC (t:=30) rfl rfl rfl (l:=r) (off:=0) (len:=l.length) (sz:=4) (ag:=true) (n:=I) (by omega) (by omega)
  rw[this];simp
 have hsc2:ai T 3 (.ip ([AV.int .i64 own,strs ns,vals vs].drop 0))=some (.int .i64 own):=rfl;rcases hop with h17|⟨h18,a,hea⟩
 ·have h17b:(e.op== 17)=true:=by simp[h17]
  have h18b:¬(e.op=18):=by omega
  simp only[if_neg h18b];have hld2:bi T 45 (.hp r (I.toNat*4)) h= .ok (l[I.toNat]).av h:=by
   have:=oT (T:=T) (t:=45) rfl rfl (h:=h) (l:=r) (k:=I.toNat*4) v5 (by rw[gY];show I.toNat*4+4<=_;omega)
   rw[this];have hg:=lk (l:=l) (k:=I.toNat) hk;show Av.R.ok (AV.agg (((bR l).drop (I.toNat*4)).take 4)) _=_;rw[hg,Val.av_eq];rfl
  have ld2:∀g:AV->M AV,af (bi T 45 (.hp r (I.toNat*4))) g h=g (l[I.toNat]).av h:=fun g=>bn hld2;simp -implicitDefEqProofs only[h17b,PQ,aZ,ak,FH182_1,FH162_4,Qb,Nat.reduceAdd,lsv,FA185_0,hsc2,hx1',FH94_1,lv,hx2,ld2,lC,ap,cW]at hcode;rw[<- hcode];have hgs:mR m.state own.toNat I.toNat=l[I.toNat]:=by
   simp[mR,Qw,hl1,hk]
  show ia p full nm (X.ok (mR m.state own.toNat I.toNat) m) _;rw[hgs];exact jO Rk
 ·have h17b:(e.op== 17)=false:=by simp[h18]
  have ha:bh a:=bz he (by rw[hea];simp);have hex:ai T 66 (.ip (aa a.av))=some a.av:=by simp
  have hixa:=kL (l:=e.args) (n:=0) (by omega) (by rw[hea];simp);have hx0:e.args[(0:Int).toNat]! = a:=by rw[hea];rfl
  have e0:e.args[0]! = a:=hx0;rw[hx0]at hixa;have hes5:ai T 24 (.ip ((aa e.av).drop 5))=some (bE e.args):=by simp
  simp only[PS h18,e0];simp -implicitDefEqProofs only[h17b,PM,PP,hscl,ak,FA66_5,hes5,hixa,hex]at hcode;rw[<- hcode];refine fR (IH own ns vs a m h Rk G hn hs ha) (fun a s h=>ji h) (fun v s1 h2 hv R2=>?_) (fun c s w h' hc RE=>?_)
  ·obtain⟨G2,rv,f2⟩:=G.eval hs.right hv;obtain⟨tag2,dv2,cv2,sv2,R20⟩:=R2.rep;obtain⟨l',hl1',hl2'⟩:=G2.shape own.toNat _ (P1 hlt);have hne':l'≠[]:=fun e=>by rw[e]at hl2';simp at hl2';omega
   have hsl':own.toNat<s1.state.length:=(QB.1 hl1').1;obtain⟨q',r',w1,w2,w3,w4,w5,w6⟩:=R20.var (fun _=>rfl) hl1' hne';have hll:l'.length=l.length:=by omega
   have hqq:q'=q:=by
    rw[v1]at w1;simp only[AV.hs.injEq]at w1;exact w1.1.symm
   subst hqq;have hrr:r'=r:=by
    rw[v3]at w3;simp only[PN,AV.hs.injEq]at w3;exact w3.1.symm
   subst hrr;have lsv2:∀g:AV->M AV,af (bi T 89 (.hp 0 8)) g h2=g nm.sv h2:=fun g=>bn (ca rfl rfl R20.r0 (by rw[<- R20.sve];rfl));have hx1'':=hx1 s1.state hsl' w1;have lv2:∀g:AV->M AV,af (bi T 30 (.hp q' (own.toNat*2+1))) g h2=g (.hs r' 0 l.length 4 true) h2:=fun g=>bn (ca rfl rfl w2 (by rw[<- hll];exact w3));have hst:cq T 45 (.hp r' (I.toNat*4)) v.av h2= .ok (.tup []) (h2.set r' (bR (l'.set I.toNat v))):=by
    have:=dT (T:=T) (t:=45) rfl w5 (v:=v.av) (k:=I.toNat*4) (cL v) (by rw[gY];show I.toNat*4+4<=_;omega) (by decide)
    rw[this,ov (by omega)]
   have R3:=w6 I.toNat v (by omega);have hvl2:ai T 45 (.ip (aa v.av))=some v.av:=by simp
   generalize hcode2:af (aW 4 v.av) _ h2=code2;have st2:∀g:AV->M AV,af (cq T 45 (.hp r' (I.toNat*4)) v.av) g h2=g (.tup []) (h2.set r' (bR (l'.set I.toNat v))):=fun g=>bn hst;simp -implicitDefEqProofs only[fF,ap,bl,ci,aZ,ak,FH182_1,FH162_0,FH162_4,Qb,Qu,Nat.reduceAdd,R2.lErr,m8,QL,am,PQ,lsv2,FA185_0,hsc2,hx1'',FH94_1,lv2,hvl2,hx2,st2,K200_0,ax,lC,cW]at hcode2;rw[<- hcode2];exact⟨_,rfl,R2.sub,R2.tld,tag2,dv2,cv2,sv2,R3⟩
  ·have hneb:(c== 0)=false:=by simpa using hc
   have hvl2:ai T 45 (.ip (aa w.av))=some w.av:=by simp
   refine⟨w,h',?_,RE⟩;generalize hcode2:af (aW 4 w.av) _ h'=code2;simp -implicitDefEqProofs only[fF,ap,bl,ci,aZ,ak,FH182_1,FH162_0,Qb,Qu,RE.lErr,m8,hneb,am,PM,PP,K200_0,ax,hvl2,lC,cW]at hcode2;rw[<- hcode2];rfl
end
end Go.Proofs.YtihmmkncokjbaaaGreatDoor
