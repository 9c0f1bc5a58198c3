/- What the functions compute, part 9. Conditions: bounds. -/
import Derived.Test.YtkkdcdofponfiaaGreatTh
set_option linter.defProp false
set_option linter.unusedSimpArgs false
set_option linter.unusedVariables false
namespace Go.Proofs.YtkkdcdofponfiaaGreat
open Go Go.Av Go.Av.Ap
set_option maxRecDepth 100000
def Yw(q:Nat)(m:Ap.Mod)(mp:AV)(h:Hp):Tr Ty->Av.R AV
 |.ok t n=>.ok (.tup [t.av,qi 0]) (h.set q (bp m mp n))
 |.er b n=>.ok (.tup [ty0.av,qi b]) (h.set q (bp m mp n))
def trL(q:Nat)(m:Ap.Mod)(mp:AV)(h:Hp)(acc:List Ty):Tr (List Ty)->Av.R AV
 |.ok ts n=>.ok (.tup [kE (acc++ts),qi 0]) (h.set q (bp m mp n))
 |.er b n=>.ok (.tup [.sl [],qi b]) (h.set q (bp m mp n))
def rm(q:Nat)(m:Ap.Mod)(mp:AV)(fs:List Face)(d:Nat):Prop:=∀(ls:List bQ)(e:Exp)(n:Int)(h:Hp),cX d e=true->e.Lim->(∀z∈ls,gy z.2)->ls.length+d<=1000000->JR h q m mp fs n->
 callW pg 39 [.hp q 0,aB ls,e.av] h=Yw q m mp h (bk (gd m fs) d ls e n)/\∀t n',bk (gd m fs) d ls e n= .ok t n'->gy t
variable {fs:List Face}{d q:Nat}
def Qw{m:Ap.Mod}{mp:AV}(P:rm q m mp fs d)(ls:List bQ)(hls:∀z∈ls,gy z.2)(hll:ls.length+d<=1000000)(es:List Exp)(hes:es.length<=140737488355328)(he:∀e∈es,cX d e=true/\e.Lim):∀(k i:Nat)(acc:List Ty)(n:Int)(h:Hp),es.length-i=k->i<=es.length->acc.length<=i->es.length<=1000000->JR h q m mp fs n->
  ae (L82_0 (callW pg) ae) [.hp q 0,aB ls,kE acc,bY es,qi es.length,qi i] h=trL q m mp h acc (dG (bk (gd m fs) d ls) (es.drop i) n)/\∀ts n',dG (bk (gd m fs) d ls) (es.drop i) n= .ok ts n'->ts.length=es.length-i/\∀t∈ts,gy t:=by
 intro k
 induction k with
 | zero=>
  intro i acc n h hk hi ha hs R;have h1:¬((i:Int)<(es.length:Int)):=WD
  have h2:es.drop i=[]:=List.drop_eq_nil_of_le WD;rw[h2];refine⟨?_,fun ts n' ht=>?_⟩
  ·rw[FL82_0];show _=Av.R.ok (AV.tup [kE (acc++[]),qi 0]) (h.set q (bp m mp n));rw[R.same,abr];simp[L82_0,h1];rfl
  ·cases ht
   grind
 | succ k ih=>
  intro i acc n h hk hi ha hs R;have hlt:i<es.length:=WD
  have h1:(i:Int)<(es.length:Int):=WD
  have h2:es.drop i=es[i]:: es.drop (i+1):=List.drop_eq_getElem_cons hlt;have hw:IntKind.i64.wrap ((i:Int)+1)=(i:Int)+1:=bz WD;have hix:=oA (l:=es) (n:=(i:Int)) WD h1;rw[aaP,aaG es i hlt]at hix;obtain⟨hr,hl⟩:=he es[i] (List.getElem_mem hlt);obtain⟨p1,p2⟩:=P ls es[i] n h hr hl hls hll R;rw[h2];have hne:=kB (gd m fs) d ls es[i] n;generalize es[i]=e at hix hr hl p1 p2 hne |-;generalize hcode:ae (L82_0 (callW pg) ae) [.hp q 0,aB ls,kE acc,bY es,qi es.length,qi i] h=code;rw[FL82_0]at hcode;simp only[L82_0,ax,aF,bc,ai,h1,abj,am,aaV,hix,bK,LD31,aaX,aaW,aa7,Nat.reduceAdd,aaI,abD,abu,pP,Co,ar]at hcode;cases ht:bk (gd m fs) d ls e n with
  | er b n'=>
   rw[ht]at p1;have hb:(b != 0)=true:=acy.2 (hne b n' ht);have hz:bn 2 ty0.av=af ty0.av:=Av.jY ty0;rw[aP p1]at hcode;simp only[ff,aa4,abB,ai,hz,ar,mR,hb,am,aaV]at hcode;have e1:dG (bk (gd m fs) d ls) (e:: es.drop (i+1)) n= .er b n':=by
    simp only[dG,eG.bind,ht]
   rw[e1];exact⟨hcode.symm,fun ts n'' h3=>by cases h3⟩
  | ok t n'=>
   rw[ht]at p1;rw[aP p1]at hcode;have R':=R.set n';obtain⟨i1,i2⟩:=ih (i+1) (acc++[t]) n' (h.set q (bp m mp n')) WD WD Bk hs R';have hap:=LF (a:=acc) (b:=[t]) Bk;have hsl:ay T 119 1 [(0,t.av)]=some (kE [t]):=by cases t;rfl
   have i1':ae (L82_0 (callW pg) ae) [.hp q 0,aB ls,kE (acc++[t]),bY es,qi es.length,qi ((i:Int)+1)] (h.set q (bp m mp n'))=_:=i1;simp only[ff,aa4,abB,ai,Av.jY,ar,mR,bne_self_eq_false,am,aaK,aaR,i9,LD49,aaX,aaW,aa7,Nat.reduceAdd,aaI,aaV,abD,abu,iL,hsl,hap,gb,hw,i1']at hcode;have e1:dG (bk (gd m fs) d ls) (e:: es.drop (i+1)) n=(match dG (bk (gd m fs) d ls) (es.drop (i+1)) n' with|.ok ts n''=>.ok (t:: ts) n''|.er b n''=>.er b n''):=by
    simp only[dG,eG.bind,ht];cases dG (bk (gd m fs) d ls) (es.drop (i+1)) n'<;>rfl
   rw[e1];cases hL:dG (bk (gd m fs) d ls) (es.drop (i+1)) n' with
   |er b n''=>
    rw[hL]at hcode;refine⟨?_,fun ts n'' h3=>by cases h3⟩;rw[<- hcode];show Av.R.ok _ _=Av.R.ok _ _;rw[aaq]
   | ok ts n''=>
    rw[hL]at hcode;obtain⟨j1,j2⟩:=i2 ts n'' hL;refine⟨?_,fun us n3 h3=>?_⟩
    ·rw[<- hcode];show Av.R.ok _ _=Av.R.ok _ _;simp_all
    grind
def q82{m:Ap.Mod}{mp:AV}(P:rm q m mp fs d)(ls:List bQ)(hls:∀z∈ls,gy z.2)(hll:ls.length+d<=1000000)(es:List Exp)(hes:es.length<=1000000)(he:∀e∈es,cX d e=true/\e.Lim)(n:Int)(h:Hp)(R:JR h q m mp fs n):
  callW pg 82 [.hp q 0,aB ls,bY es] h=trL q m mp h [] (dG (bk (gd m fs) d ls) es n)/\∀ts n',dG (bk (gd m fs) d ls) es n= .ok ts n'->ts.length=es.length/\∀t∈ts,gy t:=by
 obtain⟨h1,h2⟩:=Qw P ls hls hll es WD he es.length 0 [] n h rfl (aa1 _) (aa1 _) hes R;rw[aaZ]at h1 h2;refine⟨?_,fun ts n' ht=>h2 ts n' ht⟩;rw[<- h1,C82];simp only[S82,B6,ai];rfl
theorem zJ:bS T false 49 []=some ty0.av:=rfl
def oF{u t:Ty}(hu:gy u)(ht:bZ t=true):callW pg 40 [u.av,t.av]=af (.bool (cg u t)):=t40 4 t u (hu 4) (iY ht 4) ht
def q80{m:Ap.Mod}{mp:AV}(P:rm q m mp fs d)(K:CxOk m fs)(ls:List bQ)(hls:∀z∈ls,gy z.2)(hll:ls.length+d<=1000000)(e:Exp)(hop:e.op=17\/e.op=18)(ha:e.op=18->∃x,e.args=[x]/\cX d x=true/\x.Lim)(n:Int)(h:Hp)(R:JR h q m mp fs n):
  callW pg 80 [.hp q 0,aB ls,e.av] h=Yw q m mp h (b9 (gd m fs) (bk (gd m fs) d) ls e n)/\∀t n',b9 (gd m fs) (bk (gd m fs) d) ls e n= .ok t n'->gy t:=by
 have l1:∀f:AV->M AV,ah (bC T 38 (.hp q 2)) f h=f (aB m.vars) h:=fun f=>aP R.vars f;have hk:=t78 m.vars (by have:=K.vlen;omega) e.s;rw[zl hop,C80];show S80 (callW pg) ae (.hp q 0) (aB ls) e.av h=Yw q m mp h ((match bV (fun z=>z.1== e.s) m.vars with
  |none=>eG.er 12
  |some z=>if e.op=18 then eG.bind (bk (gd m fs) d ls e.args[0]!) fun u=>if cg u z.2=true then eG.ok z.2 else eG.er 13 else eG.ok z.2:eG Ty) n)/\∀t n',(match bV (fun z=>z.1== e.s) m.vars with
  |none=>eG.er 12
  |some z=>if e.op=18 then eG.bind (bk (gd m fs) d ls e.args[0]!) fun u=>if cg u z.2=true then eG.ok z.2 else eG.er 13 else eG.ok z.2:eG Ty) n= .ok t n'->gy t
 cases hz:bV (fun z:bQ=>z.1== e.s) m.vars with
 |none=>
  rw[hz]at hk;refine⟨?_,fun t n' h3=>by cases h3⟩;show _=Av.R.ok (AV.tup [ty0.av,qi 12]) (h.set q (bp m mp n));rw[R.same];simp[S80,l1,hk,zJ];rfl
 | some z=>
  rw[hz]at hk;dsimp only;have hzr:=K.vars z (lO hz).1;rcases hop with hop|hop
  ·rw[aaC (show ¬e.op=18 by omega)];refine⟨?_,fun t n' h3=>by cases h3;exact iY hzr⟩;show _=Av.R.ok (AV.tup [z.2.av,qi 0]) (h.set q (bp m mp n));rw[R.same];simp[S80,K80_0,l1,hk,hop];rfl
  ·rw[aaH hop];obtain⟨x,hx,hr,hl⟩:=ha hop;have hx0:e.args[0]! = x:=by rw[hx];rfl
   obtain⟨p1,p2⟩:=P ls x n h hr hl hls hll R;have hix:au T 29 (bY e.args) (qi 0)=some (.ip (ab x.av)):=by
    have:=oA (l:=e.args) (n:=0) WD (by rw[hx];simp)
    rw[this,hx];rfl
   rw[hx0];have hne:=kB (gd m fs) d ls x n;cases ht:bk (gd m fs) d ls x n with
   |er b n'=>
    rw[ht]at p1;have hb:(b != 0)=true:=acy.2 (hne b n' ht);have k1:∀f:AV->M AV,ah (callW pg 39 [.hp q 0,aB ls,x.av]) f h=f (.tup [ty0.av,qi b]) (h.set q (bp m mp n')):=fun f=>aP p1 f;have e1:eG.bind (bk (gd m fs) d ls x) (fun u=>if cg u z.2=true then eG.ok z.2 else eG.er 13) n= .er b n':=by simp only[eG.bind,ht]
    rw[e1];refine⟨?_,fun t n' h3=>by cases h3⟩;show _=Av.R.ok (AV.tup [ty0.av,qi b]) (h.set q (bp m mp n'));simp[S80,K80_0,l1,hk,hop,hix,k1,hb,zJ];rfl
   | ok u n'=>
    rw[ht]at p1;have hus:=p2 u n' ht;have k1:∀f:AV->M AV,ah (callW pg 39 [.hp q 0,aB ls,x.av]) f h=f (.tup [u.av,qi 0]) (h.set q (bp m mp n')):=fun f=>aP p1 f;have hbl:=oF hus hzr;cases hb:cg u z.2 with
    |true=>
     rw[hb]at hbl;have e1:eG.bind (bk (gd m fs) d ls x) (fun u=>if cg u z.2=true then eG.ok z.2 else eG.er 13) n= .ok z.2 n':=by simp only[eG.bind,ht,hb,aaV];rfl
     rw[e1];refine⟨?_,fun t n' h3=>by cases h3;exact iY hzr⟩;show _=Av.R.ok (AV.tup [z.2.av,qi 0]) (h.set q (bp m mp n'));simp[S80,K80_0,l1,hk,hop,hix,k1,hbl];rfl
    |false=>
     rw[hb]at hbl;have e1:eG.bind (bk (gd m fs) d ls x) (fun u=>if cg u z.2=true then eG.ok z.2 else eG.er 13) n= .er 13 n':=by simp only[eG.bind,ht,hb,aaK,aaR];rfl
     rw[e1];refine⟨?_,fun t n' h3=>by cases h3⟩;show _=Av.R.ok (AV.tup [ty0.av,qi 13]) (h.set q (bp m mp n'));simp[S80,K80_0,l1,hk,hop,hix,k1,hbl,zJ];rfl
variable {h:Hp}
theorem Qv{q:Nat}{m:Ap.Mod}{mp:AV}{fs:List Face}{n:Int}{h:Hp}(R:JR h q m mp fs n)(s:Sig)(l:List Ty)(hl:∀t∈l,gy t)(hps:∀t∈s.params,bZ t=true)(hlen:l.length=s.params.length)(hb:l.length<=1000000)(x y:AV):∀(k i:Nat),l.length-i=k->i<=l.length->
  ae (L81_0 (callW pg) ae) [.hp q 0,.ip (ab s.av),kE l,.int .i64 l.length,.int .i64 i,x,y] h=(if jX cg (l.drop i) (s.params.drop i)=true then .ok (.tup [s.result.av,.int .i64 0]) (h.set q (bp m mp (qM n s.effects)))else .ok (.tup [ty0.av,.int .i64 13]) h):=by
 intro k
 induction k with
 |zero=>
  intro i hk hi;have h1:¬((i:Int)<(l.length:Int)):=WD
  have h2:l.drop i=[]:=List.drop_eq_nil_of_le WD;have h3:s.params.drop i=[]:=List.drop_eq_nil_of_le WD;rw[h2,h3,aaH (show jX cg [] []=true from rfl)];have l1:∀f:AV->M AV,ah (bC T 3 (.hp q 10)) f h=f (.int .i64 n) h:=fun f=>aP R.eff f;have l2:∀f:AV->M AV,ah (cp T 3 (.hp q 10) (.int .i64 (qM n s.effects))) f h=f (.tup []) (h.set q (bp m mp (qM n s.effects))):=fun f=>aP (R.put _) f;have hor:dC T .or 3 (.int .i64 n) (.int .i64 s.effects)=some (.int .i64 (qM n s.effects)):=rfl;rw[FL81_0];simp[L81_0,h1,l1,hor,l2];rfl
 | succ k ih=>
  intro i hk hi;have hlt:i<l.length:=WD
  have hlt2:i<s.params.length:=WD
  have h1:(i:Int)<(l.length:Int):=WD
  have h2:l.drop i=l[i]:: l.drop (i+1):=List.drop_eq_getElem_cons hlt;have h3:s.params.drop i=s.params[i]:: s.params.drop (i+1):=List.drop_eq_getElem_cons hlt2;have hw:IntKind.i64.wrap ((i:Int)+1)=(i:Int)+1:=bz WD;have hix:=uQ (l:=l) (n:=(i:Int)) WD h1;rw[aaP,aaG l i hlt]at hix;have hix2:=uQ (l:=s.params) (n:=(i:Int)) WD WD;rw[aaP,aaG s.params i hlt2]at hix2;have hbl:=oF (hl _ (List.getElem_mem hlt)) (hps _ (List.getElem_mem hlt2));have ih':ae (L81_0 (callW pg) ae) [.hp q 0,.ip (ab s.av),kE l,.int .i64 l.length,.int .i64 ((i:Int)+1),x,y] h=_:=ih (i+1) WD WD;rw[h2,h3];generalize l[i]=u at hix hbl |-;generalize s.params[i]=t at hix2 hbl |-;have ea:jX cg (u:: l.drop (i+1)) (t:: s.params.drop (i+1))=(cg u t&&jX cg (l.drop (i+1)) (s.params.drop (i+1))):=rfl;rw[ea];generalize hcode:ae (L81_0 (callW pg) ae) [.hp q 0,.ip (ab s.av),kE l,.int .i64 l.length,.int .i64 i,x,y] h=code;rw[FL81_0]at hcode;cases hb2:cg u t with
  |true=>
   rw[hb2]at hbl;rw[ach,<- ih'];simp -implicitDefEqProofs only[L81_0,ax,aF,bc,ai,h1,abj,am,aaV,hix,i9,LD49,aaX,aaW,aa7,Nat.reduceAdd,aaI,abD,abu,iL,Av.jY,ar,rq,FA121_1,aa5,aaZ,LD119,hix2,hbl,eN,eQ,abR,aaK,aaR,gb,hw]at hcode;simp_all
  |false=>
   rw[hb2]at hbl;rw[ac9,aaC Vc];have hz:aC 2 [] ty0.av=af ty0.av:=Ej ty0;have ha:ab ty0.av=[.int .i64 0,.sl []]:=rfl;simp -implicitDefEqProofs only[L81_0,ax,aF,bc,ai,h1,abj,am,aaV,hix,i9,LD49,aaX,aaW,aa7,Nat.reduceAdd,aaI,abD,abu,iL,Av.jY,ar,rq,FA121_1,aa5,aaZ,LD119,hix2,hbl,eN,eQ,acJ,zJ,hz]at hcode;rw[<- hcode];rfl
def q81{m:Ap.Mod}{mp:AV}(P:rm q m mp fs d)(K:CxOk m fs)(ls:List bQ)(hls:∀z∈ls,gy z.2)(hll:ls.length+d<=1000000)(e:Exp)(hop:e.op=15)(hlen:e.args.length<=1000000)(ha:∀x∈e.args,cX d x=true/\x.Lim)(n:Int)(h:Hp)(R:JR h q m mp fs n):
  callW pg 81 [.hp q 0,aB ls,e.av] h=Yw q m mp h (b9 (gd m fs) (bk (gd m fs) d) ls e n)/\∀t n',b9 (gd m fs) (bk (gd m fs) d) ls e n= .ok t n'->gy t:=by
 obtain⟨r,c1,c2⟩:=Z3 R K e;have k1:∀f:AV->M AV,ah (callW pg 123 [.hp q 0,e.av]) f h=f r h:=fun f=>aP c1 f;rw[vQ hop,C81]
 have hpar:∀s,dm (gd m fs) e=some s->(∀t∈s.1,bZ t=true)/\bZ s.2.1=true:=by
  intro s hs;unfold dm at hs;split at hs
  ·split at hs
   ·rename_i f hf;cases hs;have hm:=abH hf;exact⟨fun t ht=>by obtain⟨z,hz,rfl⟩:=abe.1 ht;exact K.pars f hm z hz,K.res f hm⟩
   ·cases hs
  ·split at hs
   ·cases hs
   ·rename_i f hf;split at hs
    ·cases hs
    ·rename_i s' hs';split at hs
     ·cases hs;have hm:=abH (show fs.find? _=some f from hf);have hm2:=abH hs';exact⟨K.spars f hm s' hm2,K.sres f hm s' hm2⟩
     ·cases hs
 cases hc:dm (gd m fs) e with
 |none=>
  rw[hc]at c2;subst c2;refine⟨?_,fun t n' h3=>by cases h3⟩;show _=Av.R.ok (AV.tup [ty0.av,qi 12]) (h.set q (bp m mp n));rw[R.same];have k2:∀f:AV->M AV,ah (callW pg 123 [.hp q 0,e.av]) f h=f (.tup [Lt.av,.bool false]) h:=k1;have z1:bn 5 Lt.av=af Lt.av:=wZ Lt;simp[S81,k2,z1,zJ];rfl
 | some s=>
  rw[hc]at c2;obtain⟨nm,rfl⟩:=c2;obtain⟨hp1,hp2⟩:=hpar s hc;obtain⟨ps,res,eff⟩:=s;have z1:bn 5 (Sig.mk nm ps res eff).av=af (Sig.mk nm ps res eff).av:=wZ _;dsimp only;by_cases hl:ps.length=e.args.length
  ·rw[aaH hl];have hl':((ps.length:Int) != (e.args.length:Int))=false:=by simp[hl]
   obtain⟨g1,g2⟩:=q82 P ls hls hll e.args hlen ha n h R;cases ht:dG (bk (gd m fs) d ls) e.args n with
   |er b n'=>
    rw[ht]at g1;have hb:(b != 0)=true:=acy.2 (td (kB (gd m fs) d ls) _ n b n' ht);have k2:∀f:AV->M AV,ah (callW pg 82 [.hp q 0,aB ls,bY e.args]) f h=f (.tup [.sl [],qi b]) (h.set q (bp m mp n')):=fun f=>aP g1 f;have e1:eG.bind (dG (bk (gd m fs) d ls) e.args) (fun l=>if jX cg l ps=true then fun n=>Tr.ok res (qM n eff)else eG.er 13) n= .er b n':=by simp only[eG.bind,ht]
    rw[e1];refine⟨?_,fun t n' h3=>by cases h3⟩;show _=Av.R.ok (AV.tup [ty0.av,qi b]) (h.set q (bp m mp n'));simp[S81,k1,z1,hl,k2,hb,zJ];rfl
   | ok l n'=>
    rw[ht]at g1;obtain⟨g3,g4⟩:=g2 l n' ht;have k2:∀f:AV->M AV,ah (callW pg 82 [.hp q 0,aB ls,bY e.args]) f h=f (.tup [kE l,qi 0]) (h.set q (bp m mp n')):=fun f=>aP g1 f;have hlp:=Qv (R.set n') (Sig.mk nm ps res eff) l g4 hp1 qr WD (qi 0) (.sl []) l.length 0 rfl (aa1 _);have hlp':ae (L81_0 (callW pg) ae) [.hp q 0,.ip [.str nm,kE ps,qi res.kind,aB res.fields,qi eff],kE l,qi l.length,qi 0,qi 0,.sl []] (h.set q (bp m mp n'))=(if jX cg l ps=true then .ok (.tup [res.av,qi 0]) ((h.set q (bp m mp n')).set q (bp m mp (qM n' eff)))else .ok (.tup [ty0.av,qi 13]) (h.set q (bp m mp n'))):=hlp;have e1:eG.bind (dG (bk (gd m fs) d ls) e.args) (fun l=>if jX cg l ps=true then fun n=>Tr.ok res (qM n eff)else eG.er 13) n=if jX cg l ps=true then .ok res (qM n' eff)else .er 13 n':=by
     simp only[eG.bind,ht];split<;>rfl
    rw[e1];constructor
    ·simp[S81,k1,z1,hl,k2];rw[hlp',aaq];split<;>rfl
    grind [iY]
  ·rw[aaC hl];refine⟨?_,fun t n' h3=>by cases h3⟩;show _=Av.R.ok (AV.tup [ty0.av,qi 13]) (h.set q (bp m mp n));rw[R.same];simp[S81,k1,z1,hl,zJ];rfl
def L8{e:Exp}(h:qg e=true):(e.op=11->e.args.length=3)/\(e.op=12->e.args.length=2)/\(e.op=14->e.args.length=1)/\(e.op=18->e.args.length=1)/\(e.op=13->e.names.length=e.args.length)/\e.args.length<=1000000:=by
 unfold qg at h;simp only[aaD]at h;obtain⟨⟨⟨⟨⟨⟨⟨h1,h2⟩,h3⟩,h4⟩,h5⟩,h6⟩,h7⟩,h8⟩:=h;simp only[aaL]at h1 h2;have ho:e.op=0\/e.op=1\/e.op=2\/e.op=3\/e.op=4\/e.op=5\/e.op=6\/e.op=7\/e.op=8\/e.op=9\/e.op=10\/e.op=11\/e.op=12\/e.op=13\/e.op=14\/e.op=15\/e.op=16\/e.op=17\/e.op=18:=WD
 by_cases o15:e.op=15
 ·have:e.args.length<=6:=by
   simp[je,o15]at h8;exact h8.2
  grind
 ·by_cases o13:e.op=13
  ·have hn:e.names.length<=8:=by
    simp[je,o13,yA]at h8;exact h8.2
   have he:e.names.length=e.args.length:=by
    simp[iS,o13]at h3;omega
   grind
  ·have key:e.args.length<=3/\(e.op=11->e.args.length=3)/\(e.op=12->e.args.length=2)/\(e.op=14->e.args.length=1)/\(e.op=18->e.args.length=1):=by
    rcases ho with o|o|o|o|o|o|o|o|o|o|o|o|o|o|o|o|o|o|o<;>simp[iS,o]at h3 o13 o15 |- <;> omega
   grind
def Oj{ns:List az}{l:List Ty}(h:∀t∈l,gy t)(hl:l.length<=1000000):gy (.mk 2 (ns.zip l)):=Dm qr fun f hf=>h f.2 (List.of_mem_zip (show (f.1,f.2)∈ns.zip l from hf)).2
theorem BM(b:List bQ):(fs:List bQ)->(∀f∈fs,∀t u:Ty,zD f.2 t=some u->gy u)->∀f∈pr fs b,gy f.2
 |[],_,f,hf=>by simp[pr]at hf
 | g:: fs,h,f,hf=>by
  rw[uM,aba]at hf;rcases hf with hf|hf
  ·rw[OD]at hf
   grind
  ·exact BM b fs (fun f hf=>h f (abb _ hf)) f hf
theorem JE(a b u:Ty)(ha:gy a)(h:zD a b=some u):gy u:=by
 have e1:zD a b=if a.kind=b.kind then some (.mk a.kind (pr a.fields b.fields))else none:=by
  cases a;cases b;simp only[zD,Ty.kind,Ty.fields];rfl
 rw[e1]at h;split at h
 ·cases h;refine Dm (abK (GA _ _) ha.len) (BM _ _ fun f hf t u hu=>?_)
  have:=Ja hf
  exact JE f.2 t u (ha.kid hf) hu
 ·cases h
termination_by SizeOf.sizeOf a
theorem lQ(k:Int):gy (.mk k []):=Dm AI AI
def Im{e:Exp}{l:List Ty}(hl:∀t∈l,gy t)(hlen:l.length<=1000000)(h11:e.op=11->l.length=3)(h14:e.op=14->l.length=1){t:Ty}(h:bP e l=some t):gy t:=by
 unfold bP at h;split at h
 ·grind [lQ]
 ·split at h
  ·cases h;exact lQ _
  ·split at h
   ·grind [lQ]
   ·split at h
    ·grind [lQ]
    ·split at h
     ·grind [lQ]
     ·split at h
      ·grind [JE,List.getElem_mem]
      ·split at h
       ·cases h;exact Oj hl hlen
       ·split at h
        ·rename_i o;split at h
         ·rename_i z hz;cases h
          have:=h14 o
          have h0:gy l[0]!:=by rw[aaG l 0 WD];exact hl _ (List.getElem_mem _)
          exact h0.kid (lO hz).1
         ·cases h
        ·cases h;exact lQ _
def q79(l:List bQ)(h:l.length<=1000000):callW pg 79 [aB l]=af (aB l):=by
 have e0:callW pg 79 [aB l]=ir T 38 (callW pg) [aB l]:=dc hOther rfl _;have e1:=Ro (a:=[]) (b:=l) Bk;rw[e0];show bJ (cC T 38 (.sl []) (aB l))=_;have e2:cC T 38 (.sl []) (aB l)=some (aB l):=e1;rw[e2];rfl
theorem Kx{m:Ap.Mod}{mp:AV}(K:CxOk m fs)(P:rm q m mp fs d):rm q m mp fs (d+1):=by
 intro ls e n h hr he hls hll R;rw[nf,aaD,aaS]at hr;obtain⟨hsh,har⟩:=hr;obtain⟨a11,a12,a14,a18,a13,alen⟩:=L8 hsh;have ha:∀x∈e.args,cX d x=true/\x.Lim:=fun x hx=>⟨har x hx,he.kid hx⟩;have hll':ls.length+d<=1000000:=WD
 show callW pg 39 [.hp q 0,aB ls,e.av] h=Yw q m mp h (b9 (gd m fs) (bk (gd m fs) d) ls e n)/\∀t n',b9 (gd m fs) (bk (gd m fs) d) ls e n= .ok t n'->gy t;by_cases o2:e.op=2
 ·have hk:=t78 ls WD e.s;rw[Iq o2,C39];cases hz:bV (fun z:bQ=>z.1== e.s) ls with
  |none=>
   rw[hz]at hk;refine⟨?_,fun t n' h3=>by cases h3⟩;show _=Av.R.ok (AV.tup [ty0.av,qi 12]) (h.set q (bp m mp n));rw[R.same];simp[S39,o2,hk,zJ];rfl
  |some z=>
   rw[hz]at hk;refine⟨?_,fun t n' h3=>by cases h3;exact hls z (lO hz).1⟩;show _=Av.R.ok (AV.tup [z.2.av,qi 0]) (h.set q (bp m mp n));rw[R.same];simp[S39,o2,hk];rfl
 ·by_cases o12:e.op=12
  ·obtain⟨x,y,hxy⟩:∃x y,e.args=[x,y]:=by
    have:=a12 o12
    match e.args,this with
    |[x,y],_=>grind
   have hx0:e.args[0]! = x:=by rw[hxy];rfl
   have hx1:e.args[1]! = y:=by rw[hxy];rfl
   have i0:au T 29 (bY e.args) (qi 0)=some (.ip (ab x.av)):=by
    have:=oA (l:=e.args) (n:=0) WD (by rw[hxy];simp)
    rw[this,hxy];rfl
   have i1:au T 29 (bY e.args) (qi 1)=some (.ip (ab y.av)):=by
    have:=oA (l:=e.args) (n:=1) WD (by rw[hxy];simp)
    rw[this,hxy];rfl
   obtain⟨xr,xl⟩:=ha x (by rw[hxy];simp);obtain⟨yr,yl⟩:=ha y (by rw[hxy];simp);obtain⟨p1,p2⟩:=P ls x n h xr xl hls hll' R;rw[zm o12,hx0,hx1,C39];have hne:=kB (gd m fs) d ls x n;cases ht:bk (gd m fs) d ls x n with
   |er b n'=>
    rw[ht]at p1;have hb:(b != 0)=true:=acy.2 (hne b n' ht);have k1:∀f:AV->M AV,ah (callW pg 39 [.hp q 0,aB ls,x.av]) f h=f (.tup [ty0.av,qi b]) (h.set q (bp m mp n')):=fun f=>aP p1 f;have e1:eG.bind (bk (gd m fs) d ls x) (fun t=>bk (gd m fs) d (ls++[(e.s,t)]) y) n= .er b n':=by simp only[eG.bind,ht]
    rw[e1];refine⟨?_,fun t n' h3=>by cases h3⟩;show _=Av.R.ok (AV.tup [ty0.av,qi b]) (h.set q (bp m mp n'));simp[S39,o12,i0,k1,hb,zJ];rfl
   | ok u n'=>
    rw[ht]at p1;have hus:=p2 u n' ht;have k1:∀f:AV->M AV,ah (callW pg 39 [.hp q 0,aB ls,x.av]) f h=f (.tup [u.av,qi 0]) (h.set q (bp m mp n')):=fun f=>aP p1 f;obtain⟨p3,p4⟩:=P (ls++[(e.s,u)]) y n' (h.set q (bp m mp n')) yr yl (fun z hz=>by
     grind) qr (R.set n')
    have e1:eG.bind (bk (gd m fs) d ls x) (fun t=>bk (gd m fs) d (ls++[(e.s,t)]) y) n=bk (gd m fs) d (ls++[(e.s,u)]) y n':=by simp only[eG.bind,ht]
    rw[e1];refine⟨?_,fun t n'' h3=>p4 t n'' h3⟩;have hap:=Ro (a:=ls) (b:=[(e.s,u)]) Bk;have hcl:=q79 ls WD;cases ht2:bk (gd m fs) d (ls++[(e.s,u)]) y n' with
    |er b n''=>
     rw[ht2]at p3;have k2:∀f:AV->M AV,ah (callW pg 39 [.hp q 0,aB (ls++[(e.s,u)]),y.av]) f (h.set q (bp m mp n'))=f (.tup [ty0.av,qi b]) ((h.set q (bp m mp n')).set q (bp m mp n'')):=fun f=>aP p3 f;show _=Av.R.ok (AV.tup [ty0.av,qi b]) (h.set q (bp m mp n''));simp[S39,o12,i0,i1,k1,CE,sl1,hcl,hap,k2];rfl
    |ok t n''=>
     rw[ht2]at p3;have k2:∀f:AV->M AV,ah (callW pg 39 [.hp q 0,aB (ls++[(e.s,u)]),y.av]) f (h.set q (bp m mp n'))=f (.tup [t.av,qi 0]) ((h.set q (bp m mp n')).set q (bp m mp n'')):=fun f=>aP p3 f;show _=Av.R.ok (AV.tup [t.av,qi 0]) (h.set q (bp m mp n''));simp[S39,o12,i0,i1,k1,CE,sl1,hcl,hap,k2];rfl
  ·have b2:(e.op== 2)=false:=aaN.2 o2;have b12:(e.op== 12)=false:=aaN.2 o12;by_cases o17:e.op=17\/e.op=18
   ·obtain⟨v1,v2⟩:=q80 P K ls hls hll' e o17 (fun o=>by
     have:=a18 o
     match hx:e.args,this with
     |[x],_=>grind) n h R
    refine⟨?_,v2⟩;rw[<- v1,C39];generalize hcode:callW pg 80 [.hp q 0,aB ls,e.av] h=code at v1;cases hs:b9 (gd m fs) (bk (gd m fs) d) ls e n with
    | er b n'=>
     rw[hs]at v1;rw[v1]at hcode;have k1:∀f:AV->M AV,ah (callW pg 80 [.hp q 0,aB ls,e.av]) f h=f (.tup [ty0.av,qi b]) (h.set q (bp m mp n')):=fun f=>aP hcode f;rw[v1];show _=Av.R.ok (AV.tup [ty0.av,qi b]) (h.set q (bp m mp n'));rcases o17 with o|o
     ·have c17:(e.op== 17)=true:=aa9.2 o;simp[S39,K39_1,b2,b12,c17,k1];rfl
     ·have c17:(e.op== 17)=false:=aaN.2 WD;have c18:(e.op== 18)=true:=aa9.2 o;simp[S39,K39_1,b2,b12,c17,c18,k1];rfl
    | ok t n'=>
     rw[hs]at v1;rw[v1]at hcode;have k1:∀f:AV->M AV,ah (callW pg 80 [.hp q 0,aB ls,e.av]) f h=f (.tup [t.av,qi 0]) (h.set q (bp m mp n')):=fun f=>aP hcode f;rw[v1];show _=Av.R.ok (AV.tup [t.av,qi 0]) (h.set q (bp m mp n'));rcases o17 with o|o
     ·have c17:(e.op== 17)=true:=aa9.2 o;simp[S39,K39_1,b2,b12,c17,k1];rfl
     ·have c17:(e.op== 17)=false:=aaN.2 WD;have c18:(e.op== 18)=true:=aa9.2 o;simp[S39,K39_1,b2,b12,c17,c18,k1];rfl
   ·have b17:(e.op== 17)=false:=aaN.2 WD;have b18:(e.op== 18)=false:=aaN.2 WD;by_cases o15:e.op=15
    ·obtain⟨v1,v2⟩:=q81 P K ls hls hll' e o15 alen ha n h R;refine⟨?_,v2⟩;have b15:(e.op== 15)=true:=aa9.2 o15;rw[C39];cases hs:b9 (gd m fs) (bk (gd m fs) d) ls e n with
     |er b n'=>
      rw[hs]at v1;have k1:∀f:AV->M AV,ah (callW pg 81 [.hp q 0,aB ls,e.av]) f h=f (.tup [ty0.av,qi b]) (h.set q (bp m mp n')):=fun f=>aP v1 f;show _=Av.R.ok (AV.tup [ty0.av,qi b]) (h.set q (bp m mp n'));simp[S39,K39_1,b2,b12,b17,b18,b15,k1];rfl
     |ok t n'=>
      rw[hs]at v1;have k1:∀f:AV->M AV,ah (callW pg 81 [.hp q 0,aB ls,e.av]) f h=f (.tup [t.av,qi 0]) (h.set q (bp m mp n')):=fun f=>aP v1 f;show _=Av.R.ok (AV.tup [t.av,qi 0]) (h.set q (bp m mp n'));simp[S39,K39_1,b2,b12,b17,b18,b15,k1];rfl
    ·have b15:(e.op== 15)=false:=aaN.2 o15;obtain⟨g1,g2⟩:=q82 P ls hls hll' e.args alen ha n h R;rw[vR o2 o12 o17 o15,C39];cases ht:dG (bk (gd m fs) d ls) e.args n with
     |er b n'=>
      rw[ht]at g1;have hb:(b != 0)=true:=acy.2 (td (kB (gd m fs) d ls) _ n b n' ht);have k1:∀f:AV->M AV,ah (callW pg 82 [.hp q 0,aB ls,bY e.args]) f h=f (.tup [.sl [],qi b]) (h.set q (bp m mp n')):=fun f=>aP g1 f;have e1:eG.bind (dG (bk (gd m fs) d ls) e.args) (vK e) n= .er b n':=by simp only[eG.bind,ht]
      rw[e1];refine⟨?_,fun t n' h3=>by cases h3⟩;show _=Av.R.ok (AV.tup [ty0.av,qi b]) (h.set q (bp m mp n'));simp[S39,K39_1,b2,b12,b17,b18,b15,k1,hb,zJ];rfl
     | ok l n'=>
      rw[ht]at g1;obtain⟨g3,g4⟩:=g2 l n' ht;have k1:∀f:AV->M AV,ah (callW pg 82 [.hp q 0,aB ls,bY e.args]) f h=f (.tup [kE l,qi 0]) (h.set q (bp m mp n')):=fun f=>aP g1 f;have hp:=t83 e l g4 WD (fun o=>qr) (fun o=>qr) (fun o=>qr);have R':=R.set n';have hor:dC T .or 3 (qi n') (qi e.n)=some (.int .i64 (qM n' e.n)):=rfl;have l1:∀f:AV->M AV,ah (bC T 3 (.hp q 10)) f (h.set q (bp m mp n'))=f (qi n') (h.set q (bp m mp n')):=fun f=>aP R'.eff f;have l2:∀f:AV->M AV,ah (cp T 3 (.hp q 10) (qi (qM n' e.n))) f (h.set q (bp m mp n'))=f (.tup []) (h.set q (bp m mp (qM n' e.n))):=fun f=>by
       rw[aP (R'.put (qM n' e.n)) f,aaq]
      have e1:eG.bind (dG (bk (gd m fs) d ls) e.args) (vK e) n=vK e l n':=by simp only[eG.bind,ht]
      rw[e1];have hsl:=fun t=>Im (e:=e) (l:=l) g4 WD (fun o=>qr) (fun o=>qr) (t:=t);by_cases o16:e.op=16
      ·have b16:(e.op== 16)=true:=aa9.2 o16;cases hpl:bP e l with
       |none=>
        rw[hpl]at hp;rw[r9 hpl,aaH o16];refine⟨?_,fun t n' h3=>by cases h3⟩;show _=Av.R.ok (AV.tup [ty0.av,qi 13]) (h.set q (bp m mp (qM n' e.n)));simp[S39,K39_1,K39_0,b2,b12,b17,b18,b15,b16,k1,l1,hor,l2,hp];rfl
       |some t=>
        rw[hpl]at hp;rw[sa hpl,aaH o16];refine⟨?_,fun t' n' h3=>qr⟩;show _=Av.R.ok (AV.tup [t.av,qi 0]) (h.set q (bp m mp (qM n' e.n)));simp[S39,K39_1,K39_0,b2,b12,b17,b18,b15,b16,k1,l1,hor,l2,hp];rfl
      ·have b16:(e.op== 16)=false:=aaN.2 o16;cases hpl:bP e l with
       |none=>
        rw[hpl]at hp;rw[r9 hpl,aaC o16];refine⟨?_,fun t n' h3=>by cases h3⟩;show _=Av.R.ok (AV.tup [ty0.av,qi 13]) (h.set q (bp m mp n'));simp[S39,K39_1,K39_0,b2,b12,b17,b18,b15,b16,k1,hp];rfl
       |some t=>
        rw[hpl]at hp;rw[sa hpl,aaC o16];refine⟨?_,fun t' n' h3=>qr⟩;show _=Av.R.ok (AV.tup [t.av,qi 0]) (h.set q (bp m mp n'));simp[S39,K39_1,K39_0,b2,b12,b17,b18,b15,b16,k1,hp];rfl
theorem Z7{q:Nat}{m:Ap.Mod}{mp:AV}{fs:List Face}(K:CxOk m fs):∀d,rm q m mp fs d
 |0=>fun ls e n h hr=>by cases hr
 |d+1=>Kx K (Z7 K d)
theorem xt(s:az):(fs acc:List Face)->(dp acc fs).find? (fun g=>g.module== s)=((acc.find? fun g=>g.module== s).or (fs.find? fun g=>g.module== s))
 |[],acc=>by simp[dp]
 | f:: fs,acc=>by
  rw[dp,xt s fs];by_cases h:(acc.find? fun g=>g.module== f.module).isSome=true
  ·rw[aaH h,abG];cases hs:f.module== s with
   |false=>rfl
   |true=>
    have e:f.module=s:=aa9.1 hs
    grind [Option.isSome_iff_exists]
  grind
theorem AH:(fs acc:List Face)->∀f∈dp acc fs,f∈acc\/f∈fs
 |[],acc,f,h=>.inl h
 |g:: fs,acc,f,h=>by
  rw[dp]at h;rcases AH fs _ f h with h|h
  all_goals grind
def Gj(s:Sig):Bool:=bZ s.result&&s.params.all bZ
theorem Ku(f:Face):kW f=f.funcs.all Gj:=rfl
def q71(t:Ty)(ht:t.Lim):callW pg 71 [t.av]=af (.bool (!(bZ t))):=by
 rw[C71];simp[S71,t69 t ht]
variable {l:Nat}
theorem NS(hl:h[l]? = some [.tup (dn fs)])(f:Face)(hn:fs.find? (fun g=>g.module== f.module)=none):oo T 111 (.mp l) (.str f.module) f.av h= .ok (.tup []) (h.set l [.tup (dn (fs++[f]))]):=by
 have e:oo T 111 (.mp l) (.str f.module) f.av h=(match h[l]? with
   |some [.tup es]=>(match uB T 9 es (.str f.module) f.av with
    |some es'=>.ok (.tup []) (h.set l [.tup es'])
    |none=>.fail)
   |_=>.fail):=rfl
 grind [uB,xJ,dn]
def sH(f:Face):bn 2 f.av=af f.av:=AN
def Qi(V:List AV->M AV){m:Ap.Mod}{acc:List Face}(R:JR h q m (.mp l) acc 0)(hl:h[l]? = some [.tup (dn acc)])(fs:List Face)(i:Nat)(f:Face)(hf:f.Lim):∀(k j:Nat),f.funcs.length-j=k->j<=f.funcs.length->
  ae (L36_0 (callW pg) ae V) [.hp q 0,.ip (ab f.av),faces fs,qi fs.length,qi i,sigs f.funcs,qi f.funcs.length,qi j] h=(if(f.funcs.drop j).all Gj=true then V [.hp q 0,faces fs,qi fs.length,qi (IntKind.i64.wrap ((i:Int)+1))] (if(acc.find? fun g=>g.module== f.module).isSome=true then h else h.set l [.tup (dn (acc++[f]))])else .ok (.tup [.nilp,.bool false]) h):=by
 intro k;have hlen:=hf.len
 induction k with
 | zero=>
  intro j hk hj;have h1:¬((j:Int)<(f.funcs.length:Int)):=WD
  have h2:f.funcs.drop j=[]:=List.drop_eq_nil_of_le WD;rw[h2,aaH (show[].all Gj=true from rfl)];have l1:∀g:AV->M AV,ah (bC T 111 (.hp q 9)) g h=g (.mp l) h:=fun g=>aP R.mp g;have l2:∀g:AV->M AV,ah (eL T 111 (.mp l) (.str f.module) true) g h=g (.tup [((acc.find? fun g=>g.module== f.module).getD me).av,.bool (acc.find? fun g=>g.module== f.module).isSome]) h:=fun g=>aP (uv R.map f.module) g;rw[FL36_0];cases hc:acc.find? (fun g=>g.module== f.module)with
  |none=>
   rw[hc]at l2;have l3:∀g:AV->M AV,ah (oo T 111 (.mp l) (.str f.module) f.av) g h=g (.tup []) (h.set l [.tup (dn (acc++[f]))]):=fun g=>aP (NS hl f hc) g;simp[L36_0,h1,l1,l2,sH,l3]
  |some g=>
   rw[hc]at l2;simp[L36_0,h1,l1,l2,sH]
 | succ k ih=>
  intro j hk hj;have hlt:j<f.funcs.length:=WD
  have h1:(j:Int)<(f.funcs.length:Int):=WD
  have h2:f.funcs.drop j=f.funcs[j]:: f.funcs.drop (j+1):=List.drop_eq_getElem_cons hlt;have hw:IntKind.i64.wrap ((j:Int)+1)=(j:Int)+1:=bz WD;have hix:=Rw (l:=f.funcs) (n:=(j:Int)) WD h1;rw[aaP,aaG f.funcs j hlt]at hix;have hs:=hf.sigs _ (List.getElem_mem hlt);have ih':ae (L36_0 (callW pg) ae V) [.hp q 0,.ip (ab f.av),faces fs,qi fs.length,qi i,sigs f.funcs,qi f.funcs.length,qi ((j:Int)+1)] h=_:=ih (j+1) WD WD;rw[h2,abf];generalize f.funcs[j]=s at hix hs |-;have r1:=t69 s.result hs.result;have r2:=t70 (.fn (.func 71) [] []) (fun t=>!(bZ t)) s.params (by have:=hs.plen;omega) (fun g=>by simp[cl,ek]) (fun t ht=>q71 t (hs.ptys t ht));have r3:(s.params.any fun t=>!(bZ t))= !(s.params.all bZ):=by
   rw[List.any_eq_not_all_not];simp
  rw[r3]at r2;rw[FL36_0];simp only[DW]at ih' |-;unfold Gj;cases b1:bZ s.result with
  |false=>
   rw[b1]at r1;simp[L36_0,h1,hix,r1];rfl
  | true=>
   rw[b1]at r1;cases b2:s.params.all bZ with
   |false=>
    rw[b2]at r2;simp[L36_0,h1,hix,r1,r2];rfl
   |true=>
    simp_all[L36_0,Gj]
theorem Qj{m:Ap.Mod}(hq:l≠q)(fs:List Face)(hfs:∀f∈fs,f.Lim)(hlen:fs.length<=140737488355328):∀(k i:Nat)(acc:List Face)(h:Hp),fs.length-i=k->i<=fs.length->JR h q m (.mp l) acc 0->h[l]? = some [.tup (dn acc)]->
  ((fs.drop i).all kW=true->ae (L36_1 (callW pg) ae) [.hp q 0,faces fs,qi fs.length,qi i] h= .ok (.tup [.hp q 0,.bool true]) (h.set l [.tup (dn (dp acc (fs.drop i)))]))/\((fs.drop i).all kW=false->∃h',ae (L36_1 (callW pg) ae) [.hp q 0,faces fs,qi fs.length,qi i] h= .ok (.tup [.nilp,.bool false]) h'):=by
 intro k
 induction k with
 | zero=>
  intro i acc h hk hi R hl;have h1:¬((i:Int)<(fs.length:Int)):=WD
  have h2:fs.drop i=[]:=List.drop_eq_nil_of_le WD;rw[h2];refine⟨fun _=>?_,fun hc=>by cases hc⟩;have e:h.set l [.tup (dn (dp acc []))]=h:=by
   obtain⟨hll,e⟩:=aaJ.1 hl;show h.set l [.tup (dn acc)]=h;rw[<- e];exact List.set_getElem_self hll
  rw[e,FL36_1];simp[L36_1,h1];rfl
 | succ k ih=>
  intro i acc h hk hi R hl;have hlt:i<fs.length:=WD
  have h1:(i:Int)<(fs.length:Int):=WD
  have h2:fs.drop i=fs[i]:: fs.drop (i+1):=List.drop_eq_getElem_cons hlt;have hw:IntKind.i64.wrap ((i:Int)+1)=((i+1:Nat):Int):=bz WD;have hix:=YO (l:=fs) (n:=(i:Int)) WD h1;rw[aaP,aaG fs i hlt]at hix;have hf:=hfs _ (List.getElem_mem hlt);rw[h2,abf];generalize fs[i]=f at hix hf |-;have hin:=Qi (ae (L36_1 (callW pg) ae)) R hl fs i f hf f.funcs.length 0 rfl (aa1 _);rw[aaZ,hw]at hin;have hrun:ae (L36_1 (callW pg) ae) [.hp q 0,faces fs,qi fs.length,qi i] h=ae (L36_0 (callW pg) ae (ae (L36_1 (callW pg) ae))) [.hp q 0,.ip (ab f.av),faces fs,qi fs.length,qi i,sigs f.funcs,qi f.funcs.length,qi ((0:Nat):Int)] h:=by
   rw[FL36_1];simp[L36_1,h1,hix,sH]
  rw[hrun,hin,<- Ku];cases hfo:kW f with
  |false=>
   grind
  | true=>
   simp only[aaV,ach];have hd:dp acc (f:: fs.drop (i+1))=dp (if(acc.find? fun g=>g.module== f.module).isSome=true then acc else acc++[f]) (fs.drop (i+1)):=rfl;rw[hd];have hll:=(aaJ.1 hl).1;by_cases hc:(acc.find? fun g=>g.module== f.module).isSome=true
   ·grind
   ·rw[aaC hc,aaC hc];have hl':(h.set l [.tup (dn (acc++[f]))])[l]? = some [.tup (dn (acc++[f]))]:=abk hll;have R':JR (h.set l [.tup (dn (acc++[f]))]) q m (.mp l) (acc++[f]) 0:=⟨by rw[ab8 hq];exact R.row,.inr ⟨l,rfl,hl'⟩,R.ne⟩;obtain⟨i1,i2⟩:=ih (i+1) (acc++[f]) _ WD WD R' hl'
    grind [List.set_set]
theorem q36(m:Ap.Mod)(fs:List Face)(hfs:∀f∈fs,f.Lim)(hlen:fs.length<=140737488355328)(h:Hp):
  (fs.all kW=true->callW pg 36 [m.av,faces fs] h= .ok (.tup [.hp (h.length+1) 0,.bool true]) (h++[[.tup (dn (dp [] fs))],bp m (.mp h.length) 0]))/\(fs.all kW=false->∃h',callW pg 36 [m.av,faces fs] h= .ok (.tup [.nilp,.bool false]) h'):=by
 have R:JR (h++[[AV.tup []],bp m (.mp h.length) 0]) (h.length+1) m (.mp h.length) [] 0:=⟨AI,.inr ⟨h.length,rfl,by simp[dn]⟩,AI⟩;obtain⟨h1,h2⟩:=Qj (q:=h.length+1) (l:=h.length) (m:=m) WD fs hfs hlen fs.length 0 [] _ rfl (aa1 _) R (by simp[dn]);rw[aaZ]at h1 h2;have hrun:callW pg 36 [m.av,faces fs] h=ae (L36_1 (callW pg) ae) [.hp (h.length+1) 0,faces fs,qi fs.length,qi ((0:Nat):Int)] (h++[[AV.tup []],bp m (.mp h.length) 0]):=by
  rw[C36];have b1:bS T true 113 [(0,m.av),(1,.mp h.length)]=some (.agg (bp m (.mp h.length) 0)):=rfl;have n1:∀f:AV->M AV,ah fK f h=f (.mp h.length) (h++[[AV.tup []]]):=fun f=>rfl;have n2:∀f:AV->M AV,ah (newH (bp m (.mp h.length) 0)) f (h++[[AV.tup []]])=f (.hp (h.length+1) 0) (h++[[AV.tup []],bp m (.mp h.length) 0]):=fun f=>by
   have:newH (bp m (.mp h.length) 0) (h++[[AV.tup []]])= .ok (.hp (h++[[AV.tup []]]).length 0) ((h++[[AV.tup []]])++[bp m (.mp h.length) 0]):=rfl;rw[aP this];simp
  have lm:aO T 43 (.ip (ab m.av))=some m.av:=rfl;simp only[S36,lm,ai,n1,b1,cz,n2,RA];rfl
 grind
def iq(name:az):Ap.Mod:=⟨name,[],[],[],[],false,[],[],[]⟩
def ck0(name:az):CxOk (iq name) [] where
 vlen:=by simp[iq]
 vars:=nofun
 flen:=by simp[iq]
 ulen:=by simp[iq]
 plen:=nofun
 pars:=nofun
 res:=nofun
 slen:=nofun
 splen:=nofun
 spars:=nofun
 sres:=nofun
theorem Z8(name:az)(ls:List bQ)(hls:∀z∈ls,gy z.2)(hll:ls.length<=1000)(e:Exp)(hr:cX 12 e=true)(he:e.Lim)(want:Ty)(hw:bZ want=true):callW pg 77 [.str name,aB ls,e.av,want.av]=af (.int .i64 (po ls e want)):=by
 have R:JR [bp (iq name) .nilm 0] 0 (iq name) .nilm [] 0:=⟨rfl,.inl ⟨rfl,rfl⟩,AI⟩;obtain⟨p1,p2⟩:=Z7 (ck0 name) 12 ls e 0 _ hr he hls WD R;have hc:gd (iq name) []=wd:=rfl;rw[hc]at p1 p2;have b0:bS T false 43 [(0,.str name)]=some (iq name).av:=rfl;have b1:bS T true 113 [(0,(iq name).av)]=some (.agg (bp (iq name) .nilm 0)):=rfl;have n1:∀f:AV->M AV,ah (newH (bp (iq name) .nilm 0)) f []=f (.hp 0 0) [bp (iq name) .nilm 0]:=fun f=>rfl;have fin:∀(h:Hp)(n:Int),jd 6 h (qi n)= qi n:=fun h n=>rfl;have hne:=kB wd 12 ls e 0;rw[C77];unfold po;cases ht:bk wd 12 ls e 0 with
 |er b n=>
  rw[ht]at p1;have hb:(b != 0)=true:=acy.2 (hne b n ht);have k1:∀f:AV->M AV,ah (callW pg 39 [.hp 0 0,aB ls,e.av]) f [bp (iq name) .nilm 0]=f (.tup [ty0.av,qi b]) [bp (iq name) .nilm n]:=fun f=>aP p1 f;refine cE (v:=qi b) (h':=[bp (iq name) .nilm n]) ?_ (fin _ _);simp[S77,b0,b1,n1,k1,hb];rfl
 | ok t n=>
  rw[ht]at p1;have hts:=p2 t n ht;have k1:∀f:AV->M AV,ah (callW pg 39 [.hp 0 0,aB ls,e.av]) f [bp (iq name) .nilm 0]=f (.tup [t.av,qi 0]) [bp (iq name) .nilm n]:=fun f=>aP p1 f;have l1:∀f:AV->M AV,ah (bC T 3 (.hp 0 10)) f [bp (iq name) .nilm n]=f (qi n) [bp (iq name) .nilm n]:=fun f=>rfl;have hbl:=oF hts hw;dsimp only;by_cases hn:n=0
  ·subst hn;rw[aaC AI];cases hb:cg t want with
   |true=>
    rw[hb]at hbl;rw[aaH rfl];refine cE (v:=qi 0) (h':=[bp (iq name) .nilm 0]) ?_ (fin _ _);simp[S77,b0,b1,n1,k1,l1,hbl];rfl
   |false=>
    rw[hb]at hbl;rw[aaC Vc];refine cE (v:=qi 13) (h':=[bp (iq name) .nilm 0]) ?_ (fin _ _);simp[S77,b0,b1,n1,k1,l1,hbl];rfl
  ·rw[aaH hn];have hn':(n != 0)=true:=acy.2 hn;refine cE (v:=qi 14) (h':=[bp (iq name) .nilm n]) ?_ (fin _ _);simp[S77,b0,b1,n1,k1,l1,hn'];rfl
def sn(x:az×Int):AV:=.tup [.str x.1,qi x.2]
def r7(ls vs:List bQ)(es:List Exp)(i:Nat)(hl:es.length=vs.length)(h:i<vs.length):(iH ls vs es).drop i=(vs[i].1,po ls (es[i]'(WD)) vs[i].2):: (iH ls vs es).drop (i+1):=by
 grind [iH,List.drop_eq_getElem_cons]
def uA(ls vs:List bQ)(es:List Exp)(i:Nat)(h:vs.length<=i):(iH ls vs es).drop i=[]:=List.drop_eq_nil_of_le (by simp[iH,List.length_zip];omega)
structure MvOk (m:Ap.Mod):Prop where
 lim:m.Lim
 vlen:m.vars.length<=8
 vars:∀z∈m.vars,bZ z.2=true
 ilen:m.init.length=m.vars.length
 init:∀e∈m.init,cX 12 e=true
 olen:m.old.length<=8
 old:∀z∈m.old,bZ z.2=true
 wlen:m.moves=true->m.forward.length=m.vars.length
 forw:∀e∈m.forward,cX 12 e=true
 blen:m.back.length=m.old.length
 back:∀e∈m.back,cX 12 e=true
def mv0{m:Ap.Mod}(K:MvOk m):∀(k i:Nat),m.old.length-i=k->i<=m.old.length->
  ae (L38_0 (callW pg) ae) [.ip (ab m.av),aB m.old,qi m.old.length,qi i]=af (sn (cL ((iH m.vars m.old m.back).drop i))):=by
 intro k
 induction k with
 |zero=>
  intro i hk hi;have h1:¬((i:Int)<(m.old.length:Int)):=WD
  rw[FL38_0,uA _ _ _ _ WD];simp[L38_0,h1,cL,sn]
 |succ k ih=>
  intro i hk hi;have hlt:i<m.old.length:=WD
  have h1:(i:Int)<(m.old.length:Int):=WD
  have hw:IntKind.i64.wrap ((i:Int)+1)=(i:Int)+1:=bz (by have:=K.olen;omega);have hix:=rn (l:=m.old) (n:=(i:Int)) WD h1;rw[aaP,aaG m.old i hlt]at hix;have hlt2:i<m.back.length:=by rw[K.blen];exact hlt
  have hix2:=oA (l:=m.back) (n:=(i:Int)) WD qr;rw[aaP,aaG m.back i hlt2]at hix2;have hp:=Z8 m.name m.vars (fun z hz=>iY (K.vars z hz)) (by have:=K.vlen;omega) m.back[i] (K.back _ (List.getElem_mem _)) (K.lim.bes _ (List.getElem_mem _)) m.old[i].2 (K.old _ (List.getElem_mem _));have ih':ae (L38_0 (callW pg) ae) [.ip (ab m.av),aB m.old,qi m.old.length,qi ((i:Int)+1)]=_:=ih (i+1) WD WD;rw[FL38_0,r7 _ _ _ _ K.blen hlt,cL];simp only[bN]at ih' |-;generalize m.old[i]=z at hix hp |-;generalize m.back[i]=e at hix2 hp |-;by_cases hb:po m.vars e z.2=0
  all_goals simp_all[L38_0,sn]
def mv1{m:Ap.Mod}(K:MvOk m)(hm:m.moves=true):∀(k i:Nat),m.vars.length-i=k->i<=m.vars.length->
  ae (L38_1 (callW pg) ae) [.ip (ab m.av),aB m.vars,qi m.vars.length,qi i]=af (sn (cL ((iH m.old m.vars m.forward).drop i++iH m.vars m.old m.back))):=by
 intro k
 induction k with
 |zero=>
  intro i hk hi;have h1:¬((i:Int)<(m.vars.length:Int)):=WD
  have h0:=mv0 K m.old.length 0 rfl (aa1 _);have h0':ae (L38_0 (callW pg) ae) [.ip (ab m.av),aB m.old,qi m.old.length,qi 0]=af (sn (cL (iH m.vars m.old m.back))):=h0;rw[FL38_1,uA _ _ _ _ WD,aaU];simp only[bN]at h0' |-;simp[L38_1,h1,h0']
 |succ k ih=>
  intro i hk hi;have hlt:i<m.vars.length:=WD
  have h1:(i:Int)<(m.vars.length:Int):=WD
  have hw:IntKind.i64.wrap ((i:Int)+1)=(i:Int)+1:=bz (by have:=K.vlen;omega);have hix:=rn (l:=m.vars) (n:=(i:Int)) WD h1;rw[aaP,aaG m.vars i hlt]at hix;have hwl:=K.wlen hm;have hlt2:i<m.forward.length:=WD
  have hix2:=oA (l:=m.forward) (n:=(i:Int)) WD WD;rw[aaP,aaG m.forward i hlt2]at hix2;have hp:=Z8 m.name m.old (fun z hz=>iY (K.old z hz)) (by have:=K.olen;omega) m.forward[i] (K.forw _ (List.getElem_mem _)) (K.lim.fes _ (List.getElem_mem _)) m.vars[i].2 (K.vars _ (List.getElem_mem _));have ih':ae (L38_1 (callW pg) ae) [.ip (ab m.av),aB m.vars,qi m.vars.length,qi ((i:Int)+1)]=_:=ih (i+1) WD WD;rw[FL38_1,r7 _ _ _ _ hwl hlt,aa2,cL];simp only[bN]at ih' |-;generalize m.vars[i]=z at hix hp |-;generalize m.forward[i]=e at hix2 hp |-;by_cases hb:po m.old e z.2=0
  all_goals simp_all[L38_1,sn]
def mv2{m:Ap.Mod}(K:MvOk m):∀(k i:Nat),m.vars.length-i=k->i<=m.vars.length->
  ae (L38_2 (callW pg) ae) [.ip (ab m.av),aB m.vars,qi m.vars.length,qi i]=af (sn (cL ((iH [] m.vars m.init).drop i++if m.moves=true then iH m.old m.vars m.forward++iH m.vars m.old m.back else[]))):=by
 intro k
 induction k with
 | zero=>
  intro i hk hi;have h1:¬((i:Int)<(m.vars.length:Int)):=WD
  rw[FL38_2,uA _ _ _ _ WD,aaU];cases hm:m.moves with
  |true=>
   have h0:=mv1 K hm m.vars.length 0 rfl (aa1 _);have h0':ae (L38_1 (callW pg) ae) [.ip (ab m.av),aB m.vars,qi m.vars.length,qi 0]=af (sn (cL (iH m.old m.vars m.forward++iH m.vars m.old m.back))):=h0;simp only[bN,hm]at h0' |-;simp[L38_2,h1,h0']
  |false=>
   simp only[bN,hm];simp[L38_2,h1,sn,cL]
 |succ k ih=>
  intro i hk hi;have hlt:i<m.vars.length:=WD
  have h1:(i:Int)<(m.vars.length:Int):=WD
  have hw:IntKind.i64.wrap ((i:Int)+1)=(i:Int)+1:=bz (by have:=K.vlen;omega);have hix:=rn (l:=m.vars) (n:=(i:Int)) WD h1;rw[aaP,aaG m.vars i hlt]at hix;have hwl:=K.ilen;have hlt2:i<m.init.length:=WD
  have hix2:=oA (l:=m.init) (n:=(i:Int)) WD WD;rw[aaP,aaG m.init i hlt2]at hix2;have hp0:=Z8 m.name [] (fun z hz=>by cases hz) AI m.init[i] (K.init _ (List.getElem_mem _)) (K.lim.ies _ (List.getElem_mem _)) m.vars[i].2 (K.vars _ (List.getElem_mem _));have hp:callW pg 77 [.str m.name,.sl [],m.init[i].av,m.vars[i].2.av]=af (.int .i64 (po [] m.init[i] m.vars[i].2)):=hp0;have ih':ae (L38_2 (callW pg) ae) [.ip (ab m.av),aB m.vars,qi m.vars.length,qi ((i:Int)+1)]=_:=ih (i+1) WD WD;rw[FL38_2,r7 _ _ _ _ hwl hlt,aa2,cL];simp only[bN]at ih' |-;generalize m.vars[i]=z at hix hp |-;generalize m.init[i]=e at hix2 hp |-;by_cases hb:po [] e z.2=0
  all_goals simp_all[L38_2,sn]
def q38{m:Ap.Mod}(K:MvOk m):callW pg 38 [m.av]=af (sn (nB m)):=by
 have h0:=mv2 K m.vars.length 0 rfl (aa1 _);have h0':ae (L38_2 (callW pg) ae) [.ip (ab m.av),aB m.vars,qi m.vars.length,qi 0]=af (sn (nB m)):=h0;rw[C38];simp only[bN]at h0';simp[S38,h0'];exact bb fun g=>by simp[sn,cl,ek]
def setRow(ns:List az):List AV:=ns.map fun s=>.tup [.str s,.bool true]
theorem Ts(a b:az):DN T 20 9 (.str a) (.str b)=some (a== b):=rfl
theorem uf(s:az):(ns:List az)->(i:Nat)->(ns.contains s=false/\cV T 9 (.str s) (setRow ns) i=some none)\/(ns.contains s=true/\∃(j:Nat)(k:AV),cV T 9 (.str s) (setRow ns) i=some (some (j,k,.bool true)))
 |[],i=>.inl ⟨rfl,rfl⟩
 | x:: ns,i=>by
  show (_/\cV T 9 (.str s) (.tup [.str x,.bool true]:: setRow ns) i=_)\/(_/\∃(j:Nat)(k:AV),cV T 9 (.str s) (.tup [.str x,.bool true]:: setRow ns) i=_);unfold cV;rw[Ts,List.contains_cons];cases h:s== x with
  |true=>grind
  |false=>
   rcases uf s ns (i+1)with⟨h1,h2⟩|⟨h1,j,k,h2⟩
   all_goals grind
theorem yx{ns:List az}(hl:h[l]? = some [.tup (setRow ns)])(s:az):eL T 156 (.mp l) (.str s) false h= .ok (.bool (ns.contains s)) h:=by
 have e:pn T 156 (setRow ns) (.str s) false=(match cV T 9 (.str s) (setRow ns) 0 with
   |some (some (_,_,v))=>some v
   |some none=>some (.bool false)
   |none=>none):=rfl
 grind [eL,mb,uf]
theorem Da{ns:List az}(hl:h[l]? = some [.tup (setRow ns)])(s:az)(hs:ns.contains s=false):oo T 156 (.mp l) (.str s) (.bool true) h= .ok (.tup []) (h.set l [.tup (setRow (ns++[s]))]):=by
 have e:oo T 156 (.mp l) (.str s) (.bool true) h=(match h[l]? with
   |some [.tup es]=>(match uB T 9 es (.str s) (.bool true)with
    |some es'=>.ok (.tup []) (h.set l [.tup es'])
    |none=>.fail)
   |_=>.fail):=rfl
 grind [uB,uf,setRow]
theorem Uf(l:List bQ)(hb:l.length<=140737488355328)(ht:∀f∈l,f.2.Lim)(most:Int)(q:Nat):∀(n i:Nat),l.length-i=n->i<=l.length->∀(seen:List az)(h:Hp),h[q]? = some [.tup (setRow seen)]->
  ∃h',ae (L73_0 (callW pg) ae) [aB l,qi most,.mp q,aB l,qi l.length,qi i] h= .ok (.bool (FL seen (l.drop i)&&decide ((l.length:Int)<=most))) h':=by
 intro n
 induction n with
 |zero=>
  intro i hn hi seen h hq;rw[FL73_0];have h1:¬((i:Int)<(l.length:Int)):=WD
  have h2:l.drop i=[]:=List.drop_eq_nil_of_le WD;rw[h2];exact⟨h,by simp[L73_0,h1,FL,af]⟩
 | succ n ih=>
  intro i hn hi seen h hq;have hlt:i<l.length:=WD
  have h1:(i:Int)<(l.length:Int):=WD
  have h2:l.drop i=l[i]:: l.drop (i+1):=List.drop_eq_getElem_cons hlt;have hw:IntKind.i64.wrap ((i:Int)+1)=((i+1:Nat):Int):=bz WD;have hix:=rn (l:=l) (n:=(i:Int)) WD h1;rw[aaP,aaG l i hlt]at hix;have hfl:=ht _ (List.getElem_mem hlt);have ih':=fun s=>ih (i+1) WD WD (seen++[s]) (h.set q [.tup (setRow (seen++[s]))]);have hql:q<h.length:=(aaJ.1 hq).1;rw[h2];generalize l[i]=f at hix hfl |-;have hlk:=yx hq f.1;have hnm:=t72 f.1;have hty:=t74 f.2 hfl;have hcf:bn 3 (bF f)=af (bF f):=by rw[bH (oi f),jR,xL]
  generalize hcode:ae (L73_0 (callW pg) ae) [aB l,qi most,.mp q,aB l,qi l.length,qi i] h=code;rw[FL73_0]at hcode;simp only[L73_0,ax,aF,bc,ai,h1,abj,am,aaV,hix,jR,LD96,aaX,aaW,aa7,Nat.reduceAdd,aaI,abD,abu,xL,hcf,ar,FA96_0,FA96_1,aaZ,aa5,LD9]at hcode;rw[aP hlk]at hcode;have eo:FL seen (f:: l.drop (i+1))=(!(seen.contains f.1)&&dY f.1&&bZ f.2&&FL (seen++[f.1]) (l.drop (i+1))):=rfl;rw[eo];cases hc:seen.contains f.1 with
  |true=>
   rw[hc]at hcode;refine⟨h,?_⟩;rw[<- hcode];simp[af]
  | false=>
   rw[hc]at hcode;cases hn2:dY f.1 with
   |false=>
    rw[hn2]at hnm;refine⟨h,?_⟩;simp_all[af]
   | true=>
    rw[hn2]at hnm;cases hr:bZ f.2 with
    |false=>
     rw[hr]at hty;refine⟨h,?_⟩;simp_all[af]
    |true=>
     rw[hr]at hty;obtain⟨h',e'⟩:=ih' f.1 qr;refine⟨h',?_⟩;have hp:=Da hq f.1 hc;rw[<- hcode];simp only[hnm,hty,ar,ib,eQ,abR,acJ,ax,qa,am,aaK,aaR,LD49,aaX,aaW,aa7,Nat.reduceAdd,aaI,aaV,abD,abu,iL,ai];rw[aP hp];simp_all
theorem t73(l:List bQ)(hb:l.length<=140737488355328)(ht:∀f∈l,f.2.Lim)(most:Int):callW pg 73 [aB l,qi most]=af (.bool (jE l most)):=by
 obtain⟨h',e⟩:=Uf l hb ht most 0 l.length 0 rfl (aa1 _) [] ([]++[[.tup []]]) rfl;rw[aaZ]at e;rw[C73];funext hp;have key:S73 (callW pg) ae (cl ao (aB l)) (cl ao (qi most)) []= .ok (.bool (jE l most)) h':=by
  rw[sF,Ti];have hn:fK []= .ok (.mp 0) ([]++[[.tup []]]):=rfl;simp only[S73];rw[aP hn];simp only[wK,ai];exact e
 show aI _ hp=R.ok (.bool (jE l most)) hp;unfold aI;rw[key];rfl
def t76(l:List Exp)(hb:l.length<=140737488355328)(ht:∀e∈l,e.Lim)(n:Int):callW pg 76 [bY l,qi n]=af (.bool (l.all Lj&&((l.length:Int)== n))):=by
 have hloop:∀(m i:Nat),l.length-i=m->i<=l.length->ae (L76_0 (callW pg) ae) [bY l,qi n,bY l,qi l.length,qi i]=af (.bool ((l.drop i).all Lj&&((l.length:Int)== n))):=by
  intro m
  induction m with
  |zero=>
   intro i hm hi;rw[FL76_0];have h1:¬((i:Int)<(l.length:Int)):=WD
   have h2:l.drop i=[]:=List.drop_eq_nil_of_le WD;simp[L76_0,h1,h2]
  |succ m ih=>
   intro i hm hi;have hlt:i<l.length:=WD
   have h1:(i:Int)<(l.length:Int):=WD
   have h2:l.drop i=l[i]:: l.drop (i+1):=List.drop_eq_getElem_cons hlt;have hw:IntKind.i64.wrap ((i:Int)+1)=((i+1:Nat):Int):=bz WD;have hix:=oA (l:=l) (n:=(i:Int)) WD h1;rw[aaP,aaG l i hlt]at hix;have hr:=t75 l[i] (ht _ (List.getElem_mem hlt));have ih':=ih (i+1) WD WD;rw[h2,abf,FL76_0];generalize l[i]=e at hix hr |-;cases hb2:Lj e<;>rw[hb2]at hr <;>
   simp only[L76_0,ax,aF,bc,ai,h1,abj,am,aaV,hix,bK,LD31,aaX,aaW,aa7,Nat.reduceAdd,aaI,abD,abu,pP,Co,ar,hr,eQ,abR,acJ,aaK,aaR,gb,hw,ih',ach,ac9]
 have h:=hloop l.length 0 rfl (aa1 _);rw[aaZ]at h;have h':ae (L76_0 (callW pg) ae) [bY l,qi n,bY l,qi l.length,qi 0]=af (.bool (l.all Lj&&((l.length:Int)== n))):=h;rw[C76];simp[S76,h']
def Po(f:Fun):bn 12 f.av=af f.av:=AN
theorem P9(m:Ap.Mod)(hm:m.Lim)(q:Nat)(R:Bool)(hend:∀h:Hp,∃h',ae (L37_0 (callW pg) ae) [.ip (ab m.av),.mp q,dW m.funcs,qi m.funcs.length,qi m.funcs.length] h= .ok (.bool R) h'):∀(n i:Nat),m.funcs.length-i=n->i<=m.funcs.length->∀(seen:List az)(h:Hp),h[q]? = some [.tup (setRow seen)]->
  ∃h',ae (L37_0 (callW pg) ae) [.ip (ab m.av),.mp q,dW m.funcs,qi m.funcs.length,qi i] h= .ok (.bool (vF seen (m.funcs.drop i)&&R)) h':=by
 have hb:=hm.funcs;intro n
 induction n with
 |zero=>
  intro i hn hi seen h hq;have h2:m.funcs.drop i=[]:=List.drop_eq_nil_of_le WD;obtain rfl:i=m.funcs.length:=WD
  rw[h2];exact hend h
 | succ n ih=>
  intro i hn hi seen h hq;have hlt:i<m.funcs.length:=WD
  have h1:(i:Int)<(m.funcs.length:Int):=WD
  have h2:m.funcs.drop i=m.funcs[i]:: m.funcs.drop (i+1):=List.drop_eq_getElem_cons hlt;have hw:IntKind.i64.wrap ((i:Int)+1)=((i+1:Nat):Int):=bz WD;have hix:=vX (l:=m.funcs) (n:=(i:Int)) WD h1;rw[aaP,aaG m.funcs i hlt]at hix;have hfl:=hm.fns _ (List.getElem_mem hlt);have ih':=fun s=>ih (i+1) WD WD (seen++[s]) (h.set q [.tup (setRow (seen++[s]))]);have hql:q<h.length:=(aaJ.1 hq).1;rw[h2];generalize m.funcs[i]=f at hix hfl |-;have hlk:=yx hq f.name;have hnm:=t72 f.name;have hps:=t73 f.params hfl.params hfl.pty 6;have hty:=t74 f.result hfl.result;have hre:=t75 f.body hfl.body;have hex:dC T .andNot 3 (qi f.effects) (qi 15)=some (.int .i64 (gh f.effects 15)):=rfl;generalize hcode:ae (L37_0 (callW pg) ae) [.ip (ab m.av),.mp q,dW m.funcs,qi m.funcs.length,qi i] h=code;rw[FL37_0]at hcode;simp only[L37_0,ax,aF,bc,ai,h1,abj,am,aaV,hix,jS,LD51,aaX,aaW,aa7,Nat.reduceAdd,aaI,abD,abu,MW,Po,ar,FA51_0,aaZ,LD9]at hcode;rw[aP hlk]at hcode;have eo:vF seen (f:: m.funcs.drop (i+1))=(!(seen.contains f.name)&&KA f&&vF (seen++[f.name]) (m.funcs.drop (i+1))):=rfl;rw[eo];unfold KA;cases hc:seen.contains f.name with
  |true=>
   rw[hc]at hcode;refine⟨h,?_⟩;rw[<- hcode];simp[af]
  | false=>
   rw[hc]at hcode;cases hn2:dY f.name with
   |false=>rw[hn2]at hnm;refine⟨h,?_⟩;rw[<- hcode];simp[hnm,af]
   | true=>
    rw[hn2]at hnm;cases hp2:jE f.params 6 with
    |false=>rw[hp2]at hps;refine⟨h,?_⟩;rw[<- hcode];simp[hnm,hps,af]
    | true=>
     rw[hp2]at hps;cases hr:bZ f.result with
     |false=>rw[hr]at hty;refine⟨h,?_⟩;simp_all[af]
     | true=>
      rw[hr]at hty;cases hrb:Lj f.body with
      |false=>rw[hrb]at hre;refine⟨h,?_⟩;simp_all[af]
      | true=>
       rw[hrb]at hre;by_cases he:gh f.effects 15=0
       ·obtain⟨h',e'⟩:=ih' f.name qr;refine⟨h',?_⟩;have hp:=Da hq f.name hc;rw[<- hcode];have e'':=e';simp only[bN]at e'';simp[hnm,hps,hty,hre,hex,he]
        grind [aP]
       ·refine⟨h,?_⟩;rw[<- hcode];simp_all[gh,af]
def Xn(m:Ap.Mod)(hm:m.Lim)(q:Nat)(h:Hp):∃h',ae (L37_0 (callW pg) ae) [.ip (ab m.av),.mp q,dW m.funcs,qi m.funcs.length,qi m.funcs.length] h= .ok (.bool (BD m)) h':=by
 have hnm:=t72 m.name;have hv:=t73 m.vars hm.vars hm.vty 8;have hi:=t76 m.init hm.init hm.ies m.vars.length;have ho:=t73 m.old hm.old hm.oty 8;have hf:=fun n=>t76 m.forward hm.forward hm.fes n;have hb:=t76 m.back hm.back hm.bes m.old.length;refine⟨h,?_⟩;rw[FL37_0];unfold BD;generalize jE m.vars 8=b1 at hv |-;generalize (m.init.all Lj&&((m.init.length:Int)== (m.vars.length:Int)))=b2 at hi |-;generalize jE m.old 8=b3 at ho |-;generalize (m.back.all Lj&&((m.back.length:Int)== (m.old.length:Int)))=b4 at hb |-;cases hn:dY m.name with
 |false=>simp_all[L37_0,af]
 | true =>
  rw[hn]at hnm;by_cases hu:m.uses.length<=12
  ·have hu':¬(12<(m.uses.length:Int)):=WD
   by_cases hfn:m.funcs.length<=30
   ·have hfn':¬(30<(m.funcs.length:Int)):=WD
    cases b1 with
    |false=>simp_all[L37_0,af]
    | true=>
     cases b2 with
     |false=>simp_all[L37_0,af]
     | true=>
      cases hmv:m.moves with
      |true=>
       have hfv:=hf m.vars.length;rw[aaH rfl];simp_all[L37_0,K37_0,af]
      | false=>
       have hfv:=hf 0;rw[aaC Vc];generalize (m.forward.all Lj&&((m.forward.length:Int)== 0))=b5 at hfv |-;by_cases hz:0<m.old.length
       ·have hz':0<(m.old.length:Int):=WD
        have hz2:¬m.old.length=0:=WD
        simp_all[L37_0,af]
       simp_all[af,L37_0,K37_0]
   ·have hfn':30<(m.funcs.length:Int):=WD
    simp[L37_0,hnm,hu,hu',hfn,hfn',af]
  ·have hu':12<(m.uses.length:Int):=WD
   simp[L37_0,hnm,hu,hu',af]
theorem Qa(m:Ap.Mod)(hm:m.Lim)(q:Nat)(R:Bool)(hend:∀h:Hp,∃h',ae (L37_1 (callW pg) ae) [.ip (ab m.av),.mp q,strs m.uses,qi m.uses.length,qi m.uses.length] h= .ok (.bool R) h'):∀(n i:Nat),m.uses.length-i=n->i<=m.uses.length->∀(seen:List az)(h:Hp),h[q]? = some [.tup (setRow seen)]->
  ∃h',ae (L37_1 (callW pg) ae) [.ip (ab m.av),.mp q,strs m.uses,qi m.uses.length,qi i] h= .ok (.bool (NI seen (m.uses.drop i)&&R)) h':=by
 have hb:=hm.uses;intro n
 induction n with
 |zero=>
  intro i hn hi seen h hq;have h2:m.uses.drop i=[]:=List.drop_eq_nil_of_le WD;obtain rfl:i=m.uses.length:=WD
  rw[h2];exact hend h
 | succ n ih=>
  intro i hn hi seen h hq;have hlt:i<m.uses.length:=WD
  have h1:(i:Int)<(m.uses.length:Int):=WD
  have h2:m.uses.drop i=m.uses[i]:: m.uses.drop (i+1):=List.drop_eq_getElem_cons hlt;have hw:IntKind.i64.wrap ((i:Int)+1)=((i+1:Nat):Int):=bz WD;have hix:=wH (l:=m.uses) (n:=(i:Int)) WD h1;rw[aaP,aaG m.uses i hlt]at hix;have ih':=fun s=>ih (i+1) WD WD (seen++[s]) (h.set q [.tup (setRow (seen++[s]))]);have hql:q<h.length:=(aaJ.1 hq).1;rw[h2];generalize m.uses[i]=s at hix |-;have hlk:=yx hq s;have hnm:=t72 s;generalize hcode:ae (L37_1 (callW pg) ae) [.ip (ab m.av),.mp q,strs m.uses,qi m.uses.length,qi i] h=code;rw[FL37_1]at hcode;simp only[L37_1,ax,aF,bc,ai,h1,abj,am,aaV,hix,oD,LD9]at hcode;rw[aP hlk]at hcode;have eo:NI seen (s:: m.uses.drop (i+1))=(!(seen.contains s)&&dY s&&NI (seen++[s]) (m.uses.drop (i+1))):=rfl;rw[eo];cases hc:seen.contains s with
  |true=>
   rw[hc]at hcode;refine⟨h,?_⟩;rw[<- hcode];simp[af]
  | false=>
   rw[hc]at hcode;cases hn2:dY s with
   |false=>rw[hn2]at hnm;refine⟨h,?_⟩;rw[<- hcode];simp[hnm,af]
   |true=>
    rw[hn2]at hnm;obtain⟨h',e'⟩:=ih' s qr;refine⟨h',?_⟩;have hp:=Da hq s hc;rw[<- hcode];have e'':=e';simp only[bN]at e'';simp[hnm]
    grind [aP]
theorem t37(m:Ap.Mod)(hm:m.Lim):callW pg 37 [m.av]=af (.bool (mA m)):=by
 have hend:∀h:Hp,∃h',ae (L37_1 (callW pg) ae) [.ip (ab m.av),.mp 0,strs m.uses,qi m.uses.length,qi m.uses.length] h= .ok (.bool (vF [] m.funcs&&BD m)) h':=fun h=>by
  have h1:¬((m.uses.length:Int)<(m.uses.length:Int)):=WD
  obtain⟨h',e⟩:=P9 m hm h.length (BD m) (fun h=>Xn m hm _ h) m.funcs.length 0 rfl (aa1 _) [] (h++[[.tup []]]) (by simp[setRow]);rw[aaZ]at e;refine⟨h',?_⟩;rw[FL37_1];have hn:fK h= .ok (.mp h.length) (h++[[.tup []]]):=rfl;simp only[bN]at e;simp only[L37_1,ax,aF,bc,ai,h1,abO,am,aaK,aaR];rw[aP hn];simp_all
 obtain⟨h',e⟩:=Qa m hm 0 _ hend m.uses.length 0 rfl (aa1 _) [] ([]++[[.tup []]]) rfl;rw[aaZ]at e;rw[C37];funext hp;have key:S37 (callW pg) ae (cl ao m.av) []= .ok (.bool (mA m)) h':=by
  have hn:fK []= .ok (.mp 0) ([]++[[.tup []]]):=rfl;simp only[bN]at e;rw[Ck];simp only[S37];rw[aP hn];simp only[bN,FA43_1,aa5,aaZ,ai,LD28,wJ];exact e
 show aI _ hp=R.ok (.bool (mA m)) hp;unfold aI;rw[key];rfl
def ZZ{m:Ap.Mod}(hm:m.Lim)(K:ModOk m):MvOk m:=⟨hm,K.vlen,K.vars,K.ilen,K.init,K.olen,K.old,K.wlen,K.forw,K.blen,K.back⟩
def Zz{m:Ap.Mod}(K:ModOk m)(hfs:∀f∈fs,f.Lim)(ha:∀f∈fs,kW f=true):CxOk m fs where
 vlen:=by have:=K.vlen;omega
 vars:=K.vars
 flen:=by have:=K.flen;omega
 ulen:=by have:=K.ulen;omega
 plen:=fun f hf=>by have:=(K.fns f hf).plen;omega
 pars:=fun f hf=>(K.fns f hf).pars
 res:=fun f hf=>(K.fns f hf).res
 slen:=fun f hf=>(hfs f hf).len
 splen:=fun f hf s hs=>((hfs f hf).sigs s hs).plen
 spars:=fun f hf s hs t ht=>by
  have:=ha f hf
  unfold kW at this
  grind
 sres:=fun f hf s hs=>by
  have:=ha f hf
  simp_all[kW]
theorem Pi{m:Ap.Mod}(hm:m.Lim)(MK:ModOk m)(K:CxOk m fs){mp:AV}:∀(k i:Nat)(n:Int)(h:Hp),m.funcs.length-i=k->i<=m.funcs.length->JR h q m mp fs n->
  ∃h',ae (L24_0 (callW pg) ae) [.hp q 0,dW m.funcs,qi m.funcs.length,qi i] h= .ok (sn (cL ((LA m fs).drop i))) h':=by
 intro k;have hfl:=MK.flen
 induction k with
 |zero=>
  intro i n h hk hi R;have h1:¬((i:Int)<(m.funcs.length:Int)):=WD
  have h2:(LA m fs).drop i=[]:=List.drop_eq_nil_of_le (by simp[LA];omega);refine⟨h,?_⟩;rw[FL24_0,h2];simp[L24_0,h1];rfl
 | succ k ih=>
  intro i n h hk hi R;have hlt:i<m.funcs.length:=WD
  have h1:(i:Int)<(m.funcs.length:Int):=WD
  have h2:(LA m fs).drop i=(m.funcs[i].name,LC (gd m fs) m.funcs[i]):: (LA m fs).drop (i+1):=by
   rw[List.drop_eq_getElem_cons (by simp[LA];exact hlt)];simp[LA]
  have hw:IntKind.i64.wrap ((i:Int)+1)=(i:Int)+1:=bz WD;have hix:=vX (l:=m.funcs) (n:=(i:Int)) WD h1;rw[aaP,aaG m.funcs i hlt]at hix;have hf:=MK.fns _ (List.getElem_mem hlt);have hfl2:=hm.fns _ (List.getElem_mem hlt);rw[h2,cL];generalize m.funcs[i]=f at hix hf hfl2 |-;have R1:=R.set 0;obtain⟨p1,p2⟩:=Z7 K 12 f.params f.body 0 _ hf.body hfl2.body (fun z hz=>iY (hf.pars z hz)) (by have:=hf.plen;omega) R1;have s1:∀g:AV->M AV,ah (cp T 3 (.hp q 10) (qi 0)) g h=g (.tup []) (h.set q (bp m mp 0)):=fun g=>aP (R.put 0) g;rw[FL24_0];have hne:=kB (gd m fs) 12 f.params f.body 0;cases ht:bk (gd m fs) 12 f.params f.body 0 with
  |er b n'=>
   rw[ht]at p1;have hb0:=hne b n' ht;have hb:(b != 0)=true:=acy.2 hb0;have k1:∀g:AV->M AV,ah (callW pg 39 [.hp q 0,aB f.params,f.body.av]) g (h.set q (bp m mp 0))=g (.tup [ty0.av,qi b]) ((h.set q (bp m mp 0)).set q (bp m mp n')):=fun g=>aP p1 g;have hx:LC (gd m fs) f=b:=by unfold LC;rw[ht]
   rw[hx];dsimp only;rw[aaC hb0];refine⟨(h.set q (bp m mp 0)).set q (bp m mp n'),?_⟩;simp[L24_0,h1,hix,s1,k1,hb];rfl
  | ok t n'=>
   rw[ht]at p1;have k1:∀g:AV->M AV,ah (callW pg 39 [.hp q 0,aB f.params,f.body.av]) g (h.set q (bp m mp 0))=g (.tup [t.av,qi 0]) ((h.set q (bp m mp 0)).set q (bp m mp n')):=fun g=>aP p1 g;have R2:=R1.set n';have l1:∀g:AV->M AV,ah (bC T 3 (.hp q 10)) g ((h.set q (bp m mp 0)).set q (bp m mp n'))=g (qi n') ((h.set q (bp m mp 0)).set q (bp m mp n')):=fun g=>aP R2.eff g;rw[aaq]at l1;have hbl:=oF (p2 t n' ht) hf.res;have hex:dC T .andNot 3 (qi n') (qi f.effects)=some (.int .i64 (gh n' f.effects)):=rfl;by_cases hb:cg t f.result=true
   case neg=>
    rw[acn]at hb;rw[hb]at hbl;have hx:LC (gd m fs) f=13:=by unfold LC;rw[ht];simp[hb]
    rw[hx];dsimp only;rw[aaC Vc];refine⟨(h.set q (bp m mp 0)).set q (bp m mp n'),?_⟩;simp[L24_0,h1,hix,s1,k1,hbl];rfl
   case pos=>
    rw[hb]at hbl;by_cases he:gh n' f.effects=0
    ·have hx:LC (gd m fs) f=0:=by unfold LC;rw[ht];simp[hb,he]
     rw[hx];dsimp only;rw[aaH rfl];obtain⟨h',e'⟩:=ih (i+1) n' _ WD WD R2;have e'':ae (L24_0 (callW pg) ae) [.hp q 0,dW m.funcs,qi m.funcs.length,qi ((i:Int)+1)] ((h.set q (bp m mp 0)).set q (bp m mp n'))=_:=e';simp_all[L24_0]
    ·have hx:LC (gd m fs) f=14:=by unfold LC;rw[ht];simp[hb,he]
     rw[hx];dsimp only;rw[aaC Vc];have he':(gh n' f.effects != 0)=true:=acy.2 he;refine⟨(h.set q (bp m mp 0)).set q (bp m mp n'),?_⟩;simp[L24_0,h1,hix,s1,k1,hbl,l1,hex,he',-GV];rfl
def Pj{m:Ap.Mod}(hm:m.Lim)(MK:ModOk m)(K:CxOk m fs){mp:AV}(R:JR h q m mp fs 0):∀(k i:Nat),m.uses.length-i=k->i<=m.uses.length->
  ∃h',ae (L24_1 (callW pg) ae) [.ip (ab m.av),.hp q 0,strs m.uses,qi m.uses.length,qi i] h= .ok (sn (cL ((rj m fs).drop i++nB m:: LA m fs))) h':=by
 intro k;have hul:=MK.ulen
 induction k with
 | zero=>
  intro i hk hi;have h1:¬((i:Int)<(m.uses.length:Int)):=WD
  have h2:(rj m fs).drop i=[]:=List.drop_eq_nil_of_le (by simp[rj];omega);have hmv:=q38 (ZZ hm MK);rw[h2,aaU,cL,FL24_1];unfold sn at hmv;by_cases hb:(nB m).2=0
  ·rw[aaH hb];obtain⟨h',e'⟩:=Pi hm MK K m.funcs.length 0 0 h rfl (aa1 _) R;have e'':ae (L24_0 (callW pg) ae) [.hp q 0,dW m.funcs,qi m.funcs.length,qi 0] h= .ok (sn (cL (LA m fs))) h':=e';rw[hb]at hmv;refine⟨h',?_⟩;simp[L24_1,h1,hmv,e'']
  ·rw[aaC hb];have hb':((nB m).2 != 0)=true:=acy.2 hb;refine⟨h,?_⟩;simp[L24_1,h1,hmv,hb'];rfl
 | succ k ih=>
  intro i hk hi;have hlt:i<m.uses.length:=WD
  have h1:(i:Int)<(m.uses.length:Int):=WD
  have h2:(rj m fs).drop i=(m.uses[i],if(fs.find? fun f=>f.module== m.uses[i]).isNone||m.uses[i]== m.name then 12 else 0):: (rj m fs).drop (i+1):=by
   rw[List.drop_eq_getElem_cons (by simp[rj];exact hlt)];simp[rj]
  have hw:IntKind.i64.wrap ((i:Int)+1)=(i:Int)+1:=bz WD;have hix:=wH (l:=m.uses) (n:=(i:Int)) WD h1;rw[aaP,aaG m.uses i hlt]at hix;obtain⟨h',e'⟩:=ih (i+1) WD WD;have e'':ae (L24_1 (callW pg) ae) [.ip (ab m.av),.hp q 0,strs m.uses,qi m.uses.length,qi ((i:Int)+1)] h=_:=e';rw[h2,aa2,cL,FL24_1];generalize m.uses[i]=u at hix |-;have l1:∀g:AV->M AV,ah (bC T 111 (.hp q 9)) g h=g mp h:=fun g=>aP R.mp g;have l2:∀g:AV->M AV,ah (eL T 111 mp (.str u) true) g h=g (.tup [((fs.find? fun f=>f.module== u).getD me).av,.bool (fs.find? fun f=>f.module== u).isSome]) h:=fun g=>aP (uv R.map u) g;simp only[bN]at e'';cases hf:fs.find? (fun f=>f.module== u)with
  |none=>
   rw[hf]at l2;refine⟨h,?_⟩;simp[L24_1,h1,hix,l1,l2,sH,sn];rfl
  | some f=>
   rw[hf]at l2;by_cases hu:u=m.name
   ·subst hu;refine⟨h,?_⟩;simp[L24_1,h1,hix,l1,l2,sH,sn];rfl
   simp_all[L24_1]
theorem q24(m:Ap.Mod)(hm:m.Lim)(fs:List Face)(hfs:∀f∈fs,f.Lim)(hlen:fs.length<=140737488355328):callW pg 24 [m.av,faces fs]=af (sn (xe m fs)):=by
 have fin:∀(h:Hp)(x:az×Int),jd 6 h (sn x)=sn x:=fun h x=>by
  have hc:Ap.Clean (sn x):=fun g=>by simp[sn,cl,ek]
  exact hc.frz 6 h
 have hR:=t37 m hm;have lm:aO T 43 (.ip (ab m.av))=some m.av:=rfl;obtain⟨n1,n2⟩:=q36 m fs hfs hlen [];rw[C24,Ck,Ml];unfold xe;cases ha:fs.all kW with
 |false=>
  obtain⟨h',e'⟩:=n2 ha;have k1:∀g:AV->M AV,ah (callW pg 36 [m.av,faces fs]) g []=g (.tup [.nilp,.bool false]) h':=fun g=>aP e' g;refine cE (v:=sn ([],1)) (h':=h') ?_ (fin _ _);simp only[bN]at lm;simp[S24,k1,lm];rfl
 | true=>
  have e1:=n1 ha;have k1:∀g:AV->M AV,ah (callW pg 36 [m.av,faces fs]) g []=g (.tup [.hp 1 0,.bool true]) ([]++[[.tup (dn (dp [] fs))],bp m (.mp 0) 0]):=fun g=>aP e1 g;cases hr:mA m with
  |false=>
   rw[hr]at hR;refine cE (v:=sn ([],1)) (h':=[]++[[.tup (dn (dp [] fs))],bp m (.mp 0) 0]) ?_ (fin _ _);simp only[bN]at lm;simp[S24,k1,lm,hR];rfl
  | true=>
   rw[hr]at hR;have MK:=mo hr;have hdm:∀f∈dp [] fs,f∈fs:=fun f hf=>by
    rcases AH fs [] f hf with h|h
    all_goals grind
   have K:CxOk m (dp [] fs):=Zz MK (fun f hf=>hfs f (hdm f hf)) (fun f hf=>aaS.1 ha f (hdm f hf));have R:JR ([]++[[.tup (dn (dp [] fs))],bp m (.mp 0) 0]) 1 m (.mp 0) (dp [] fs) 0:=⟨rfl,.inr ⟨0,rfl,rfl⟩,AI⟩;obtain⟨h',e'⟩:=Pj hm MK K R m.uses.length 0 rfl (aa1 _);have e'':ae (L24_1 (callW pg) ae) [.ip (ab m.av),.hp 1 0,strs m.uses,qi m.uses.length,qi 0] ([]++[[.tup (dn (dp [] fs))],bp m (.mp 0) 0])= .ok (sn (cL (rj m (dp [] fs)++nB m:: LA m (dp [] fs)))) h':=e';simp only[bN]at lm e'';simp only[acC,aaV];refine cE (v:=sn (cL (rj m (dp [] fs)++nB m:: LA m (dp [] fs)))) (h':=h') ?_ (fin _ _);simp_all[S24]
def Yg(x:Sig):(ab x.av).length=5:=AI
def JS(h:Hp)(v:AV)(l:List Sig):Prop:=(l=[]/\v= .hn)\/(l≠[]/\∃q,v= .hs q 0 l.length 5 true/\h[q]? = some (rowOf Sig.av l))
theorem HZ:(l:List Sig)->(rowOf Sig.av l).all aG=true
 |[]=>rfl
 |f:: l=>by
  rw[mB,List.all_append,HZ l,abN,rq];rfl
def LR{v:AV}{l:List Sig}(A:JS h v l)(hl:l.length<=1000000)(s:Sig):∃v' h',appH T 86 false v (sigs [s]) h= .ok v' h'/\JS h' v' (l++[s])/\dH v'=af v':=by
 rcases A with⟨rfl,rfl⟩|⟨hne,q,rfl,hq⟩
 ·have e2:=Q5 (T:=T) (t:=86) (e:=121) rfl rfl rfl (x:=s.av) (yI s) Vc Vc Vc h;refine⟨_,_,e2,.inr ⟨AI,h.length,rfl,?_⟩,rfl⟩;simp[rowOf]
 ·have hln:=jh (f:=Sig.av) Yg l;have e2:=L5 (T:=T) (t:=86) (e:=121) rfl rfl rfl (x:=s.av) (yI s) Vc Vc hq (HZ l) hln (ab1.2 hne) (show (l.length+1)*80<=140737488355328 by omega);refine⟨_,_,e2,.inr ⟨AI,h.length,qr,?_⟩,rfl⟩;simp[rowOf]
theorem Qp(V:List AV->M AV)(m:Ap.Mod)(f:Fun)(hf:FunOk f)(i:Nat)(hv x3 x4:AV)(h:Hp):∀(k j:Nat)(acc:List Ty),f.params.length-j=k->j<=f.params.length->acc.length<=j->
  ae (L25_0 (callW pg) ae V) [dW m.funcs,qi m.funcs.length,qi i,aB f.params,qi f.params.length,qi j,x3,x4,.str m.name,hv,.str f.name,kE acc,qi f.result.kind,aB f.result.fields,qi f.effects] h=ah (appH T 86 false hv (sigs [⟨f.name,acc++(f.params.drop j).map (·.2),f.result,f.effects⟩])) (fun v=>ah (dH v) fun _=>V [dW m.funcs,qi m.funcs.length,qi (IntKind.i64.wrap ((i:Int)+1)),x3,x4,.str m.name,v]) h:=by
 have hpl:=hf.plen;intro k
 induction k with
 |zero=>
  intro j acc hk hj ha;have h1:¬((j:Int)<(f.params.length:Int)):=WD
  have h2:f.params.drop j=[]:=List.drop_eq_nil_of_le WD;have b1:ay T 86 1 [(0,.agg [.str f.name,kE acc,qi f.result.kind,aB f.result.fields,qi f.effects])]=some (sigs [⟨f.name,acc,f.result,f.effects⟩]):=rfl;rw[FL25_0,h2];simp only[L25_0,ax,aF,bc,ai,h1,abO,am,aaK,aaR,b1,gb,acq,abr]
 |succ k ih=>
  intro j acc hk hj ha;have hlt:j<f.params.length:=WD
  have h1:(j:Int)<(f.params.length:Int):=WD
  have h2:f.params.drop j=f.params[j]:: f.params.drop (j+1):=List.drop_eq_getElem_cons hlt;have hw:IntKind.i64.wrap ((j:Int)+1)=(j:Int)+1:=bz WD;have hix:=rn (l:=f.params) (n:=(j:Int)) WD h1;rw[aaP,aaG f.params j hlt]at hix;have hcl:=t41 f.params[j].2 (hf.pars _ (List.getElem_mem hlt));have ih':=ih (j+1) (acc++[f.params[j].2]) WD WD Bk;have hap:=LF (a:=acc) (b:=[f.params[j].2]) Bk;rw[h2,aa0];generalize f.params[j]=z at hix hcl hap ih' |-;have hsl:ay T 119 1 [(0,z.2.av)]=some (kE [z.2]):=by cases z.2;rfl
  have hc1:∀l:List Ty,dH (kE l)=af (kE l):=fun l=>rfl;rw[show acc++z.2:: (f.params.drop (j+1)).map (·.2)=acc++[z.2]++(f.params.drop (j+1)).map (·.2) by simp,<- ih'];generalize hcode:ae (L25_0 (callW pg) ae V) [dW m.funcs,qi m.funcs.length,qi i,aB f.params,qi f.params.length,qi j,x3,x4,.str m.name,hv,.str f.name,kE acc,qi f.result.kind,aB f.result.fields,qi f.effects] h=code;rw[FL25_0]at hcode;simp only[L25_0,ax,aF,bc,ai,h1,abj,am,aaV,hix,jR,LD96,aaX,aaW,aa7,Nat.reduceAdd,aaI,abD,abu,xL,wY,ar,FA96_1,aa5,aaZ,LD49,iL,hcl,eN,hsl,hap,hc1,gb,hw]at hcode
  grind
theorem Qq(m:Ap.Mod)(MK:ModOk m):∀(k i:Nat)(hv x3 x4:AV)(h:Hp),m.funcs.length-i=k->i<=m.funcs.length->JS h hv (jL (m.funcs.take i))->
  ∃hv' h',JS h' hv' (jL m.funcs)/\ae (L25_1 (callW pg) ae) [dW m.funcs,qi m.funcs.length,qi i,x3,x4,.str m.name,hv] h=ah (callW pg 42 [hv',.fn (.func 43) [] []]) (fun _=>ah (aC 2 [] (.agg [.str m.name,hv'])) fun v=>af (.agg [aa (ab v) 0,aa (ab v) 1])) h':=by
 have hfl:=MK.flen;intro k
 induction k with
 |zero=>
  intro i hv x3 x4 h hk hi A;have h1:¬((i:Int)<(m.funcs.length:Int)):=WD
  have h2:m.funcs.take i=m.funcs:=abW WD;rw[h2]at A;refine⟨hv,h,A,?_⟩;rw[FL25_1];simp only[L25_1,ax,aF,bc,ai,h1,abO,am,aaK,aaR]
 | succ k ih=>
  intro i hv x3 x4 h hk hi A;have hlt:i<m.funcs.length:=WD
  have h1:(i:Int)<(m.funcs.length:Int):=WD
  have hw:IntKind.i64.wrap ((i:Int)+1)=((i+1:Nat):Int):=bz WD;have hix:=vX (l:=m.funcs) (n:=(i:Int)) WD h1;rw[aaP,aaG m.funcs i hlt]at hix;have hf:=MK.fns _ (List.getElem_mem hlt);have ht:m.funcs.take (i+1)=m.funcs.take i++[m.funcs[i]]:=ac2 hlt;have ih0:=ih (i+1);rw[ht]at ih0;have cf:∀f:Fun,bn 12 f.av=af f.av:=fun f=>AN
  rw[FL25_1];generalize m.funcs[i]=f at hix hf ih0 |-;cases hp:f.pub with
  |false=>
   have e:jL (m.funcs.take i++[f])=jL (m.funcs.take i):=by simp[jL,hp]
   rw[e]at ih0;obtain⟨hv',h',A',e'⟩:=ih0 hv x3 x4 h WD WD A;refine⟨hv',h',A',?_⟩;rw[<- e'];simp[L25_1,h1,hix,cf,hw];simp[hp]
  | true=>
   have e:jL (m.funcs.take i++[f])=jL (m.funcs.take i)++[Gi f]:=by simp[jL,hp]
   rw[e]at ih0;have hlen:(jL (m.funcs.take i)).length<=1000000:=by
    have:(jL (m.funcs.take i)).length<=(m.funcs.take i).length:=by
     unfold jL;rw[abA];exact ac4 _ _
    rw[aci]at this;omega
   obtain⟨v1,h1',e1,A1,c1⟩:=LR A hlen (Gi f);obtain⟨hv',h',A',e'⟩:=ih0 v1 x3 x4 h1' WD WD A1;refine⟨hv',h',A',?_⟩;rw[<- e'];have hin:=Qp (ae (L25_1 (callW pg) ae)) m f hf i hv x3 x4 h f.params.length 0 [] rfl (aa1 _) (aa1 _);rw[hw]at hin;have hin2:ae (L25_0 (callW pg) ae (ae (L25_1 (callW pg) ae))) [dW m.funcs,qi m.funcs.length,qi i,aB f.params,qi f.params.length,qi 0,x3,x4,.str m.name,hv,.str f.name,.sl [],qi f.result.kind,aB f.result.fields,qi f.effects] h=ae (L25_1 (callW pg) ae) [dW m.funcs,qi m.funcs.length,qi ((i+1:Nat):Int),x3,x4,.str m.name,v1] h1':=by
    refine hin.trans ?_;show ah (appH T 86 false hv (sigs [Gi f])) _ h=_;rw[aP e1,c1,ar]
   have hcl:=t41 f.result hf.res;have bs1:∀(k:Int)(x:List bQ)(e:Int),bS T true 121 [(0,.str f.name),(2,(Ty.mk k x).av),(3,qi e)]=some (.agg [.str f.name,.hn,qi k,aB x,qi e]):=fun k x e=>rfl;have bs2:bS T true 121 [(0,.str f.name),(2,f.result.av),(3,qi f.effects)]=some (.agg [.str f.name,.hn,qi f.result.kind,aB f.result.fields,qi f.effects]):=by
    have:=bs1 f.result.kind f.result.fields f.effects
    rwa [Ty.eta]at this
   have bs3:aC 5 [1] (.agg [.str f.name,.hn,qi f.result.kind,aB f.result.fields,qi f.effects])=af (.agg [.str f.name,.hn,qi f.result.kind,aB f.result.fields,qi f.effects]):=rfl;rw[<- hin2];simp[L25_1,h1,hix,cf,hcl,bs2,bs3];simp[hp]
theorem AD(l:List Sig)(i:Nat)(hi:i<l.length):fY 5 (rowOf Sig.av l) i=ab l[i].av:=kO Yg l i hi
def Ij(l:List Sig):rowOf Sig.av l=(l.map fun s=>ab s.av).flatten:=by
 unfold rowOf;rw[List.flatMap_def,acf];rfl
theorem qH(l:List Sig):(kQ l).length=l.length:=(pc l).length_eq
theorem JV{hv:AV}{l:List Sig}(A:JS h hv l)(hl:l.length<=1000):∃h',callW pg 42 [hv,.fn (.func 43) [] []] h= .ok (.tup []) h'/\JS h' hv (kQ l):=by
 have e0:callW pg 42 [hv,.fn (.func 43) [] []]=ka 5 43 (callW pg) [hv,.fn (.func 43) [] []]:=dc hOther rfl _;rw[e0];rcases A with⟨rfl,rfl⟩|⟨hne,q,rfl,hq⟩
 ·exact⟨h,rfl,.inl ⟨aaO (qH []),rfl⟩⟩
 ·have hln:=jh (f:=Sig.av) Yg l;have hpos:0<l.length:=ab1.2 hne;have hrow:((rowOf Sig.av l).drop 0).take (l.length*5)=rowOf Sig.av l:=by rw[aaZ,<- hln];exact acp
  have hkeys:keysOf 5 l.length (rowOf Sig.av l)=some (l.map (·.name)):=by
   unfold keysOf;have e:(List.range l.length).map (fun i=>fY 5 (rowOf Sig.av l) i)=l.map fun s=>ab s.av:=by
    apply aco
    ·simp
    ·grind [AD]
   rw[e]
   have:=Fc (nm:=fun c=>match c with|.str s:: _=>s|_=>[]) (cs:=l.map fun s=>ab s.av) (fun c hc=>by
    obtain⟨s,_,rfl⟩:=abe.1 hc;rfl)
   rw[this,acf];rfl
  have hpl:(jN (l.map (·.name))).length=l.length:=by
   have:=(FO (l.map (·.name))).1.length_eq
   simpa using this
  have hflat:((jN (l.map (·.name))).map fun i=>fY 5 (rowOf Sig.av l) (i % l.length)).flatten=rowOf Sig.av (kQ l):=by
   rw[Ij (kQ l)];unfold kQ;rw[acf];congr 1;apply ab2;intro i _;have hm:=adu i hpos;simp only[Function.comp];rw[AD l _ hm,aaG l _ hm]
  have hlen2:(rowOf Sig.av (kQ l)).length=(rowOf Sig.av l).length:=by rw[jh (f:=Sig.av) Yg,qH,hln]
  have hset:setCells (rowOf Sig.av l) 0 (rowOf Sig.av (kQ l))=rowOf Sig.av (kQ l):=by
   unfold setCells;rw[abu,aaU,aa7,hlen2,List.drop_length,abr]
  have hok:=HZ l;refine⟨h.set q (rowOf Sig.av (kQ l)),?_,.inr ⟨fun e=>hne (by grind [qH]),q,by rw[qH],abk (aaJ.1 hq).1⟩⟩;unfold ka;simp only[hq,hrow,hkeys,hflat,hset];have hb:Nat.beq 43 43=true:=rfl;have hb5:Nat.beq 5 5=true:=rfl
  grind
theorem q25(m:Ap.Mod)(hm:m.Lim):callW pg 25 [m.av]=af (rV m).av:=by
 have hR:=t37 m hm;have lm:aO T 43 (.ip (ab m.av))=some m.av:=rfl;simp only[bN]at lm;rw[C25,Ck];unfold rV;by_cases hr:mA m=true
 ·rw[hr]at hR;rw[aaH hr];have MK:=mo hr;obtain⟨hv,h',A,e'⟩:=Qq m MK m.funcs.length 0 .hn (.str []) (.sl []) [] rfl (aa1 _) (.inl ⟨rfl,rfl⟩);have hpl:(jL m.funcs).length<=1000:=by
   have:(jL m.funcs).length<=m.funcs.length:=by
    unfold jL;rw[abA];exact ac4 _ _
   have:=MK.flen
   omega
  obtain⟨h2,e2,A2⟩:=JV A hpl;have b1:bS T true 88 [(0,.str m.name)]=some (.agg [.str m.name,.hn]):=rfl;have b2:aC 2 [1] (.agg [.str m.name,.hn])=af (.agg [.str m.name,.hn]):=rfl;have b2':aC 2 [] (.agg [.str m.name,.hn])=af (.agg [.str m.name,.hn]):=rfl;have hcn:aC 2 [] (.agg [.str m.name,hv])=af (.agg [.str m.name,hv]):=by
   rcases A2 with⟨_,rfl⟩|⟨_,q,rfl,_⟩
   ·rfl
   ·exact bU rfl
  have hfz:jd 6 h2 (.agg [.str m.name,hv])=(Face.mk m.name (kQ (jL m.funcs))).av:=by
   rcases A2 with⟨e,rfl⟩|⟨_,q,rfl,hq⟩
   ·rw[e];rfl
   ·have hfr:=uk (f:=Sig.av) Yg (fun x=>AN) (fun x g=>Ha g x) Vc hq 5;have e:(Face.mk m.name (kQ (jL m.funcs))).av= .agg [.str m.name,.sl ((kQ (jL m.funcs)).map Sig.av)]:=rfl;rw[e,<- hfr];rfl
  refine cE (v:=.agg [.str m.name,hv]) (h':=h2) ?_ hfz;have e'':ae (L25_1 (callW pg) ae) [dW m.funcs,qi m.funcs.length,qi 0,.str [],.sl [],.str m.name,.hn] []= .ok (.agg [.str m.name,hv]) h2:=by
   refine e'.trans ?_;rw[aP e2,hcn];rfl
  simp[S25,lm,hR,b1,b2,b2',e'']
 ·rw[aaC hr];rw[acn]at hr;rw[hr]at hR;have b1:bS T false 88 []=some me.av:=rfl;have b2:aC 2 [] me.av=af me.av:=rfl;have hfz:jd 6 [] me.av=me.av:=rfl;simp_all[S25]
structure Accd (m:Ap.Mod) (fs:List Face):Prop where
 right:mA m=true
 faces:∀f∈fs,kW f=true
 uses:∀u∈m.uses,u≠m.name
 moves:(nB m).2=0
 fns:∀f∈m.funcs,∃t n,bk (gd m (dp [] fs)) 12 f.params f.body 0= .ok t n/\cg t f.result=true/\gh n f.effects=0
def PG{c:Tcx}{f:Fun}(h:LC c f=0):∃t n,bk c 12 f.params f.body 0= .ok t n/\cg t f.result=true/\gh n f.effects=0:=by
 unfold LC at h;cases hx:bk c 12 f.params f.body 0 with
 |er b n=>rw[hx]at h;exact absurd h (kB c 12 f.params f.body 0 b n hx)
 |ok t n=>
  grind
theorem G8{m:Ap.Mod}(h:(xe m fs).2=0):Accd m fs:=by
 unfold xe at h;split at h
 ·rename_i hr;rw[aaD,aaS]at hr;have H:=Cy h;refine⟨hr.2,hr.1,fun u hu e=>?_,H _ AI,fun f hf=>?_⟩
  ·have:=H _ (ab9 _ (List.mem_map_of_mem hu))
   grind
  ·exact PG (H _ (List.mem_append_right _ (abb _ (List.mem_map_of_mem hf))))
 ·cases h
structure Prog (p:List Mod):Prop where
 names:(p.map (·.name)).Nodup
 acc:∀i (h:i<p.length),Accd p[i] ((p.take i).map rV)
def Prog.find{p:List Mod}(P:Prog p){i:Nat}(h:i<p.length){s:az}(hs:p[i].name=s):p.find? (fun m=>m.name== s)=some p[i]:=by
 subst hs;exact mg (·.name) P.names (List.getElem_mem h)
theorem Prog.findR{p:List Mod}(P:Prog p){i:Nat}(h:i<p.length){r:aA}(hs:p[i].name=r.1):findR p r=p[i].funcs.find? fun f=>f.name== r.2:=by
 unfold Ap.findR;rw[P.find h hs]
def Prog.of_findR{p:List Mod}(P:Prog p){r:aA}{g:Fun}(h:Ap.findR p r=some g):∃i,∃(hi:i<p.length),p[i].name=r.1/\g∈p[i].funcs/\g.name=r.2:=by
 unfold Ap.findR at h;split at h
 ·rename_i m hm;obtain⟨i,hi,rfl⟩:=ab3 (abH hm)
  grind
 ·cases h
def Prog.same{p:List Mod}(P:Prog p){i j:Nat}(hi:i<p.length)(hj:j<p.length)(h:p[i].name=p[j].name):i=j:=by
 have H:=List.pairwise_iff_getElem.1 P.names
 grind
def K5{m:Ap.Mod}(h:mA m=true):rV m=⟨m.name,kQ (jL m.funcs)⟩:=by unfold rV;rw[aaH h]
def NQ{l:List Fun}(hn:(l.map (·.name)).Nodup){s:az}{g:Sig}(h:(kQ (jL l)).find? (fun x=>x.name== s)=some g):∃f,l.find? (fun f=>f.name== s)=some f/\f.pub=true/\g=Gi f:=by
 have hm:(jL l).map (·.name)=(l.filter (·.pub)).map (·.name):=by
  unfold jL;rw[acf];rfl
 have hn2:((jL l).map (·.name)).Nodup:=by
  rw[hm];exact (List.filter_sublist.map _).nodup hn
 rw[Kw (pc _) hn2]at h;have h1:=abH h;have h2:g.name=s:=by simpa using acE h
 unfold jL at h1;obtain⟨f,hf,rfl⟩:=abe.1 h1;obtain⟨hf1,hf2⟩:=ace.1 hf;have h3:f.name=s:=h2;subst h3;exact⟨f,mg (·.name) hn hf1,hf2,rfl⟩
def Prog.callee{p:List Mod}(P:Prog p){i:Nat}(hi:i<p.length){e:Exp}{s:List Ty×Ty×Int}(h:dm (gd p[i] (dp [] ((p.take i).map rV))) e=some s)(f:az):
  ∃j,∃(hj:j<p.length),∃g,j<=i/\p[j].name=(uJ (p[i].name,f) e).1/\p[j].funcs.find? (fun g=>g.name== e.s)=some g/\s=(g.params.map (·.2),g.result,g.effects)/\(e.m≠[]->g.pub=true/\j<i/\e.m∈p[i].uses):=by
 unfold dm at h;by_cases hm:e.m=[]
 ·rw[aaH hm]at h;split at h
  ·rename_i g hg;cases h;refine⟨i,hi,g,aaI _,?_,hg,rfl,fun h=>absurd hm h⟩;simp[uJ,hm]
  ·cases h
 ·rw [aaC hm]at h;have hd:(gd p[i] (dp [] ((p.take i).map rV))).faces e.m=((p.take i).map rV).find? fun f=>f.module== e.m:=by
   show (dp [] ((p.take i).map rV)).find? (fun f=>f.module== e.m)=_;rw[xt];rfl
  rw[hd]at h;split at h
  ·cases h
  ·rename_i F hF;have hF1:=abH hF;have hF2:F.module=e.m:=by simpa using acE hF
   obtain⟨m,hmm,rfl⟩:=abe.1 hF1;obtain⟨j,hj,e1⟩:=ab3 hmm;have hj':j<i:=by simp at hj;omega
   have hjp:j<p.length:=WD
   have e2:m=p[j]:=by rw[<- e1,List.getElem_take]
   subst e2;have hR:=(P.acc j hjp).right;rw[K5 hR]at h hF2;simp only at h hF2;split at h
   ·cases h
   ·rename_i g hg;split at h
    ·rename_i hu;cases h;obtain⟨f',h1,h2,rfl⟩:=NQ (mo hR).fnames hg;exact⟨j,hjp,f',WD,by simp[uJ,hm,hF2],h1,rfl,fun _=>⟨h2,hj',hu⟩⟩
    ·cases h
theorem xI{α:Type}(g:α->α){F:α->Bool}(h:∀x,F (g x)=F x):(l:List α)->(l.map g).find? F=(l.find? F).map g
 |[]=>rfl
 |x:: l=>by
  rw[aa0,abG,abG,h,xI g h l]
  grind
def Bz(p:List Mod)(r:aA):findR (bW p) r=(findR p r).map iG:=by
 unfold findR bW;rw[xI my (fun _=>rfl)];cases p.find? (fun m=>m.name== r.1)with
 |none=>rfl
 |some m=>exact xI iG (fun _=>rfl) m.funcs
def Ld(p:List Mod)(r:aA):jm (bW p) r=jm p r:=by
 unfold jm;rw[Bz];cases findR p r<;>rfl
def Prog.open_reach{p:List Mod}(P:Prog p){f r:aA}(h:r∈lD (bW p) f):r∈lD p f:=by
 have hf:(Ap.findR p f).isSome=true:=by
  have:=wS h
  rw[Bz,Option.isSome_map]at this;exact this
 refine J0 (p:=bW p) (A:=fun r=>r∈lD p f) (DZ hf) (fun y r hy hr=>?_) r h;refine wR hy ?_;obtain⟨e,he,hc,rfl⟩:=qx.1 hr;rw[Ld]at he;refine qx.2 ⟨e,he,?_,rfl⟩;unfold sE at hc |-;rw[aaD]at hc |-;refine⟨hc.1,?_⟩;have h15:e.op=15:=aa9.1 hc.1;obtain⟨g,hg⟩:=Option.isSome_iff_exists.1 (JZ hy);unfold jm at he;rw[hg,ab6]at he;obtain⟨i,hi,hn,hgm,_⟩:=P.of_findR hg;obtain⟨t,n,h1,_,_⟩:=(P.acc i hi).fns g hgm;obtain⟨s,hs,_⟩:=(nts _ 12 _ _ _ _ _ ((mo (P.acc i hi).right).fns g hgm).body h1 e he).2 h15;obtain⟨k,hk,g',_,hkn,hkf,_,hpub⟩:=P.callee hi hs y.2;have hy':(p[i].name,y.2)=y:=Prod.ext hn rfl;rw[hy']at hkn;rw[P.findR hk hkn];have hkf':p[k].funcs.find? (fun f=>f.name== (uJ y e).2)=some g':=hkf
 grind
end Go.Proofs.YtkkdcdofponfiaaGreat
