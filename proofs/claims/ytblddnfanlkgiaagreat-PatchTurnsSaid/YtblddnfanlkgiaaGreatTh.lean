/- What the functions of the seat compute, part 8: the texts of the claim, one behind the other. Conditions: bounds, as each theorem names them. -/
import Derived.Test.YtblddnfanlkgiaaGreatTg
set_option linter.defProp false
set_option linter.unusedSimpArgs false
set_option linter.unusedVariables false
namespace Go.Proofs.YtblddnfanlkgiaaGreat
open Go Go.Av Go.Av.Ap
set_option maxRecDepth 100000
theorem p9:aY T false 44 []=some ty0.av:=rfl
def iR{u t:Ty}(hu:dJ u)(ht:bX t=true):af pg 21 [u.av,t.av]=M.pure (.bool (cu u t)):=t21 4 t u (hu 4) (eN ht 4) ht
def Jq{q:Nat}{m:Ap.Mod}{mp:AV}{fs:List Face}{d:Nat}(P:kE q m mp fs d)(K:CxOk m fs)(ls:List bI)(hls:∀z∈ls,dJ z.2)(hll:ls.length+d<=1000000)(e:Exp)(hop:e.op=17\/e.op=18)(ha:e.op=18->∃x,e.args=[x]/\cU d x=true/\x.Lim)(n:Int)(h:Hp)(R:JR h q m mp fs n):
  af pg 68 [.hp q 0,aN ls,e.av] h=Hv q m mp h (cB (dL m fs) (bL (dL m fs) d) ls e n)/\∀t n',cB (dL m fs) (bL (dL m fs) d) ls e n= .ok t n'->dJ t:=by
 have l1:∀f:AV->M AV,ae (bY T 23 (.hp q 2)) f h=f (aN m.vars) h:=fun f=>aX R.vars f;have hk:=t66 m.vars (by have:=K.vlen;omega) e.s;rw[vW hop,C68];show S68 (af pg) aj (.hp q 0) (aN ls) e.av h=Hv q m mp h ((match bN (fun z=>z.1== e.s) m.vars with
  |none=>dU.er 12
  |some z=>if e.op=18 then dU.bind (bL (dL m fs) d ls e.args[0]!) fun u=>if cu u z.2=true then dU.ok z.2 else dU.er 13 else dU.ok z.2:dU Ty) n)/\∀t n',(match bN (fun z=>z.1== e.s) m.vars with
  |none=>dU.er 12
  |some z=>if e.op=18 then dU.bind (bL (dL m fs) d ls e.args[0]!) fun u=>if cu u z.2=true then dU.ok z.2 else dU.er 13 else dU.ok z.2:dU Ty) n= .ok t n'->dJ t
 cases hz:bN (fun z:bI=>z.1== e.s) m.vars with
 |none=>
  rw[hz]at hk;refine⟨?_,fun t n' h3=>by cases h3⟩;show _=Av.R.ok (AV.tup [ty0.av,.int .i64 12]) (h.set q (bg m mp n));rw[R.same];simp[S68,l1,hk,p9];rfl
 | some z=>
  rw[hz]at hk;dsimp only;have hzr:=K.vars z (gF hz).1;rcases hop with hop|hop
  ·rw[if_neg (show ¬e.op=18 by omega)];refine⟨?_,fun t n' h3=>by cases h3;exact eN hzr⟩;show _=Av.R.ok (AV.tup [z.2.av,.int .i64 0]) (h.set q (bg m mp n));rw[R.same];simp[S68,K68_0,l1,hk,hop];rfl
  ·rw[JV hop];obtain⟨x,hx,hr,hl⟩:=ha hop;have hx0:e.args[0]! = x:=by rw[hx];rfl
   obtain⟨p1,p2⟩:=P ls x n h hr hl hls hll R;have hix:ak T 24 (bp e.args) (.int .i64 0)=some (.ip (ab x.av)):=by
    have:=jx (l:=e.args) (n:=0) (by omega) (by rw[hx];simp)
    rw[this,hx];rfl
   rw[hx0];have hne:=ia (dL m fs) d ls x n;cases ht:bL (dL m fs) d ls x n with
   |er b n'=>
    rw[ht]at p1;have hb:(b != 0)=true:=Ll.2 (hne b n' ht);have k1:∀f:AV->M AV,ae (af pg 20 [.hp q 0,aN ls,x.av]) f h=f (.tup [ty0.av,.int .i64 b]) (h.set q (bg m mp n')):=fun f=>aX p1 f;have e1:dU.bind (bL (dL m fs) d ls x) (fun u=>if cu u z.2=true then dU.ok z.2 else dU.er 13) n= .er b n':=by simp only[dU.bind,ht]
    rw[e1];refine⟨?_,fun t n' h3=>by cases h3⟩;show _=Av.R.ok (AV.tup [ty0.av,.int .i64 b]) (h.set q (bg m mp n'));simp[S68,K68_0,l1,hk,hop,hix,k1,hb,p9];rfl
   | ok u n'=>
    rw[ht]at p1;have hus:=p2 u n' ht;have k1:∀f:AV->M AV,ae (af pg 20 [.hp q 0,aN ls,x.av]) f h=f (.tup [u.av,.int .i64 0]) (h.set q (bg m mp n')):=fun f=>aX p1 f;have hbl:=iR hus hzr;cases hb:cu u z.2 with
    |true=>
     rw[hb]at hbl;have e1:dU.bind (bL (dL m fs) d ls x) (fun u=>if cu u z.2=true then dU.ok z.2 else dU.er 13) n= .ok z.2 n':=by simp only[dU.bind,ht,hb,J0];rfl
     rw[e1];refine⟨?_,fun t n' h3=>by cases h3;exact eN hzr⟩;show _=Av.R.ok (AV.tup [z.2.av,.int .i64 0]) (h.set q (bg m mp n'));simp[S68,K68_0,l1,hk,hop,hix,k1,hbl];rfl
    |false=>
     rw[hb]at hbl;have e1:dU.bind (bL (dL m fs) d ls x) (fun u=>if cu u z.2=true then dU.ok z.2 else dU.er 13) n= .er 13 n':=by simp only[dU.bind,ht,hb,JL,JZ];rfl
     rw[e1];refine⟨?_,fun t n' h3=>by cases h3⟩;show _=Av.R.ok (AV.tup [ty0.av,.int .i64 13]) (h.set q (bg m mp n'));simp[S68,K68_0,l1,hk,hop,hix,k1,hbl,p9];rfl
theorem Cf{q:Nat}{m:Ap.Mod}{mp:AV}{fs:List Face}{n:Int}{h:Hp}(R:JR h q m mp fs n)(s:Sig)(l:List Ty)(hl:∀t∈l,dJ t)(hps:∀t∈s.params,bX t=true)(hlen:l.length=s.params.length)(hb:l.length<=1000000)(x y:AV):∀(k i:Nat),l.length-i=k->i<=l.length->
  aj (L69_0 (af pg) aj) [.hp q 0,.ip (ab s.av),gy l,.int .i64 l.length,.int .i64 i,x,y] h=(if bF cu (l.drop i) (s.params.drop i)=true then .ok (.tup [s.result.av,.int .i64 0]) (h.set q (bg m mp (pY n s.effects)))else .ok (.tup [ty0.av,.int .i64 13]) h):=by
 intro k
 induction k with
 |zero=>
  intro i hk hi;have h1:¬((i:Int)<(l.length:Int)):=by omega
  have h2:l.drop i=[]:=JQ (by omega);have h3:s.params.drop i=[]:=JQ (by omega);rw[h2,h3,JV (show bF cu [] []=true from rfl)];have l1:∀f:AV->M AV,ae (bY T 3 (.hp q 10)) f h=f (.int .i64 n) h:=fun f=>aX R.eff f;have l2:∀f:AV->M AV,ae (cC T 3 (.hp q 10) (.int .i64 (pY n s.effects))) f h=f (.tup []) (h.set q (bg m mp (pY n s.effects))):=fun f=>aX (R.put _) f;have hor:aw T .or 3 (.int .i64 n) (.int .i64 s.effects)=some (.int .i64 (pY n s.effects)):=rfl;rw[FL69_0];simp[L69_0,h1,l1,hor,l2];rfl
 | succ k ih=>
  intro i hk hi;have hlt:i<l.length:=by omega
  have hlt2:i<s.params.length:=by omega
  have h1:(i:Int)<(l.length:Int):=by omega
  have h2:l.drop i=l[i]:: l.drop (i+1):=JS hlt;have h3:s.params.drop i=s.params[i]:: s.params.drop (i+1):=JS hlt2;have hw:IntKind.i64.wrap ((i:Int)+1)=(i:Int)+1:=aS (by omega);have hix:=rn (l:=l) (n:=(i:Int)) (by omega) h1;rw[JW,J1 l i hlt]at hix;have hix2:=rn (l:=s.params) (n:=(i:Int)) (by omega) (by omega);rw[JW,J1 s.params i hlt2]at hix2;have hbl:=iR (hl _ (JP hlt)) (hps _ (JP hlt2));have ih':aj (L69_0 (af pg) aj) [.hp q 0,.ip (ab s.av),gy l,.int .i64 l.length,.int .i64 ((i:Int)+1),x,y] h=_:=ih (i+1) (by omega) (by omega);rw[h2,h3];generalize l[i]=u at hix hbl |-;generalize s.params[i]=t at hix2 hbl |-;have ea:bF cu (u:: l.drop (i+1)) (t:: s.params.drop (i+1))=(cu u t&&bF cu (l.drop (i+1)) (s.params.drop (i+1))):=rfl;rw[ea];generalize hcode:aj (L69_0 (af pg) aj) [.hp q 0,.ip (ab s.av),gy l,.int .i64 l.length,.int .i64 i,x,y] h=code;rw[FL69_0]at hcode;cases hb2:cu u t with
  |true=>
   rw[hb2]at hbl;rw[Lg,<- ih'];simp -implicitDefEqProofs only[L69_0,az,aB,aF,am,h1,Kf,ao,J0,hix,eQ,LD44,Ke,J8,Ko,Nat.reduceAdd,JO,KE,KM,ff,Av.iu,aG,gJ,FA90_1,Lk,KG,LD88,hix2,hbl,cd,cj,Kx,JL,JZ,aU,hw]at hcode;rw[<- hcode,gJ]
  |false=>
   rw[hb2]at hbl;rw[Ma,if_neg (by decide)];have hz:aH 2 [] ty0.av=M.pure ty0.av:=sW ty0;have ha:ab ty0.av=[.int .i64 0,.sl []]:=rfl;simp -implicitDefEqProofs only[L69_0,az,aB,aF,am,h1,Kf,ao,J0,hix,eQ,LD44,Ke,J8,Ko,Nat.reduceAdd,JO,KE,KM,ff,Av.iu,aG,gJ,FA90_1,Lk,KG,LD88,hix2,hbl,cd,cj,K6,p9,hz]at hcode;rw[<- hcode];rfl
def Jr{q:Nat}{m:Ap.Mod}{mp:AV}{fs:List Face}{d:Nat}(P:kE q m mp fs d)(K:CxOk m fs)(ls:List bI)(hls:∀z∈ls,dJ z.2)(hll:ls.length+d<=1000000)(e:Exp)(hop:e.op=15)(hlen:e.args.length<=1000000)(ha:∀x∈e.args,cU d x=true/\x.Lim)(n:Int)(h:Hp)(R:JR h q m mp fs n):
  af pg 69 [.hp q 0,aN ls,e.av] h=Hv q m mp h (cB (dL m fs) (bL (dL m fs) d) ls e n)/\∀t n',cB (dL m fs) (bL (dL m fs) d) ls e n= .ok t n'->dJ t:=by
 obtain⟨r,c1,c2⟩:=Js R K e;have k1:∀f:AV->M AV,ae (af pg 98 [.hp q 0,e.av]) f h=f r h:=fun f=>aX c1 f;rw[uf hop,C69]
 have hpar:∀s,db (dL m fs) e=some s->(∀t∈s.1,bX t=true)/\bX s.2.1=true:=by
  intro s hs;unfold db at hs;split at hs
  ·split at hs
   ·rename_i f hf;cases hs;have hm:=K3 hf;exact⟨fun t ht=>by obtain⟨z,hz,rfl⟩:=Kq.1 ht;exact K.pars f hm z hz,K.res f hm⟩
   ·cases hs
  ·split at hs
   ·cases hs
   ·rename_i f hf;split at hs
    ·cases hs
    ·rename_i s' hs';split at hs
     ·cases hs;have hm:=K3 (show fs.find? _=some f from hf);have hm2:=K3 hs';exact⟨K.spars f hm s' hm2,K.sres f hm s' hm2⟩
     ·cases hs
 cases hc:db (dL m fs) e with
 |none=>
  rw[hc]at c2;subst c2;refine⟨?_,fun t n' h3=>by cases h3⟩;show _=Av.R.ok (AV.tup [ty0.av,.int .i64 12]) (h.set q (bg m mp n));rw[R.same];have k2:∀f:AV->M AV,ae (af pg 98 [.hp q 0,e.av]) f h=f (.tup [yp.av,.bool false]) h:=k1;have z1:aO 5 yp.av=M.pure yp.av:=oA yp;simp[S69,k2,z1,p9];rfl
 | some s=>
  rw[hc]at c2;obtain⟨nm,rfl⟩:=c2;obtain⟨hp1,hp2⟩:=hpar s hc;obtain⟨ps,res,eff⟩:=s;have z1:aO 5 (Sig.mk nm ps res eff).av=M.pure (Sig.mk nm ps res eff).av:=oA _;dsimp only;by_cases hl:ps.length=e.args.length
  ·rw[JV hl];have hl':((ps.length:Int) != (e.args.length:Int))=false:=by simp[hl]
   obtain⟨g1,g2⟩:=Jc P ls hls hll e.args hlen ha n h R;cases ht:dR (bL (dL m fs) d ls) e.args n with
   |er b n'=>
    rw[ht]at g1;have hb:(b != 0)=true:=Ll.2 (lO (ia (dL m fs) d ls) _ n b n' ht);have k2:∀f:AV->M AV,ae (af pg 70 [.hp q 0,aN ls,bp e.args]) f h=f (.tup [.sl [],.int .i64 b]) (h.set q (bg m mp n')):=fun f=>aX g1 f;have e1:dU.bind (dR (bL (dL m fs) d ls) e.args) (fun l=>if bF cu l ps=true then fun n=>Tr.ok res (pY n eff)else dU.er 13) n= .er b n':=by simp only[dU.bind,ht]
    rw[e1];refine⟨?_,fun t n' h3=>by cases h3⟩;show _=Av.R.ok (AV.tup [ty0.av,.int .i64 b]) (h.set q (bg m mp n'));simp[S69,k1,z1,hl,k2,hb,p9];rfl
   | ok l n'=>
    rw[ht]at g1;obtain⟨g3,g4⟩:=g2 l n' ht;have k2:∀f:AV->M AV,ae (af pg 70 [.hp q 0,aN ls,bp e.args]) f h=f (.tup [gy l,.int .i64 0]) (h.set q (bg m mp n')):=fun f=>aX g1 f;have hlp:=Cf (R.set n') (Sig.mk nm ps res eff) l g4 hp1 (by rw[g3];exact hl.symm) (by omega) (.int .i64 0) (.sl []) l.length 0 rfl (Ki _);have hlp':aj (L69_0 (af pg) aj) [.hp q 0,.ip [.str nm,gy ps,.int .i64 res.kind,aN res.fields,.int .i64 eff],gy l,.int .i64 l.length,.int .i64 0,.int .i64 0,.sl []] (h.set q (bg m mp n'))=(if bF cu l ps=true then .ok (.tup [res.av,.int .i64 0]) ((h.set q (bg m mp n')).set q (bg m mp (pY n' eff)))else .ok (.tup [ty0.av,.int .i64 13]) (h.set q (bg m mp n'))):=hlp;have e1:dU.bind (dR (bL (dL m fs) d ls) e.args) (fun l=>if bF cu l ps=true then fun n=>Tr.ok res (pY n eff)else dU.er 13) n=if bF cu l ps=true then .ok res (pY n' eff)else .er 13 n':=by
     simp only[dU.bind,ht];split<;>rfl
    rw[e1];constructor
    ·simp[S69,k1,z1,hl,k2];rw[hlp',Jw];split<;>rfl
    ·intro t n'' h3;split at h3
     ·cases h3;exact eN hp2
     ·cases h3
  ·rw[if_neg hl];refine⟨?_,fun t n' h3=>by cases h3⟩;show _=Av.R.ok (AV.tup [ty0.av,.int .i64 13]) (h.set q (bg m mp n));rw[R.same];simp[S69,k1,z1,hl,p9];rfl
def zh{e:Exp}(h:pN e=true):(e.op=11->e.args.length=3)/\(e.op=12->e.args.length=2)/\(e.op=14->e.args.length=1)/\(e.op=18->e.args.length=1)/\(e.op=13->e.names.length=e.args.length)/\e.args.length<=1000000:=by
 unfold pN at h;simp only[JN]at h;obtain⟨⟨⟨⟨⟨⟨⟨h1,h2⟩,h3⟩,h4⟩,h5⟩,h6⟩,h7⟩,h8⟩:=h;simp only[Kj]at h1 h2;have ho:e.op=0\/e.op=1\/e.op=2\/e.op=3\/e.op=4\/e.op=5\/e.op=6\/e.op=7\/e.op=8\/e.op=9\/e.op=10\/e.op=11\/e.op=12\/e.op=13\/e.op=14\/e.op=15\/e.op=16\/e.op=17\/e.op=18:=by omega
 by_cases o15:e.op=15
 ·have:e.args.length<=6:=by
   simp[fg,o15]at h8;exact h8.2
  exact⟨fun h=>by omega,fun h=>by omega,fun h=>by omega,fun h=>by omega,fun h=>by omega,by omega⟩
 ·by_cases o13:e.op=13
  ·have hn:e.names.length<=8:=by
    simp[fg,o13,vG]at h8;exact h8.2
   have he:e.names.length=e.args.length:=by
    simp[fe,o13]at h3;omega
   exact⟨fun h=>by omega,fun h=>by omega,fun h=>by omega,fun h=>by omega,fun _=>he,by omega⟩
  ·have key:e.args.length<=3/\(e.op=11->e.args.length=3)/\(e.op=12->e.args.length=2)/\(e.op=14->e.args.length=1)/\(e.op=18->e.args.length=1):=by
    rcases ho with o|o|o|o|o|o|o|o|o|o|o|o|o|o|o|o|o|o|o<;>simp[fe,o]at h3 o13 o15 |- <;> omega
   exact⟨key.2.1,key.2.2.1,key.2.2.2.1,key.2.2.2.2,fun h=>absurd h o13,by omega⟩
def AC{ns:List aT}{l:List Ty}(h:∀t∈l,dJ t)(hl:l.length<=1000000):dJ (.mk 2 (ns.zip l)):=sr (by rw[Lj];omega) fun f hf=>h f.2 (List.of_mem_zip (show (f.1,f.2)∈ns.zip l from hf)).2
theorem q8(b:List bI):(fs:List bI)->(∀f∈fs,∀t u:Ty,uz f.2 t=some u->dJ u)->∀f∈kZ fs b,dJ f.2
 |[],_,f,hf=>by simp[kZ]at hf
 | g :: fs,h,f,hf=>by
  rw[mT,J3]at hf;rcases hf with hf|hf
  ·rw[AK]at hf;cases hz:bN (fun z:bI=>z.1== g.1) b with
   |none=>rw[hz]at hf;cases hf
   | some z=>
    rw[hz]at hf;dsimp only at hf;cases hu:uz g.2 z.2 with
    |none=>rw[hu]at hf;cases hf
    |some u=>
     rw[hu]at hf;simp only[Le]at hf;subst hf;exact h g KX z.2 u hu
  ·exact q8 b fs (fun f hf=>h f (KW _ hf)) f hf
def xd(a b u:Ty)(ha:dJ a)(h:uz a b=some u):dJ u:=by
 have e1:uz a b=if a.kind=b.kind then some (.mk a.kind (kZ a.fields b.fields))else none:=by
  cases a;cases b;simp only[uz,Ty.kind,Ty.fields];rfl
 rw[e1]at h;split at h
 ·cases h;refine sr (KP (un _ _) ha.len) (q8 _ _ fun f hf t u hu=>?_)
  have:=wH hf
  exact xd f.2 t u (ha.kid hf) hu
 ·cases h
termination_by SizeOf.sizeOf a
def gG(k:Int):dJ (.mk k []):=sr (by simp) (by simp)
def vV{e:Exp}{l:List Ty}(hl:∀t∈l,dJ t)(hlen:l.length<=1000000)(h11:e.op=11->l.length=3)(h14:e.op=14->l.length=1){t:Ty}(h:cG e l=some t):dJ t:=by
 unfold cG at h;split at h
 ·split at h<;>cases h;exact gG _
 ·split at h
  ·cases h;exact gG _
  ·split at h
   ·split at h<;>cases h;exact gG _
   ·split at h
    ·split at h<;>cases h;exact gG _
    ·split at h
     ·split at h<;>cases h;exact gG _
     ·split at h
      ·rename_i o;split at h
       ·rename_i u hu;split at h<;>cases h;refine xd _ _ _ ?_ hu
        have:=h11 o
        rw[J1 l 1 (by omega)];exact hl _ (JP _)
       ·cases h
      ·split at h
       ·cases h;exact AC hl hlen
       ·split at h
        ·rename_i o;split at h
         ·rename_i z hz;cases h
          have:=h14 o
          have h0:dJ l[0]!:=by rw[J1 l 0 (by omega)];exact hl _ (JP _)
          exact h0.kid (gF hz).1
         ·cases h
        ·cases h;exact gG _
def Jp(l:List bI)(h:l.length<=1000000):af pg 67 [aN l]=M.pure (aN l):=by
 have e0:af pg 67 [aN l]=iW T 23 (af pg) [aN l]:=dZ aI rfl _;have e1:=yD (a:=[]) (b:=l) (by simp;omega);rw[e0];show ai (ca T 23 (.sl []) (aN l))=_;have e2:ca T 23 (.sl []) (aN l)=some (aN l):=e1;rw[e2];rfl
theorem xO{q:Nat}{m:Ap.Mod}{mp:AV}{fs:List Face}(K:CxOk m fs){d:Nat}(P:kE q m mp fs d):kE q m mp fs (d+1):=by
 intro ls e n h hr he hls hll R;rw[nE,JN,J6]at hr;obtain⟨hsh,har⟩:=hr;obtain⟨a11,a12,a14,a18,a13,alen⟩:=zh hsh;have ha:∀x∈e.args,cU d x=true/\x.Lim:=fun x hx=>⟨har x hx,he.kid hx⟩;have hll':ls.length+d<=1000000:=by omega
 show af pg 20 [.hp q 0,aN ls,e.av] h=Hv q m mp h (cB (dL m fs) (bL (dL m fs) d) ls e n)/\∀t n',cB (dL m fs) (bL (dL m fs) d) ls e n= .ok t n'->dJ t;by_cases o2:e.op=2
 ·have hk:=t66 ls (by omega) e.s;rw[vY o2,C20];cases hz:bN (fun z:bI=>z.1== e.s) ls with
  |none=>
   rw[hz]at hk;refine⟨?_,fun t n' h3=>by cases h3⟩;show _=Av.R.ok (AV.tup [ty0.av,.int .i64 12]) (h.set q (bg m mp n));rw[R.same];simp[S20,o2,hk,p9];rfl
  |some z=>
   rw[hz]at hk;refine⟨?_,fun t n' h3=>by cases h3;exact hls z (gF hz).1⟩;show _=Av.R.ok (AV.tup [z.2.av,.int .i64 0]) (h.set q (bg m mp n));rw[R.same];simp[S20,o2,hk];rfl
 ·by_cases o12:e.op=12
  ·obtain⟨x,y,hxy⟩:∃x y,e.args=[x,y]:=by
    have:=a12 o12
    match e.args,this with
    |[x,y],_=>exact⟨x,y,rfl⟩
   have hx0:e.args[0]! = x:=by rw[hxy];rfl
   have hx1:e.args[1]! = y:=by rw[hxy];rfl
   have i0:ak T 24 (bp e.args) (.int .i64 0)=some (.ip (ab x.av)):=by
    have:=jx (l:=e.args) (n:=0) (by omega) (by rw[hxy];simp)
    rw[this,hxy];rfl
   have i1:ak T 24 (bp e.args) (.int .i64 1)=some (.ip (ab y.av)):=by
    have:=jx (l:=e.args) (n:=1) (by omega) (by rw[hxy];simp)
    rw[this,hxy];rfl
   obtain⟨xr,xl⟩:=ha x (by rw[hxy];simp);obtain⟨yr,yl⟩:=ha y (by rw[hxy];simp);obtain⟨p1,p2⟩:=P ls x n h xr xl hls hll' R;rw[vX o12,hx0,hx1,C20];have hne:=ia (dL m fs) d ls x n;cases ht:bL (dL m fs) d ls x n with
   |er b n'=>
    rw[ht]at p1;have hb:(b != 0)=true:=Ll.2 (hne b n' ht);have k1:∀f:AV->M AV,ae (af pg 20 [.hp q 0,aN ls,x.av]) f h=f (.tup [ty0.av,.int .i64 b]) (h.set q (bg m mp n')):=fun f=>aX p1 f;have e1:dU.bind (bL (dL m fs) d ls x) (fun t=>bL (dL m fs) d (ls++[(e.s,t)]) y) n= .er b n':=by simp only[dU.bind,ht]
    rw[e1];refine⟨?_,fun t n' h3=>by cases h3⟩;show _=Av.R.ok (AV.tup [ty0.av,.int .i64 b]) (h.set q (bg m mp n'));simp[S20,o12,i0,k1,hb,p9];rfl
   | ok u n'=>
    rw[ht]at p1;have hus:=p2 u n' ht;have k1:∀f:AV->M AV,ae (af pg 20 [.hp q 0,aN ls,x.av]) f h=f (.tup [u.av,.int .i64 0]) (h.set q (bg m mp n')):=fun f=>aX p1 f;obtain⟨p3,p4⟩:=P (ls++[(e.s,u)]) y n' (h.set q (bg m mp n')) yr yl (fun z hz=>by
     rcases J3.1 hz with hz|hz
     ·exact hls z hz
     ·rw[Le]at hz;subst hz;exact hus) (by rw[JY];simp;omega) (R.set n')
    have e1:dU.bind (bL (dL m fs) d ls x) (fun t=>bL (dL m fs) d (ls++[(e.s,t)]) y) n=bL (dL m fs) d (ls++[(e.s,u)]) y n':=by simp only[dU.bind,ht]
    rw[e1];refine⟨?_,fun t n'' h3=>p4 t n'' h3⟩;have hap:=yD (a:=ls) (b:=[(e.s,u)]) (by simp;omega);have hcl:=Jp ls (by omega);cases ht2:bL (dL m fs) d (ls++[(e.s,u)]) y n' with
    |er b n''=>
     rw[ht2]at p3;have k2:∀f:AV->M AV,ae (af pg 20 [.hp q 0,aN (ls++[(e.s,u)]),y.av]) f (h.set q (bg m mp n'))=f (.tup [ty0.av,.int .i64 b]) ((h.set q (bg m mp n')).set q (bg m mp n'')):=fun f=>aX p3 f;show _=Av.R.ok (AV.tup [ty0.av,.int .i64 b]) (h.set q (bg m mp n''));simp[S20,o12,i0,i1,k1,rL,HW,hcl,hap,k2];rfl
    |ok t n''=>
     rw[ht2]at p3;have k2:∀f:AV->M AV,ae (af pg 20 [.hp q 0,aN (ls++[(e.s,u)]),y.av]) f (h.set q (bg m mp n'))=f (.tup [t.av,.int .i64 0]) ((h.set q (bg m mp n')).set q (bg m mp n'')):=fun f=>aX p3 f;show _=Av.R.ok (AV.tup [t.av,.int .i64 0]) (h.set q (bg m mp n''));simp[S20,o12,i0,i1,k1,rL,HW,hcl,hap,k2];rfl
  ·have b2:(e.op== 2)=false:=J4.2 o2;have b12:(e.op== 12)=false:=J4.2 o12;by_cases o17:e.op=17\/e.op=18
   ·obtain⟨v1,v2⟩:=Jq P K ls hls hll' e o17 (fun o=>by
     have:=a18 o
     match hx:e.args,this with
     |[x],_=>exact⟨x,rfl,ha x (by rw[hx];simp)⟩) n h R
    refine⟨?_,v2⟩;rw[<- v1,C20];generalize hcode:af pg 68 [.hp q 0,aN ls,e.av] h=code at v1;cases hs:cB (dL m fs) (bL (dL m fs) d) ls e n with
    | er b n'=>
     rw[hs]at v1;rw[v1]at hcode;have k1:∀f:AV->M AV,ae (af pg 68 [.hp q 0,aN ls,e.av]) f h=f (.tup [ty0.av,.int .i64 b]) (h.set q (bg m mp n')):=fun f=>aX hcode f;rw[v1];show _=Av.R.ok (AV.tup [ty0.av,.int .i64 b]) (h.set q (bg m mp n'));rcases o17 with o|o
     ·have c17:(e.op== 17)=true:=Kw.2 o;simp[S20,K20_1,b2,b12,c17,k1];rfl
     ·have c17:(e.op== 17)=false:=J4.2 (by omega);have c18:(e.op== 18)=true:=Kw.2 o;simp[S20,K20_1,b2,b12,c17,c18,k1];rfl
    | ok t n'=>
     rw[hs]at v1;rw[v1]at hcode;have k1:∀f:AV->M AV,ae (af pg 68 [.hp q 0,aN ls,e.av]) f h=f (.tup [t.av,.int .i64 0]) (h.set q (bg m mp n')):=fun f=>aX hcode f;rw[v1];show _=Av.R.ok (AV.tup [t.av,.int .i64 0]) (h.set q (bg m mp n'));rcases o17 with o|o
     ·have c17:(e.op== 17)=true:=Kw.2 o;simp[S20,K20_1,b2,b12,c17,k1];rfl
     ·have c17:(e.op== 17)=false:=J4.2 (by omega);have c18:(e.op== 18)=true:=Kw.2 o;simp[S20,K20_1,b2,b12,c17,c18,k1];rfl
   ·have b17:(e.op== 17)=false:=J4.2 (by omega);have b18:(e.op== 18)=false:=J4.2 (by omega);by_cases o15:e.op=15
    ·obtain⟨v1,v2⟩:=Jr P K ls hls hll' e o15 alen ha n h R;refine⟨?_,v2⟩;have b15:(e.op== 15)=true:=Kw.2 o15;rw[C20];cases hs:cB (dL m fs) (bL (dL m fs) d) ls e n with
     |er b n'=>
      rw[hs]at v1;have k1:∀f:AV->M AV,ae (af pg 69 [.hp q 0,aN ls,e.av]) f h=f (.tup [ty0.av,.int .i64 b]) (h.set q (bg m mp n')):=fun f=>aX v1 f;show _=Av.R.ok (AV.tup [ty0.av,.int .i64 b]) (h.set q (bg m mp n'));simp[S20,K20_1,b2,b12,b17,b18,b15,k1];rfl
     |ok t n'=>
      rw[hs]at v1;have k1:∀f:AV->M AV,ae (af pg 69 [.hp q 0,aN ls,e.av]) f h=f (.tup [t.av,.int .i64 0]) (h.set q (bg m mp n')):=fun f=>aX v1 f;show _=Av.R.ok (AV.tup [t.av,.int .i64 0]) (h.set q (bg m mp n'));simp[S20,K20_1,b2,b12,b17,b18,b15,k1];rfl
    ·have b15:(e.op== 15)=false:=J4.2 o15;obtain⟨g1,g2⟩:=Jc P ls hls hll' e.args alen ha n h R;rw[ug o2 o12 o17 o15,C20];cases ht:dR (bL (dL m fs) d ls) e.args n with
     |er b n'=>
      rw[ht]at g1;have hb:(b != 0)=true:=Ll.2 (lO (ia (dL m fs) d ls) _ n b n' ht);have k1:∀f:AV->M AV,ae (af pg 70 [.hp q 0,aN ls,bp e.args]) f h=f (.tup [.sl [],.int .i64 b]) (h.set q (bg m mp n')):=fun f=>aX g1 f;have e1:dU.bind (dR (bL (dL m fs) d ls) e.args) (nD e) n= .er b n':=by simp only[dU.bind,ht]
      rw[e1];refine⟨?_,fun t n' h3=>by cases h3⟩;show _=Av.R.ok (AV.tup [ty0.av,.int .i64 b]) (h.set q (bg m mp n'));simp[S20,K20_1,b2,b12,b17,b18,b15,k1,hb,p9];rfl
     | ok l n'=>
      rw[ht]at g1;obtain⟨g3,g4⟩:=g2 l n' ht;have k1:∀f:AV->M AV,ae (af pg 70 [.hp q 0,aN ls,bp e.args]) f h=f (.tup [gy l,.int .i64 0]) (h.set q (bg m mp n')):=fun f=>aX g1 f;have hp:=t71 e l g4 (by omega) (fun o=>by rw[g3];exact a11 o) (fun o=>by rw[g3];exact a14 o) (fun o=>by rw[g3];exact a13 o);have R':=R.set n';have hor:aw T .or 3 (.int .i64 n') (.int .i64 e.n)=some (.int .i64 (pY n' e.n)):=rfl;have l1:∀f:AV->M AV,ae (bY T 3 (.hp q 10)) f (h.set q (bg m mp n'))=f (.int .i64 n') (h.set q (bg m mp n')):=fun f=>aX R'.eff f;have l2:∀f:AV->M AV,ae (cC T 3 (.hp q 10) (.int .i64 (pY n' e.n))) f (h.set q (bg m mp n'))=f (.tup []) (h.set q (bg m mp (pY n' e.n))):=fun f=>by
       rw[aX (R'.put (pY n' e.n)) f,Jw]
      have e1:dU.bind (dR (bL (dL m fs) d ls) e.args) (nD e) n=nD e l n':=by simp only[dU.bind,ht]
      rw[e1];have hsl:=fun t=>vV (e:=e) (l:=l) g4 (by omega) (fun o=>by rw[g3];exact a11 o) (fun o=>by rw[g3];exact a14 o) (t:=t);by_cases o16:e.op=16
      ·have b16:(e.op== 16)=true:=Kw.2 o16;cases hpl:cG e l with
       |none=>
        rw[hpl]at hp;rw[pD hpl,JV o16];refine⟨?_,fun t n' h3=>by cases h3⟩;show _=Av.R.ok (AV.tup [ty0.av,.int .i64 13]) (h.set q (bg m mp (pY n' e.n)));simp[S20,K20_1,K20_0,b2,b12,b17,b18,b15,b16,k1,l1,hor,l2,hp];rfl
       |some t=>
        rw[hpl]at hp;rw[pE hpl,JV o16];refine⟨?_,fun t' n' h3=>by cases h3;exact hsl t hpl⟩;show _=Av.R.ok (AV.tup [t.av,.int .i64 0]) (h.set q (bg m mp (pY n' e.n)));simp[S20,K20_1,K20_0,b2,b12,b17,b18,b15,b16,k1,l1,hor,l2,hp];rfl
      ·have b16:(e.op== 16)=false:=J4.2 o16;cases hpl:cG e l with
       |none=>
        rw[hpl]at hp;rw[pD hpl,if_neg o16];refine⟨?_,fun t n' h3=>by cases h3⟩;show _=Av.R.ok (AV.tup [ty0.av,.int .i64 13]) (h.set q (bg m mp n'));simp[S20,K20_1,K20_0,b2,b12,b17,b18,b15,b16,k1,hp];rfl
       |some t=>
        rw[hpl]at hp;rw[pE hpl,if_neg o16];refine⟨?_,fun t' n' h3=>by cases h3;exact hsl t hpl⟩;show _=Av.R.ok (AV.tup [t.av,.int .i64 0]) (h.set q (bg m mp n'));simp[S20,K20_1,K20_0,b2,b12,b17,b18,b15,b16,k1,hp];rfl
theorem Ce{q:Nat}{m:Ap.Mod}{mp:AV}{fs:List Face}(K:CxOk m fs):∀d,kE q m mp fs d
 |0=>fun ls e n h hr=>by cases hr
 |d+1=>xO K (Ce K d)
theorem qA:(fs acc:List Face)->∀f∈cW acc fs,f∈acc\/f∈fs
 |[],acc,f,h=>.inl h
 | g:: fs,acc,f,h=>by
  rw[cW]at h;rcases qA fs _ f h with h|h
  ·split at h
   ·exact .inl h
   ·rcases J3.1 h with h|h
    ·exact .inl h
    ·rw[Le]at h;subst h;exact .inr KX
  ·exact .inr (KW _ h)
def uc(s:Sig):Bool:=bX s.result&&s.params.all bX
theorem xN(f:Face):gp f=f.funcs.all uc:=rfl
def Jo(t:Ty)(ht:t.Lim):af pg 64 [t.av]=M.pure (.bool (!(bX t))):=by
 rw[C64];simp[S64,t62 t ht]
theorem Ai{h:Hp}{l:Nat}{fs:List Face}(hl:h[l]? = some [.tup (cg fs)])(f:Face)(hn:fs.find? (fun g=>g.module== f.module)=none):lY T 63 (.mp l) (.str f.module) f.av h= .ok (.tup []) (h.set l [.tup (cg (fs++[f]))]):=by
 have e:lY T 63 (.mp l) (.str f.module) f.av h=(match h[l]? with
   |some [.tup es]=>(match tQ T 9 es (.str f.module) f.av with
    |some es'=>.ok (.tup []) (h.set l [.tup es'])
    |none=>.fail)
   |_=>.fail):=rfl
 rw[e,hl];simp only;unfold tQ;rcases oL f.module fs 0 with⟨h1,h2⟩|⟨g,j,k,h1,h2⟩
 ·rw[h2];simp[cg]
 ·rw[hn]at h1;cases h1
def kg(f:Face):aO 2 f.av=M.pure f.av:=by rw[cf (mJ f),jE,qI]
def B8(V:List AV->M AV){h:Hp}{q l:Nat}{m:Ap.Mod}{acc:List Face}(R:JR h q m (.mp l) acc 0)(hl:h[l]? = some [.tup (cg acc)])(fs:List Face)(i:Nat)(f:Face)(hf:f.Lim):∀(k j:Nat),f.funcs.length-j=k->j<=f.funcs.length->
  aj (L18_0 (af pg) aj V) [.hp q 0,.ip (ab f.av),faces fs,.int .i64 fs.length,.int .i64 i,sigs f.funcs,.int .i64 f.funcs.length,.int .i64 j] h=(if(f.funcs.drop j).all uc=true then V [.hp q 0,faces fs,.int .i64 fs.length,.int .i64 (IntKind.i64.wrap ((i:Int)+1))] (if(acc.find? fun g=>g.module== f.module).isSome=true then h else h.set l [.tup (cg (acc++[f]))])else .ok (.tup [.nilp,.bool false]) h):=by
 intro k;have hlen:=hf.len
 induction k with
 | zero=>
  intro j hk hj;have h1:¬((j:Int)<(f.funcs.length:Int)):=by omega
  have h2:f.funcs.drop j=[]:=JQ (by omega);rw[h2,JV (show[].all uc=true from rfl)];have l1:∀g:AV->M AV,ae (bY T 63 (.hp q 9)) g h=g (.mp l) h:=fun g=>aX R.mp g;have l2:∀g:AV->M AV,ae (eh T 63 (.mp l) (.str f.module) true) g h=g (.tup [((acc.find? fun g=>g.module== f.module).getD lx).av,.bool (acc.find? fun g=>g.module== f.module).isSome]) h:=fun g=>aX (mG R.map f.module) g;rw[FL18_0];cases hc:acc.find? (fun g=>g.module== f.module)with
  |none=>
   rw[hc]at l2;have l3:∀g:AV->M AV,ae (lY T 63 (.mp l) (.str f.module) f.av) g h=g (.tup []) (h.set l [.tup (cg (acc++[f]))]):=fun g=>aX (Ai hl f hc) g;simp[L18_0,h1,l1,l2,kg,l3]
  |some g=>
   rw[hc]at l2;simp[L18_0,h1,l1,l2,kg]
 | succ k ih=>
  intro j hk hj;have hlt:j<f.funcs.length:=by omega
  have h1:(j:Int)<(f.funcs.length:Int):=by omega
  have h2:f.funcs.drop j=f.funcs[j]:: f.funcs.drop (j+1):=JS hlt;have hw:IntKind.i64.wrap ((j:Int)+1)=(j:Int)+1:=aS (by omega);have hix:=AY (l:=f.funcs) (n:=(j:Int)) (by omega) h1;rw[JW,J1 f.funcs j hlt]at hix;have hs:=hf.sigs _ (JP hlt);have ih':aj (L18_0 (af pg) aj V) [.hp q 0,.ip (ab f.av),faces fs,.int .i64 fs.length,.int .i64 i,sigs f.funcs,.int .i64 f.funcs.length,.int .i64 ((j:Int)+1)] h=_:=ih (j+1) (by omega) (by omega);rw[h2,La];generalize f.funcs[j]=s at hix hs |-;have r1:=t62 s.result hs.result;have r2:=t63 (.fn (.func 64) [] []) (fun t=>!(bX t)) s.params (by have:=hs.plen;omega) (fun g=>by simp[cl,df]) (fun t ht=>Jo t (hs.ptys t ht));have r3:(s.params.any fun t=>!(bX t))= !(s.params.all bX):=by
   rw[List.any_eq_not_all_not];simp
  rw[r3]at r2;rw[FL18_0];simp only[jE]at ih' |-;unfold uc;cases b1:bX s.result with
  |false=>
   rw[b1]at r1;simp[L18_0,h1,hix,r1];rfl
  | true=>
   rw[b1]at r1;cases b2:s.params.all bX with
   |false=>
    rw[b2]at r2;simp[L18_0,h1,hix,r1,r2];rfl
   |true=>
    rw[b2]at r2;simp[L18_0,h1,hix,r1,r2,hw,ih',uc]
theorem B9{q l:Nat}{m:Ap.Mod}(hq:l≠q)(fs:List Face)(hfs:∀f∈fs,f.Lim)(hlen:fs.length<=140737488355328):∀(k i:Nat)(acc:List Face)(h:Hp),fs.length-i=k->i<=fs.length->JR h q m (.mp l) acc 0->h[l]? = some [.tup (cg acc)]->
  ((fs.drop i).all gp=true->aj (L18_1 (af pg) aj) [.hp q 0,faces fs,.int .i64 fs.length,.int .i64 i] h= .ok (.tup [.hp q 0,.bool true]) (h.set l [.tup (cg (cW acc (fs.drop i)))]))/\((fs.drop i).all gp=false->∃h',aj (L18_1 (af pg) aj) [.hp q 0,faces fs,.int .i64 fs.length,.int .i64 i] h= .ok (.tup [.nilp,.bool false]) h'):=by
 intro k
 induction k with
 | zero=>
  intro i acc h hk hi R hl;have h1:¬((i:Int)<(fs.length:Int)):=by omega
  have h2:fs.drop i=[]:=JQ (by omega);rw[h2];refine⟨fun _=>?_,fun hc=>by cases hc⟩;have e:h.set l [.tup (cg (cW acc []))]=h:=by
   obtain⟨hll,e⟩:=Kn.1 hl;show h.set l [.tup (cg acc)]=h;rw[<- e];exact List.set_getElem_self hll
  rw[e,FL18_1];simp[L18_1,h1];rfl
 | succ k ih=>
  intro i acc h hk hi R hl;have hlt:i<fs.length:=by omega
  have h1:(i:Int)<(fs.length:Int):=by omega
  have h2:fs.drop i=fs[i]:: fs.drop (i+1):=JS hlt;have hw:IntKind.i64.wrap ((i:Int)+1)=((i+1:Nat):Int):=aS (by omega);have hix:=Gk (l:=fs) (n:=(i:Int)) (by omega) h1;rw[JW,J1 fs i hlt]at hix;have hf:=hfs _ (JP hlt);rw[h2,La];generalize fs[i]=f at hix hf |-;have hin:=B8 (aj (L18_1 (af pg) aj)) R hl fs i f hf f.funcs.length 0 rfl (Ki _);rw[KG,hw]at hin;have hrun:aj (L18_1 (af pg) aj) [.hp q 0,faces fs,.int .i64 fs.length,.int .i64 i] h=aj (L18_0 (af pg) aj (aj (L18_1 (af pg) aj))) [.hp q 0,.ip (ab f.av),faces fs,.int .i64 fs.length,.int .i64 i,sigs f.funcs,.int .i64 f.funcs.length,.int .i64 ((0:Nat):Int)] h:=by
   rw[FL18_1];simp[L18_1,h1,hix,kg]
  rw[hrun,hin,<- xN];cases hfo:gp f with
  |false=>
   refine⟨fun hc=>by simp at hc,fun _=>⟨h,by simp⟩⟩
  | true=>
   simp only[J0,Lg];have hd:cW acc (f:: fs.drop (i+1))=cW (if(acc.find? fun g=>g.module== f.module).isSome=true then acc else acc++[f]) (fs.drop (i+1)):=rfl;rw[hd];have hll:=(Kn.1 hl).1;by_cases hc:(acc.find? fun g=>g.module== f.module).isSome=true
   ·rw[JV hc,JV hc];exact ih (i+1) acc h (by omega) (by omega) R hl
   ·rw[if_neg hc,if_neg hc];have hl':(h.set l [.tup (cg (acc++[f]))])[l]? = some [.tup (cg (acc++[f]))]:=Lb hll;have R':JR (h.set l [.tup (cg (acc++[f]))]) q m (.mp l) (acc++[f]) 0:=⟨by rw[Lz hq];exact R.row,.inr ⟨l,rfl,hl'⟩,R.ne⟩;obtain⟨i1,i2⟩:=ih (i+1) (acc++[f]) _ (by omega) (by omega) R' hl';refine⟨fun ha=>?_,i2⟩;rw[i1 ha,List.set_set]
theorem Jm(m:Ap.Mod)(fs:List Face)(hfs:∀f∈fs,f.Lim)(hlen:fs.length<=140737488355328)(h:Hp):
  (fs.all gp=true->af pg 18 [m.av,faces fs] h= .ok (.tup [.hp (h.length+1) 0,.bool true]) (h++[[.tup (cg (cW [] fs))],bg m (.mp h.length) 0]))/\(fs.all gp=false->∃h',af pg 18 [m.av,faces fs] h= .ok (.tup [.nilp,.bool false]) h'):=by
 have R:JR (h++[[AV.tup []],bg m (.mp h.length) 0]) (h.length+1) m (.mp h.length) [] 0:=⟨by simp,.inr ⟨h.length,rfl,by simp[cg]⟩,by simp⟩;obtain⟨h1,h2⟩:=B9 (q:=h.length+1) (l:=h.length) (m:=m) (by omega) fs hfs hlen fs.length 0 [] _ rfl (Ki _) R (by simp[cg]);rw[KG]at h1 h2;have hrun:af pg 18 [m.av,faces fs] h=aj (L18_1 (af pg) aj) [.hp (h.length+1) 0,faces fs,.int .i64 fs.length,.int .i64 ((0:Nat):Int)] (h++[[AV.tup []],bg m (.mp h.length) 0]):=by
  rw[C18];have b1:aY T true 65 [(0,m.av),(1,.mp h.length)]=some (.agg (bg m (.mp h.length) 0)):=rfl;have n1:∀f:AV->M AV,ae fj f h=f (.mp h.length) (h++[[AV.tup []]]):=fun f=>rfl;have n2:∀f:AV->M AV,ae (newH (bg m (.mp h.length) 0)) f (h++[[AV.tup []]])=f (.hp (h.length+1) 0) (h++[[AV.tup []],bg m (.mp h.length) 0]):=fun f=>by
   have:newH (bg m (.mp h.length) 0) (h++[[AV.tup []]])= .ok (.hp (h++[[AV.tup []]]).length 0) ((h++[[AV.tup []]])++[bg m (.mp h.length) 0]):=rfl;rw[aX this];simp
  have lm:ah T 29 (.ip (ab m.av))=some m.av:=rfl;simp only[S18,lm,am,n1,b1,ol,n2,mh];rfl
 rw[hrun];refine⟨fun ha=>?_,h2⟩;rw[h1 ha];simp
def ej(name:aT):Ap.Mod:=⟨name,[],[],[],[],false,[],[],[]⟩
def Jf(name:aT):CxOk (ej name) [] where
 vlen:=by simp[ej]
 vars:=nofun
 flen:=by simp[ej]
 ulen:=by simp[ej]
 plen:=nofun
 pars:=nofun
 res:=nofun
 slen:=nofun
 splen:=nofun
 spars:=nofun
 sres:=nofun
theorem IR(name:aT)(ls:List bI)(hls:∀z∈ls,dJ z.2)(hll:ls.length<=1000)(e:Exp)(hr:cU 12 e=true)(he:e.Lim)(want:Ty)(hw:bX want=true):af pg 65 [.str name,aN ls,e.av,want.av]=M.pure (.int .i64 (ib ls e want)):=by
 have R:JR [bg (ej name) .nilm 0] 0 (ej name) .nilm [] 0:=⟨rfl,.inl ⟨rfl,rfl⟩,by simp⟩;obtain⟨p1,p2⟩:=Ce (Jf name) 12 ls e 0 _ hr he hls (by omega) R;have hc:dL (ej name) []=Cu:=rfl;rw[hc]at p1 p2;have b0:aY T false 29 [(0,.str name)]=some (ej name).av:=rfl;have b1:aY T true 65 [(0,(ej name).av)]=some (.agg (bg (ej name) .nilm 0)):=rfl;have n1:∀f:AV->M AV,ae (newH (bg (ej name) .nilm 0)) f []=f (.hp 0 0) [bg (ej name) .nilm 0]:=fun f=>rfl;have fin:∀(h:Hp)(n:Int),i4 6 h (.int .i64 n)= .int .i64 n:=fun h n=>rfl;have hne:=ia Cu 12 ls e 0;rw[C65];unfold ib;cases ht:bL Cu 12 ls e 0 with
 |er b n=>
  rw[ht]at p1;have hb:(b != 0)=true:=Ll.2 (hne b n ht);have k1:∀f:AV->M AV,ae (af pg 20 [.hp 0 0,aN ls,e.av]) f [bg (ej name) .nilm 0]=f (.tup [ty0.av,.int .i64 b]) [bg (ej name) .nilm n]:=fun f=>aX p1 f;refine bV (v:=.int .i64 b) (h':=[bg (ej name) .nilm n]) ?_ (fin _ _);simp[S65,b0,b1,n1,k1,hb];rfl
 | ok t n=>
  rw[ht]at p1;have hts:=p2 t n ht;have k1:∀f:AV->M AV,ae (af pg 20 [.hp 0 0,aN ls,e.av]) f [bg (ej name) .nilm 0]=f (.tup [t.av,.int .i64 0]) [bg (ej name) .nilm n]:=fun f=>aX p1 f;have l1:∀f:AV->M AV,ae (bY T 3 (.hp 0 10)) f [bg (ej name) .nilm n]=f (.int .i64 n) [bg (ej name) .nilm n]:=fun f=>rfl;have hbl:=iR hts hw;dsimp only;by_cases hn:n=0
  ·subst hn;rw[if_neg (by simp)];cases hb:cu t want with
   |true=>
    rw[hb]at hbl;rw[JV rfl];refine bV (v:=.int .i64 0) (h':=[bg (ej name) .nilm 0]) ?_ (fin _ _);simp[S65,b0,b1,n1,k1,l1,hbl];rfl
   |false=>
    rw[hb]at hbl;rw[if_neg (by decide)];refine bV (v:=.int .i64 13) (h':=[bg (ej name) .nilm 0]) ?_ (fin _ _);simp[S65,b0,b1,n1,k1,l1,hbl];rfl
  ·rw[JV hn];have hn':(n != 0)=true:=Ll.2 hn;refine bV (v:=.int .i64 14) (h':=[bg (ej name) .nilm n]) ?_ (fin _ _);simp[S65,b0,b1,n1,k1,l1,hn'];rfl
def li(x:aT×Int):AV:=.tup [.str x.1,.int .i64 x.2]
def kV(ls vs:List bI)(es:List Exp)(i:Nat)(hl:es.length=vs.length)(h:i<vs.length):(ek ls vs es).drop i=(vs[i].1,ib ls (es[i]'(by omega)) vs[i].2):: (ek ls vs es).drop (i+1):=by
 have hi:i<(ek ls vs es).length:=by simp[ek,Lj];omega
 rw[JS hi];congr 1;simp[ek]
def mO(ls vs:List bI)(es:List Exp)(i:Nat)(h:vs.length<=i):(ek ls vs es).drop i=[]:=JQ (by simp[ek,Lj];omega)
structure MvOk (m:Ap.Mod):Prop where
 lim:m.Lim
 vlen:m.vars.length<=8
 vars:∀z∈m.vars,bX z.2=true
 ilen:m.init.length=m.vars.length
 init:∀e∈m.init,cU 12 e=true
 olen:m.old.length<=8
 old:∀z∈m.old,bX z.2=true
 wlen:m.moves=true->m.forward.length=m.vars.length
 forw:∀e∈m.forward,cU 12 e=true
 blen:m.back.length=m.old.length
 back:∀e∈m.back,cU 12 e=true
def Jj{m:Ap.Mod}(K:MvOk m):∀(k i:Nat),m.old.length-i=k->i<=m.old.length->
  aj (L19_0 (af pg) aj) [.ip (ab m.av),aN m.old,.int .i64 m.old.length,.int .i64 i]=M.pure (li (bC ((ek m.vars m.old m.back).drop i))):=by
 intro k
 induction k with
 |zero=>
  intro i hk hi;have h1:¬((i:Int)<(m.old.length:Int)):=by omega
  rw[FL19_0,mO _ _ _ _ (by omega)];simp[L19_0,h1,bC,li]
 | succ k ih=>
  intro i hk hi;have hlt:i<m.old.length:=by omega
  have h1:(i:Int)<(m.old.length:Int):=by omega
  have hw:IntKind.i64.wrap ((i:Int)+1)=(i:Int)+1:=aS (by have:=K.olen;omega);have hix:=iM (l:=m.old) (n:=(i:Int)) (by omega) h1;rw[JW,J1 m.old i hlt]at hix;have hlt2:i<m.back.length:=by rw[K.blen];exact hlt
  have hix2:=jx (l:=m.back) (n:=(i:Int)) (by omega) (by have:=K.blen;omega);rw[JW,J1 m.back i hlt2]at hix2;have hp:=IR m.name m.vars (fun z hz=>eN (K.vars z hz)) (by have:=K.vlen;omega) m.back[i] (K.back _ (JP _)) (K.lim.bes _ (JP _)) m.old[i].2 (K.old _ (JP _));have ih':aj (L19_0 (af pg) aj) [.ip (ab m.av),aN m.old,.int .i64 m.old.length,.int .i64 ((i:Int)+1)]=_:=ih (i+1) (by omega) (by omega);rw[FL19_0,kV _ _ _ _ K.blen hlt,bC];simp only[bo]at ih' |-;generalize m.old[i]=z at hix hp |-;generalize m.back[i]=e at hix2 hp |-;by_cases hb:ib m.vars e z.2=0
  ·rw[hb]at hp;rw[JV hb];simp[L19_0,h1,hix,hix2,hp,hw,ih']
  ·rw[if_neg hb];have hb':(ib m.vars e z.2 != 0)=true:=Ll.2 hb;simp[L19_0,h1,hix,hix2,hp,hb',li]
def Jk{m:Ap.Mod}(K:MvOk m)(hm:m.moves=true):∀(k i:Nat),m.vars.length-i=k->i<=m.vars.length->
  aj (L19_1 (af pg) aj) [.ip (ab m.av),aN m.vars,.int .i64 m.vars.length,.int .i64 i]=M.pure (li (bC ((ek m.old m.vars m.forward).drop i++ek m.vars m.old m.back))):=by
 intro k
 induction k with
 |zero=>
  intro i hk hi;have h1:¬((i:Int)<(m.vars.length:Int)):=by omega
  have h0:=Jj K m.old.length 0 rfl (Ki _);have h0':aj (L19_0 (af pg) aj) [.ip (ab m.av),aN m.old,.int .i64 m.old.length,.int .i64 0]=M.pure (li (bC (ek m.vars m.old m.back))):=h0;rw[FL19_1,mO _ _ _ _ (by omega),Kt];simp only[bo]at h0' |-;simp[L19_1,h1,h0']
 | succ k ih=>
  intro i hk hi;have hlt:i<m.vars.length:=by omega
  have h1:(i:Int)<(m.vars.length:Int):=by omega
  have hw:IntKind.i64.wrap ((i:Int)+1)=(i:Int)+1:=aS (by have:=K.vlen;omega);have hix:=iM (l:=m.vars) (n:=(i:Int)) (by omega) h1;rw[JW,J1 m.vars i hlt]at hix;have hwl:=K.wlen hm;have hlt2:i<m.forward.length:=by omega
  have hix2:=jx (l:=m.forward) (n:=(i:Int)) (by omega) (by omega);rw[JW,J1 m.forward i hlt2]at hix2;have hp:=IR m.name m.old (fun z hz=>eN (K.old z hz)) (by have:=K.olen;omega) m.forward[i] (K.forw _ (JP _)) (K.lim.fes _ (JP _)) m.vars[i].2 (K.vars _ (JP _));have ih':aj (L19_1 (af pg) aj) [.ip (ab m.av),aN m.vars,.int .i64 m.vars.length,.int .i64 ((i:Int)+1)]=_:=ih (i+1) (by omega) (by omega);rw[FL19_1,kV _ _ _ _ hwl hlt,Kr,bC];simp only[bo]at ih' |-;generalize m.vars[i]=z at hix hp |-;generalize m.forward[i]=e at hix2 hp |-;by_cases hb:ib m.old e z.2=0
  ·rw[hb]at hp;rw[JV hb];simp[L19_1,h1,hix,hix2,hp,hw,ih']
  ·rw[if_neg hb];have hb':(ib m.old e z.2 != 0)=true:=Ll.2 hb;simp[L19_1,h1,hix,hix2,hp,hb',li]
def Jl{m:Ap.Mod}(K:MvOk m):∀(k i:Nat),m.vars.length-i=k->i<=m.vars.length->
  aj (L19_2 (af pg) aj) [.ip (ab m.av),aN m.vars,.int .i64 m.vars.length,.int .i64 i]=M.pure (li (bC ((ek [] m.vars m.init).drop i++if m.moves=true then ek m.old m.vars m.forward++ek m.vars m.old m.back else[]))):=by
 intro k
 induction k with
 | zero=>
  intro i hk hi;have h1:¬((i:Int)<(m.vars.length:Int)):=by omega
  rw[FL19_2,mO _ _ _ _ (by omega),Kt];cases hm:m.moves with
  |true=>
   have h0:=Jk K hm m.vars.length 0 rfl (Ki _);have h0':aj (L19_1 (af pg) aj) [.ip (ab m.av),aN m.vars,.int .i64 m.vars.length,.int .i64 0]=M.pure (li (bC (ek m.old m.vars m.forward++ek m.vars m.old m.back))):=h0;simp only[bo,hm]at h0' |-;simp[L19_2,h1,h0']
  |false=>
   simp only[bo,hm];simp[L19_2,h1,li,bC]
 | succ k ih=>
  intro i hk hi;have hlt:i<m.vars.length:=by omega
  have h1:(i:Int)<(m.vars.length:Int):=by omega
  have hw:IntKind.i64.wrap ((i:Int)+1)=(i:Int)+1:=aS (by have:=K.vlen;omega);have hix:=iM (l:=m.vars) (n:=(i:Int)) (by omega) h1;rw[JW,J1 m.vars i hlt]at hix;have hwl:=K.ilen;have hlt2:i<m.init.length:=by omega
  have hix2:=jx (l:=m.init) (n:=(i:Int)) (by omega) (by omega);rw[JW,J1 m.init i hlt2]at hix2;have hp0:=IR m.name [] (fun z hz=>by cases hz) (by simp) m.init[i] (K.init _ (JP _)) (K.lim.ies _ (JP _)) m.vars[i].2 (K.vars _ (JP _));have hp:af pg 65 [.str m.name,.sl [],m.init[i].av,m.vars[i].2.av]=M.pure (.int .i64 (ib [] m.init[i] m.vars[i].2)):=hp0;have ih':aj (L19_2 (af pg) aj) [.ip (ab m.av),aN m.vars,.int .i64 m.vars.length,.int .i64 ((i:Int)+1)]=_:=ih (i+1) (by omega) (by omega);rw[FL19_2,kV _ _ _ _ hwl hlt,Kr,bC];simp only[bo]at ih' |-;generalize m.vars[i]=z at hix hp |-;generalize m.init[i]=e at hix2 hp |-;by_cases hb:ib [] e z.2=0
  ·rw[hb]at hp;rw[JV hb];simp[L19_2,h1,hix,hix2,hp,hw,ih']
  ·rw[if_neg hb];have hb':(ib [] e z.2 != 0)=true:=Ll.2 hb;simp[L19_2,h1,hix,hix2,hp,hb',li]
def Jn{m:Ap.Mod}(K:MvOk m):af pg 19 [m.av]=M.pure (li (gQ m)):=by
 have h0:=Jl K m.vars.length 0 rfl (Ki _);have h0':aj (L19_2 (af pg) aj) [.ip (ab m.av),aN m.vars,.int .i64 m.vars.length,.int .i64 0]=M.pure (li (gQ m)):=h0;rw[C19];simp only[bo]at h0';simp[S19,h0'];exact ba fun g=>by simp[li,cl,df]
def IJ{m:Ap.Mod}(hm:m.Lim)(K:ModOk m):MvOk m:=⟨hm,K.vlen,K.vars,K.ilen,K.init,K.olen,K.old,K.wlen,K.forw,K.blen,K.back⟩
def It{m:Ap.Mod}(K:ModOk m){fs:List Face}(hfs:∀f∈fs,f.Lim)(ha:∀f∈fs,gp f=true):CxOk m fs where
 vlen:=by have:=K.vlen;omega
 vars:=K.vars
 flen:=by have:=K.flen;omega
 ulen:=by have:=K.ulen;omega
 plen:=fun f hf=>by have:=(K.fns f hf).plen;omega
 pars:=fun f hf=>(K.fns f hf).pars
 res:=fun f hf=>(K.fns f hf).res
 slen:=fun f hf=>(hfs f hf).len
 splen:=fun f hf s hs=>((hfs f hf).sigs s hs).plen
 spars:=fun f hf s hs t ht=>by
  have:=ha f hf
  unfold gp at this;rw[J6]at this;have h2:=this s hs;simp only[JN,J6]at h2;exact h2.2 t ht
 sres:=fun f hf s hs=>by
  have:=ha f hf
  unfold gp at this;rw[J6]at this;have h2:=this s hs;simp only[JN]at h2;exact h2.1
theorem Bf{m:Ap.Mod}(hm:m.Lim)(MK:ModOk m){fs:List Face}(K:CxOk m fs){q:Nat}{mp:AV}:∀(k i:Nat)(n:Int)(h:Hp),m.funcs.length-i=k->i<=m.funcs.length->JR h q m mp fs n->
  ∃h',aj (L7_0 (af pg) aj) [.hp q 0,dK m.funcs,.int .i64 m.funcs.length,.int .i64 i] h= .ok (li (bC ((wI m fs).drop i))) h':=by
 intro k;have hfl:=MK.flen
 induction k with
 |zero=>
  intro i n h hk hi R;have h1:¬((i:Int)<(m.funcs.length:Int)):=by omega
  have h2:(wI m fs).drop i=[]:=JQ (by simp[wI];omega);refine⟨h,?_⟩;rw[FL7_0,h2];simp[L7_0,h1];rfl
 | succ k ih=>
  intro i n h hk hi R;have hlt:i<m.funcs.length:=by omega
  have h1:(i:Int)<(m.funcs.length:Int):=by omega
  have h2:(wI m fs).drop i=(m.funcs[i].name,uy (dL m fs) m.funcs[i]):: (wI m fs).drop (i+1):=by
   rw[JS (by simp[wI];exact hlt)];simp[wI]
  have hw:IntKind.i64.wrap ((i:Int)+1)=(i:Int)+1:=aS (by omega);have hix:=p7 (l:=m.funcs) (n:=(i:Int)) (by omega) h1;rw[JW,J1 m.funcs i hlt]at hix;have hf:=MK.fns _ (JP hlt);have hfl2:=hm.fns _ (JP hlt);rw[h2,bC];generalize m.funcs[i]=f at hix hf hfl2 |-;have R1:=R.set 0;obtain⟨p1,p2⟩:=Ce K 12 f.params f.body 0 _ hf.body hfl2.body (fun z hz=>eN (hf.pars z hz)) (by have:=hf.plen;omega) R1;have s1:∀g:AV->M AV,ae (cC T 3 (.hp q 10) (.int .i64 0)) g h=g (.tup []) (h.set q (bg m mp 0)):=fun g=>aX (R.put 0) g;rw[FL7_0];have hne:=ia (dL m fs) 12 f.params f.body 0;cases ht:bL (dL m fs) 12 f.params f.body 0 with
  |er b n'=>
   rw[ht]at p1;have hb0:=hne b n' ht;have hb:(b != 0)=true:=Ll.2 hb0;have k1:∀g:AV->M AV,ae (af pg 20 [.hp q 0,aN f.params,f.body.av]) g (h.set q (bg m mp 0))=g (.tup [ty0.av,.int .i64 b]) ((h.set q (bg m mp 0)).set q (bg m mp n')):=fun g=>aX p1 g;have hx:uy (dL m fs) f=b:=by unfold uy;rw[ht]
   rw[hx];dsimp only;rw[if_neg hb0];refine⟨(h.set q (bg m mp 0)).set q (bg m mp n'),?_⟩;simp[L7_0,h1,hix,s1,k1,hb];rfl
  | ok t n'=>
   rw[ht]at p1;have k1:∀g:AV->M AV,ae (af pg 20 [.hp q 0,aN f.params,f.body.av]) g (h.set q (bg m mp 0))=g (.tup [t.av,.int .i64 0]) ((h.set q (bg m mp 0)).set q (bg m mp n')):=fun g=>aX p1 g;have R2:=R1.set n';have l1:∀g:AV->M AV,ae (bY T 3 (.hp q 10)) g ((h.set q (bg m mp 0)).set q (bg m mp n'))=g (.int .i64 n') ((h.set q (bg m mp 0)).set q (bg m mp n')):=fun g=>aX R2.eff g;rw[Jw]at l1;have hbl:=iR (p2 t n' ht) hf.res;have hex:aw T .andNot 3 (.int .i64 n') (.int .i64 f.effects)=some (.int .i64 (fV n' f.effects)):=rfl;by_cases hb:cu t f.result=true
   case neg=>
    rw[LK]at hb;rw[hb]at hbl;have hx:uy (dL m fs) f=13:=by unfold uy;rw[ht];simp[hb]
    rw[hx];dsimp only;rw[if_neg (by decide)];refine⟨(h.set q (bg m mp 0)).set q (bg m mp n'),?_⟩;simp[L7_0,h1,hix,s1,k1,hbl];rfl
   case pos=>
    rw[hb]at hbl;by_cases he:fV n' f.effects=0
    ·have hx:uy (dL m fs) f=0:=by unfold uy;rw[ht];simp[hb,he]
     rw[hx];dsimp only;rw[JV rfl];obtain⟨h',e'⟩:=ih (i+1) n' _ (by omega) (by omega) R2;have e'':aj (L7_0 (af pg) aj) [.hp q 0,dK m.funcs,.int .i64 m.funcs.length,.int .i64 ((i:Int)+1)] ((h.set q (bg m mp 0)).set q (bg m mp n'))=_:=e';rw[Jw]at e'';refine⟨h',?_⟩;simp[L7_0,h1,hix,s1,k1,hbl,l1,hex,he,hw,-ov];exact e''
    ·have hx:uy (dL m fs) f=14:=by unfold uy;rw[ht];simp[hb,he]
     rw[hx];dsimp only;rw[if_neg (by decide)];have he':(fV n' f.effects != 0)=true:=Ll.2 he;refine⟨(h.set q (bg m mp 0)).set q (bg m mp n'),?_⟩;simp[L7_0,h1,hix,s1,k1,hbl,l1,hex,he',-ov];rfl
def Bg{m:Ap.Mod}(hm:m.Lim)(MK:ModOk m){fs:List Face}(K:CxOk m fs){q:Nat}{mp:AV}{h:Hp}(R:JR h q m mp fs 0):∀(k i:Nat),m.uses.length-i=k->i<=m.uses.length->
  ∃h',aj (L7_1 (af pg) aj) [.ip (ab m.av),.hp q 0,strs m.uses,.int .i64 m.uses.length,.int .i64 i] h= .ok (li (bC ((ka m fs).drop i++gQ m:: wI m fs))) h':=by
 intro k;have hul:=MK.ulen
 induction k with
 | zero=>
  intro i hk hi;have h1:¬((i:Int)<(m.uses.length:Int)):=by omega
  have h2:(ka m fs).drop i=[]:=JQ (by simp[ka];omega);have hmv:=Jn (IJ hm MK);rw[h2,Kt,bC,FL7_1];unfold li at hmv;by_cases hb:(gQ m).2=0
  ·rw[JV hb];obtain⟨h',e'⟩:=Bf hm MK K m.funcs.length 0 0 h rfl (Ki _) R;have e'':aj (L7_0 (af pg) aj) [.hp q 0,dK m.funcs,.int .i64 m.funcs.length,.int .i64 0] h= .ok (li (bC (wI m fs))) h':=e';rw[hb]at hmv;refine⟨h',?_⟩;simp[L7_1,h1,hmv,e'']
  ·rw[if_neg hb];have hb':((gQ m).2 != 0)=true:=Ll.2 hb;refine⟨h,?_⟩;simp[L7_1,h1,hmv,hb'];rfl
 | succ k ih=>
  intro i hk hi;have hlt:i<m.uses.length:=by omega
  have h1:(i:Int)<(m.uses.length:Int):=by omega
  have h2:(ka m fs).drop i=(m.uses[i],if(fs.find? fun f=>f.module== m.uses[i]).isNone||m.uses[i]== m.name then 12 else 0):: (ka m fs).drop (i+1):=by
   rw[JS (by simp[ka];exact hlt)];simp[ka]
  have hw:IntKind.i64.wrap ((i:Int)+1)=(i:Int)+1:=aS (by omega);have hix:=nO (l:=m.uses) (n:=(i:Int)) (by omega) h1;rw[JW,J1 m.uses i hlt]at hix;obtain⟨h',e'⟩:=ih (i+1) (by omega) (by omega);have e'':aj (L7_1 (af pg) aj) [.ip (ab m.av),.hp q 0,strs m.uses,.int .i64 m.uses.length,.int .i64 ((i:Int)+1)] h=_:=e';rw[h2,Kr,bC,FL7_1];generalize m.uses[i]=u at hix |-;have l1:∀g:AV->M AV,ae (bY T 63 (.hp q 9)) g h=g mp h:=fun g=>aX R.mp g;have l2:∀g:AV->M AV,ae (eh T 63 mp (.str u) true) g h=g (.tup [((fs.find? fun f=>f.module== u).getD lx).av,.bool (fs.find? fun f=>f.module== u).isSome]) h:=fun g=>aX (mG R.map u) g;simp only[bo]at e'';cases hf:fs.find? (fun f=>f.module== u)with
  |none=>
   rw[hf]at l2;refine⟨h,?_⟩;simp[L7_1,h1,hix,l1,l2,kg,li];rfl
  | some f=>
   rw[hf]at l2;by_cases hu:u=m.name
   ·subst hu;refine⟨h,?_⟩;simp[L7_1,h1,hix,l1,l2,kg,li];rfl
   ·refine⟨h',?_⟩;have hu':(u== m.name)=false:=J4.2 hu;simp[L7_1,h1,hix,l1,l2,kg,hu,hw,e'']
theorem q7(m:Ap.Mod)(hm:m.Lim)(fs:List Face)(hfs:∀f∈fs,f.Lim)(hlen:fs.length<=140737488355328):af pg 7 [m.av,faces fs]=M.pure (li (dE m fs)):=by
 have fin:∀(h:Hp)(x:aT×Int),i4 6 h (li x)=li x:=fun h x=>by
  have hc:Ap.Clean (li x):=fun g=>by simp[li,cl,df]
  exact hc.frz 6 h
 have hR:=t8 m hm;have lm:ah T 29 (.ip (ab m.av))=some m.av:=rfl;obtain⟨n1,n2⟩:=Jm m fs hfs hlen [];rw[C7,de,ll];unfold dE;cases ha:fs.all gp with
 |false=>
  obtain⟨h',e'⟩:=n2 ha;have k1:∀g:AV->M AV,ae (af pg 18 [m.av,faces fs]) g []=g (.tup [.nilp,.bool false]) h':=fun g=>aX e' g;refine bV (v:=li ([],1)) (h':=h') ?_ (fin _ _);simp only[bo]at lm;simp[S7,k1,lm];rfl
 | true=>
  have e1:=n1 ha;have k1:∀g:AV->M AV,ae (af pg 18 [m.av,faces fs]) g []=g (.tup [.hp 1 0,.bool true]) ([]++[[.tup (cg (cW [] fs))],bg m (.mp 0) 0]):=fun g=>aX e1 g;cases hr:aZ m with
  |false=>
   rw[hr]at hR;refine bV (v:=li ([],1)) (h':=[]++[[.tup (cg (cW [] fs))],bg m (.mp 0) 0]) ?_ (fin _ _);simp only[bo]at lm;simp[S7,k1,lm,hR];rfl
  | true=>
   rw[hr]at hR;have MK:=kT hr;have hdm:∀f∈cW [] fs,f∈fs:=fun f hf=>by
    rcases qA fs [] f hf with h|h
    ·cases h
    ·exact h
   have K:CxOk m (cW [] fs):=It MK (fun f hf=>hfs f (hdm f hf)) (fun f hf=>J6.1 ha f (hdm f hf));have R:JR ([]++[[.tup (cg (cW [] fs))],bg m (.mp 0) 0]) 1 m (.mp 0) (cW [] fs) 0:=⟨rfl,.inr ⟨0,rfl,rfl⟩,by simp⟩;obtain⟨h',e'⟩:=Bg hm MK K R m.uses.length 0 rfl (Ki _);have e'':aj (L7_1 (af pg) aj) [.ip (ab m.av),.hp 1 0,strs m.uses,.int .i64 m.uses.length,.int .i64 0] ([]++[[.tup (cg (cW [] fs))],bg m (.mp 0) 0])= .ok (li (bC (ka m (cW [] fs)++gQ m:: wI m (cW [] fs)))) h':=e';simp only[bo]at lm e'';simp only[MN,J0];refine bV (v:=li (bC (ka m (cW [] fs)++gQ m:: wI m (cW [] fs)))) (h':=h') ?_ (fin _ _);rw[<- e''];simp[S7,k1,lm,hR]
end Go.Proofs.YtblddnfanlkgiaaGreat
namespace Go.Proofs.YtblddnfanlkgiaaGreat.Mg
open Go Go.Av Go.Av.Ap
set_option maxRecDepth 100000
theorem hJ{α:Type}(nm:α->aT)(same:α->α->Bool)(a b c:List α){x:α}:∀(xs out:List α)(done:List aT),x∈(bK nm same a b c xs out done).1->x∈out\/x∈b\/x∈c
 |[],out,_,h=>.inl h
 | y :: xs,out,done,h=>by
  unfold bK at h;split at h
  ·exact hJ nm same a b c xs out done h
  ·split at h
   ·rcases hJ nm same a b c xs _ _ h with h|h
    ·rcases J3.1 h with h|h
     ·exact .inl h
     ·exact .inr (.inr (bZ nm h).1)
    ·exact .inr h
   ·split at h
    ·rcases hJ nm same a b c xs _ _ h with h|h
     ·rcases J3.1 h with h|h
      ·exact .inl h
      ·exact .inr (.inl (bZ nm h).1)
     ·exact .inr h
    ·cases h
def kS{α:Type}(nm:α->aT)(same:α->α->Bool)(a b c:List α){x:α}(h:x∈(a7 nm same a b c).1):x∈b\/x∈c:=by
 rcases hJ nm same a b c _ _ _ h with h|h
 ·cases h
 ·exact h
theorem qV(l:List Vr){x:Vr}:∀(fs:List bI)(out:List Vr),x∈(cS l fs out).1->x∈out\/x∈l
 |[],out,h=>.inl h
 | f :: fs,out,h=>by
  unfold cS at h;split at h
  ·cases h
  ·rename_i v hv;rcases qV l fs _ h with h|h
   ·rcases J3.1 h with h|h
    ·exact .inl h
    ·rw[Le]at h;subst h;exact .inr (K3 hv)
   ·exact .inr h
def jQ:jP.Lim:=by
 constructor<;>simp[jP]
def uq{name:aT}{uses:List aT}{l:List Vr}{fs:List Fun}{mv:Bool}{g:Mig}(hu:uses.length<=1000000)(hl:l.length<=1000000)(hv:∀x∈l,x.1.2.Lim/\x.2.Lim)(hf:fs.length<=1000000)(hfl:∀f∈fs,f.Lim)(hg:MigLim g):(iL name uses l fs mv g).Lim where
 uses:=by show uses.length<=_;omega
 vars:=by show (l.map Prod.fst).length<=_;rw[KI];omega
 vty:=fun x hx=>by
  obtain⟨y,hy,rfl⟩:=Kq.1 (show x∈l.map Prod.fst from hx);exact (hv y hy).1
 init:=by show (l.map Prod.snd).length<=_;rw[KI];omega
 ies:=fun x hx=>by
  obtain⟨y,hy,rfl⟩:=Kq.1 (show x∈l.map Prod.snd from hx);exact (hv y hy).2
 funcs:=by show fs.length<=_;omega
 fns:=hfl
 old:=hg.old
 oty:=hg.oty
 forward:=hg.forward
 fes:=hg.fes
 back:=hg.back
 bes:=hg.bes
def pf{base mine theirs:Mod}(hb:Sm base)(hm:Sm mine)(ht:Sm theirs):(dq base mine theirs).1.Lim:=by
 unfold dq;simp only;split
 ·exact jQ
 split
 ·exact jQ
 have hu:=i8 (fun s:aT=>s) (fun x y=>x== y) base.uses mine.uses theirs.uses;have hv:=i8 kB gV (varsOf base) (varsOf mine) (varsOf theirs);have hvm:∀x∈(a7 kB gV (varsOf base) (varsOf mine) (varsOf theirs)).1,x.1.2.Lim/\x.2.Lim:=fun x hx=>by
  rcases kS kB gV _ _ _ hx with h|h
  ·exact kb hm.lim h
  ·exact kb ht.lim h
 have hf:=i8 Fun.name fO base.funcs mine.funcs theirs.funcs;have hfm:∀x∈(a7 Fun.name fO base.funcs mine.funcs theirs.funcs).1,x.Lim:=fun x hx=>by
  rcases kS Fun.name fO _ _ _ hx with h|h
  ·exact hm.lim.fns x h
  ·exact ht.lim.fns x h
 have b1:=hb.uses;have b2:=hm.uses;have b3:=ht.uses;have c1:=hb.funcs;have c2:=hm.funcs;have c3:=ht.funcs;have d1:=iK base;have d2:=iK mine;have d3:=iK theirs;have e1:=hb.vars;have e2:=hm.vars;have e3:=ht.vars;unfold qX;simp only;split
 ·exact jQ
 split
 ·exact jQ
 split
 ·exact uq (by omega) (by omega) hvm (by omega) hfm ⟨by simp,by simp,by simp,by simp,by simp,by simp⟩
 ·rename_i g t hg;have hgl:MigLim g:=by
   have:g∈(a7 (fun _=>AW) eM (cb base) (cb mine) (cb theirs)).1:=by rw[hg];exact KX
   rcases kS (fun _=>AW) eM _ _ _ this with h|h
   ·exact jR hm.lim h
   ·exact jR ht.lim h
  have hfr:(if(mine.moves&&eM ⟨mine.old,mine.forward,mine.back⟩ g)=true then mine else theirs).vars.length<=1000:=by split<;>assumption
  generalize (if(mine.moves&&eM ⟨mine.old,mine.forward,mine.back⟩ g)=true then mine else theirs)=fr at hfr |-;split
  ·exact jQ
  ·have ho:=mM (a7 kB gV (varsOf base) (varsOf mine) (varsOf theirs)).1 fr.vars [];rw[J8]at ho;refine uq (by omega) (by omega) (fun x hx=>?_) (by omega) hfm hgl;rcases qV _ _ _ hx with h|h
   ·cases h
   ·exact hvm x h
def l9{m:Mod}(hm:m.Lim)(h:aZ m=true):Sm m:=by
 have:=kT h
 exact⟨hm,by have:=this.vlen;omega,this.ilen,by have:=this.ulen;omega,by have:=this.flen;omega⟩
def bO(base mine theirs:Mod)(fs:List Face):Mod×aT×Int:=
 if(!aZ base||!aZ mine||!aZ theirs||(mine.name != base.name)||(theirs.name != base.name))=true then(jP,[],1)
 else if(dq base mine theirs).2.2=false then(jP,(dq base mine theirs).2.1,27)
 else if aZ (dq base mine theirs).1=false then(jP,[],6)
 else if((dE (dq base mine theirs).1 fs).2 != 0)=true then(jP,(dE (dq base mine theirs).1 fs).1,(dE (dq base mine theirs).1 fs).2)
 else((dq base mine theirs).1,[],0)
def Jb(r:Mod×aT×Int):AV:=.tup [r.1.av,.str r.2.1,.int .i64 r.2.2]
theorem q6(base mine theirs:Mod)(fs:List Face)(hb:base.Lim)(hm:mine.Lim)(ht:theirs.Lim)(hfs:∀f∈fs,f.Lim)(hlen:fs.length<=140737488355328):af pg 6 [base.av,mine.av,theirs.av,faces fs]=M.pure (Jb (bO base mine theirs fs)):=by
 have r1:=t8 base hb;have r2:=t8 mine hm;have r3:=t8 theirs ht;have f0:∀cs,aa T 29 (.ip cs) 0=some (.ip (cs.drop 0)):=fun _=>rfl;have l0:∀m:Mod,ah T 9 (.ip ((ab m.av).drop 0))=some (.str m.name):=fun m=>by simp
 have lm:∀m:Mod,ah T 29 (.ip (ab m.av))=some m.av:=fun m=>by simp
 have nq:∀x y:aT,aw T .neq 9 (.str x) (.str y)=some (.bool (x != y)):=fun _ _=>rfl;have ne:∀x y:Int,aw T .neq 33 (.int .i64 x) (.int .i64 y)=some (.bool (x != y)):=fun _ _=>rfl;rw[C6,de,de,de,ll];have e:S6 (af pg) aj base.av mine.av theirs.av (faces fs)=M.pure (Jb (bO base mine theirs fs)):=by
  unfold bO;simp -implicitDefEqProofs only[S6,lm,am,r1,r2,r3,aG,cj,f0,l0,nq,ci,az,py,ao,jb,d7];cases hc:(!aZ base||!aZ mine||!aZ theirs||(mine.name != base.name)||(theirs.name != base.name))with
  |true=>simp -implicitDefEqProofs only[J0];rfl
  | false=>
   have hr:aZ base=true/\aZ mine=true/\aZ theirs=true:=by
    simp only[Lp,LF]at hc;exact⟨hc.1.1.1.1,hc.1.1.1.2,hc.1.1.2⟩
   have hmg:=t17 base mine theirs (l9 hb hr.1) (l9 hm hr.2.1) (l9 ht hr.2.2);have hml:=pf (l9 hb hr.1) (l9 hm hr.2.1) (l9 ht hr.2.2);generalize dq base mine theirs=x at *;obtain⟨m,s,b⟩:=x;have r4:=t8 m hml;have hck:=q7 m hml fs hfs hlen;have ht3:um (m,s,b)= .tup [m.av,.str s,.bool b]:=rfl;rw[ht3]at hmg;simp -implicitDefEqProofs only[JL,JZ,hmg,aG,dn,Kd,KO,am,oz,cj,ao,lm,r4];cases b with
   |false=>simp -implicitDefEqProofs only[K6,J0];rfl
   | true=>
    simp -implicitDefEqProofs only[Kx,JL,Ln,JZ];cases hr4:aZ m with
    |false=>simp -implicitDefEqProofs only[K6,J0];rfl
    |true=>
     simp -implicitDefEqProofs only[Kx,JL,Ln,JZ,hck,aG,li,dn,Kd,KO,am,ne,ao];cases ((dE m fs).2 != 0)<;>rfl
 rw[e];exact ba fun g=>by
  show AV.tup [cl g (Mod.av _),.str _,.int .i64 _]=_;rw[de];rfl
def gW:∀x y:aT,(fun s:aT=>s) x=(fun s:aT=>s) y->((x== y)=true↔x=y):=fun x y _=>Kw
def jl:∀x y:Vr,kB x=kB y->(gV x y=true↔x=y):=fun x y h=>by
 obtain⟨⟨s,t⟩,e⟩:=x;obtain⟨⟨s',t'⟩,e'⟩:=y;have h':s=s':=h;subst h';simp only[gV,JN,ku,mQ,Ku,MM]
def jk:∀x y:Fun,x.name=y.name->(fO x y=true↔x=y):=fun x y h=>by
 obtain⟨n,p,ps,r,ef,b⟩:=x;obtain⟨n',p',ps',r',ef',b'⟩:=y;have h':n=n':=h;subst h';simp only[fO,pJ,JN,Kw,vS,ku,mQ,Fun.mk.injEq,MM,and_assoc]
def pk{m:Mod}(h:m.moves=false):cb m=[]:=by unfold cb;rw[h];rfl
abbrev mU(a b c:Mod):=a7 (fun s:aT=>s) (fun x y=>x== y) a.uses b.uses c.uses
abbrev mV(a b c:Mod):=a7 kB gV (varsOf a) (varsOf b) (varsOf c)
abbrev mF(a b c:Mod):=a7 Fun.name fO a.funcs b.funcs c.funcs
def fY(a b c:Mod):Bool:=(mU a b c).2.2&&(mV a b c).2.2&&(mF a b c).2.2
theorem lN{a b c:Mod}(ha:a.moves=false)(hb:b.moves=false)(hc:c.moves=false):(dq a b c).2.2=fY a b c/\(fY a b c=true->(dq a b c).1=eX a.name (mU a b c).1 (mV a b c).1 (mF a b c).1):=by
 unfold dq qX fY;rw[pk ha,pk hb,pk hc];have hm:a7 (fun _:Mig=>AW) eM [] [] []=([],[],true):=rfl;simp only[hm];cases h1:(mU a b c).2.2 with
 |false=>simp[h1]
 | true=>
  cases h2:(mV a b c).2.2 with
  |false=>simp[h1,h2]
  |true=>
   cases h3:(mF a b c).2.2 with
   |false=>simp[h1,h2,h3]
   |true=>simp[h1,h2,h3];rfl
def r5(a b c:Mod):fY a b c=fY a c b:=by
 unfold fY;rw[hM gW,hM jl,hM jk]
def pre(a b c:Mod):Bool:=!aZ a||!aZ b||!aZ c||(b.name != a.name)||(c.name != a.name)
def Ah(a b c:Mod):pre a b c=pre a c b:=by
 unfold pre;cases aZ a<;>cases aZ b<;>cases aZ c<;>cases (b.name != a.name)<;>cases (c.name != a.name)<;>rfl
def hQ{a b c:Mod}(ha:a.moves=false)(hb:b.moves=false)(hc:c.moves=false)(F:List Face):
  ((bO a b c F).2.2=27↔pre a b c=false/\fY a b c=false)/\
  ((bO a b c F).2.2=0↔pre a b c=false/\fY a b c=true/\aZ (eX a.name (mU a b c).1 (mV a b c).1 (mF a b c).1)=true/\(dE (eX a.name (mU a b c).1 (mV a b c).1 (mF a b c).1) F).2=0)/\
  ((bO a b c F).2.2=0->(bO a b c F).1=eX a.name (mU a b c).1 (mV a b c).1 (mF a b c).1):=by
 obtain⟨h1,h2⟩:=lN ha hb hc;have h27:=zp (dq a b c).1 F;unfold bO;show ((if pre a b c=true then _ else _:Mod×aT×Int).2.2=27↔_)/\((if pre a b c=true then _ else _:Mod×aT×Int).2.2=0↔_)/\((if pre a b c=true then _ else _:Mod×aT×Int).2.2=0->(if pre a b c=true then _ else _:Mod×aT×Int).1=_);cases hp:pre a b c with
 |true=>simp
 | false=>
  rw[h1];cases ho:fY a b c with
  |false=>simp
  | true=>
   have hm:=h2 ho;rw[hm]at h27 |-;generalize eX a.name (mU a b c).1 (mV a b c).1 (mF a b c).1=m at *;cases hr:aZ m with
   |false=>simp
   | true=>
    by_cases hk:(dE m F).2=0
    ·simp[hk]
    ·have hk':((dE m F).2 != 0)=true:=by simp[hk]
     simp[hk,h27]
def vJ{a b c:Mod}(h:fY a b c=true):(mU a b c).1.Perm (mU a c b).1/\(mV a b c).1.Perm (mV a c b).1/\(mF a b c).1.Perm (mF a c b).1:=by
 have h':fY a c b=true:=by rw[<- r5];exact h
 unfold fY at h h';simp only[JN]at h h';refine⟨?_,?_,?_⟩
 ·exact eb (b9 h.1.1).1 (b9 h'.1.1).1 (cR gW h.1.1)
 ·exact eb (b9 h.1.2).1 (b9 h'.1.2).1 (cR jl h.1.2)
 ·exact eb (b9 h.2).1 (b9 h'.2).1 (cR jk h.2)
def yy{a b c:Mod}(ha:a.moves=false)(hb:b.moves=false)(hc:c.moves=false)(F:List Face):
  ((bO a b c F).2.2=27↔(bO a c b F).2.2=27)/\((bO a b c F).2.2=0↔(bO a c b F).2.2=0):=by
 obtain⟨x1,x2,_⟩:=hQ ha hb hc F;obtain⟨y1,y2,_⟩:=hQ ha hc hb F;rw[x1,x2,y1,y2,Ah a b c,r5 a b c];refine⟨Iff.rfl,?_⟩;cases ho:fY a c b with
 |false=>simp
 |true=>
  obtain⟨p1,p2,p3⟩:=vJ (a:=a) (b:=b) (c:=c) (by rw[r5];exact ho);have hr:aZ (eX a.name (mU a b c).1 (mV a b c).1 (mF a b c).1)=aZ (eX a.name (mU a c b).1 (mV a c b).1 (mF a c b).1):=kW p1 p2 p3;rw[hr,oB p1 p2 p3 F]
def BX{m:Mod}(h:aZ m=true)(hm:m.moves=false):m=eX m.name m.uses (varsOf m) m.funcs:=by
 have ho:=kT h;have hi:=ho.ilen;simp only[aZ,nC,JN,hm,Bool.false_or,Kj,Kw]at h;obtain⟨_,_,⟨⟨_,h1⟩,⟨⟨_,h2⟩,_,h3⟩⟩⟩:=h;have e1:m.old=[]:=LX.1 h1;have e2:m.forward=[]:=LX.1 (by simp at h2;rw[h2.2];rfl);have e3:m.back=[]:=LX.1 (by rw[e1]at h3;simpa using h3);have e4:(varsOf m).map Prod.fst=m.vars:=MD (by omega);have e5:(varsOf m).map Prod.snd=m.init:=List.map_snd_zip (by omega);unfold eX;rw[e4,e5];obtain⟨n,u,v,i,f,mv,o,fw,bk⟩:=m;simp only at e1 e2 e3 hm;subst e1 e2 e3 hm;rfl
def tK{m:Mod}(h:aZ m=true):(m.uses.map fun s:aT=>s).Nodup/\((varsOf m).map kB).Nodup/\(m.funcs.map Fun.name).Nodup:=by
 have ho:=kT h;refine⟨?_,?_,ho.fnames⟩
 ·rw[List.map_id'];simp only[aZ,JN]at h;exact ((lT _ _).1 h.1).2
 ·have e:(varsOf m).map kB=m.vars.map (·.1):=by
   have e4:(varsOf m).map Prod.fst=m.vars:=MD (by have:=ho.ilen;omega);rw[<- e4,List.map_map];rfl
  rw[e];exact ho.vnames
def ri{a b c:Mod}(ha:a.moves=false)(hb:b.moves=false)(hc:c.moves=false)(ra:aZ a=true)(rb:aZ b=true)(rc:aZ c=true)(n1:b.name=a.name)(n2:c.name=a.name)(F:List Face)(hk:(dE b F).2=0)(hU:(mU a b c).2.2=true/\∀s,aC (fun s:aT=>s) (mU a b c).1 s=aC (fun s:aT=>s) b.uses s)(hV:(mV a b c).2.2=true/\∀s,aC kB (mV a b c).1 s=aC kB (varsOf b) s)(hF:(mF a b c).2.2=true/\∀s,aC Fun.name (mF a b c).1 s=aC Fun.name b.funcs s):
  (bO a b c F).2.2=0/\(bO a b c F).1=eX a.name (mU a b c).1 (mV a b c).1 (mF a b c).1:=by
 obtain⟨_,x2,x3⟩:=hQ ha hb hc F;obtain⟨d1,d2,d3⟩:=tK rb;have p1:=eb (b9 hU.1).1 d1 hU.2;have p2:=eb (b9 hV.1).1 d2 hV.2;have p3:=eb (b9 hF.1).1 d3 hF.2;have e:=BX rb hb;have h0:(bO a b c F).2.2=0:=x2.2 ⟨by unfold pre;simp[ra,rb,rc,n1,n2],by unfold fY;simp[hU.1,hV.1,hF.1],by
   have:aZ (eX a.name (mU a b c).1 (mV a b c).1 (mF a b c).1)=aZ (eX a.name b.uses (varsOf b) b.funcs):=kW p1 p2 p3;rw[this,<- n1,<- e];exact rb,by
   rw[oB p1 p2 p3 F,<- n1,<- e];exact hk⟩
 exact⟨h0,x3 h0⟩
def yw{a b:Mod}(ha:a.moves=false)(hb:b.moves=false)(ra:aZ a=true)(rb:aZ b=true)(n1:b.name=a.name)(F:List Face)(hk:(dE b F).2=0):
  (bO a b a F).2.2=0/\(bO a b a F).1=eX a.name (mU a b a).1 (mV a b a).1 (mF a b a).1:=
 ri ha hb ha ra rb ra n1 rfl F hk (eT gW _ _) (eT jl _ _) (eT jk _ _)
def yx{a b:Mod}(ha:a.moves=false)(hb:b.moves=false)(ra:aZ a=true)(rb:aZ b=true)(n1:b.name=a.name)(F:List Face)(hk:(dE b F).2=0):
  (bO a b b F).2.2=0/\(bO a b b F).1=eX a.name (mU a b b).1 (mV a b b).1 (mF a b b).1:=
 ri ha hb hb ra rb rb n1 n1 F hk (eU gW _ _) (eU jl _ _) (eU jk _ _)
end Go.Proofs.YtblddnfanlkgiaaGreat.Mg
namespace Go.Proofs.YtblddnfanlkgiaaGreat
open Go Go.Av Go.Av.Ap
set_option maxRecDepth 100000
def oN{F:(List AV->M AV)->List AV->M AV}(hF:∀vs,aj F vs=F (aj F) vs)(st:Nat->List AV)(n:Nat)(hend:F (aj F) (st n)=M.pure (.bool true))(hstep:∀k,k<n->F (aj F) (st k)=aj F (st (k+1))):aj F (st 0)=M.pure (.bool true):=by
 have h:=wG hF st n (fun _=>true) hend (fun k hk=>by rw[JV rfl];exact hstep k hk) 0 (Ki _);rw[h];congr 2;simp
@[simp] theorem sy(t:Nat)(a b:aT):aw T .neq t (.str a) (.str b)=some (.bool !(a== b)):=rfl
def t78(l:List aT)(hb:l.length<=4611686018427387904):af pg 78 [strs l,strs l]=M.pure (.bool true):=by
 have h:=oN (FL78_0 (af pg)) (fun k=>[strs l,strs l,.int .i64 (k:Int)]) l.length (by simp[L78_0]) (fun k hk=>by
  have h1:(k:Int)<(l.length:Int):=by omega
  have hix:=nO (l:=l) (n:=(k:Int)) (by omega) h1;have hw:IntKind.i64.wrap ((k:Int)+1)=((k+1:Nat):Int):=aS (by omega);simp only[L78_0,az,aB,jy,am,aF,h1,Kf,ao,J0,hix,dD,LD9,sy,Lr,Kx,JL,JZ,aU,hw])
 have h':aj (L78_0 (af pg) aj) [strs l,strs l,.int .i64 0]=M.pure (.bool true):=h;rw[C78];simp[S78,h']
def t33(l:List Exp)(hb:l.length<=4611686018427387904)(hk:∀e∈l,af pg 30 [e.av,e.av]=M.pure (.bool true)):af pg 33 [bp l,bp l]=M.pure (.bool true):=by
 have h:=oN (FL33_0 (af pg)) (fun k=>[bp l,bp l,.int .i64 (k:Int)]) l.length (by simp[L33_0]) (fun k hk'=>by
  have h1:(k:Int)<(l.length:Int):=by omega
  have hix:=jx (l:=l) (n:=(k:Int)) (by omega) h1;rw[JW,J1 l k hk']at hix;have hm:=hk _ (JP hk');have hw:IntKind.i64.wrap ((k:Int)+1)=((k+1:Nat):Int):=aS (by omega);generalize l[k]=e at hix hm;simp only[L33_0,az,aB,yF,am,aF,h1,Kf,ao,J0,hix,cn,LD46,Ke,J8,Ko,Nat.reduceAdd,JO,KE,KM,eC,hm,cd,aG,cj,Kx,JL,JZ,aU,hw])
 have h':aj (L33_0 (af pg) aj) [bp l,bp l,.int .i64 0]=M.pure (.bool true):=h;rw[C33];simp[S33,h']
def zI{e:Exp}{x:Exp}(h:x∈e.args):SizeOf.sizeOf x<SizeOf.sizeOf e:=by
 cases e with
 |mk o n s m ns es=>
  have:=Ld (show x∈es from h)
  simp only[Exp.mk.sizeOf_spec];omega
def t30:∀(n:Nat)(e:Exp),SizeOf.sizeOf e<=n->e.Lim->af pg 30 [e.av,e.av]=M.pure (.bool true):=by
 intro n
 induction n with
 |zero=>intro e h;cases e;simp at h
 |succ n ih=>
  intro e hs he;have h1:=t78 e.names (by have:=he.names;omega);have h2:=t33 e.args (by have:=he.len;omega) (fun x hx=>ih x (by have:=zI hx;omega) (he.kid hx));rw[C30];simp[S30,h1,h2]
def t32(l:List bI)(hb:l.length<=4611686018427387904)(hk:∀f∈l,af pg 29 [f.2.av,f.2.av]=M.pure (.bool true)):af pg 32 [aN l,aN l]=M.pure (.bool true):=by
 have h:=oN (FL32_0 (af pg)) (fun k=>[aN l,aN l,.int .i64 (k:Int)]) l.length (by simp[L32_0]) (fun k hk'=>by
  have h1:(k:Int)<(l.length:Int):=by omega
  have hix:=iM (l:=l) (n:=(k:Int)) (by omega) h1;rw[JW,J1 l k hk']at hix;have hm:=hk _ (JP hk');have hw:IntKind.i64.wrap ((k:Int)+1)=((k+1:Nat):Int):=aS (by omega);generalize l[k]=f at hix hm;simp only[L32_0,az,aB,og,am,aF,h1,Kf,ao,J0,hix,eG,FA51_0,FA51_1,KG,Lk,LD9,sy,Lr,Kx,cy,LD44,Ke,J8,Ko,Nat.reduceAdd,JO,KE,KM,ff,hm,cd,aG,cj,cN,JL,JZ,aU,hw])
 have h':aj (L32_0 (af pg) aj) [aN l,aN l,.int .i64 0]=M.pure (.bool true):=h;rw[C32];simp[S32,h']
def Cv{t:Ty}{f:bI}(h:f∈t.fields):SizeOf.sizeOf f.2<SizeOf.sizeOf t:=by
 cases t with
 |mk k fs=>
  have h1:=Ld (show f∈fs from h);obtain⟨a,b⟩:=f;simp only[LP]at h1;simp only[Ty.mk.sizeOf_spec];omega
def t29:∀(n:Nat)(t:Ty),SizeOf.sizeOf t<=n->t.Lim->af pg 29 [t.av,t.av]=M.pure (.bool true):=by
 intro n
 induction n with
 |zero=>intro t h;cases t;simp at h
 |succ n ih=>
  intro t hs ht;have h2:=t32 t.fields (by have:=ht.len;omega) (fun f hf=>ih f.2 (by have:=Cv hf;omega) (ht.kid hf));rw[C29];simp[S29,h2]
theorem t31(f:Fun)(hf:f.Lim):af pg 31 [f.av,f.av]=M.pure (.bool true):=by
 have h1:=t32 f.params (by have:=hf.params;omega) (fun x hx=>t29 _ x.2 (JO _) (hf.pty x hx));have h2:=t29 _ f.result (JO _) hf.result;have h3:=t30 _ f.body (JO _) hf.body;have hb:aw T .eql 4 (.bool f.pub) (.bool f.pub)=some (.bool (f.pub== f.pub)):=rfl;rw[C31];simp[S31,h1,h2,h3,hb]
end Go.Proofs.YtblddnfanlkgiaaGreat
namespace Go.Proofs.YtblddnfanlkgiaaGreat.Mg
open Go Go.Av Go.Av.Ap
set_option maxRecDepth 100000
theorem E0(l:List aT)(s:aT)(hb:l.length<=1000000):∀(n i:Nat),l.length-i=n->i<=l.length->aj (L28_0 (af pg) aj) [strs l,.str s,.int .i64 i]=M.pure (.int .i64 (be (fun x=>x== s) (l.drop i) i)):=by
 intro n
 induction n with
 |zero=>
  intro i hn hi;rw[FL28_0];have h1:¬((i:Int)<(l.length:Int)):=by omega
  have h2:l.drop i=[]:=JQ (by omega);simp[L28_0,h1,h2,be]
 | succ n ih=>
  intro i hn hi;have hlt:i<l.length:=by omega
  have h1:(i:Int)<(l.length:Int):=by omega
  have h2:l.drop i=l[i]:: l.drop (i+1):=JS hlt;have h4:=ih (i+1) (by omega) (by omega);have hw:IntKind.i64.wrap ((i:Int)+1)=((i+1:Nat):Int):=aS (by omega);have hix:=nO (l:=l) (n:=(i:Int)) (by omega) h1;rw[JW,J1 l i hlt]at hix;rw[h2,FL28_0];generalize l[i]=c at hix;simp only[be];have es:aw T .eql 9 (.str c) (.str s)=some (.bool (c== s)):=rfl;simp -implicitDefEqProofs only[L28_0,az,aB,jy,am,aF,h1,Kf,ao,J0,hix,dD,LD9,es];by_cases hc:(c== s)=true
  ·simp only[hc,J0]
  ·simp only[hc,JZ,aU,am,hw,h4,JL];rw[show ((i+1:Nat):Int)=(i:Int)+1 by omega]
def t28(l:List aT)(s:aT)(hb:l.length<=1000000):af pg 28 [strs l,.str s]=M.pure (.int .i64 (be (fun x=>x== s) l 0)):=by
 rw[C28];have h:=E0 l s hb l.length 0 rfl (Ki _);rw[KG]at h;have h':aj (L28_0 (af pg) aj) [strs l,.str s,.int .i64 0]=M.pure (.int .i64 (be (fun x=>x== s) l 0)):=h;simp[S28,h']
theorem EZ(l:List aT)(s:aT)(hb:l.length<=1000000):∀(n i:Nat),l.length-i=n->i<=l.length->aj (L27_0 (af pg) aj) [strs l,.str s,.int .i64 i]=M.pure (.bool ((l.drop i).contains s)):=by
 intro n
 induction n with
 |zero=>
  intro i hn hi;rw[FL27_0];have h1:¬((i:Int)<(l.length:Int)):=by omega
  have h2:l.drop i=[]:=JQ (by omega);simp[L27_0,h1,h2]
 |succ n ih=>
  intro i hn hi;have hlt:i<l.length:=by omega
  have h1:(i:Int)<(l.length:Int):=by omega
  have h2:l.drop i=l[i]:: l.drop (i+1):=JS hlt;have h4:=ih (i+1) (by omega) (by omega);have hw:IntKind.i64.wrap ((i:Int)+1)=((i+1:Nat):Int):=aS (by omega);have hix:=nO (l:=l) (n:=(i:Int)) (by omega) h1;rw[JW,J1 l i hlt]at hix;rw[h2,FL27_0];generalize l[i]=c at hix;have es:aw T .eql 9 (.str c) (.str s)=some (.bool (c== s)):=rfl;rw[List.contains_cons,BEq.comm];simp -implicitDefEqProofs only[L27_0,az,aB,jy,am,aF,h1,Kf,ao,J0,hix,dD,LD9,es];cases hc:(c== s)with
  |true=>simp
  |false=>simp only[JL,JZ,aU,am,hw,h4,Bool.false_or]
def t27(l:List aT)(s:aT)(hb:l.length<=1000000):af pg 27 [strs l,.str s]=M.pure (.bool (l.contains s)):=by
 rw[C27];have h:=EZ l s hb l.length 0 rfl (Ki _);rw[KG]at h;have h':aj (L27_0 (af pg) aj) [strs l,.str s,.int .i64 0]=M.pure (.bool (l.contains s)):=h;simp[S27,h']
theorem HO(s:aT):aK T 22 1 [(0,.str s)]=some (strs [s]):=rfl
def G7(l:List aT)(hb:l.length<=100000):∀(n i:Nat),l.length-i=n->i<=l.length->∀out:List aT,out.length<=i->aj (L9_0 (af pg) aj) [strs out,strs l,.int .i64 i]=M.pure (strs (fh (l.drop i) out)):=by
 intro n
 induction n with
 |zero=>
  intro i hn hi out ho;rw[FL9_0];have h1:¬((i:Int)<(l.length:Int)):=by omega
  have h2:l.drop i=[]:=JQ (by omega);simp[L9_0,h1,h2,fh]
 |succ n ih=>
  intro i hn hi out ho;have hlt:i<l.length:=by omega
  have h1:(i:Int)<(l.length:Int):=by omega
  have h2:l.drop i=l[i]:: l.drop (i+1):=JS hlt;have h4:=ih (i+1) (by omega) (by omega);have hw:IntKind.i64.wrap ((i:Int)+1)=((i+1:Nat):Int):=aS (by omega);have hix:=nO (l:=l) (n:=(i:Int)) (by omega) h1;rw[JW,J1 l i hlt]at hix;rw[h2,FL9_0];generalize l[i]=c at hix;have hh:=t27 out c (by omega);have hap:=oc (a:=out) (b:=[c]) (by simp;omega);simp only[fh];simp -implicitDefEqProofs only[L9_0,az,aB,jy,am,aF,h1,Kf,ao,J0,hix,dD,LD9,hh,aG,cj];cases hc:out.contains c with
  |true=>simp only[Kx,JL,JZ,J0,K9_0,jn,az,aB,aU,am,hw,h4 out (by omega)]
  |false=>simp only[K6,JL,JZ,J0,K9_0,jn,az,aB,HO,am,hap,aU,hw,h4 (out++[c]) (by simp;omega)]
theorem t9(a b c:List aT)(ha:a.length<=1000)(hb:b.length<=1000)(hc:c.length<=1000):af pg 9 [strs a,strs b,strs c]=M.pure (strs (fh (a++(b++c)) [])):=by
 rw[C9];have h:=G7 (a++(b++c)) (by simp;omega) _ 0 rfl (Ki _) [] (JO _);have h':aj (L9_0 (af pg) aj) [AV.sl [],strs (a++(b++c)),.int .i64 0]=M.pure (strs (fh (a++(b++c)) [])):=h;have b0:aK T 22 0 []=some (strs []):=rfl;have a1:=oc (a:=[]) (b:=a) (by simp;omega);have a2:=oc (a:=a) (b:=b) (by omega);have a3:=oc (a:=a++b) (b:=c) (by simp;omega);rw[Kt]at a1;rw[KL]at a3;simp -implicitDefEqProofs only[S9,kf,b0,am,a1,a2,a3,h'];exact ba fun g=>kf g _
def cM(m:Mod):Nat->List aT
 |0=>m.uses
 |1=>m.vars.map (·.1)
 |_=>m.funcs.map Fun.name
theorem BM(m:Mod)(hb:m.vars.length<=1000):∀(n i:Nat),m.vars.length-i=n->i<=m.vars.length->aj (L10_0 (af pg) aj) [.ip (ab m.av),strs ((m.vars.take i).map (·.1)),.int .i64 i]=M.pure (strs (m.vars.map (·.1))):=by
 intro n
 induction n with
 |zero=>
  intro i hn hi;obtain rfl:i=m.vars.length:=by omega
  rw[FL10_0];have h1:¬((m.vars.length:Int)<(m.vars.length:Int)):=by omega
  simp[L10_0,h1]
 |succ n ih=>
  intro i hn hi;have hlt:i<m.vars.length:=by omega
  have h1:(i:Int)<(m.vars.length:Int):=by omega
  have h4:=ih (i+1) (by omega) (by omega);have hw:IntKind.i64.wrap ((i:Int)+1)=((i+1:Nat):Int):=aS (by omega);have hix:=iM (l:=m.vars) (n:=(i:Int)) (by omega) h1;rw[JW,J1 m.vars i hlt]at hix;rw[Ml,Ka hlt,Option.toList_some,Lo,Ks,Mt]at h4;have hap:=oc (a:=(m.vars.take i).map (·.1)) (b:=[m.vars[i].1]) (by simp;omega);rw[FL10_0];generalize m.vars[i]=f at *;have f1:∀cs,aa T 29 (.ip cs) 2=some (.ip (cs.drop 2)):=fun _=>rfl;have l1:ah T 23 (.ip ((ab m.av).drop 2))=some (aN m.vars):=by simp
  have f2:aa T 51 (.ip (ab (bi f))) 0=some (.ip (ab (bi f))):=rfl;have l2:ah T 9 (.ip (ab (bi f)))=some (.str f.1):=by simp
  simp -implicitDefEqProofs only[L10_0,az,aB,f1,am,l1,og,aF,h1,Kf,ao,J0,hix,f2,l2,HO,hap,aU,hw,h4]
theorem rR(m:Mod)(hb:m.funcs.length<=1000):∀(n i:Nat),m.funcs.length-i=n->i<=m.funcs.length->aj (L10_1 (af pg) aj) [.ip (ab m.av),strs ((m.funcs.take i).map Fun.name),.int .i64 i]=M.pure (strs (m.funcs.map Fun.name)):=by
 intro n
 induction n with
 |zero=>
  intro i hn hi;obtain rfl:i=m.funcs.length:=by omega
  rw[FL10_1];have h1:¬((m.funcs.length:Int)<(m.funcs.length:Int)):=by omega
  simp[L10_1,h1]
 |succ n ih=>
  intro i hn hi;have hlt:i<m.funcs.length:=by omega
  have h1:(i:Int)<(m.funcs.length:Int):=by omega
  have h4:=ih (i+1) (by omega) (by omega);have hw:IntKind.i64.wrap ((i:Int)+1)=((i+1:Nat):Int):=aS (by omega);have hix:=p7 (l:=m.funcs) (n:=(i:Int)) (by omega) h1;rw[JW,J1 m.funcs i hlt]at hix;rw[Ml,Ka hlt,Option.toList_some,Lo,Ks,Mt]at h4;have hap:=oc (a:=(m.funcs.take i).map Fun.name) (b:=[m.funcs[i].name]) (by simp;omega);rw[FL10_1];generalize m.funcs[i]=f at *;have f1:∀cs,aa T 29 (.ip cs) 4=some (.ip (cs.drop 4)):=fun _=>rfl;have l1:ah T 25 (.ip ((ab m.av).drop 4))=some (dK m.funcs):=by simp
  have f2:aa T 48 (.ip (ab f.av)) 0=some (.ip (ab f.av)):=rfl;have l2:ah T 9 (.ip (ab f.av))=some (.str f.name):=by simp
  simp -implicitDefEqProofs only[L10_1,az,aB,f1,am,l1,yG,aF,h1,Kf,ao,J0,hix,f2,l2,HO,hap,aU,hw,h4]
structure Sz (m:Mod):Prop where
 uses:m.uses.length<=1000
 vars:m.vars.length<=1000
 funcs:m.funcs.length<=1000
theorem t10(m:Mod)(h:Sz m)(k:Nat)(hk:k<3):af pg 10 [m.av,.int .i64 k]=M.pure (strs (cM m k)):=by
 rw[C10];have l0:=BM m h.vars _ 0 rfl (Ki _);have l1:=rR m h.funcs _ 0 rfl (Ki _);have l0':aj (L10_0 (af pg) aj) [.ip (ab m.av),.sl [],.int .i64 0]=M.pure (strs (m.vars.map (·.1))):=l0;have l1':aj (L10_1 (af pg) aj) [.ip (ab m.av),.sl [],.int .i64 0]=M.pure (strs (m.funcs.map Fun.name)):=l1;have f1:∀cs,aa T 29 (.ip cs) 1=some (.ip (cs.drop 1)):=fun _=>rfl;have lu:ah T 22 (.ip ((ab m.av).drop 1))=some (strs m.uses):=by simp
 have ap:=oc (a:=[]) (b:=m.uses) (by have:=h.uses;simp;omega);have ap':ca T 22 (.sl []) (strs m.uses)=some (strs m.uses):=ap;have e:S10 (af pg) aj m.av (.int .i64 k)=M.pure (strs (cM m k)):=by
  have h00:((0:Int)== 0)=true:=rfl;have h10:((1:Int)== 0)=false:=rfl;have h11:((1:Int)== 1)=true:=rfl;have h20:((2:Int)== 0)=false:=rfl;have h21:((2:Int)== 1)=false:=rfl;have h22:((2:Int)== 2)=true:=rfl
  match k,hk with
  |0,_=>
   show S10 (af pg) aj m.av (.int .i64 0)=_;simp -implicitDefEqProofs only[S10,gz,am,h00,ao,J0,f1,lu,ap',cM]
  |1,_=>
   show S10 (af pg) aj m.av (.int .i64 1)=_;simp -implicitDefEqProofs only[S10,gz,am,h10,h11,JL,JZ,ao,J0,l0',cM]
  |2,_=>
   show S10 (af pg) aj m.av (.int .i64 2)=_;simp -implicitDefEqProofs only[S10,gz,am,h20,h21,h22,JL,JZ,ao,J0,l1',cM]
 rw[de,show cl ar (.int .i64 (k:Int))= .int .i64 (k:Int)from rfl,e];exact ba fun g=>kf g _
def gk(m n:Mod)(k:Nat)(s:aT):Prop:=match k with
 |0=>aC (fun s:aT=>s) m.uses s=aC (fun s:aT=>s) n.uses s
 |1=>aC kB (varsOf m) s=aC kB (varsOf n) s
 |_=>aC Fun.name m.funcs s=aC Fun.name n.funcs s
def mf{m:Mod}(h:m.init.length=m.vars.length):(varsOf m).map kB=m.vars.map (·.1):=by
 have e4:(varsOf m).map Prod.fst=m.vars:=MD (by omega);rw[<- e4,List.map_map];rfl
def eV{m:Mod}(h:Sz m)(k:Nat):(cM m k).length<=1000:=by
 have:=h.uses;have:=h.vars;have:=h.funcs
 unfold cM;split<;>simp<;>omega
theorem ES(y:AV):gv false false y=y:=rfl
theorem t11(m n:Mod)(hm:m.Lim)(sm:Sz m)(sn:Sz n)(im:m.init.length=m.vars.length)(iN:n.init.length=n.vars.length)(k:Nat)(hk:k<3)(s:aT)(h:gk m n k s):af pg 11 [m.av,n.av,.int .i64 k,.str s]=M.pure (.bool true):=by
 have lm:∀m:Mod,ah T 29 (.ip (ab m.av))=some m.av:=fun m=>by simp
 have o1:=t10 m sm k hk;have o2:=t10 n sn k hk;have d1:=t28 (cM m k) s (by have:=eV sm k;omega);have d2:=t28 (cM n k) s (by have:=eV sn k;omega);have ze:∀x:Int,aw T .eql 3 (.int .i64 x) (.int .i64 x)=some (.bool true):=fun x=>by rw[gz];simp
 rw[C11,de,de,show cl ar (.int .i64 (k:Int))= .int .i64 (k:Int)from rfl,show cl ar (.str s)= .str s from rfl];have none_:∀k:Nat,af pg 10 [m.av,.int .i64 k]=M.pure (strs (cM m k))->af pg 10 [n.av,.int .i64 k]=M.pure (strs (cM n k))->af pg 28 [strs (cM m k),.str s]=M.pure (.int .i64 (-1))->af pg 28 [strs (cM n k),.str s]=M.pure (.int .i64 (-1))->
   S11 (af pg) aj m.av n.av (.int .i64 k) (.str s)=M.pure (.bool true):=fun k o1 o2 d1 d2=>by
  have h1:decide ((-1:Int)<0)=true:=rfl;simp -implicitDefEqProofs only[S11,lm,am,o1,o2,aG,d1,d2,aF,h1,xW,dI,ao,J0,ze]
 have key:S11 (af pg) aj m.av n.av (.int .i64 k) (.str s)=M.pure (.bool true):=by
  have f2:∀cs,aa T 29 (.ip cs) 2=some (.ip (cs.drop 2)):=fun _=>rfl;have f3:∀cs,aa T 29 (.ip cs) 3=some (.ip (cs.drop 3)):=fun _=>rfl;have f4:∀cs,aa T 29 (.ip cs) 4=some (.ip (cs.drop 4)):=fun _=>rfl;have g1:∀cs,aa T 51 (.ip cs) 1=some (.ip (cs.drop 1)):=fun _=>rfl;have l2:∀m:Mod,ah T 23 (.ip ((ab m.av).drop 2))=some (aN m.vars):=fun m=>by simp
  have l3:∀m:Mod,ah T 24 (.ip ((ab m.av).drop 3))=some (bp m.init):=fun m=>by simp
  have l4:∀m:Mod,ah T 25 (.ip ((ab m.av).drop 4))=some (dK m.funcs):=fun m=>by simp
  have lt:∀f:bI,ah T 44 (.ip ((ab (bi f)).drop 1))=some f.2.av:=fun f=>by simp
  have le:∀e:Exp,ah T 46 (.ip (ab e.av))=some e.av:=fun e=>by simp
  have lf:∀f:Fun,ah T 48 (.ip (ab f.av))=some f.av:=fun f=>by simp
  have b00:((0:Int)== 0)=true:=rfl;have b10:((1:Int)== 0)=false:=rfl;have b11:((1:Int)== 1)=true:=rfl;have b20:((2:Int)== 0)=false:=rfl;have b21:((2:Int)== 1)=false:=rfl;have b22:((2:Int)== 2)=true:=rfl;have hv:=hm.vars;have hi:=hm.init;have hf:=hm.funcs
  match k,hk with
  | 0,_=>
   rcases mw (nm:=fun s:aT=>s) h with⟨h1,h2⟩|⟨i,j,hi,hj,h1,h2,h3⟩
   ·rw[List.map_id']at h1 h2;exact none_ 0 o1 o2 (d1.trans (by rw[cM,h1])) (d2.trans (by rw[cM,h2]))
   ·rw[List.map_id']at h1 h2;rw[cM,h1]at d1;rw[cM,h2]at d2;rw[cM]at o1 o2;have n1:¬((i:Int)<0):=by omega
    have n2:¬((j:Int)<0):=by omega
    have o1':af pg 10 [m.av,.int .i64 0]=M.pure (strs m.uses):=o1;have o2':af pg 10 [n.av,.int .i64 0]=M.pure (strs n.uses):=o2;show S11 (af pg) aj m.av n.av (.int .i64 0) (.str s)=_;simp -implicitDefEqProofs only[S11,lm,am,o1',o2',aG,d1,d2,aF,n1,n2,Kv,ES,ci,az,cN,  ao,JL,JZ,gz,b00,J0]
  | 1,_=>
   have hn:(cM m 1)=(varsOf m).map kB:=(mf im).symm;have hn':(cM n 1)=(varsOf n).map kB:=(mf iN).symm;rcases mw (nm:=kB) h with⟨h1,h2⟩|⟨i,j,hi',hj,h1,h2,h3⟩
   ·exact none_ 1 o1 o2 (d1.trans (by rw[hn,h1])) (d2.trans (by rw[hn',h2]))
   ·rw[hn,h1]at d1;rw[hn',h2]at d2;rw[hn]at o1;rw[hn']at o2;have n1:¬((i:Int)<0):=by omega
    have n2:¬((j:Int)<0):=by omega
    have o1':af pg 10 [m.av,.int .i64 1]=M.pure (strs ((varsOf m).map kB)):=o1;have o2':af pg 10 [n.av,.int .i64 1]=M.pure (strs ((varsOf n).map kB)):=o2;unfold varsOf at hi' hj;rw[Lj]at hi' hj;have i1:i<m.vars.length:=by omega
    have i2:i<m.init.length:=by omega
    have j1:j<n.vars.length:=by omega
    have j2:j<n.init.length:=by omega
    have e1:(varsOf m)[i]=(m.vars[i],m.init[i]):=MB;have e2:(varsOf n)[j]=(n.vars[j],n.init[j]):=MB;rw[e1,e2,Ku]at h3;have x1:=iM (l:=m.vars) (n:=(i:Int)) (by omega) (by omega);rw[JW,J1 m.vars i i1]at x1;have x2:=iM (l:=n.vars) (n:=(j:Int)) (by omega) (by omega);rw[JW,J1 n.vars j j1,<- h3.1]at x2;have x3:=jx (l:=m.init) (n:=(i:Int)) (by omega) (by omega);rw[JW,J1 m.init i i2]at x3;have x4:=jx (l:=n.init) (n:=(j:Int)) (by omega) (by omega);rw[JW,J1 n.init j j2,<- h3.2]at x4;have q1:=t29 _ m.vars[i].2 (JO _) (hm.vty _ (JP i1));have q2:=t30 _ m.init[i] (JO _) (hm.ies _ (JP i2));generalize m.vars[i]=f at x1 x2 q1;generalize m.init[i]=e at x3 x4 q2;show S11 (af pg) aj m.av n.av (.int .i64 1) (.str s)=_;simp -implicitDefEqProofs only[S11,lm,am,o1',o2',aG,d1,d2,aF,n1,n2,Kv,ES,ci,az,cN,  ao,JL,JZ,gz,b10,b11,J0,
     f2,l2,x1,x2,g1,lt,q1,cd,cy,f3,l3,x3,x4,le,q2,dI]
  | 2,_=>
   rcases mw (nm:=Fun.name) h with⟨h1,h2⟩|⟨i,j,hi',hj,h1,h2,h3⟩
   ·exact none_ 2 o1 o2 (d1.trans (by rw[show cM m 2=m.funcs.map Fun.name from rfl,h1])) (d2.trans (by rw[show cM n 2=n.funcs.map Fun.name from rfl,h2]))
   ·rw[show cM m 2=m.funcs.map Fun.name from rfl,h1]at d1;rw[show cM n 2=n.funcs.map Fun.name from rfl,h2]at d2;rw[show cM m 2=m.funcs.map Fun.name from rfl]at o1;rw[show cM n 2=n.funcs.map Fun.name from rfl]at o2;have n1:¬((i:Int)<0):=by omega
    have n2:¬((j:Int)<0):=by omega
    have o1':af pg 10 [m.av,.int .i64 2]=M.pure (strs (m.funcs.map Fun.name)):=o1;have o2':af pg 10 [n.av,.int .i64 2]=M.pure (strs (n.funcs.map Fun.name)):=o2;have hnf:=sn.funcs;have x1:=p7 (l:=m.funcs) (n:=(i:Int)) (by omega) (by omega);rw[JW,J1 m.funcs i hi']at x1;have x2:=p7 (l:=n.funcs) (n:=(j:Int)) (by omega) (by omega);rw[JW,J1 n.funcs j hj,<- h3]at x2;have q1:=t31 m.funcs[i] (hm.fns _ (JP hi'));generalize m.funcs[i]=f at x1 x2 q1;show S11 (af pg) aj m.av n.av (.int .i64 2) (.str s)=_;simp -implicitDefEqProofs only[S11,lm,am,o1',o2',aG,d1,d2,aF,n1,n2,Kv,ES,ci,az,cN,  ao,JL,JZ,gz,b20,b21,b22,J0,
     f4,l4,x1,x2,lf,q1,cd]
 rw[key];exact fH true
end Go.Proofs.YtblddnfanlkgiaaGreat.Mg
