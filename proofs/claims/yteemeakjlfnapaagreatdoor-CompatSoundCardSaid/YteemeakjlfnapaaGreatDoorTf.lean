/- What the functions of the seat compute, part 6: the texts of the claim, one behind the other. Conditions: bounds, as each theorem names them. -/
import Derived.Test.YteemeakjlfnapaaGreatDoorTe
import Derived.Lib.SmallJoins
set_option linter.defProp false
set_option linter.unusedSimpArgs false
set_option linter.unusedVariables false
namespace Go.Proofs.YteemeakjlfnapaaGreatDoor
open Go Go.Av Go.Av.Ap
set_option maxRecDepth 100000
def xo{e:Exp}(h:iL e=true):(e.op=11->e.args.length=3)/\(e.op=12->e.args.length=2)/\(e.op=14->e.args.length=1)/\(e.op=18->e.args.length=1)/\(e.op=13->e.names.length=e.args.length)/\e.args.length<=1000000:=by
 unfold iL at h;simp only[GJ]at h;obtain⟨⟨⟨⟨⟨⟨⟨h1,h2⟩,h3⟩,h4⟩,h5⟩,h6⟩,h7⟩,h8⟩:=h;simp only[GX]at h1 h2;have ho:e.op=0\/e.op=1\/e.op=2\/e.op=3\/e.op=4\/e.op=5\/e.op=6\/e.op=7\/e.op=8\/e.op=9\/e.op=10\/e.op=11\/e.op=12\/e.op=13\/e.op=14\/e.op=15\/e.op=16\/e.op=17\/e.op=18:=by omega
 by_cases o15:e.op=15
 ·have:e.args.length<=6:=by
   simp[dY,o15]at h8;exact h8.2
  exact⟨fun h=>by omega,fun h=>by omega,fun h=>by omega,fun h=>by omega,fun h=>by omega,by omega⟩
 ·by_cases o13:e.op=13
  ·have hn:e.names.length<=8:=by
    simp[dY,o13,qc]at h8;exact h8.2
   have he:e.names.length=e.args.length:=by
    simp[eg,o13]at h3;omega
   exact⟨fun h=>by omega,fun h=>by omega,fun h=>by omega,fun h=>by omega,fun _=>he,by omega⟩
  ·have key:e.args.length<=3/\(e.op=11->e.args.length=3)/\(e.op=12->e.args.length=2)/\(e.op=14->e.args.length=1)/\(e.op=18->e.args.length=1):=by
    rcases ho with o|o|o|o|o|o|o|o|o|o|o|o|o|o|o|o|o|o|o<;>simp[eg,o]at h3 o13 o15 |- <;> omega
   exact⟨key.2.1,key.2.2.1,key.2.2.2.1,key.2.2.2.2,fun h=>absurd h o13,by omega⟩
def yP{ns:List bA}{l:List Ty}(h:∀t∈l,dk t)(hl:l.length<=1000000):dk (.mk 2 (ns.zip l)):=qo (by rw[Ir];omega) fun f hf=>h f.2 (List.of_mem_zip (show (f.1,f.2)∈ns.zip l from hf)).2
theorem pk(b:List br):(fs:List br)->(∀f∈fs,∀t u:Ty,nL f.2 t=some u->dk u)->∀f∈fW fs b,dk f.2
 |[],_,f,hf=>by simp[fW]at hf
 | g :: fs,h,f,hf=>by
  rw[li,Hf]at hf;rcases hf with hf|hf
  ·rw[nJ]at hf;cases hz:aN (fun z:br=>z.1== g.1) b with
   |none=>rw[hz]at hf;cases hf
   | some z=>
    rw[hz]at hf;dsimp only at hf;cases hu:nL g.2 z.2 with
    |none=>rw[hu]at hf;cases hf
    |some u=>
     rw[hu]at hf;simp only[HX]at hf;subst hf;exact h g Hz z.2 u hu
  ·exact pk b fs (fun f hf=>h f (Hy _ hf)) f hf
def uB(a b u:Ty)(ha:dk a)(h:nL a b=some u):dk u:=by
 have e1:nL a b=if a.kind=b.kind then some (.mk a.kind (fW a.fields b.fields))else none:=by
  cases a;cases b;simp only[nL,Ty.kind,Ty.fields];rfl
 rw[e1]at h;split at h
 ·cases h;refine qo (IA (sn _ _) ha.len) (pk _ _ fun f hf t u hu=>?_)
  have:=t6 hf
  exact uB f.2 t u (ha.kid hf) hu
 ·cases h
termination_by SizeOf.sizeOf a
def fE(k:Int):dk (.mk k []):=qo (by simp) (by simp)
def tH{e:Exp}{l:List Ty}(hl:∀t∈l,dk t)(hlen:l.length<=1000000)(h11:e.op=11->l.length=3)(h14:e.op=14->l.length=1){t:Ty}(h:bO e l=some t):dk t:=by
 unfold bO at h;split at h
 ·split at h<;>cases h;exact fE _
 ·split at h
  ·cases h;exact fE _
  ·split at h
   ·split at h<;>cases h;exact fE _
   ·split at h
    ·split at h<;>cases h;exact fE _
    ·split at h
     ·split at h<;>cases h;exact fE _
     ·split at h
      ·rename_i o;split at h
       ·rename_i u hu;split at h<;>cases h;refine uB _ _ _ ?_ hu
        have:=h11 o
        rw[G2 l 1 (by omega)];exact hl _ (GQ _)
       ·cases h
      ·split at h
       ·cases h;exact yP hl hlen
       ·split at h
        ·rename_i o;split at h
         ·rename_i z hz;cases h
          have:=h14 o
          have h0:dk l[0]!:=by rw[G2 l 0 (by omega)];exact hl _ (GQ _)
          exact h0.kid (fD hz).1
         ·cases h
        ·cases h;exact fE _
def FY(l:List br)(h:l.length<=1000000):ah pg 163 [aC l]=M.pure (aC l):=by
 have e0:ah pg 163 [aC l]=gK T 25 (ah pg) [aC l]:=dV hOther rfl _;have e1:=Bi (a:=[]) (b:=l) (by simp;omega);rw[e0];show af (d8 T 25 (.sl []) (aC l))=_;have e2:d8 T 25 (.sl []) (aC l)=some (aC l):=e1;rw[e2];rfl
theorem vf{q:Nat}{m:Ap.Mod}{mp:AV}{fs:List Face}(K:CxOk m fs){d:Nat}(P:jg q m mp fs d):jg q m mp fs (d+1):=by
 intro ls e n h hr he hls hll R;rw[f8,GJ,GT]at hr;obtain⟨hsh,har⟩:=hr;obtain⟨a11,a12,a14,a18,a13,alen⟩:=xo hsh;have ha:∀x∈e.args,cm d x=true/\x.Lim:=fun x hx=>⟨har x hx,he.kid hx⟩;have hll':ls.length+d<=1000000:=by omega
 show ah pg 124 [.hp q 0,aC ls,e.av] h=ER q m mp h (cH (dj m fs) (bi (dj m fs) d) ls e n)/\∀t n',cH (dj m fs) (bi (dj m fs) d) ls e n= .ok t n'->dk t;by_cases o2:e.op=2
 ·have hk:=t181 ls (by omega) e.s;rw[nD o2,C124];cases hz:aN (fun z:br=>z.1== e.s) ls with
  |none=>
   rw[hz]at hk;refine⟨?_,fun t n' h3=>by cases h3⟩;show _=Av.R.ok (AV.tup [ty0.av,.int .i64 12]) (h.set q (aT m mp n));rw[R.same];simp[S124,o2,hk,nT];rfl
  |some z=>
   rw[hz]at hk;refine⟨?_,fun t n' h3=>by cases h3;exact hls z (fD hz).1⟩;show _=Av.R.ok (AV.tup [z.2.av,.int .i64 0]) (h.set q (aT m mp n));rw[R.same];simp[S124,o2,hk];rfl
 ·by_cases o12:e.op=12
  ·obtain⟨x,y,hxy⟩:∃x y,e.args=[x,y]:=by
    have:=a12 o12
    match e.args,this with
    |[x,y],_=>exact⟨x,y,rfl⟩
   have hx0:e.args[0]! = x:=by rw[hxy];rfl
   have hx1:e.args[1]! = y:=by rw[hxy];rfl
   have i0:ak T 36 (cj e.args) (.int .i64 0)=some (.ip (ab x.av)):=by
    have:=lY (l:=e.args) (n:=0) (by omega) (by rw[hxy];simp)
    rw[this,hxy];rfl
   have i1:ak T 36 (cj e.args) (.int .i64 1)=some (.ip (ab y.av)):=by
    have:=lY (l:=e.args) (n:=1) (by omega) (by rw[hxy];simp)
    rw[this,hxy];rfl
   obtain⟨xr,xl⟩:=ha x (by rw[hxy];simp);obtain⟨yr,yl⟩:=ha y (by rw[hxy];simp);obtain⟨p1,p2⟩:=P ls x n h xr xl hls hll' R;rw[nC o12,hx0,hx1,C124];have hne:=fw (dj m fs) d ls x n;cases ht:bi (dj m fs) d ls x n with
   |er b n'=>
    rw[ht]at p1;have hb:(b != 0)=true:=H5.2 (hne b n' ht);have k1:∀f:AV->M AV,ae (ah pg 124 [.hp q 0,aC ls,x.av]) f h=f (.tup [ty0.av,.int .i64 b]) (h.set q (aT m mp n')):=fun f=>aF p1 f;have e1:dv.bind (bi (dj m fs) d ls x) (fun t=>bi (dj m fs) d (ls++[(e.s,t)]) y) n= .er b n':=by simp only[dv.bind,ht]
    rw[e1];refine⟨?_,fun t n' h3=>by cases h3⟩;show _=Av.R.ok (AV.tup [ty0.av,.int .i64 b]) (h.set q (aT m mp n'));simp[S124,o12,i0,k1,hb,nT];rfl
   | ok u n'=>
    rw[ht]at p1;have hus:=p2 u n' ht;have k1:∀f:AV->M AV,ae (ah pg 124 [.hp q 0,aC ls,x.av]) f h=f (.tup [u.av,.int .i64 0]) (h.set q (aT m mp n')):=fun f=>aF p1 f;obtain⟨p3,p4⟩:=P (ls++[(e.s,u)]) y n' (h.set q (aT m mp n')) yr yl (fun z hz=>by
     rcases Hf.1 hz with hz|hz
     ·exact hls z hz
     ·rw[HX]at hz;subst hz;exact hus) (by rw[Ho];simp;omega) (R.set n')
    have e1:dv.bind (bi (dj m fs) d ls x) (fun t=>bi (dj m fs) d (ls++[(e.s,t)]) y) n=bi (dj m fs) d (ls++[(e.s,u)]) y n':=by simp only[dv.bind,ht]
    rw[e1];refine⟨?_,fun t n'' h3=>p4 t n'' h3⟩;have hap:=Bi (a:=ls) (b:=[(e.s,u)]) (by simp;omega);have hcl:=FY ls (by omega);cases ht2:bi (dj m fs) d (ls++[(e.s,u)]) y n' with
    |er b n''=>
     rw[ht2]at p3;have k2:∀f:AV->M AV,ae (ah pg 124 [.hp q 0,aC (ls++[(e.s,u)]),y.av]) f (h.set q (aT m mp n'))=f (.tup [ty0.av,.int .i64 b]) ((h.set q (aT m mp n')).set q (aT m mp n'')):=fun f=>aF p3 f;show _=Av.R.ok (AV.tup [ty0.av,.int .i64 b]) (h.set q (aT m mp n''));simp[S124,o12,i0,i1,k1,pU,Fa,hcl,hap,k2];rfl
    |ok t n''=>
     rw[ht2]at p3;have k2:∀f:AV->M AV,ae (ah pg 124 [.hp q 0,aC (ls++[(e.s,u)]),y.av]) f (h.set q (aT m mp n'))=f (.tup [t.av,.int .i64 0]) ((h.set q (aT m mp n')).set q (aT m mp n'')):=fun f=>aF p3 f;show _=Av.R.ok (AV.tup [t.av,.int .i64 0]) (h.set q (aT m mp n''));simp[S124,o12,i0,i1,k1,pU,Fa,hcl,hap,k2];rfl
  ·have b2:(e.op== 2)=false:=GU.2 o2;have b12:(e.op== 12)=false:=GU.2 o12;by_cases o17:e.op=17\/e.op=18
   ·obtain⟨v1,v2⟩:=F0 P K ls hls hll' e o17 (fun o=>by
     have:=a18 o
     match hx:e.args,this with
     |[x],_=>exact⟨x,rfl,ha x (by rw[hx];simp)⟩) n h R
    refine⟨?_,v2⟩;rw[<- v1,C124];generalize hcode:ah pg 182 [.hp q 0,aC ls,e.av] h=code at v1;cases hs:cH (dj m fs) (bi (dj m fs) d) ls e n with
    | er b n'=>
     rw[hs]at v1;rw[v1]at hcode;have k1:∀f:AV->M AV,ae (ah pg 182 [.hp q 0,aC ls,e.av]) f h=f (.tup [ty0.av,.int .i64 b]) (h.set q (aT m mp n')):=fun f=>aF hcode f;rw[v1];show _=Av.R.ok (AV.tup [ty0.av,.int .i64 b]) (h.set q (aT m mp n'));rcases o17 with o|o
     ·have c17:(e.op== 17)=true:=Hj.2 o;simp[S124,K124_1,b2,b12,c17,k1];rfl
     ·have c17:(e.op== 17)=false:=GU.2 (by omega);have c18:(e.op== 18)=true:=Hj.2 o;simp[S124,K124_1,b2,b12,c17,c18,k1];rfl
    | ok t n'=>
     rw[hs]at v1;rw[v1]at hcode;have k1:∀f:AV->M AV,ae (ah pg 182 [.hp q 0,aC ls,e.av]) f h=f (.tup [t.av,.int .i64 0]) (h.set q (aT m mp n')):=fun f=>aF hcode f;rw[v1];show _=Av.R.ok (AV.tup [t.av,.int .i64 0]) (h.set q (aT m mp n'));rcases o17 with o|o
     ·have c17:(e.op== 17)=true:=Hj.2 o;simp[S124,K124_1,b2,b12,c17,k1];rfl
     ·have c17:(e.op== 17)=false:=GU.2 (by omega);have c18:(e.op== 18)=true:=Hj.2 o;simp[S124,K124_1,b2,b12,c17,c18,k1];rfl
   ·have b17:(e.op== 17)=false:=GU.2 (by omega);have b18:(e.op== 18)=false:=GU.2 (by omega);by_cases o15:e.op=15
    ·obtain⟨v1,v2⟩:=F5 P K ls hls hll' e o15 alen ha n h R;refine⟨?_,v2⟩;have b15:(e.op== 15)=true:=Hj.2 o15;rw[C124];cases hs:cH (dj m fs) (bi (dj m fs) d) ls e n with
     |er b n'=>
      rw[hs]at v1;have k1:∀f:AV->M AV,ae (ah pg 183 [.hp q 0,aC ls,e.av]) f h=f (.tup [ty0.av,.int .i64 b]) (h.set q (aT m mp n')):=fun f=>aF v1 f;show _=Av.R.ok (AV.tup [ty0.av,.int .i64 b]) (h.set q (aT m mp n'));simp[S124,K124_1,b2,b12,b17,b18,b15,k1];rfl
     |ok t n'=>
      rw[hs]at v1;have k1:∀f:AV->M AV,ae (ah pg 183 [.hp q 0,aC ls,e.av]) f h=f (.tup [t.av,.int .i64 0]) (h.set q (aT m mp n')):=fun f=>aF v1 f;show _=Av.R.ok (AV.tup [t.av,.int .i64 0]) (h.set q (aT m mp n'));simp[S124,K124_1,b2,b12,b17,b18,b15,k1];rfl
    ·have b15:(e.op== 15)=false:=GU.2 o15;obtain⟨g1,g2⟩:=EG P ls hls hll' e.args alen ha n h R;rw[lT o2 o12 o17 o15,C124];cases ht:cR (bi (dj m fs) d ls) e.args n with
     |er b n'=>
      rw[ht]at g1;have hb:(b != 0)=true:=H5.2 (ke (fw (dj m fs) d ls) _ n b n' ht);have k1:∀f:AV->M AV,ae (ah pg 184 [.hp q 0,aC ls,cj e.args]) f h=f (.tup [.sl [],.int .i64 b]) (h.set q (aT m mp n')):=fun f=>aF g1 f;have e1:dv.bind (cR (bi (dj m fs) d ls) e.args) (lQ e) n= .er b n':=by simp only[dv.bind,ht]
      rw[e1];refine⟨?_,fun t n' h3=>by cases h3⟩;show _=Av.R.ok (AV.tup [ty0.av,.int .i64 b]) (h.set q (aT m mp n'));simp[S124,K124_1,b2,b12,b17,b18,b15,k1,hb,nT];rfl
     | ok l n'=>
      rw[ht]at g1;obtain⟨g3,g4⟩:=g2 l n' ht;have k1:∀f:AV->M AV,ae (ah pg 184 [.hp q 0,aC ls,cj e.args]) f h=f (.tup [dR l,.int .i64 0]) (h.set q (aT m mp n')):=fun f=>aF g1 f;have hp:=t185 e l g4 (by omega) (fun o=>by rw[g3];exact a11 o) (fun o=>by rw[g3];exact a14 o) (fun o=>by rw[g3];exact a13 o);have R':=R.set n';have hor:am T .or 3 (.int .i64 n') (.int .i64 e.n)=some (.int .i64 (l6 n' e.n)):=rfl;have l1:∀f:AV->M AV,ae (bn T 3 (.hp q 10)) f (h.set q (aT m mp n'))=f (.int .i64 n') (h.set q (aT m mp n')):=fun f=>aF R'.eff f;have l2:∀f:AV->M AV,ae (bH T 3 (.hp q 10) (.int .i64 (l6 n' e.n))) f (h.set q (aT m mp n'))=f (.tup []) (h.set q (aT m mp (l6 n' e.n))):=fun f=>by
       rw[aF (R'.put (l6 n' e.n)) f,Gv]
      have e1:dv.bind (cR (bi (dj m fs) d ls) e.args) (lQ e) n=lQ e l n':=by simp only[dv.bind,ht]
      rw[e1];have hsl:=fun t=>tH (e:=e) (l:=l) g4 (by omega) (fun o=>by rw[g3];exact a11 o) (fun o=>by rw[g3];exact a14 o) (t:=t);by_cases o16:e.op=16
      ·have b16:(e.op== 16)=true:=Hj.2 o16;cases hpl:bO e l with
       |none=>
        rw[hpl]at hp;rw[jG hpl,GM o16];refine⟨?_,fun t n' h3=>by cases h3⟩;show _=Av.R.ok (AV.tup [ty0.av,.int .i64 13]) (h.set q (aT m mp (l6 n' e.n)));simp[S124,K124_1,K124_0,b2,b12,b17,b18,b15,b16,k1,l1,hor,l2,hp];rfl
       |some t=>
        rw[hpl]at hp;rw[gY hpl,GM o16];refine⟨?_,fun t' n' h3=>by cases h3;exact hsl t hpl⟩;show _=Av.R.ok (AV.tup [t.av,.int .i64 0]) (h.set q (aT m mp (l6 n' e.n)));simp[S124,K124_1,K124_0,b2,b12,b17,b18,b15,b16,k1,l1,hor,l2,hp];rfl
      ·have b16:(e.op== 16)=false:=GU.2 o16;cases hpl:bO e l with
       |none=>
        rw[hpl]at hp;rw[jG hpl,if_neg o16];refine⟨?_,fun t n' h3=>by cases h3⟩;show _=Av.R.ok (AV.tup [ty0.av,.int .i64 13]) (h.set q (aT m mp n'));simp[S124,K124_1,K124_0,b2,b12,b17,b18,b15,b16,k1,hp];rfl
       |some t=>
        rw[hpl]at hp;rw[gY hpl,if_neg o16];refine⟨?_,fun t' n' h3=>by cases h3;exact hsl t hpl⟩;show _=Av.R.ok (AV.tup [t.av,.int .i64 0]) (h.set q (aT m mp n'));simp[S124,K124_1,K124_0,b2,b12,b17,b18,b15,b16,k1,hp];rfl
theorem CJ{q:Nat}{m:Ap.Mod}{mp:AV}{fs:List Face}(K:CxOk m fs):∀d,jg q m mp fs d
 |0=>fun ls e n h hr=>by cases hr
 |d+1=>vf K (CJ K d)
theorem oH:(fs acc:List Face)->∀f∈cD acc fs,f∈acc\/f∈fs
 |[],acc,f,h=>.inl h
 | g:: fs,acc,f,h=>by
  rw[cD]at h;rcases oH fs _ f h with h|h
  ·split at h
   ·exact .inl h
   ·rcases Hf.1 h with h|h
    ·exact .inl h
    ·rw[HX]at h;subst h;exact .inr Hz
  ·exact .inr (Hy _ h)
def r8(s:Sig):Bool:=a8 s.result&&s.params.all a8
theorem ve(f:Face):eI f=f.funcs.all r8:=rfl
def FZ(t:Ty)(ht:t.Lim):ah pg 179 [t.av]=M.pure (.bool (!(a8 t))):=by
 rw[C179];simp[S179,t73 t ht]
theorem yC{h:Hp}{l:Nat}{fs:List Face}(hl:h[l]? = some [.tup (bM fs)])(f:Face)(hn:fs.find? (fun g=>g.module== f.module)=none):kl T 139 (.mp l) (.str f.module) f.av h= .ok (.tup []) (h.set l [.tup (bM (fs++[f]))]):=by
 have e:kl T 139 (.mp l) (.str f.module) f.av h=(match h[l]? with
   |some [.tup es]=>(match rQ T 9 es (.str f.module) f.av with
    |some es'=>.ok (.tup []) (h.set l [.tup es'])
    |none=>.fail)
   |_=>.fail):=rfl
 rw[e,hl];simp only;unfold rQ;rcases mL f.module fs 0 with⟨h1,h2⟩|⟨g,j,k,h1,h2⟩
 ·rw[h2];simp[bM]
 ·rw[hn]at h1;cases h1
def iT(f:Face):aH 2 f.av=M.pure f.av:=by rw[bQ (kY f),c6,gm]
def Af(V:List AV->M AV){h:Hp}{q l:Nat}{m:Ap.Mod}{acc:List Face}(R:JR h q m (.mp l) acc 0)(hl:h[l]? = some [.tup (bM acc)])(fs:List Face)(i:Nat)(f:Face)(hf:f.Lim):∀(k j:Nat),f.funcs.length-j=k->j<=f.funcs.length->
  aj (L122_0 (ah pg) aj V) [.hp q 0,.ip (ab f.av),faces fs,.int .i64 fs.length,.int .i64 i,sigs f.funcs,.int .i64 f.funcs.length,.int .i64 j] h=(if(f.funcs.drop j).all r8=true then V [.hp q 0,faces fs,.int .i64 fs.length,.int .i64 (IntKind.i64.wrap ((i:Int)+1))] (if(acc.find? fun g=>g.module== f.module).isSome=true then h else h.set l [.tup (bM (acc++[f]))])else .ok (.tup [.nilp,.bool false]) h):=by
 intro k;have hlen:=hf.len
 induction k with
 | zero=>
  intro j hk hj;have h1:¬((j:Int)<(f.funcs.length:Int)):=by omega
  have h2:f.funcs.drop j=[]:=G5 (by omega);rw[h2,GM (show[].all r8=true from rfl)];have l1:∀g:AV->M AV,ae (bn T 139 (.hp q 9)) g h=g (.mp l) h:=fun g=>aF R.mp g;have l2:∀g:AV->M AV,ae (dF T 139 (.mp l) (.str f.module) true) g h=g (.tup [((acc.find? fun g=>g.module== f.module).getD jV).av,.bool (acc.find? fun g=>g.module== f.module).isSome]) h:=fun g=>aF (kV R.map f.module) g;rw[FL122_0];cases hc:acc.find? (fun g=>g.module== f.module)with
  |none=>
   rw[hc]at l2;have l3:∀g:AV->M AV,ae (kl T 139 (.mp l) (.str f.module) f.av) g h=g (.tup []) (h.set l [.tup (bM (acc++[f]))]):=fun g=>aF (yC hl f hc) g;simp[L122_0,h1,l1,l2,iT,l3]
  |some g=>
   rw[hc]at l2;simp[L122_0,h1,l1,l2,iT]
 | succ k ih=>
  intro j hk hj;have hlt:j<f.funcs.length:=by omega
  have h1:(j:Int)<(f.funcs.length:Int):=by omega
  have h2:f.funcs.drop j=f.funcs[j]:: f.funcs.drop (j+1):=GZ hlt;have hw:IntKind.i64.wrap ((j:Int)+1)=(j:Int)+1:=aK (by omega);have hix:=qD (l:=f.funcs) (n:=(j:Int)) (by omega) h1;rw[GP,G2 f.funcs j hlt]at hix;have hs:=hf.sigs _ (GQ hlt);have ih':aj (L122_0 (ah pg) aj V) [.hp q 0,.ip (ab f.av),faces fs,.int .i64 fs.length,.int .i64 i,sigs f.funcs,.int .i64 f.funcs.length,.int .i64 ((j:Int)+1)] h=_:=ih (j+1) (by omega) (by omega);rw[h2,HK];generalize f.funcs[j]=s at hix hs |-;have r1:=t73 s.result hs.result;have r2:=t148 (.fn (.func 179) [] []) (fun t=>!(a8 t)) s.params (by have:=hs.plen;omega) (fun g=>by simp[cl,c8]) (fun t ht=>FZ t (hs.ptys t ht));have r3:(s.params.any fun t=>!(a8 t))= !(s.params.all a8):=by
   rw[List.any_eq_not_all_not];simp
  rw[r3]at r2;rw[FL122_0];simp only[c6]at ih' |-;unfold r8;cases b1:a8 s.result with
  |false=>
   rw[b1]at r1;simp[L122_0,h1,hix,r1];rfl
  | true=>
   rw[b1]at r1;cases b2:s.params.all a8 with
   |false=>
    rw[b2]at r2;simp[L122_0,h1,hix,r1,r2];rfl
   |true=>
    rw[b2]at r2;simp[L122_0,h1,hix,r1,r2,hw,ih',r8]
theorem Ag{q l:Nat}{m:Ap.Mod}(hq:l≠q)(fs:List Face)(hfs:∀f∈fs,f.Lim)(hlen:fs.length<=140737488355328):∀(k i:Nat)(acc:List Face)(h:Hp),fs.length-i=k->i<=fs.length->JR h q m (.mp l) acc 0->h[l]? = some [.tup (bM acc)]->
  ((fs.drop i).all eI=true->aj (L122_1 (ah pg) aj) [.hp q 0,faces fs,.int .i64 fs.length,.int .i64 i] h= .ok (.tup [.hp q 0,.bool true]) (h.set l [.tup (bM (cD acc (fs.drop i)))]))/\((fs.drop i).all eI=false->∃h',aj (L122_1 (ah pg) aj) [.hp q 0,faces fs,.int .i64 fs.length,.int .i64 i] h= .ok (.tup [.nilp,.bool false]) h'):=by
 intro k
 induction k with
 | zero=>
  intro i acc h hk hi R hl;have h1:¬((i:Int)<(fs.length:Int)):=by omega
  have h2:fs.drop i=[]:=G5 (by omega);rw[h2];refine⟨fun _=>?_,fun hc=>by cases hc⟩;have e:h.set l [.tup (bM (cD acc []))]=h:=by
   obtain⟨hll,e⟩:=G8.1 hl;show h.set l [.tup (bM acc)]=h;rw[<- e];exact IE hll
  rw[e,FL122_1];simp[L122_1,h1];rfl
 | succ k ih=>
  intro i acc h hk hi R hl;have hlt:i<fs.length:=by omega
  have h1:(i:Int)<(fs.length:Int):=by omega
  have h2:fs.drop i=fs[i]:: fs.drop (i+1):=GZ hlt;have hw:IntKind.i64.wrap ((i:Int)+1)=((i+1:Nat):Int):=aK (by omega);have hix:=Fg (l:=fs) (n:=(i:Int)) (by omega) h1;rw[GP,G2 fs i hlt]at hix;have hf:=hfs _ (GQ hlt);rw[h2,HK];generalize fs[i]=f at hix hf |-;have hin:=Af (aj (L122_1 (ah pg) aj)) R hl fs i f hf f.funcs.length 0 rfl (G9 _);rw[Hi,hw]at hin;have hrun:aj (L122_1 (ah pg) aj) [.hp q 0,faces fs,.int .i64 fs.length,.int .i64 i] h=aj (L122_0 (ah pg) aj (aj (L122_1 (ah pg) aj))) [.hp q 0,.ip (ab f.av),faces fs,.int .i64 fs.length,.int .i64 i,sigs f.funcs,.int .i64 f.funcs.length,.int .i64 ((0:Nat):Int)] h:=by
   rw[FL122_1];simp[L122_1,h1,hix,iT]
  rw[hrun,hin,<- ve];cases hfo:eI f with
  |false=>
   refine⟨fun hc=>by simp at hc,fun _=>⟨h,by simp⟩⟩
  | true=>
   simp only[Hk,HJ];have hd:cD acc (f:: fs.drop (i+1))=cD (if(acc.find? fun g=>g.module== f.module).isSome=true then acc else acc++[f]) (fs.drop (i+1)):=rfl;rw[hd];have hll:=(G8.1 hl).1;by_cases hc:(acc.find? fun g=>g.module== f.module).isSome=true
   ·rw[GM hc,GM hc];exact ih (i+1) acc h (by omega) (by omega) R hl
   ·rw[if_neg hc,if_neg hc];have hl':(h.set l [.tup (bM (acc++[f]))])[l]? = some [.tup (bM (acc++[f]))]:=HZ hll;have R':JR (h.set l [.tup (bM (acc++[f]))]) q m (.mp l) (acc++[f]) 0:=⟨by rw[Ii hq];exact R.row,.inr ⟨l,rfl,hl'⟩,R.ne⟩;obtain⟨i1,i2⟩:=ih (i+1) (acc++[f]) _ (by omega) (by omega) R' hl';refine⟨fun ha=>?_,i2⟩;rw[i1 ha,List.set_set]
theorem FW(m:Ap.Mod)(fs:List Face)(hfs:∀f∈fs,f.Lim)(hlen:fs.length<=140737488355328)(h:Hp):
  (fs.all eI=true->ah pg 122 [m.av,faces fs] h= .ok (.tup [.hp (h.length+1) 0,.bool true]) (h++[[.tup (bM (cD [] fs))],aT m (.mp h.length) 0]))/\(fs.all eI=false->∃h',ah pg 122 [m.av,faces fs] h= .ok (.tup [.nilp,.bool false]) h'):=by
 have R:JR (h++[[AV.tup []],aT m (.mp h.length) 0]) (h.length+1) m (.mp h.length) [] 0:=⟨by simp,.inr ⟨h.length,rfl,by simp[bM]⟩,by simp⟩;obtain⟨h1,h2⟩:=Ag (q:=h.length+1) (l:=h.length) (m:=m) (by omega) fs hfs hlen fs.length 0 [] _ rfl (G9 _) R (by simp[bM]);rw[Hi]at h1 h2;have hrun:ah pg 122 [m.av,faces fs] h=aj (L122_1 (ah pg) aj) [.hp (h.length+1) 0,faces fs,.int .i64 fs.length,.int .i64 ((0:Nat):Int)] (h++[[AV.tup []],aT m (.mp h.length) 0]):=by
  rw[C122];have b1:be T true 141 [(0,m.av),(1,.mp h.length)]=some (.agg (aT m (.mp h.length) 0)):=rfl;have n1:∀f:AV->M AV,ae eh f h=f (.mp h.length) (h++[[AV.tup []]]):=fun f=>rfl;have n2:∀f:AV->M AV,ae (newH (aT m (.mp h.length) 0)) f (h++[[AV.tup []]])=f (.hp (h.length+1) 0) (h++[[AV.tup []],aT m (.mp h.length) 0]):=fun f=>by
   have:newH (aT m (.mp h.length) 0) (h++[[AV.tup []]])= .ok (.hp (h++[[AV.tup []]]).length 0) ((h++[[AV.tup []]])++[aT m (.mp h.length) 0]):=rfl;rw[aF this];simp
  have lm:ai T 41 (.ip (ab m.av))=some m.av:=rfl;simp only[S122,lm,aI,n1,b1,mi,n2,Bo];rfl
 rw[hrun];refine⟨fun ha=>?_,h2⟩;rw[h1 ha];simp
def fV(name:bA):Ap.Mod:=⟨name,[],[],[],[],false,[],[],[]⟩
def Gm(name:bA):CxOk (fV name) [] where
 vlen:=by simp[fV]
 vars:=nofun
 flen:=by simp[fV]
 ulen:=by simp[fV]
 plen:=nofun
 pars:=nofun
 res:=nofun
 slen:=nofun
 splen:=nofun
 spars:=nofun
 sres:=nofun
theorem CK(name:bA)(ls:List br)(hls:∀z∈ls,dk z.2)(hll:ls.length<=1000)(e:Exp)(hr:cm 12 e=true)(he:e.Lim)(want:Ty)(hw:a8 want=true):ah pg 180 [.str name,aC ls,e.av,want.av]=M.pure (.int .i64 (iJ ls e want)):=by
 have R:JR [aT (fV name) .nilm 0] 0 (fV name) .nilm [] 0:=⟨rfl,.inl ⟨rfl,rfl⟩,by simp⟩;obtain⟨p1,p2⟩:=CJ (Gm name) 12 ls e 0 _ hr he hls (by omega) R;have hc:dj (fV name) []=Ao:=rfl;rw[hc]at p1 p2;have b0:be T false 41 [(0,.str name)]=some (fV name).av:=rfl;have b1:be T true 141 [(0,(fV name).av)]=some (.agg (aT (fV name) .nilm 0)):=rfl;have n1:∀f:AV->M AV,ae (newH (aT (fV name) .nilm 0)) f []=f (.hp 0 0) [aT (fV name) .nilm 0]:=fun f=>rfl;have fin:∀(h:Hp)(n:Int),f7 6 h (.int .i64 n)= .int .i64 n:=fun h n=>rfl;have hne:=fw Ao 12 ls e 0;rw[C180];unfold iJ;cases ht:bi Ao 12 ls e 0 with
 |er b n=>
  rw[ht]at p1;have hb:(b != 0)=true:=H5.2 (hne b n ht);have k1:∀f:AV->M AV,ae (ah pg 124 [.hp 0 0,aC ls,e.av]) f [aT (fV name) .nilm 0]=f (.tup [ty0.av,.int .i64 b]) [aT (fV name) .nilm n]:=fun f=>aF p1 f;refine bC (v:=.int .i64 b) (h':=[aT (fV name) .nilm n]) ?_ (fin _ _);simp[S180,b0,b1,n1,k1,hb];rfl
 | ok t n=>
  rw[ht]at p1;have hts:=p2 t n ht;have k1:∀f:AV->M AV,ae (ah pg 124 [.hp 0 0,aC ls,e.av]) f [aT (fV name) .nilm 0]=f (.tup [t.av,.int .i64 0]) [aT (fV name) .nilm n]:=fun f=>aF p1 f;have l1:∀f:AV->M AV,ae (bn T 3 (.hp 0 10)) f [aT (fV name) .nilm n]=f (.int .i64 n) [aT (fV name) .nilm n]:=fun f=>rfl;have hbl:=gE hts hw;dsimp only;by_cases hn:n=0
  ·subst hn;rw[if_neg (by simp)];cases hb:aJ t want with
   |true=>
    rw[hb]at hbl;rw[GM rfl];refine bC (v:=.int .i64 0) (h':=[aT (fV name) .nilm 0]) ?_ (fin _ _);simp[S180,b0,b1,n1,k1,l1,hbl];rfl
   |false=>
    rw[hb]at hbl;rw[if_neg (by decide)];refine bC (v:=.int .i64 13) (h':=[aT (fV name) .nilm 0]) ?_ (fin _ _);simp[S180,b0,b1,n1,k1,l1,hbl];rfl
  ·rw[GM hn];have hn':(n != 0)=true:=H5.2 hn;refine bC (v:=.int .i64 14) (h':=[aT (fV name) .nilm n]) ?_ (fin _ _);simp[S180,b0,b1,n1,k1,l1,hn'];rfl
def jM(x:bA×Int):AV:=.tup [.str x.1,.int .i64 x.2]
def jF(ls vs:List br)(es:List Exp)(i:Nat)(hl:es.length=vs.length)(h:i<vs.length):(ew ls vs es).drop i=(vs[i].1,iJ ls (es[i]'(by omega)) vs[i].2):: (ew ls vs es).drop (i+1):=by
 have hi:i<(ew ls vs es).length:=by simp[ew,Ir];omega
 rw[GZ hi];congr 1;simp[ew]
def lc(ls vs:List br)(es:List Exp)(i:Nat)(h:vs.length<=i):(ew ls vs es).drop i=[]:=G5 (by simp[ew,Ir];omega)
structure MvOk (m:Ap.Mod):Prop where
 lim:m.Lim
 vlen:m.vars.length<=8
 vars:∀z∈m.vars,a8 z.2=true
 ilen:m.init.length=m.vars.length
 init:∀e∈m.init,cm 12 e=true
 olen:m.old.length<=8
 old:∀z∈m.old,a8 z.2=true
 wlen:m.moves=true->m.forward.length=m.vars.length
 forw:∀e∈m.forward,cm 12 e=true
 blen:m.back.length=m.old.length
 back:∀e∈m.back,cm 12 e=true
def Gr{m:Ap.Mod}(K:MvOk m):∀(k i:Nat),m.old.length-i=k->i<=m.old.length->
  aj (L123_0 (ah pg) aj) [.ip (ab m.av),aC m.old,.int .i64 m.old.length,.int .i64 i]=M.pure (jM (bq ((ew m.vars m.old m.back).drop i))):=by
 intro k
 induction k with
 |zero=>
  intro i hk hi;have h1:¬((i:Int)<(m.old.length:Int)):=by omega
  rw[FL123_0,lc _ _ _ _ (by omega)];simp[L123_0,h1,bq,jM]
 | succ k ih=>
  intro i hk hi;have hlt:i<m.old.length:=by omega
  have h1:(i:Int)<(m.old.length:Int):=by omega
  have hw:IntKind.i64.wrap ((i:Int)+1)=(i:Int)+1:=aK (by have:=K.olen;omega);have hix:=lX (l:=m.old) (n:=(i:Int)) (by omega) h1;rw[GP,G2 m.old i hlt]at hix;have hlt2:i<m.back.length:=by rw[K.blen];exact hlt
  have hix2:=lY (l:=m.back) (n:=(i:Int)) (by omega) (by have:=K.blen;omega);rw[GP,G2 m.back i hlt2]at hix2;have hp:=CK m.name m.vars (fun z hz=>dQ (K.vars z hz)) (by have:=K.vlen;omega) m.back[i] (K.back _ (GQ _)) (K.lim.bes _ (GQ _)) m.old[i].2 (K.old _ (GQ _));have ih':aj (L123_0 (ah pg) aj) [.ip (ab m.av),aC m.old,.int .i64 m.old.length,.int .i64 ((i:Int)+1)]=_:=ih (i+1) (by omega) (by omega);rw[FL123_0,jF _ _ _ _ K.blen hlt,bq];simp only[bj]at ih' |-;generalize m.old[i]=z at hix hp |-;generalize m.back[i]=e at hix2 hp |-;by_cases hb:iJ m.vars e z.2=0
  ·rw[hb]at hp;rw[GM hb];simp[L123_0,h1,hix,hix2,hp,hw,ih']
  ·rw[if_neg hb];have hb':(iJ m.vars e z.2 != 0)=true:=H5.2 hb;simp[L123_0,h1,hix,hix2,hp,hb',jM]
def Gs{m:Ap.Mod}(K:MvOk m)(hm:m.moves=true):∀(k i:Nat),m.vars.length-i=k->i<=m.vars.length->
  aj (L123_1 (ah pg) aj) [.ip (ab m.av),aC m.vars,.int .i64 m.vars.length,.int .i64 i]=M.pure (jM (bq ((ew m.old m.vars m.forward).drop i++ew m.vars m.old m.back))):=by
 intro k
 induction k with
 |zero=>
  intro i hk hi;have h1:¬((i:Int)<(m.vars.length:Int)):=by omega
  have h0:=Gr K m.old.length 0 rfl (G9 _);have h0':aj (L123_0 (ah pg) aj) [.ip (ab m.av),aC m.old,.int .i64 m.old.length,.int .i64 0]=M.pure (jM (bq (ew m.vars m.old m.back))):=h0;rw[FL123_1,lc _ _ _ _ (by omega),Hu];simp only[bj]at h0' |-;simp[L123_1,h1,h0']
 | succ k ih=>
  intro i hk hi;have hlt:i<m.vars.length:=by omega
  have h1:(i:Int)<(m.vars.length:Int):=by omega
  have hw:IntKind.i64.wrap ((i:Int)+1)=(i:Int)+1:=aK (by have:=K.vlen;omega);have hix:=lX (l:=m.vars) (n:=(i:Int)) (by omega) h1;rw[GP,G2 m.vars i hlt]at hix;have hwl:=K.wlen hm;have hlt2:i<m.forward.length:=by omega
  have hix2:=lY (l:=m.forward) (n:=(i:Int)) (by omega) (by omega);rw[GP,G2 m.forward i hlt2]at hix2;have hp:=CK m.name m.old (fun z hz=>dQ (K.old z hz)) (by have:=K.olen;omega) m.forward[i] (K.forw _ (GQ _)) (K.lim.fes _ (GQ _)) m.vars[i].2 (K.vars _ (GQ _));have ih':aj (L123_1 (ah pg) aj) [.ip (ab m.av),aC m.vars,.int .i64 m.vars.length,.int .i64 ((i:Int)+1)]=_:=ih (i+1) (by omega) (by omega);rw[FL123_1,jF _ _ _ _ hwl hlt,Hg,bq];simp only[bj]at ih' |-;generalize m.vars[i]=z at hix hp |-;generalize m.forward[i]=e at hix2 hp |-;by_cases hb:iJ m.old e z.2=0
  ·rw[hb]at hp;rw[GM hb];simp[L123_1,h1,hix,hix2,hp,hw,ih']
  ·rw[if_neg hb];have hb':(iJ m.old e z.2 != 0)=true:=H5.2 hb;simp[L123_1,h1,hix,hix2,hp,hb',jM]
def Gt{m:Ap.Mod}(K:MvOk m):∀(k i:Nat),m.vars.length-i=k->i<=m.vars.length->
  aj (L123_2 (ah pg) aj) [.ip (ab m.av),aC m.vars,.int .i64 m.vars.length,.int .i64 i]=M.pure (jM (bq ((ew [] m.vars m.init).drop i++if m.moves=true then ew m.old m.vars m.forward++ew m.vars m.old m.back else[]))):=by
 intro k
 induction k with
 | zero=>
  intro i hk hi;have h1:¬((i:Int)<(m.vars.length:Int)):=by omega
  rw[FL123_2,lc _ _ _ _ (by omega),Hu];cases hm:m.moves with
  |true=>
   have h0:=Gs K hm m.vars.length 0 rfl (G9 _);have h0':aj (L123_1 (ah pg) aj) [.ip (ab m.av),aC m.vars,.int .i64 m.vars.length,.int .i64 0]=M.pure (jM (bq (ew m.old m.vars m.forward++ew m.vars m.old m.back))):=h0;simp only[bj,hm]at h0' |-;simp[L123_2,h1,h0']
  |false=>
   simp only[bj,hm];simp[L123_2,h1,jM,bq]
 | succ k ih=>
  intro i hk hi;have hlt:i<m.vars.length:=by omega
  have h1:(i:Int)<(m.vars.length:Int):=by omega
  have hw:IntKind.i64.wrap ((i:Int)+1)=(i:Int)+1:=aK (by have:=K.vlen;omega);have hix:=lX (l:=m.vars) (n:=(i:Int)) (by omega) h1;rw[GP,G2 m.vars i hlt]at hix;have hwl:=K.ilen;have hlt2:i<m.init.length:=by omega
  have hix2:=lY (l:=m.init) (n:=(i:Int)) (by omega) (by omega);rw[GP,G2 m.init i hlt2]at hix2;have hp0:=CK m.name [] (fun z hz=>by cases hz) (by simp) m.init[i] (K.init _ (GQ _)) (K.lim.ies _ (GQ _)) m.vars[i].2 (K.vars _ (GQ _));have hp:ah pg 180 [.str m.name,.sl [],m.init[i].av,m.vars[i].2.av]=M.pure (.int .i64 (iJ [] m.init[i] m.vars[i].2)):=hp0;have ih':aj (L123_2 (ah pg) aj) [.ip (ab m.av),aC m.vars,.int .i64 m.vars.length,.int .i64 ((i:Int)+1)]=_:=ih (i+1) (by omega) (by omega);rw[FL123_2,jF _ _ _ _ hwl hlt,Hg,bq];simp only[bj]at ih' |-;generalize m.vars[i]=z at hix hp |-;generalize m.init[i]=e at hix2 hp |-;by_cases hb:iJ [] e z.2=0
  ·rw[hb]at hp;rw[GM hb];simp[L123_2,h1,hix,hix2,hp,hw,ih']
  ·rw[if_neg hb];have hb':(iJ [] e z.2 != 0)=true:=H5.2 hb;simp[L123_2,h1,hix,hix2,hp,hb',jM]
def FX{m:Ap.Mod}(K:MvOk m):ah pg 123 [m.av]=M.pure (jM (iB m)):=by
 have h0:=Gt K m.vars.length 0 rfl (G9 _);have h0':aj (L123_2 (ah pg) aj) [.ip (ab m.av),aC m.vars,.int .i64 m.vars.length,.int .i64 0]=M.pure (jM (iB m)):=h0;rw[C123];simp only[bj]at h0';simp[S123,h0'];exact bL fun g=>by simp[jM,cl,c8]
def setRow(ns:List bA):List AV:=ns.map fun s=>.tup [.str s,.bool true]
theorem Cd(a b:bA):uY T 20 9 (.str a) (.str b)=some (a== b):=rfl
theorem kI(s:bA):(ns:List bA)->(i:Nat)->(ns.contains s=false/\dJ T 9 (.str s) (setRow ns) i=some none)\/(ns.contains s=true/\∃(j:Nat)(k:AV),dJ T 9 (.str s) (setRow ns) i=some (some (j,k,.bool true)))
 |[],i=>.inl ⟨rfl,rfl⟩
 | x:: ns,i=>by
  show (_/\dJ T 9 (.str s) (.tup [.str x,.bool true]:: setRow ns) i=_)\/(_/\∃(j:Nat)(k:AV),dJ T 9 (.str s) (.tup [.str x,.bool true]:: setRow ns) i=_);unfold dJ;rw[Cd,List.contains_cons];cases h:s== x with
  |true=>exact .inr ⟨rfl,i,.str x,rfl⟩
  |false=>
   rcases kI s ns (i+1)with⟨h1,h2⟩|⟨h1,j,k,h2⟩
   ·exact .inl ⟨by rw[h1];rfl,h2⟩
   ·exact .inr ⟨by rw[h1];rfl,j,k,h2⟩
theorem m7{h:Hp}{l:Nat}{ns:List bA}(hl:h[l]? = some [.tup (setRow ns)])(s:bA):dF T 130 (.mp l) (.str s) false h= .ok (.bool (ns.contains s)) h:=by
 have e:lI T 130 (setRow ns) (.str s) false=(match dJ T 9 (.str s) (setRow ns) 0 with
   |some (some (_,_,v))=>some v
   |some none=>some (.bool false)
   |none=>none):=rfl
 unfold dF iu;simp only[hl];rw[e];rcases kI s ns 0 with⟨h1,h2⟩|⟨h1,j,k,h2⟩
 ·rw[h2,h1]
 ·rw[h2,h1]
theorem qh{h:Hp}{l:Nat}{ns:List bA}(hl:h[l]? = some [.tup (setRow ns)])(s:bA)(hs:ns.contains s=false):kl T 130 (.mp l) (.str s) (.bool true) h= .ok (.tup []) (h.set l [.tup (setRow (ns++[s]))]):=by
 have e:kl T 130 (.mp l) (.str s) (.bool true) h=(match h[l]? with
   |some [.tup es]=>(match rQ T 9 es (.str s) (.bool true)with
    |some es'=>.ok (.tup []) (h.set l [.tup es'])
    |none=>.fail)
   |_=>.fail):=rfl
 rw[e,hl];simp only;unfold rQ;rcases kI s ns 0 with⟨h1,h2⟩|⟨h1,j,k,h2⟩
 ·rw[h2];simp[setRow]
 ·rw[h1]at hs;cases hs
theorem zX(l:List br)(hb:l.length<=140737488355328)(ht:∀f∈l,f.2.Lim)(most:Int)(q:Nat):∀(n i:Nat),l.length-i=n->i<=l.length->∀(seen:List bA)(h:Hp),h[q]? = some [.tup (setRow seen)]->
  ∃h',aj (L117_0 (ah pg) aj) [aC l,.int .i64 most,.mp q,aC l,.int .i64 l.length,.int .i64 i] h= .ok (.bool (rP seen (l.drop i)&&decide ((l.length:Int)<=most))) h':=by
 intro n
 induction n with
 |zero=>
  intro i hn hi seen h hq;rw[FL117_0];have h1:¬((i:Int)<(l.length:Int)):=by omega
  have h2:l.drop i=[]:=G5 (by omega);rw[h2];exact⟨h,by simp[L117_0,h1,rP,M.pure]⟩
 | succ n ih=>
  intro i hn hi seen h hq;have hlt:i<l.length:=by omega
  have h1:(i:Int)<(l.length:Int):=by omega
  have h2:l.drop i=l[i]:: l.drop (i+1):=GZ hlt;have hw:IntKind.i64.wrap ((i:Int)+1)=((i+1:Nat):Int):=aK (by omega);have hix:=lX (l:=l) (n:=(i:Int)) (by omega) h1;rw[GP,G2 l i hlt]at hix;have hfl:=ht _ (GQ hlt);have ih':=fun s=>ih (i+1) (by omega) (by omega) (seen++[s]) (h.set q [.tup (setRow (seen++[s]))]);have hql:q<h.length:=(G8.1 hq).1;rw[h2];generalize l[i]=f at hix hfl |-;have hlk:=m7 hq f.1;have hnm:=t76 f.1;have hty:=t47 f.2 hfl;have hcf:aH 3 (ba f)=M.pure (ba f):=by rw[bQ (fS f),cC,fO]
  generalize hcode:aj (L117_0 (ah pg) aj) [aC l,.int .i64 most,.mp q,aC l,.int .i64 l.length,.int .i64 i] h=code;rw[FL117_0]at hcode;simp -implicitDefEqProofs only[L117_0,bc,bm,bT,aI,h1,HB,aZ,Hk,hix,cC,LD76,GY,G4,G1,Nat.reduceAdd,GL,Hb,Hn,fO,hcf,aR,FA76_0,FA76_1,Hi,HH,LD9]at hcode;rw[aF hlk]at hcode;have eo:rP seen (f:: l.drop (i+1))=(!(seen.contains f.1)&&bX f.1&&a8 f.2&&rP (seen++[f.1]) (l.drop (i+1))):=rfl;rw[eo];cases hc:seen.contains f.1 with
  |true=>
   rw[hc]at hcode;refine⟨h,?_⟩;rw[<- hcode];simp[M.pure]
  | false=>
   rw[hc]at hcode;cases hn2:bX f.1 with
   |false=>
    rw[hn2]at hnm;refine⟨h,?_⟩;rw[<- hcode];simp[hnm,M.pure]
   | true=>
    rw[hn2]at hnm;cases hr:a8 f.2 with
    |false=>
     rw[hr]at hty;refine⟨h,?_⟩;rw[<- hcode];simp[hnm,hty,M.pure]
    |true=>
     rw[hr]at hty;obtain⟨h',e'⟩:=ih' f.1 (by rw[HZ hql]);refine⟨h',?_⟩;have hp:=qh hq f.1 hc;rw[<- hcode];simp -implicitDefEqProofs only[hnm,hty,aR,dh,g7,H3,I2,bc,lP,aZ,Hm,HI,LD27,GY,G4,G1,Nat.reduceAdd,GL,Hk,Hb,Hn,cu,aI];rw[aF hp];simp only[dL,aI,hw,e',HJ]
theorem t117(l:List br)(hb:l.length<=140737488355328)(ht:∀f∈l,f.2.Lim)(most:Int):ah pg 117 [aC l,.int .i64 most]=M.pure (.bool (ey l most)):=by
 obtain⟨h',e⟩:=zX l hb ht most 0 l.length 0 rfl (G9 _) [] ([]++[[.tup []]]) rfl;rw[Hi]at e;rw[C117];funext hp;have key:S117 (ah pg) aj (cl ay (aC l)) (cl ay (.int .i64 most)) []= .ok (.bool (ey l most)) h':=by
  rw[l8,sP];have hn:eh []= .ok (.mp 0) ([]++[[.tup []]]):=rfl;simp -implicitDefEqProofs only[S117];rw[aF hn];simp only[vZ,aI];exact e
 show aG _ hp=R.ok (.bool (ey l most)) hp;unfold aG;rw[key];rfl
def t119(l:List Exp)(hb:l.length<=140737488355328)(ht:∀e∈l,e.Lim)(n:Int):ah pg 119 [cj l,.int .i64 n]=M.pure (.bool (l.all uw&&((l.length:Int)== n))):=by
 have hloop:∀(m i:Nat),l.length-i=m->i<=l.length->aj (L119_0 (ah pg) aj) [cj l,.int .i64 n,cj l,.int .i64 l.length,.int .i64 i]=M.pure (.bool ((l.drop i).all uw&&((l.length:Int)== n))):=by
  intro m
  induction m with
  |zero=>
   intro i hm hi;rw[FL119_0];have h1:¬((i:Int)<(l.length:Int)):=by omega
   have h2:l.drop i=[]:=G5 (by omega);simp[L119_0,h1,h2]
  |succ m ih=>
   intro i hm hi;have hlt:i<l.length:=by omega
   have h1:(i:Int)<(l.length:Int):=by omega
   have h2:l.drop i=l[i]:: l.drop (i+1):=GZ hlt;have hw:IntKind.i64.wrap ((i:Int)+1)=((i+1:Nat):Int):=aK (by omega);have hix:=lY (l:=l) (n:=(i:Int)) (by omega) h1;rw[GP,G2 l i hlt]at hix;have hr:=t118 l[i] (ht _ (GQ hlt));have ih':=ih (i+1) (by omega) (by omega);rw[h2,HK,FL119_0];generalize l[i]=e at hix hr |-;cases hb2:uw e<;>rw[hb2]at hr <;>
   simp only[L119_0,bc,bm,bT,aI,h1,HB,aZ,Hk,hix,bJ,LD47,GY,G4,G1,Nat.reduceAdd,GL,Hb,Hn,dK,pL,aR,hr,g7,H3,I2,Hm,HI,dL,hw,ih',HJ,I1]
 have h:=hloop l.length 0 rfl (G9 _);rw[Hi]at h;have h':aj (L119_0 (ah pg) aj) [cj l,.int .i64 n,cj l,.int .i64 l.length,.int .i64 0]=M.pure (.bool (l.all uw&&((l.length:Int)== n))):=h;rw[C119];simp[S119,h']
def zL(f:Fun):aH 12 f.av=M.pure f.av:=by rw[bQ (iG f),fJ,ix]
theorem Aa(m:Ap.Mod)(hm:m.Lim)(q:Nat)(R:Bool)(hend:∀h:Hp,∃h',aj (L48_0 (ah pg) aj) [.ip (ab m.av),.mp q,fQ m.funcs,.int .i64 m.funcs.length,.int .i64 m.funcs.length] h= .ok (.bool R) h'):∀(n i:Nat),m.funcs.length-i=n->i<=m.funcs.length->∀(seen:List bA)(h:Hp),h[q]? = some [.tup (setRow seen)]->
  ∃h',aj (L48_0 (ah pg) aj) [.ip (ab m.av),.mp q,fQ m.funcs,.int .i64 m.funcs.length,.int .i64 i] h= .ok (.bool (lL seen (m.funcs.drop i)&&R)) h':=by
 have hb:=hm.funcs;intro n
 induction n with
 |zero=>
  intro i hn hi seen h hq;have h2:m.funcs.drop i=[]:=G5 (by omega);obtain rfl:i=m.funcs.length:=by omega
  rw[h2];exact hend h
 | succ n ih=>
  intro i hn hi seen h hq;have hlt:i<m.funcs.length:=by omega
  have h1:(i:Int)<(m.funcs.length:Int):=by omega
  have h2:m.funcs.drop i=m.funcs[i]:: m.funcs.drop (i+1):=GZ hlt;have hw:IntKind.i64.wrap ((i:Int)+1)=((i+1:Nat):Int):=aK (by omega);have hix:=vY (l:=m.funcs) (n:=(i:Int)) (by omega) h1;rw[GP,G2 m.funcs i hlt]at hix;have hfl:=hm.fns _ (GQ hlt);have ih':=fun s=>ih (i+1) (by omega) (by omega) (seen++[s]) (h.set q [.tup (setRow (seen++[s]))]);have hql:q<h.length:=(G8.1 hq).1;rw[h2];generalize m.funcs[i]=f at hix hfl |-;have hlk:=m7 hq f.name;have hnm:=t76 f.name;have hps:=t117 f.params hfl.params hfl.pty 6;have hty:=t47 f.result hfl.result;have hre:=t118 f.body hfl.body;have hex:am T .andNot 3 (.int .i64 f.effects) (.int .i64 15)=some (.int .i64 (cp f.effects 15)):=rfl;generalize hcode:aj (L48_0 (ah pg) aj) [.ip (ab m.av),.mp q,fQ m.funcs,.int .i64 m.funcs.length,.int .i64 i] h=code;rw[FL48_0]at hcode;simp -implicitDefEqProofs only[L48_0,bc,bm,bT,aI,h1,HB,aZ,Hk,hix,fJ,LD73,GY,G4,G1,Nat.reduceAdd,GL,Hb,Hn,ix,zL,aR,FA73_0,Hi,LD9]at hcode;rw[aF hlk]at hcode;have eo:lL seen (f:: m.funcs.drop (i+1))=(!(seen.contains f.name)&&vl f&&lL (seen++[f.name]) (m.funcs.drop (i+1))):=rfl;rw[eo];unfold vl;cases hc:seen.contains f.name with
  |true=>
   rw[hc]at hcode;refine⟨h,?_⟩;rw[<- hcode];simp[M.pure]
  | false=>
   rw[hc]at hcode;cases hn2:bX f.name with
   |false=>rw[hn2]at hnm;refine⟨h,?_⟩;rw[<- hcode];simp[hnm,M.pure]
   | true=>
    rw[hn2]at hnm;cases hp2:ey f.params 6 with
    |false=>rw[hp2]at hps;refine⟨h,?_⟩;rw[<- hcode];simp[hnm,hps,M.pure]
    | true=>
     rw[hp2]at hps;cases hr:a8 f.result with
     |false=>rw[hr]at hty;refine⟨h,?_⟩;rw[<- hcode];simp[hnm,hps,hty,M.pure]
     | true=>
      rw[hr]at hty;cases hrb:uw f.body with
      |false=>rw[hrb]at hre;refine⟨h,?_⟩;rw[<- hcode];simp[hnm,hps,hty,hre,M.pure]
      | true=>
       rw[hrb]at hre;by_cases he:cp f.effects 15=0
       ·obtain⟨h',e'⟩:=ih' f.name (by rw[HZ hql]);refine⟨h',?_⟩;have hp:=qh hq f.name hc;rw[<- hcode];have e'':=e';simp only[bj]at e'';simp[hnm,hps,hty,hre,hex,he];rw[aF hp];simpa [hw]using e''
       ·refine⟨h,?_⟩;rw[<- hcode];have he':(cp f.effects 15== 0)=false:=GU.2 he;simp[hnm,hps,hty,hre,hex,he,he',M.pure]
def Ea(m:Ap.Mod)(hm:m.Lim)(q:Nat)(h:Hp):∃h',aj (L48_0 (ah pg) aj) [.ip (ab m.av),.mp q,fQ m.funcs,.int .i64 m.funcs.length,.int .i64 m.funcs.length] h= .ok (.bool (pd m)) h':=by
 have hnm:=t76 m.name;have hv:=t117 m.vars hm.vars hm.vty 8;have hi:=t119 m.init hm.init hm.ies m.vars.length;have ho:=t117 m.old hm.old hm.oty 8;have hf:=fun n=>t119 m.forward hm.forward hm.fes n;have hb:=t119 m.back hm.back hm.bes m.old.length;refine⟨h,?_⟩;rw[FL48_0];unfold pd;generalize ey m.vars 8=b1 at hv |-;generalize (m.init.all uw&&((m.init.length:Int)== (m.vars.length:Int)))=b2 at hi |-;generalize ey m.old 8=b3 at ho |-;generalize (m.back.all uw&&((m.back.length:Int)== (m.old.length:Int)))=b4 at hb |-;cases hn:bX m.name with
 |false=>rw[hn]at hnm;simp[L48_0,hnm,M.pure]
 | true =>
  rw[hn]at hnm;by_cases hu:m.uses.length<=12
  ·have hu':¬(12<(m.uses.length:Int)):=by omega
   by_cases hfn:m.funcs.length<=30
   ·have hfn':¬(30<(m.funcs.length:Int)):=by omega
    cases b1 with
    |false=>simp[L48_0,hnm,hu,hu',hfn,hfn',hv,M.pure]
    | true=>
     cases b2 with
     |false=>simp[L48_0,hnm,hu,hu',hfn,hfn',hv,hi,M.pure]
     | true=>
      cases hmv:m.moves with
      |true=>
       have hfv:=hf m.vars.length;rw[GM rfl];generalize (m.forward.all uw&&((m.forward.length:Int)== (m.vars.length:Int)))=b5 at hfv |-;cases b3<;>cases b5<;>cases b4<;>simp[L48_0,K48_0,hnm,hu,hu',hfn,hfn',hv,hi,ho,hfv,hb,hmv,M.pure]
      | false=>
       have hfv:=hf 0;rw[if_neg (by decide)];generalize (m.forward.all uw&&((m.forward.length:Int)== 0))=b5 at hfv |-;by_cases hz:0<m.old.length
       ·have hz':0<(m.old.length:Int):=by omega
        have hz2:¬m.old.length=0:=by omega
        simp[L48_0,K48_0,hnm,hu,hu',hfn,hfn',hv,hi,hmv,hz,hz',hz2,M.pure]
       ·have hz':¬0<(m.old.length:Int):=by omega
        have hz2:m.old.length=0:=by omega
        have hb0:ah pg 119 [cj m.back,.int .i64 0]=M.pure (.bool b4):=by
         rw[hz2]at hb;exact hb
        cases b3<;>cases b5<;>cases b4<;>simp[L48_0,K48_0,hnm,hu,hu',hfn,hfn',hv,hi,ho,hfv,hb0,hmv,hz,hz',hz2,M.pure]
   ·have hfn':30<(m.funcs.length:Int):=by omega
    simp[L48_0,hnm,hu,hu',hfn,hfn',M.pure]
  ·have hu':12<(m.uses.length:Int):=by omega
   simp[L48_0,hnm,hu,hu',M.pure]
theorem Ab(m:Ap.Mod)(hm:m.Lim)(q:Nat)(R:Bool)(hend:∀h:Hp,∃h',aj (L48_1 (ah pg) aj) [.ip (ab m.av),.mp q,strs m.uses,.int .i64 m.uses.length,.int .i64 m.uses.length] h= .ok (.bool R) h'):∀(n i:Nat),m.uses.length-i=n->i<=m.uses.length->∀(seen:List bA)(h:Hp),h[q]? = some [.tup (setRow seen)]->
  ∃h',aj (L48_1 (ah pg) aj) [.ip (ab m.av),.mp q,strs m.uses,.int .i64 m.uses.length,.int .i64 i] h= .ok (.bool (yz seen (m.uses.drop i)&&R)) h':=by
 have hb:=hm.uses;intro n
 induction n with
 |zero=>
  intro i hn hi seen h hq;have h2:m.uses.drop i=[]:=G5 (by omega);obtain rfl:i=m.uses.length:=by omega
  rw[h2];exact hend h
 | succ n ih=>
  intro i hn hi seen h hq;have hlt:i<m.uses.length:=by omega
  have h1:(i:Int)<(m.uses.length:Int):=by omega
  have h2:m.uses.drop i=m.uses[i]:: m.uses.drop (i+1):=GZ hlt;have hw:IntKind.i64.wrap ((i:Int)+1)=((i+1:Nat):Int):=aK (by omega);have hix:=qE (l:=m.uses) (n:=(i:Int)) (by omega) h1;rw[GP,G2 m.uses i hlt]at hix;have ih':=fun s=>ih (i+1) (by omega) (by omega) (seen++[s]) (h.set q [.tup (setRow (seen++[s]))]);have hql:q<h.length:=(G8.1 hq).1;rw[h2];generalize m.uses[i]=s at hix |-;have hlk:=m7 hq s;have hnm:=t76 s;generalize hcode:aj (L48_1 (ah pg) aj) [.ip (ab m.av),.mp q,strs m.uses,.int .i64 m.uses.length,.int .i64 i] h=code;rw[FL48_1]at hcode;simp -implicitDefEqProofs only[L48_1,bc,bm,bT,aI,h1,HB,aZ,Hk,hix,eD,LD9]at hcode;rw[aF hlk]at hcode;have eo:yz seen (s:: m.uses.drop (i+1))=(!(seen.contains s)&&bX s&&yz (seen++[s]) (m.uses.drop (i+1))):=rfl;rw[eo];cases hc:seen.contains s with
  |true=>
   rw[hc]at hcode;refine⟨h,?_⟩;rw[<- hcode];simp[M.pure]
  | false=>
   rw[hc]at hcode;cases hn2:bX s with
   |false=>rw[hn2]at hnm;refine⟨h,?_⟩;rw[<- hcode];simp[hnm,M.pure]
   |true=>
    rw[hn2]at hnm;obtain⟨h',e'⟩:=ih' s (by rw[HZ hql]);refine⟨h',?_⟩;have hp:=qh hq s hc;rw[<- hcode];have e'':=e';simp only[bj]at e'';simp[hnm];rw[aF hp];simpa [hw]using e''
theorem t48(m:Ap.Mod)(hm:m.Lim):ah pg 48 [m.av]=M.pure (.bool (jH m)):=by
 have hend:∀h:Hp,∃h',aj (L48_1 (ah pg) aj) [.ip (ab m.av),.mp 0,strs m.uses,.int .i64 m.uses.length,.int .i64 m.uses.length] h= .ok (.bool (lL [] m.funcs&&pd m)) h':=fun h=>by
  have h1:¬((m.uses.length:Int)<(m.uses.length:Int)):=by omega
  obtain⟨h',e⟩:=Aa m hm h.length (pd m) (fun h=>Ea m hm _ h) m.funcs.length 0 rfl (G9 _) [] (h++[[.tup []]]) (by simp[setRow]);rw[Hi]at e;refine⟨h',?_⟩;rw[FL48_1];have hn:eh h= .ok (.mp h.length) (h++[[.tup []]]):=rfl;simp only[bj]at e;simp -implicitDefEqProofs only[L48_1,bc,bm,bT,aI,h1,I9,aZ,Hm,HI];rw[aF hn];simp only[bj,FA41_4,HH,Hi,aI,LD37,Bn];exact e
 obtain⟨h',e⟩:=Ab m hm 0 _ hend m.uses.length 0 rfl (G9 _) [] ([]++[[.tup []]]) rfl;rw[Hi]at e;rw[C48];funext hp;have key:S48 (ah pg) aj (cl ay m.av) []= .ok (.bool (jH m)) h':=by
  have hn:eh []= .ok (.mp 0) ([]++[[.tup []]]):=rfl;simp only[bj]at e;rw[pJ];simp -implicitDefEqProofs only[S48];rw[aF hn];simp only[bj,FA41_1,HH,Hi,aI,LD35,wa];exact e
 show aG _ hp=R.ok (.bool (jH m)) hp;unfold aG;rw[key];rfl
def FT{m:Ap.Mod}(hm:m.Lim)(K:ModOk m):MvOk m:=⟨hm,K.vlen,K.vars,K.ilen,K.init,K.olen,K.old,K.wlen,K.forw,K.blen,K.back⟩
def FG{m:Ap.Mod}(K:ModOk m){fs:List Face}(hfs:∀f∈fs,f.Lim)(ha:∀f∈fs,eI f=true):CxOk m fs where
 vlen:=by have:=K.vlen;omega
 vars:=K.vars
 flen:=by have:=K.flen;omega
 ulen:=by have:=K.ulen;omega
 plen:=fun f hf=>by have:=(K.fns f hf).plen;omega
 pars:=fun f hf=>(K.fns f hf).pars
 res:=fun f hf=>(K.fns f hf).res
 slen:=fun f hf=>(hfs f hf).len
 splen:=fun f hf s hs=>((hfs f hf).sigs s hs).plen
 spars:=fun f hf s hs t ht=>by
  have:=ha f hf
  unfold eI at this;rw[GT]at this;have h2:=this s hs;simp only[GJ,GT]at h2;exact h2.2 t ht
 sres:=fun f hf s hs=>by
  have:=ha f hf
  unfold eI at this;rw[GT]at this;have h2:=this s hs;simp only[GJ]at h2;exact h2.1
theorem zB{m:Ap.Mod}(hm:m.Lim)(MK:ModOk m){fs:List Face}(K:CxOk m fs){q:Nat}{mp:AV}:∀(k i:Nat)(n:Int)(h:Hp),m.funcs.length-i=k->i<=m.funcs.length->JR h q m mp fs n->
  ∃h',aj (L50_0 (ah pg) aj) [.hp q 0,fQ m.funcs,.int .i64 m.funcs.length,.int .i64 i] h= .ok (jM (bq ((vX m fs).drop i))) h':=by
 intro k;have hfl:=MK.flen
 induction k with
 |zero=>
  intro i n h hk hi R;have h1:¬((i:Int)<(m.funcs.length:Int)):=by omega
  have h2:(vX m fs).drop i=[]:=G5 (by simp[vX];omega);refine⟨h,?_⟩;rw[FL50_0,h2];simp[L50_0,h1];rfl
 | succ k ih=>
  intro i n h hk hi R;have hlt:i<m.funcs.length:=by omega
  have h1:(i:Int)<(m.funcs.length:Int):=by omega
  have h2:(vX m fs).drop i=(m.funcs[i].name,vo (dj m fs) m.funcs[i]):: (vX m fs).drop (i+1):=by
   rw[GZ (by simp[vX];exact hlt)];simp[vX]
  have hw:IntKind.i64.wrap ((i:Int)+1)=(i:Int)+1:=aK (by omega);have hix:=vY (l:=m.funcs) (n:=(i:Int)) (by omega) h1;rw[GP,G2 m.funcs i hlt]at hix;have hf:=MK.fns _ (GQ hlt);have hfl2:=hm.fns _ (GQ hlt);rw[h2,bq];generalize m.funcs[i]=f at hix hf hfl2 |-;have R1:=R.set 0;obtain⟨p1,p2⟩:=CJ K 12 f.params f.body 0 _ hf.body hfl2.body (fun z hz=>dQ (hf.pars z hz)) (by have:=hf.plen;omega) R1;have s1:∀g:AV->M AV,ae (bH T 3 (.hp q 10) (.int .i64 0)) g h=g (.tup []) (h.set q (aT m mp 0)):=fun g=>aF (R.put 0) g;rw[FL50_0];have hne:=fw (dj m fs) 12 f.params f.body 0;cases ht:bi (dj m fs) 12 f.params f.body 0 with
  |er b n'=>
   rw[ht]at p1;have hb0:=hne b n' ht;have hb:(b != 0)=true:=H5.2 hb0;have k1:∀g:AV->M AV,ae (ah pg 124 [.hp q 0,aC f.params,f.body.av]) g (h.set q (aT m mp 0))=g (.tup [ty0.av,.int .i64 b]) ((h.set q (aT m mp 0)).set q (aT m mp n')):=fun g=>aF p1 g;have hx:vo (dj m fs) f=b:=by unfold vo;rw[ht]
   rw[hx];dsimp only;rw[if_neg hb0];refine⟨(h.set q (aT m mp 0)).set q (aT m mp n'),?_⟩;simp[L50_0,h1,hix,s1,k1,hb];rfl
  | ok t n'=>
   rw[ht]at p1;have k1:∀g:AV->M AV,ae (ah pg 124 [.hp q 0,aC f.params,f.body.av]) g (h.set q (aT m mp 0))=g (.tup [t.av,.int .i64 0]) ((h.set q (aT m mp 0)).set q (aT m mp n')):=fun g=>aF p1 g;have R2:=R1.set n';have l1:∀g:AV->M AV,ae (bn T 3 (.hp q 10)) g ((h.set q (aT m mp 0)).set q (aT m mp n'))=g (.int .i64 n') ((h.set q (aT m mp 0)).set q (aT m mp n')):=fun g=>aF R2.eff g;rw[Gv]at l1;have hbl:=gE (p2 t n' ht) hf.res;have hex:am T .andNot 3 (.int .i64 n') (.int .i64 f.effects)=some (.int .i64 (cp n' f.effects)):=rfl;by_cases hb:aJ t f.result=true
   case neg=>
    rw[Im]at hb;rw[hb]at hbl;have hx:vo (dj m fs) f=13:=by unfold vo;rw[ht];simp[hb]
    rw[hx];dsimp only;rw[if_neg (by decide)];refine⟨(h.set q (aT m mp 0)).set q (aT m mp n'),?_⟩;simp[L50_0,h1,hix,s1,k1,hbl];rfl
   case pos=>
    rw[hb]at hbl;by_cases he:cp n' f.effects=0
    ·have hx:vo (dj m fs) f=0:=by unfold vo;rw[ht];simp[hb,he]
     rw[hx];dsimp only;rw[GM rfl];obtain⟨h',e'⟩:=ih (i+1) n' _ (by omega) (by omega) R2;have e'':aj (L50_0 (ah pg) aj) [.hp q 0,fQ m.funcs,.int .i64 m.funcs.length,.int .i64 ((i:Int)+1)] ((h.set q (aT m mp 0)).set q (aT m mp n'))=_:=e';rw[Gv]at e'';refine⟨h',?_⟩;simp[L50_0,h1,hix,s1,k1,hbl,l1,hex,he,hw,-my];exact e''
    ·have hx:vo (dj m fs) f=14:=by unfold vo;rw[ht];simp[hb,he]
     rw[hx];dsimp only;rw[if_neg (by decide)];have he':(cp n' f.effects != 0)=true:=H5.2 he;refine⟨(h.set q (aT m mp 0)).set q (aT m mp n'),?_⟩;simp[L50_0,h1,hix,s1,k1,hbl,l1,hex,he',-my];rfl
def zC{m:Ap.Mod}(hm:m.Lim)(MK:ModOk m){fs:List Face}(K:CxOk m fs){q:Nat}{mp:AV}{h:Hp}(R:JR h q m mp fs 0):∀(k i:Nat),m.uses.length-i=k->i<=m.uses.length->
  ∃h',aj (L50_1 (ah pg) aj) [.ip (ab m.av),.hp q 0,strs m.uses,.int .i64 m.uses.length,.int .i64 i] h= .ok (jM (bq ((jf m fs).drop i++iB m:: vX m fs))) h':=by
 intro k;have hul:=MK.ulen
 induction k with
 | zero=>
  intro i hk hi;have h1:¬((i:Int)<(m.uses.length:Int)):=by omega
  have h2:(jf m fs).drop i=[]:=G5 (by simp[jf];omega);have hmv:=FX (FT hm MK);rw[h2,Hu,bq,FL50_1];unfold jM at hmv;by_cases hb:(iB m).2=0
  ·rw[GM hb];obtain⟨h',e'⟩:=zB hm MK K m.funcs.length 0 0 h rfl (G9 _) R;have e'':aj (L50_0 (ah pg) aj) [.hp q 0,fQ m.funcs,.int .i64 m.funcs.length,.int .i64 0] h= .ok (jM (bq (vX m fs))) h':=e';rw[hb]at hmv;refine⟨h',?_⟩;simp[L50_1,h1,hmv,e'']
  ·rw[if_neg hb];have hb':((iB m).2 != 0)=true:=H5.2 hb;refine⟨h,?_⟩;simp[L50_1,h1,hmv,hb'];rfl
 | succ k ih=>
  intro i hk hi;have hlt:i<m.uses.length:=by omega
  have h1:(i:Int)<(m.uses.length:Int):=by omega
  have h2:(jf m fs).drop i=(m.uses[i],if(fs.find? fun f=>f.module== m.uses[i]).isNone||m.uses[i]== m.name then 12 else 0):: (jf m fs).drop (i+1):=by
   rw[GZ (by simp[jf];exact hlt)];simp[jf]
  have hw:IntKind.i64.wrap ((i:Int)+1)=(i:Int)+1:=aK (by omega);have hix:=qE (l:=m.uses) (n:=(i:Int)) (by omega) h1;rw[GP,G2 m.uses i hlt]at hix;obtain⟨h',e'⟩:=ih (i+1) (by omega) (by omega);have e'':aj (L50_1 (ah pg) aj) [.ip (ab m.av),.hp q 0,strs m.uses,.int .i64 m.uses.length,.int .i64 ((i:Int)+1)] h=_:=e';rw[h2,Hg,bq,FL50_1];generalize m.uses[i]=u at hix |-;have l1:∀g:AV->M AV,ae (bn T 139 (.hp q 9)) g h=g mp h:=fun g=>aF R.mp g;have l2:∀g:AV->M AV,ae (dF T 139 mp (.str u) true) g h=g (.tup [((fs.find? fun f=>f.module== u).getD jV).av,.bool (fs.find? fun f=>f.module== u).isSome]) h:=fun g=>aF (kV R.map u) g;simp only[bj]at e'';cases hf:fs.find? (fun f=>f.module== u)with
  |none=>
   rw[hf]at l2;refine⟨h,?_⟩;simp[L50_1,h1,hix,l1,l2,iT,jM];rfl
  | some f=>
   rw[hf]at l2;by_cases hu:u=m.name
   ·subst hu;refine⟨h,?_⟩;simp[L50_1,h1,hix,l1,l2,iT,jM];rfl
   ·refine⟨h',?_⟩;have hu':(u== m.name)=false:=GU.2 hu;simp[L50_1,h1,hix,l1,l2,iT,hu,hw,e'']
theorem Gj(m:Ap.Mod)(hm:m.Lim)(fs:List Face)(hfs:∀f∈fs,f.Lim)(hlen:fs.length<=140737488355328):ah pg 50 [m.av,faces fs]=M.pure (jM (gI m fs)):=by
 have fin:∀(h:Hp)(x:bA×Int),f7 6 h (jM x)=jM x:=fun h x=>by
  have hc:Ap.Clean (jM x):=fun g=>by simp[jM,cl,c8]
  exact hc.frz 6 h
 have hR:=t48 m hm;have lm:ai T 41 (.ip (ab m.av))=some m.av:=rfl;obtain⟨n1,n2⟩:=FW m fs hfs hlen [];rw[C50,pJ,xA];unfold gI;cases ha:fs.all eI with
 |false=>
  obtain⟨h',e'⟩:=n2 ha;have k1:∀g:AV->M AV,ae (ah pg 122 [m.av,faces fs]) g []=g (.tup [.nilp,.bool false]) h':=fun g=>aF e' g;refine bC (v:=jM ([],1)) (h':=h') ?_ (fin _ _);simp only[bj]at lm;simp[S50,k1,lm];rfl
 | true=>
  have e1:=n1 ha;have k1:∀g:AV->M AV,ae (ah pg 122 [m.av,faces fs]) g []=g (.tup [.hp 1 0,.bool true]) ([]++[[.tup (bM (cD [] fs))],aT m (.mp 0) 0]):=fun g=>aF e1 g;cases hr:jH m with
  |false=>
   rw[hr]at hR;refine bC (v:=jM ([],1)) (h':=[]++[[.tup (bM (cD [] fs))],aT m (.mp 0) 0]) ?_ (fin _ _);simp only[bj]at lm;simp[S50,k1,lm,hR];rfl
  | true=>
   rw[hr]at hR;have MK:=yu hr;have hdm:∀f∈cD [] fs,f∈fs:=fun f hf=>by
    rcases oH fs [] f hf with h|h
    ·cases h
    ·exact h
   have K:CxOk m (cD [] fs):=FG MK (fun f hf=>hfs f (hdm f hf)) (fun f hf=>GT.1 ha f (hdm f hf));have R:JR ([]++[[.tup (bM (cD [] fs))],aT m (.mp 0) 0]) 1 m (.mp 0) (cD [] fs) 0:=⟨rfl,.inr ⟨0,rfl,rfl⟩,by simp⟩;obtain⟨h',e'⟩:=zC hm MK K R m.uses.length 0 rfl (G9 _);have e'':aj (L50_1 (ah pg) aj) [.ip (ab m.av),.hp 1 0,strs m.uses,.int .i64 m.uses.length,.int .i64 0] ([]++[[.tup (bM (cD [] fs))],aT m (.mp 0) 0])= .ok (jM (bq (jf m (cD [] fs)++iB m:: vX m (cD [] fs)))) h':=e';simp only[bj]at lm e'';simp only[IP,Hk];refine bC (v:=jM (bq (jf m (cD [] fs)++iB m:: vX m (cD [] fs)))) (h':=h') ?_ (fin _ _);rw[<- e''];simp[S50,k1,lm,hR]
def vR{a b:Face}{m:Ap.Mod}(h1:¬(e9 a b).1=2)(h2:(gI m [a]).2=0):(gI m [b]).2=0:=by
 rw[nW,Classical.not_not]at h1;obtain⟨g1,g2,g3⟩:=(tq a b).1 h1.1;exact Al g1 h1.2 g3 h2
def t11(a b:Face)(m:Ap.Mod)(ha:a.Lim)(hb:b.Lim)(hm:m.Lim):ah pg 11 [a.av,b.av,m.av]=M.pure (.bool true):=by
 rw[C11];obtain⟨p,hp⟩:=Eb a ha;obtain⟨q,hq⟩:=Eb b hb;obtain⟨r,hr⟩:=FJ m hm;cases p with
 |false=>simp[S11,fF,hp]
 | true=>
  cases q with
  |false=>simp[S11,fF,hp,hq]
  | true=>
   cases r with
   |false=>simp[S11,fF,hp,hq,hr]
   | true=>
    have hC:=t17 a b ha hb;have k1:=Gj m hm [a] (fun f hf=>by rw[HX]at hf;subst hf;exact ha) (by simp);have k2:=Gj m hm [b] (fun f hf=>by rw[HX]at hf;subst hf;exact hb) (by simp);have bf:∀f:Face,bg T 78 1 [(0,f.av)]=some (faces [f]):=fun f=>rfl;have x0:∀x:bA×Int,aA (jM x) 0=some (.str x.1):=fun _=>rfl;have x1:∀x:bA×Int,aA (jM x) 1=some (.int .i64 x.2):=fun _=>rfl;have key:=@vR a b m;generalize (e9 a b).2=s1 at *;generalize (e9 a b).1=n at *;generalize gI m [a]=u at *;generalize gI m [b]=v at *;have e1:∀ {x y:Int},x=y->(x== y)=true:=fun h=>Hj.2 h;have e2:∀ {x y:Int},¬x=y->(x== y)=false:=fun h=>GU.2 h;by_cases g1:n=2
    ·simp[S11,fF,hp,hq,hr,hC,bf,k1,k2,x0,x1,g1]
    ·by_cases g2:u.2=0
     ·have g3:=key g1 g2;simp[S11,fF,hp,hq,hr,hC,bf,k1,k2,x0,x1,g1,g2,g3]
     ·have g2':(u.2 != 0)=true:=by simpa using g2
      simp[S11,fF,hp,hq,hr,hC,bf,k1,k2,x0,x1,g1,g2,g2']
end Go.Proofs.YteemeakjlfnapaaGreatDoor
namespace Go.Proofs.YteemeakjlfnapaaGreatDoor.compatSound
open Go Go.Av Go.Av.Ap Go.ChangeShapes Go.WideShapes Go.ChangeAt Go.RowKit Go.Joins Go.Deep
set_option maxRecDepth 1000000
def kids:Kids Tryz.prog (· < Tryz.prog.types.size):=kids_rows (by kernel_rfl) (by kernel_rfl)
def sa:∀t e,t<Tryz.prog.types.size->Tryz.prog.underlying t=some (.slice e)->0<Tryz.prog.cellsOf e:=slices_full_of Tryz.prog (by kernel_rfl)
def xH(H:Type)(enc:TypeId×Value->H)(W:World)(base:Nat)(args:Array Value)(ds gs:List (DataW H))(before:List MemPlace)(hval:∀(j:Nat) t v,Tryz.f11.params[j]? = some t->args[j]? = some v->Value.okWide Tryz.prog W .any base t v)(hW:DataW.Whole enc Tryz.prog Tryz.f11.params.toList Rows.compatSoundSpec.vars false W args.toList ds gs before)(hz:(DataW.weightsEach Tryz.prog (Tryz.f11.params.toList++Rows.compatSoundSpec.plain.varTypes Tryz.prog) (ds++gs)).all (· <=reachBytes)=true)(hL:laidMetH Tryz.prog Rows.compatSoundRow.laid W)(hS:W.ShapedOpen Tryz.prog):
  Calls Tryz.prog 11 args W fun e W'=>∃v,e= .returned v/\Rows.compatSoundSpec.post enc Tryz.prog Tryz.f11 false true false false W args v W':=by
 have hW':=hW;obtain⟨p,q,hA0,hV,rfl,hfz,hnd⟩:=hW;have hA:DataW.TrodAll enc Tryz.prog W 0 (fun _=>true) true Tryz.f11.params.toList args.toList ds p:=hA0;have hA1:=hA;rw[Tryz.params11]at hA hval hz;obtain⟨v0,vs0,d0,ds0,p0,q0,ha0,rfl,rfl,h0,r0⟩:=trodAll_cons hA;obtain⟨v1,vs1,d1,ds1,p1,q1,ha1,rfl,rfl,h1,r1⟩:=trodAll_cons r0;obtain⟨v2,vs2,d2,ds2,p2,q2,ha2,rfl,rfl,h2,r2⟩:=trodAll_cons r1;obtain⟨hnil,rfl,rfl⟩:=trodAll_nil r2;subst hnil;subst ha2;subst ha1;obtain rfl:args= #[v0,v1,v2]:=by cases args;simp_all
 obtain⟨rfl,rfl⟩:=trodVars_none hV;obtain⟨x0,k0,o0⟩:=jk (fun N=>(uu N).le (Iu N)) (fun a=>rfl) Tryz.underlying24 (hval 0 24 v0 rfl rfl) h0 (jr hz (j:=0) rfl rfl);obtain⟨x1,k1,o1⟩:=jk (fun N=>(uu N).le (Iu N)) (fun a=>rfl) Tryz.underlying24 (hval 1 24 v1 rfl rfl) h1 (jr hz (j:=1) rfl rfl);obtain⟨x2,k2,o2⟩:=jk (fun N=>(CN N).le (Iu N)) (fun a=>rfl) Tryz.underlying41 (hval 2 41 v2 rfl rfl) h2 (jr hz (j:=2) rfl rfl);clear hA0;simp only[JE]at hW' hA1;have hlt:=hW'.lt;have hv:aX (kC W) [] [x0.av,x1.av,x2.av] [v0,v1,v2]:=by
  simp only[aX];exact⟨_,_,rfl,k0,_,_,rfl,k1,_,_,rfl,k2,rfl⟩
 refine (vB good hOther (Ci hL hS) hv (by rw[t11 x0 x1 x2 o0 o1 o2];rfl)).mono fun e W' ⟨he,hb⟩=>?_;subst he;exact⟨_,rfl,og (pv:=[]) hW' (fun _ _ _=>trodAll_cons_mk (shut_bool Tryz.underlying4 _) trodAll_mk0) (fun sp hsp=>
   sF kids sa (by rw[Tryz.params11];decide +kernel) hA1 hlt hb sp hsp) (fun _ _=>rfl) (by simp)
  hb (ok_one (by kernel_rfl) rfl (okWide_bool_mk Tryz.underlying4 _))⟩
def reads(os:Os){H:Type}(enc:TypeId×Value->H):∃ds places,DataW.whole enc Tryz.prog ((kQ os).forCall (fun _ _=>0) ⟨#[],#[.agg #[.string ⟨#[]⟩,.slice none 0 0],.agg #[.string ⟨#[]⟩,.slice none 0 0],.agg #[.string ⟨#[]⟩,.slice none 0 0,.slice none 0 0,.slice none 0 0,.slice none 0 0,.bool false,.slice none 0 0,.slice none 0 0,.slice none 0 0]],[]⟩).memory Tryz.f11.params.toList Rows.compatSoundSpec.vars false #[.agg #[.string ⟨#[]⟩,.slice none 0 0],.agg #[.string ⟨#[]⟩,.slice none 0 0],.agg #[.string ⟨#[]⟩,.slice none 0 0,.slice none 0 0,.slice none 0 0,.slice none 0 0,.bool false,.slice none 0 0,.slice none 0 0,.slice none 0 0]].toList 8=some (ds,[],places):=
 ⟨[.agg [.lit (.string []),.nil],.agg [.lit (.string []),.nil],.agg [.lit (.string []),.nil,.nil,.nil,.nil,.lit (.bool false),.agg [.nil,.nil,.nil]]],[],by kernel_rfl⟩
def lifted(os:Os)(started:os.Started)(H:Type)(enc:TypeId×Value->H)(F:Stop.Interp):
  ReturnsInHanded {} Tryz.checked os 11 .any ((OpenSpec.ofChange Rows.compatSoundSpec).preRow enc Tryz.prog Tryz.f11 Rows.compatSoundRow.domain false Rows.compatSoundRow.laid) (((OpenSpec.ofChange Rows.compatSoundSpec).at F).post enc Tryz.prog Tryz.f11 false true false false):=by
 obtain⟨ds,places,hx⟩:=reads os enc;refine returnsInHanded_of_row (C:=Tryz.checked) (s:=OpenSpec.ofChange Rows.compatSoundSpec) FU started (by kernel_rfl) Tryz.func11
  (witness_row_atRef (enc:=enc) (C:=Tryz.checked) false (kQ os) #[.agg #[.string ⟨#[]⟩,.slice none 0 0],.agg #[.string ⟨#[]⟩,.slice none 0 0],.agg #[.string ⟨#[]⟩,.slice none 0 0,.slice none 0 0,.slice none 0 0,.slice none 0 0,.bool false,.slice none 0 0,.slice none 0 0,.slice none 0 0]] rfl (by kernel_rfl) (by kernel_rfl) (by kernel_rfl)
   (OpenSpec.preRow_of_cond 8 hx (by kernel_rfl) (fun k hk=>by cases hk) (by kernel_rfl) (yh os _))) ?_
 intro W base args ds gs before hval hW _ _ hz hL hS _;exact xH H enc W base args ds gs before hval hW hz hL hS
end Go.Proofs.YteemeakjlfnapaaGreatDoor.compatSound
