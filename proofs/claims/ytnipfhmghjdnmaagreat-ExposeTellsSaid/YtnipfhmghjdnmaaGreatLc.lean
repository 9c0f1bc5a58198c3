/- The abstract evaluator of the model and plain laws, part 3: its soundness holds for every program whose table of types is the evaluator's. No further condition. -/
import Derived.Test.YtnipfhmghjdnmaaGreatLb
import Derived.Orders
import Derived.KernelRfl
import Derived.Below
import Derived.Shelf.SlSortCmp.WholeK
import Derived.IntWalk
set_option linter.defProp false
set_option linter.unusedSimpArgs false
set_option linter.unusedVariables false
namespace Go.Av
variable [Dr]
def ef:Act1->M Upd
 |.bad=>M.fail
 |.stat u=>M.pure u
 |.dyn m sh=>ae m fun v=>M.pure (sh v)
 |.thr v=>ic v
def kN(c:AV)(want:Bool)(m:M Upd):M Upd:=match c with
 |.bool b=>bif b== want then m else M.pure (.ofV (.tup []))
 |.tup []=>M.pure (.ofV (.tup []))
 |_=>M.fail
def fh(cx:Cx)(base:Nat)(ops:Array Oper)(i:Nat)(e:Env):M Upd:=match ops[i]? with
 |none=>M.fail
 | some o=>match o.guard with
  |none=>ef (fQ cx e ((base+i)*1000) o)
  |some (j,want)=>match dG ops j with
   |none=>M.fail
   |some t=>bif fa cx o then kN (e.av t) want (ef (ib (fQ cx e ((base+i)*1000) o)))else M.fail
def stepG(cx:Cx)(base:Nat)(ops:Array Oper)(i:Nat)(e:Env):M Env:=ae (fh cx base ops i e) fun u=>M.pure (e.upd (dG ops i) u)
def br(cx:Cx)(base:Nat)(ops:Array Oper):List Nat->Env->M Env
 |[],e=>M.pure e
 |i:: is,e=>ae (stepG cx base ops i e) (br cx base ops is)
omit [Dr]in
theorem lX(e:Env)(d:Option Tmp)(A:Act1):bi e d A=ae (ef A) fun u=>M.pure (e.upd d u):=by
 cases A with
 |bad=>rfl
 |stat u=>rfl
 |dyn m sh=>simp only[bi,ef,gG,aA]
 |thr v=>rfl
omit [Dr]in
theorem lM{p:Upd->Prop}{A:Act1}(h:cH p A){x y:Hp}{u:Upd}(hr:ef A x= .ok u y):p u:=by
 cases A with
 |bad=>cases hr
 |stat v=>cases hr;exact h
 |dyn m sh=>
  simp only[ef,ae,M.pure]at hr;cases hm:m x<;>rw[hm]at hr<;>simp at hr;rw[<- hr.1];exact h _
 |thr v=>cases hr
omit [Dr]in
theorem pp(A:Act1)(x:Hp):ef (ib A) x=(match ef A x with|.ok u y=>.ok (gy u) y|.pan v y=>.pan v y|.fail=>.fail):=by
 cases A with
 |bad=>rfl
 |stat v=>rfl
 |dyn m sh=>
  simp only[ef,ib,ae,M.pure];cases m x<;>rfl
 |thr v=>rfl
section
variable {P:Program} {cx:Cx} {c:Entry} {N:Nat} {e:Env} {h:Hp} {a:Act} {w:World} {ops:Array Oper} {base:Nat}
def UD(base:Nat)(D:List Nat):Nat->Prop:=fun g=>g<base*1000\/∃i∈D,(base+i)*1000<=g/\g<(base+i)*1000+1000
omit [Dr]in
theorem vR{D:List Nat}{i:Nat}(hi:i ∉ D):∀g,(base+i)*1000<=g->g<(base+i)*1000+1000->¬UD base D g:=by
 rintro g h1 h2 (h3|⟨j,hj,h4,h5⟩)
 ·have:base*1000<=(base+i)*1000:=NY _ (by omega);omega
 ·have:i=j:=by omega
  exact hi (this▸hj)
omit [Dr]in
theorem ut{D:List Nat}{i:Nat}:∀g,UG (UD base D) ((base+i)*1000) g->UD base (i:: D) g:=by
 rintro g ((h1|⟨j,hj,h2⟩)|h1)
 ·exact .inl h1
 ·exact .inr ⟨j,by simp[hj],h2⟩
 ·exact .inr ⟨i,by simp,h1⟩
structure OpsOk (N:Nat) (cx:Cx) (ops:Array Oper):Prop where
 dst:∀(i:Nat)(o:Oper),ops[i]? = some o->∀t,o.dst=some t->t<N
 src:∀(i:Nat)(o:Oper),ops[i]? = some o->∀x∈o.op.operands.toList,∀t,x= .tmp t->t<1000
 kin:∀p,B5 (cD cx.ann.kinds p .L)=true->p<N
omit [Dr]in
theorem BU{x:Array Value}{t:Nat}{b:Bool}(h:x.getD t undef= .bool b):x[t]? = some (.bool b):=by
 rw[Om]at h;cases hx:x[t]? with
 |none=>rw[hx]at h;cases h
 |some v=>rw[hx]at h;simp at h;rw[h]
theorem CB{U:Nat->Prop}{gid:Nat}{f:Foot}{ss:Option Nat}{d:Option Tmp}{u:Upd}(hs:Shape e gid f ss u)(hw:f.wl=false)(hdr:f.dr=false)(hU:∀g z,aV e.al g=some z->g≠gid){a':Act}{w':World}{h':Hp}(H:eW c N U (e.upd d u) h' a' w'):eW c N U (e.upd d (gy u)) h' a' w':=by
 obtain⟨S,β,γ,lam,ω,F⟩:=H;have h1:=hs.ls hw;have h2:=hs.lb hw;have h3:=hs.unlb hw;have h4:=hs.nodr hdr;have hget:∀t,(e.upd d (gy u)).get t=if d=some t then⟨u.ent.v,none⟩else e.get t:=fun t=>by rw[cS];rfl
 have hget':∀t,(e.upd d u).get t=if d=some t then u.ent else e.get t:=fun t=>by rw[cS,h1];rfl
 refine⟨S,β,γ,lam,ω,F.weak (fun t=>.inl ?_) (fun t g hg=>?_) (fun g z hz=>?_) (fun B n hB=>?_)⟩
 ·rw[hget,hget'];split<;>rfl
 ·rw[hget]at hg;rw[hget'];split at hg
  ·cases hg
  ·rename_i hd;rw[if_neg hd];exact hg
 ·have hz':aV e.al g=some z:=hz;show aV (u.add++eG e.al u.drop) g=some z;rw[h4];have hne:=hU g z hz';have:∀l:List (Nat×Option Nat),(∀x∈l,x.1=gid)->aV (l++eG e.al none) g=some z:=by
   intro l
   induction l with
   |nil=>intro _;exact hz'
   | cons x l ih=>
    intro hl;obtain⟨k,y⟩:=x;rw[Ob,cm,if_neg]
    ·exact ih fun x hx=>hl x (by simp[hx])
    ·have:=hl (k,y) (by simp)
     simp at this;omega
  exact this u.add (hs.add hw)
 ·show bN (mz (ek e.lb u.unlb) u.lb) B=some n;rw[h2,h3];exact hB
theorem sy(hT:TOK P cx.T)(hC:db P cx.own cx.call)(hO:OpsOk N cx ops){D:List Nat}{i:Nat}(hi:i ∉ D)(H:eW c N (UD base D) e h a w)(hr:stepG cx base ops i e h≠.fail){K:Act->World->Prop}{Q:Exit->Act->World->Prop}(hn:∀e' h' a' w',stepG cx base ops i e h= .ok e' h'->eW c N (UD base (i:: D)) e' h' a' w'->a'.defers=a.defers->K a' w')(hp:∀pv h' v w',stepG cx base ops i e h= .pan pv h'->mw c pv h' v w'->Q (.panic [{ v,recovered:=false }]) a w'):wpOp P ops Q i K a w:=by
 obtain⟨S,β,γ,lam,ω,F⟩:=H;unfold stepG fh at hr hn hp;simp only[wpOp];cases ho:ops[i]? with
 |none=>rw[ho]at hr;exact absurd rfl hr
 | some o=>
  have hdst:dG ops i=o.dst:=by simp[dG,ho]
  rw[hdst,ho]at hr hn hp;simp only at hr hn hp |-;have hop:=fun(hr:bR cx e ((base+i)*1000) o h≠.fail)=>Fc hT hC F (hO.dst i o ho) (vR hi) (hO.src i o ho) hO.kin hr;cases hg:o.guard with
  |none=>
   rw[hg]at hr hn hp;simp only at hr hn hp;rw[<- lX]at hr hn hp;have hw:Region.wanted o (yielded ops a.tmps)=true:=by unfold Region.wanted;rw[hg]
   rw[NE hw];exact .inl (hop hr K Q (fun e' h' a' w' h1 h2 h3=>hn e' h' a' w' h1 (h2.wider ut) h3) hp)
  | some g=>
   obtain⟨j,want⟩:=g;rw[hg]at hr hn hp;simp only at hr hn hp;have hwant:Region.wanted o (yielded ops a.tmps)=(yielded ops a.tmps j== some want):=by unfold Region.wanted;rw[hg]
   cases hdj:dG ops j with
   |none=>rw[hdj]at hr;exact absurd rfl hr
   | some t=>
    rw[hdj]at hr hn hp;simp only at hr hn hp;cases hpl:fa cx o with
    |false=>rw[hpl]at hr;exact absurd rfl hr
    |true=>
    rw[hpl]at hr hn hp;simp only[NF]at hr hn hp;have hdj':(ops[j]?).bind (·.dst)=some t:=hdj;have htN:t<N:=by
     cases hoj:ops[j]? with
     |none=>rw[hoj]at hdj';simp at hdj'
     |some oj=>rw[hoj]at hdj';exact hO.dst j oj hoj t hdj'
    have hs:=F.slots t (by have:=F.tsz.2;omega);have hav:VR S β (e.av t) (a.tmps.getD t undef):=by
     simp only[Env.av,Ent.av];cases hv:(e.get t).v with
     |val av=>rw[hv]at hs;exact hs
     |loc B off=>simp[VR]
    have hskip:(∀e' h' a' w',(R.ok (e.upd o.dst (.ofV (.tup []))) h:R Env)= .ok e' h'->eW c N (UD base (i:: D)) e' h' a' w'->a'.defers=a.defers->K a' w')->K (a.put o.dst undef) w:=by
     intro hn;exact hn _ _ _ _ rfl ⟨S,β,γ,lam,ω,(F.setV (v:=undef) (hO.dst i o ho) (by simp only[VR];exact⟨[],rfl,by simp[bC]⟩)).wider (fun g hg=>ut g (.inl hg))⟩ (put_defers a o.dst undef)
    cases hq:e.av t with
    | bool b=>
     rw[hq]at hr hn hp hav;simp only[VR]at hav;have hy:yielded ops a.tmps j=some b:=by
      unfold yielded;rw[hdj'];simp only[PT,BU hav]
     rw[hwant,hy];cases hbw:(b== want)with
     | true=>
      simp only[kN,hbw,NF]at hr hn hp;have:b=want:=by simpa using hbw
      subst this;rw[NE (by simp)];simp only[fa,NG,OK]at hpl;simp only[ae,pp,M.pure]at hr hn hp;have hact:ef (fQ cx e ((base+i)*1000) o) h≠.fail:=by
       intro hf;rw[hf]at hr;exact hr rfl
      refine .inl (hop ?_ K Q (fun e' h' a' w' h1 h2 h3=>?_) (fun pv h' v w' h1 h2=>?_))
      ·unfold bR;rw[lX];simp only[ae,M.pure];cases hx:ef (fQ cx e ((base+i)*1000) o) h with
       |fail=>exact absurd hx hact
       |_=>simp
      ·unfold bR at h1;rw[lX]at h1;simp only[ae,M.pure]at h1;cases hx:ef (fQ cx e ((base+i)*1000) o) h with
       |fail=>exact absurd hx hact
       |pan pv hh=>rw[hx]at h1;cases h1
       |ok u hh=>
        rw[hx]at h1 hn;simp only[R.ok.injEq]at h1;obtain⟨rfl,rfl⟩:=h1;have hsh:=lM (lV cx e ((base+i)*1000) o) hx;exact hn _ _ a' w' rfl ((CB hsh hpl.1 hpl.2 (fun g z hz hgg=>vR hi g (by omega) (by omega) (F.used.2 g z hz)) h2).wider ut) h3
      ·unfold bR at h1;rw[lX]at h1;simp only[ae,M.pure]at h1;cases hx:ef (fQ cx e ((base+i)*1000) o) h with
       |fail=>exact absurd hx hact
       |ok u hh=>rw[hx]at h1;cases h1
       |pan pv2 hh=>
        rw[hx]at h1 hp;simp only[R.pan.injEq]at h1;obtain⟨rfl,rfl⟩:=h1;exact hp _ _ v w' rfl h2
     |false=>
      simp only[kN,hbw,NQ,aA]at hn;have:(some b== some want)=false:=by simpa using hbw
      rw[if_neg (by rw[this];simp)];exact hskip hn
    | tup vs=>
     rw[hq]at hr hn hp hav;cases vs with
     | nil=>
      simp only[kN,aA]at hn;simp only[VR,bC]at hav;obtain⟨vs,hav,rfl⟩:=hav;have hy:yielded ops a.tmps j=none:=by
       unfold yielded;rw[hdj'];simp only[PT];rw[Om]at hav;cases hx:a.tmps[t]? with
       |none=>rfl
       |some v=>rw[hx]at hav;simp at hav;rw[hav]
      rw[hwant,hy,if_neg (by simp)];exact hskip hn
     |cons v vs=>exact absurd rfl hr
    |_=>rw[hq]at hr;exact absurd rfl hr
def UR(base n:Nat):Nat->Prop:=fun g=>g<(base+n)*1000
omit [Dr]in
theorem Hz{D:List Nat}{n:Nat}(h:∀i∈D,i<n):∀g,UD base D g->UR base n g:=by
 rintro g (h1|⟨i,hi,h2,h3⟩)
 ·exact On h1 (NY _ (by omega))
 ·have h4:(base+i)*1000+1000<=(base+n)*1000:=by
   have:=h i hi
   rw[show (base+i)*1000+1000=(base+i+1)*1000 by rw[Ow _ 1]];exact NY _ (by omega)
  exact On h3 h4
theorem ud(hT:TOK P cx.T)(hC:db P cx.own cx.call)(hO:OpsOk N cx ops){Q:Exit->Act->World->Prop}:∀(l:List Nat)(D:List Nat)(e:Env)(h:Hp)(a:Act)(w:World),l.Nodup->(∀i∈l,i ∉ D)->
  eW c N (UD base D) e h a w->br cx base ops l e h≠.fail->
  (∀e' h' a' w',br cx base ops l e h= .ok e' h'->eW c N (UD base (l.reverse++D)) e' h' a' w'->a'.defers=a.defers->Q .normal a' w')->
  (∀pv h' v w' a',br cx base ops l e h= .pan pv h'->mw c pv h' v w'->a'.defers=a.defers->Q (.panic [{ v,recovered:=false }]) a' w')->wpOps P ops Q l a w
 |[],D,e,h,a,w,_,_,H,_,hn,_=>by
  simp only[wpOps];exact hn e h a w rfl (by simpa using H) rfl
 | i:: l,D,e,h,a,w,hnd,hdis,H,hr,hn,hp=>by
  simp only[br,ae]at hr hn hp;have hnd':=Pk.1 hnd;rw[wpOps_cons];refine sy hT hC hO (hdis i (by simp)) H (fun hf=>by rw[hf]at hr;exact hr rfl) (fun e' h' a' w' hst hs hdf=>?_) (fun pv h' v w' hst hps=>?_)
  ·rw[hst]at hr hn hp;simp only at hr hn hp;refine ud hT hC hO l (i:: D) e' h' a' w' hnd'.2 (fun j hj=>?_) hs hr (fun e2 h2 a2 w2 h1 h3 h4=>hn e2 h2 a2 w2 h1 (by simpa using h3) (h4.trans hdf)) (fun pv h2 v w2 a2 h1 h3 h4=>hp pv h2 v w2 a2 h1 h3 (h4.trans hdf));simp only[NP,not_or];exact⟨fun hji=>hnd'.1 (hji▸hj),hdis j (by simp[hj])⟩
  ·rw[hst]at hp;exact hp pv h' v w' a rfl hps rfl
end
end Go.Av
namespace Go.Av
variable [Dr]
def bK{α:Type}(m:M α):Prop:=∃o,m=ah o
def dR{α:Type}(m:M α):Prop:=∀h,m h= .fail\/∃v,m h= .ok v h
def eF{α:Type}(m:M α):Prop:=∀h v h',m h≠.pan v h'
omit [Dr]in
theorem bK.read{α:Type}{m:M α}(h:bK m):dR m:=by
 obtain⟨o,rfl⟩:=h;intro h;cases o with
 |none=>exact .inl rfl
 |some v=>exact .inr ⟨v,rfl⟩
omit [Dr]in
theorem dR.stay{α:Type}{m:M α}(g:dR m):eF m:=by
 intro h v h' hh;rcases g h with g|⟨x,g⟩<;>rw[g]at hh<;>cases hh
omit [Dr]in
theorem bK.bnd{α β:Type}{m:M α}(h:bK m)(f:α->β):bK (ae m fun v=>M.pure (f v)):=by
 obtain⟨o,rfl⟩:=h;cases o with
 |none=>exact⟨none,rfl⟩
 |some v=>exact⟨some (f v),rfl⟩
omit [Dr]in
theorem dR.bnd{α β:Type}{m:M α}(g:dR m)(f:α->β):dR (ae m fun v=>M.pure (f v)):=by
 intro h;simp only[Av.ae,M.pure];rcases g h with g|⟨x,g⟩<;>rw[g]
 ·exact .inl rfl
 ·exact .inr ⟨_,rfl⟩
omit [Dr]in
theorem eF.bnd{α β:Type}{m:M α}(g:eF m)(f:α->β):eF (ae m fun v=>M.pure (f v)):=by
 intro h v h' hh;simp only[Av.ae,M.pure]at hh;cases hm:m h<;>rw[hm]at hh<;>simp at hh;exact g _ _ _ hm
omit [Dr]in
theorem bK.lft{α:Type}(o:Option α):bK (ah o):=⟨o,rfl⟩
omit [Dr]in
theorem bK.pure{α:Type}(a:α):bK (M.pure a):=⟨some a,rfl⟩
omit [Dr]in
theorem bK.fail{α:Type}:bK (M.fail:M α):=⟨none,rfl⟩
def lZ{α:Type}(m:M α):Prop:=∀h t v,m h= .ok v h->m (h++t)= .ok v (h++t)
def yF{α:Type}(m:M α):Prop:=∀h v h',m h= .ok v h'->∃t,h'=h++t
omit [Dr]in
theorem bK.app{α:Type}{m:M α}(h:bK m):lZ m:=by
 obtain⟨o,rfl⟩:=h;intro h t v hh;cases o with
 |none=>cases hh
 |some x=>cases hh;rfl
omit [Dr]in
theorem bK.nw{α:Type}{m:M α}(h:bK m):yF m:=by
 obtain⟨o,rfl⟩:=h;intro h v h' hh;cases o with
 |none=>cases hh
 |some x=>cases hh;exact⟨[],by simp⟩
omit [Dr]in
theorem lZ.bnd{α β:Type}{m:M α}(g:lZ m/\dR m)(f:α->β):lZ (ae m fun v=>M.pure (f v))/\dR (ae m fun v=>M.pure (f v)):=by
 refine⟨fun h t v hh=>?_,g.2.bnd f⟩;simp only[Av.ae,M.pure]at hh |-;rcases g.2 h with k|⟨x,k⟩
 ·rw[k]at hh;cases hh
 ·rw[k]at hh;cases hh;rw[g.1 h t x k]
omit [Dr]in
theorem yF.bnd{α β:Type}{m:M α}(g:yF m)(f:α->β):yF (ae m fun v=>M.pure (f v)):=by
 intro h v h' hh;simp only[Av.ae,M.pure]at hh;cases hm:m h<;>rw[hm]at hh<;>simp at hh;obtain⟨t,ht⟩:=g _ _ _ hm;exact⟨t,by rw[<- hh.2,ht]⟩
def bY(p:∀ {α:Type},M α->Prop):Act1->Prop
 |.dyn m _=>p m
 |.thr _=>False
 |_=>True
structure IsoPure (cx:Cx):Prop where
 iso:∀f args,cx.iso f=true->bK (cx.call f args)
 nw:∀f args,cx.nw f=true->yF (cx.call f args)
section
variable {cx:Cx} {e:Env} {gid:Nat} {o:Oper}
omit [Dr]in
theorem bY.cond{p:∀ {α:Type},M α->Prop}{b:Bool}{x y:Act1}(h1:b=true->bY p x)(h2:b=false->bY p y):bY p (bif b then x else y):=by
 cases b with
 |true=>exact h1 rfl
 |false=>exact h2 rfl
omit [Dr]in
theorem bY.lft(o:Option AV)(sh:AV->Upd):bY bK (.dyn (ah o) sh):=bK.lft o
omit [Dr]in
theorem rH(T:TT)(t:TypeId)(x:AV):dR (aX T t x):=by
 have key:∀x,dR (fun h:Hp=>(match af T t x with|some v=>R.ok v h|none=>.fail)):=by
  intro x h;cases hq:af T t x with
  |none=>exact .inl rfl
  |some v=>exact .inr ⟨v,rfl⟩
 cases x with
 | hp l off=>
  intro h;simp only[aX];cases T t with
  |none=>exact .inl rfl
  | some ti=>
   cases h[l]? with
   |none=>exact .inl rfl
   | some cs=>
    simp only;cases ti.agg with
    |true=>
     simp only[NF];split
     ·exact .inr ⟨_,rfl⟩
     ·exact .inl rfl
    |false=>
     simp only[NQ];cases cs[off]? with
     |none=>exact .inl rfl
     |some v=>exact .inr ⟨v,rfl⟩
 |_=>exact key _
omit [Dr]in
theorem yo(T:TT)(t:TypeId)(x y:AV):eF (cj T t x y):=by
 intro h v h' hh;unfold cj at hh;split at hh
 ·split at hh
  ·revert hh;generalize (_&&_:Bool)=b1;cases b1<;>simp
  ·cases hh
 ·cases hh
omit [Dr]in
theorem wn(T:TT)(t:TypeId)(x:AV):eF (uD T t x):=fun h v h' hh=>by cases hh
omit [Dr]in
theorem tR(cs:List AV):eF (newH cs):=by
 intro h v h' hh;unfold newH at hh;revert hh;generalize (_||_:Bool)=b1;cases b1<;>simp
omit [Dr]in
theorem Ch(t:Nat)(cs:List AV):eF (G8 t cs):=fun h v h' hh=>by cases hh
omit [Dr]in
theorem uZ:eF ky:=by
 intro h v h' hh;cases hh
omit [Dr]in
theorem zy(T:TT)(t:TypeId)(x k:AV)(ok:Bool):dR (gQ T t x k ok):=by
 intro h;unfold gQ;cases jj h x with
 |none=>exact .inl rfl
 |some es=>
  simp only;cases ly T t es k ok with
  |none=>exact .inl rfl
  |some v=>exact .inr ⟨v,rfl⟩
omit [Dr]in
theorem BN{h s:Hp}{x:AV}{es:List AV}(hh:jj h x=some es):jj (h++s) x=some es:=by
 unfold jj at hh |-;cases x with
 | mp l=>
  simp only at hh |-;cases hl:h[l]? with
  |none=>rw[hl]at hh;cases hh
  | some cs=>
   rw[hl]at hh;have hl':(h++s)[l]? = some cs:=by
    rw[PL,NE (NO.1 hl).1,hl]
   rw[hl'];exact hh
 |_=>exact hh
omit [Dr]in
theorem B8(T:TT)(t:TypeId)(x k:AV)(ok:Bool):lZ (gQ T t x k ok):=by
 intro h s v hh;unfold gQ at hh |-;cases hs:jj h x with
 |none=>rw[hs]at hh;cases hh
 |some es=>
  rw[hs]at hh;rw[BN hs];simp only at hh |-;cases ha:ly T t es k ok with
  |none=>rw[ha]at hh;cases hh
  |some u=>rw[ha]at hh;cases hh;rfl
omit [Dr]in
theorem xR(T:TT)(t:TypeId)(x:AV):eF (kE T t x):=by
 intro h v h' hh;unfold kE at hh
 repeat' split at hh
 all_goals cases hh
omit [Dr]in
theorem wx(x:AV):dR (gm x):=by
 intro h;by_cases hf:gm x h= .fail
 ·exact .inl hf
 ·obtain⟨_,_,_,_,_,_,k,u,_,_,_,_,_,h1⟩:=mK hf;exact .inr ⟨_,h1⟩
omit [Dr]in
theorem zd(x:AV):lZ (gm x):=by
 intro h s v hh;obtain⟨l,m,n,p,cu,es,k,u,rfl,h1,h2,h3,h4,h5⟩:=mK (x:=x) (h:=h) (by rw[hh];simp);rw[h5]at hh;cases hh;unfold gm;simp only[NJ (NO.1 h1).1,NJ (NO.1 h2).1,h1,h2,NE h3,h4]
omit [Dr]in
theorem tZ(T:TT)(t:TypeId)(x k y:AV):eF (r5 T t x k y):=by
 intro h v h' hh;unfold r5 at hh;split at hh
 ·cases hh
 ·revert hh;cases wi T 20 _ k with
  |false=>intro hh;cases hh
  | true=>
   simp only[NF];intro hh;split at hh
   ·split at hh
    ·split at hh
     ·cases hh
     ·cases hh
    ·cases hh
   ·cases hh
omit [Dr]in
theorem Bq(T:TT)(t:TypeId)(z:Bool)(x y:AV):eF (appH T t z x y):=by
 intro h v h' hh;unfold appH at hh;have hc:∀ {b:Bool} {r s:R AV},(∀v h',r≠.pan v h')->(∀v h',s≠.pan v h')->(bif b then r else s)≠.pan v h':=by
  intro b r s h1 h2;cases b
  ·exact h2 _ _
  ·exact h1 _ _
 split at hh
 ·cases hh
 ·split at hh
  ·split at hh
   ·cases hh
   ·split at hh
    ·cases hh
    ·refine hc (fun v h' hh=>?_) (fun v h' hh=>by cases hh) hh;split at hh
     ·revert hh;generalize List.isEmpty _=b1;generalize decide (_<=140737488355328)=b2;cases b1<;>cases b2<;>simp
     ·revert hh;generalize List.isEmpty _=b1;generalize decide (_<=140737488355328)=b2;cases z<;>cases b1<;>cases b2<;>simp
     ·split at hh
      ·cases hh
      ·revert hh;generalize (_&&_:Bool)=b1;generalize List.isEmpty _=b2;cases b1<;>cases b2<;>simp
     ·cases hh
  ·cases hh
omit [Dr]in
theorem Bp(T:TT)(t:TypeId)(x y:AV):eF (Gc T t x y):=fun h v h' hh=>by cases hh
omit [Dr]in
theorem wa(T:TT)(t n:Nat)(ps:List (Nat×AV)):eF (uz T t n ps):=fun h v h' hh=>by cases hh
omit [Dr]in
theorem tQ(told:Bool)(x:Operand):bY bK (iY told e gid x):=by
 unfold iY;split
 ·trivial
 ·exact bY.cond (fun _=>bY.cond (fun _=>trivial) (fun _=>trivial)) (fun _=>trivial)
omit [Dr]in
theorem zx(d:Option Tmp)(t:TypeId)(p:Nat):bY dR (eq cx e d t p)/\(cn cx.ann.hl d=false->bY bK (eq cx e d t p)):=by
 unfold eq;split
 ·split
  ·exact⟨trivial,fun _=>trivial⟩
  ·constructor
   ·exact bY.cond (fun _=>bY.cond (fun _=>trivial) (fun _=>bY.cond (fun _=>trivial) (fun _=>trivial))) (fun _=>trivial)
   ·exact fun _=>bY.cond (fun _=>bY.cond (fun _=>trivial) (fun _=>bY.cond (fun _=>trivial) (fun _=>trivial))) (fun _=>trivial)
 ·cases hm:cn cx.ann.hl d with
  |true=>exact⟨rH _ _ _,fun h=>by cases h⟩
  |false=>exact⟨(bK.lft _).read,fun _=>bK.lft _⟩
omit [Dr]in
theorem B7(T:TT)(t:TypeId)(x:AV):lZ (aX T t x):=by
 intro h s v hh;have hk:∀y,(match af T t y with|some v=>R.ok v h|none=>.fail)=R.ok v h->(match af T t y with|some v=>R.ok v (h++s)|none=>.fail)=R.ok v (h++s):=by
  intro y hy;cases hq:af T t y with
  |none=>rw[hq]at hy;cases hy
  |some u=>rw[hq]at hy;cases hy;rfl
 unfold aX at hh |-;cases x with
 | hp l off=>
  simp only at hh |-;cases hT:T t with
  |none=>rw[hT]at hh;cases hh
  | some ti=>
   rw[hT]at hh;cases hl:h[l]? with
   |none=>rw[hl]at hh;cases hh
   | some cs=>
    have hl':(h++s)[l]? = some cs:=by
     rw[PL]
     have:=(NO.1 hl).1
     rw[NE this,hl]
    rw[hl]at hh;rw[hl'];simp only at hh |-;cases hag:ti.agg with
    |true=>
     rw[hag]at hh;simp only[NF]at hh |-;split at hh
     ·rename_i hc;cases hh;rw[NE hc]
     ·cases hh
    |false=>
     rw[hag]at hh;simp only[NQ]at hh |-;cases hq:cs[off]? with
     |none=>rw[hq]at hh;cases hh
     |some u=>rw[hq]at hh;cases hh;rfl
 |_=>exact hk _ hh
omit [Dr]in
theorem EW(d:Option Tmp)(t:TypeId)(p:Nat):bY (fun m=>lZ m/\dR m) (eq cx e d t p):=by
 unfold eq;split
 ·split
  ·trivial
  ·exact bY.cond (fun _=>bY.cond (fun _=>trivial) (fun _=>bY.cond (fun _=>trivial) (fun _=>trivial))) (fun _=>trivial)
 ·cases hm:cn cx.ann.hl d with
  |true=>exact⟨B7 _ _ _,rH _ _ _⟩
  |false=>exact⟨(bK.lft _).app,(bK.lft _).read⟩
omit [Dr]in
theorem EC{A:Act1}(h:bY eF A):bY eF (Kx A):=by
 cases A with
 |bad=>trivial
 |stat u=>intro h v h' hh;cases hh
 |dyn m sh=>
  intro x v h' hh;simp only[Av.ae,vO]at hh;cases hm:m x<;>rw[hm]at hh<;>simp at hh;exact h _ _ _ hm
 |thr v=>exact h.elim
omit [Dr]in
theorem zk(t p i:Nat):bY bK (iC cx e t p i):=by
 unfold iC;split
 ·split
  ·trivial
  ·split
   ·trivial
   ·split
    ·trivial
    ·exact bY.cond (fun _=>trivial) (fun _=>trivial)
 ·exact bK.lft _
omit [Dr]in
theorem zr(t p:Nat)(i:Operand):bY bK (dI cx e t p i):=by
 unfold dI;split
 ·split
  ·split
   ·split
    ·trivial
    ·exact bY.cond (p:=bK) (fun _=>trivial) (fun _=>trivial)
   ·trivial
  ·trivial
 ·exact bK.lft _
omit [Dr]in
theorem zZ(t p:Nat)(y:Operand):bY eF (fR cx e gid t p y):=by
 have hl:∀o:Option AV,eF (Av.ah o):=fun o=>(bK.lft o).read.stay;unfold fR;split
 ·split
  ·trivial
  ·refine bY.cond (fun _=>bY.cond (fun _=>bY.cond (fun _=>hl _) (fun _=>trivial)) (fun _=>bY.cond (fun _=>hl _) (fun _=>bY.cond (fun _=>?_) (fun _=>trivial)))) (fun _=>trivial);split
   ·split
    ·exact hl _
    ·trivial
   ·exact bY.cond (fun _=>trivial) (fun _=>hl _)
 ·exact yo _ _ _ _
omit [Dr]in
theorem zY(t p:Nat)(y:Operand)(hl:iU (e.get p)=true):bY bK (fR cx e gid t p y):=by
 have hl':∀o:Option AV,bK (Av.ah o):=fun o=>bK.lft o;unfold fR;cases hv:(e.get p).v with
 |val a=>simp[iU,hv]at hl
 | loc B off=>
  simp only;split
  ·trivial
  ·refine bY.cond (fun _=>bY.cond (fun _=>bY.cond (fun _=>hl' _) (fun _=>trivial)) (fun _=>bY.cond (fun _=>hl' _) (fun _=>bY.cond (fun _=>?_) (fun _=>trivial)))) (fun _=>trivial);split
   ·split
    ·exact hl' _
    ·trivial
   ·exact bY.cond (fun _=>trivial) (fun _=>hl' _)
omit [Dr]in
theorem kY(s t:Nat):bY eF (fO cx e gid s t)/\(cD cx.ann.kinds s .L≠.H->cD cx.ann.kinds s .L≠.B->bY bK (fO cx e gid s t)):=by
 unfold fO;split
 ·exact⟨trivial,fun _ _=>trivial⟩
 ·cases hk:cD cx.ann.kinds s .L with
  |F=>exact⟨trivial,fun _ _=>trivial⟩
  |H=>exact⟨tR _,fun h=>absurd rfl h⟩
  |B=>exact⟨Ch _ _,fun _ h=>absurd rfl h⟩
  |L=>exact⟨bY.cond (fun _=>trivial) (fun _=>trivial),fun _ _=>bY.cond (fun _=>trivial) (fun _=>trivial)⟩
  |S=>exact⟨bY.cond (fun _=>trivial) (fun _=>trivial),fun _ _=>bY.cond (fun _=>trivial) (fun _=>trivial)⟩
omit [Dr]in
theorem tc(s t:Nat)(x:Operand):bY eF (lD cx e s t x)/\(cD cx.ann.kinds s .F≠.H->bY bK (lD cx e s t x)):=by
 have hl:∀o:Option AV,eF (Av.ah o):=fun o=>(bK.lft o).read.stay;unfold lD;cases hk:cD cx.ann.kinds s .F with
 |F=>exact⟨trivial,fun _=>trivial⟩
 |H=>exact⟨tR _,fun h=>absurd rfl h⟩
 |B=>exact⟨trivial,fun _=>trivial⟩
 |L=>
  simp only;split
  ·exact⟨trivial,fun _=>trivial⟩
  ·exact⟨bY.cond (fun _=>hl _) (fun _=>trivial),fun _=>bY.cond (fun _=>bK.lft _) (fun _=>trivial)⟩
 |S=>
  simp only;split
  ·exact⟨trivial,fun _=>trivial⟩
  ·exact⟨bY.cond (fun _=>hl _) (fun _=>trivial),fun _=>bY.cond (fun _=>bK.lft _) (fun _=>trivial)⟩
structure Class (f:Foot) (A:Act1):Prop where
 stay:f.piv=false->bY eF A
 read:f.wh=false->bY dR A
 pure:f.wh=false->f.rh=false->bY bK A
 app:f.wh=false->bY (fun m=>lZ m/\dR m) A
 nw:f.nw=true->bY yF A
omit [Dr]in
theorem bY.imp{p q:∀ {α:Type},M α->Prop}(hpq:∀ {α:Type} (m:M α),p m->q m){A:Act1}(h:bY p A):bY q A:=by
 cases A<;>first|trivial|exact hpq _ h|exact h
omit [Dr]in
theorem Class.of_pure{f:Foot}{A:Act1}(h:bY bK A):Class f A:=
 ⟨fun _=>h.imp fun _ g=>g.read.stay,fun _=>h.imp fun _ g=>g.read,fun _ _=>h,fun _=>h.imp fun _ g=>⟨g.app,g.read⟩,fun _=>h.imp fun _ g=>g.nw⟩
omit [Dr]in
theorem lZ.nw{α:Type}{m:M α}(h:dR m):yF m:=fun x v h' hh=>by
 rcases h x with g|⟨u,g⟩
 ·rw[g]at hh;cases hh
 ·rw[g]at hh;cases hh;exact⟨[],by simp⟩
omit [Dr]in
theorem Class.of_app{f:Foot}{A:Act1}(_hw:f.wh=false)(hr:f.rh=true)(h:bY (fun m=>lZ m/\dR m) A):Class f A:=
 ⟨fun _=>h.imp fun _ g=>g.2.stay,fun _=>h.imp fun _ g=>g.2,fun _ h=>by(rw[hr]at h;cases h),fun _=>h,fun _=>h.imp fun _ g=>lZ.nw g.2⟩
omit [Dr]in
theorem s7(T:TT)(t:TypeId)(x y:AV):dR (sL T t x y):=by
 intro h;unfold sL;cases sW h y with
 |none=>exact .inl rfl
 |some es=>
  simp only;cases ck T t x (.sl es)with
  |none=>exact .inl rfl
  |some v=>exact .inr ⟨v,rfl⟩
omit [Dr]in
theorem FH{h s:Hp}{y:AV}{es:List AV}(hh:sW h y=some es):sW (h++s) y=some es:=by
 unfold sW at hh |-;split at hh
 ·rename_i l off len sz ag;cases hl:h[l]? with
  |none=>rw[hl]at hh;cases hh
  | some cs=>
   rw[hl]at hh;have hl':(h++s)[l]? = some cs:=by
    rw[PL]
    have:=(NO.1 hl).1
    rw[NE this,hl]
   simp only[hl'];exact hh
 ·exact hh
 ·exact hh
 ·cases hh
omit [Dr]in
theorem vW(T:TT)(t:TypeId)(x y:AV):lZ (sL T t x y):=by
 intro h s v hh;unfold sL at hh |-;cases hs:sW h y with
 |none=>rw[hs]at hh;cases hh
 |some es=>
  rw[hs]at hh;rw[FH hs];simp only at hh |-;cases ha:ck T t x (.sl es)with
  |none=>rw[ha]at hh;cases hh
  |some u=>rw[ha]at hh;cases hh;rfl
omit [Dr]in
theorem Class.of_stay{f:Foot}{A:Act1}(hw:f.wh=true)(hn:f.nw=false)(h:bY eF A):Class f A:=
 ⟨fun _=>h,fun h=>by(rw[hw]at h;cases h),fun h=>by(rw[hw]at h;cases h),fun h=>by(rw[hw]at h;cases h),fun h=>by(rw[hn]at h;cases h)⟩
omit [Dr]in
theorem Class.of_piv{f:Foot}{A:Act1}(hw:f.wh=true)(h:f.piv=true)(hn:f.nw=true->bY yF A):Class f A:=
 ⟨fun h'=>by(rw[h]at h';cases h'),fun h=>by(rw[hw]at h;cases h),fun h=>by(rw[hw]at h;cases h),fun h=>by(rw[hw]at h;cases h),hn⟩
omit [Dr]in
theorem yQ(hI:IsoPure cx){c:Call}(ho:o.op= .call c):Class (aC cx o) (fP cx e gid o c):=by
 unfold fP;cases hc:c.callee with
 |invoke r m=>exact .of_pure trivial
 | value x=>
  cases x with
  | func f=>
   simp only;cases hfz:cn cx.ann.fz o.dst with
   | true=>
    simp only[NF];cases hq:!(cx.iso f)&&!(cx.nw f)&&(cx.own f).isNone with
    |false=>exact .of_pure trivial
    |true=>
     simp only[NG,OK]at hq;exact .of_piv (by unfold aC;rw[ho];simp only[hc,hq.1.1,NQ]) (by unfold aC;rw[ho];simp only[hc,hq.1.1,NQ]) fun hn=>by unfold aC at hn;rw[ho]at hn;simp only[hc,hq.1.1,NQ,hq.1.2]at hn;cases hn
   |false=>
   simp only[NQ];cases hi:cx.iso f with
   |true=>exact .of_pure (hI.iso f _ hi)
   |false=>exact .of_piv (by unfold aC;rw[ho];simp only[hc,hi,NQ]) (by unfold aC;rw[ho];simp only[hc,hi,NQ]) fun hn=>hI.nw f _ (by unfold aC at hn;rw[ho]at hn;simpa only[hc,hi,NQ]using hn)
  |_=>exact .of_piv (by unfold aC;rw[ho];simp only[hc]) (by unfold aC;rw[ho];simp only[hc]) fun hn=>by unfold aC at hn;rw[ho]at hn;simp[hc]at hn
 | builtin b=>
  cases b<;>simp only<;>(try exact .of_pure trivial)
  case clear=>
   have hw:(aC cx o).wh=true/\(aC cx o).nw=false:=by unfold aC;rw[ho];simp only[hc];exact⟨trivial,trivial⟩
   split
   ·exact .of_stay hw.1 hw.2 (wn _ _ _)
   ·exact .of_pure trivial
  case append=>
   split
   ·cases hu:ia cx.T _ with
    |false=>exact .of_pure trivial
    | true=>
     simp only[Pv,NQ];cases hha:cn cx.ann.ha o.dst with
     | true=>exact .of_stay (by unfold aC;rw[ho];simp only[hc,hha,NF]) (by unfold aC;rw[ho];simp only[hc,hha,NF]) (by
       cases cn cx.ann.hb o.dst with
       |true=>simp only[NF];exact Bp _ _ _ _
       |false=>exact Bq _ _ _ _ _)
     | false=>
      simp only[NQ];cases hhl:cn cx.ann.hl o.dst with
      | true=>
       refine .of_app (by unfold aC;rw[ho];simp only[hc,hha,NQ]) (by unfold aC;rw[ho];simp only[hc,hha,hhl,NQ]) ?_;simp only[NF];refine bY.cond (fun _=>⟨vW _ _ _ _,s7 _ _ _ _⟩) (fun _=>?_);split
       ·split
        ·trivial
        ·split
         ·trivial
         ·exact bY.cond (fun _=>⟨vW _ _ _ _,s7 _ _ _ _⟩) (fun _=>trivial)
       ·trivial
      | false=>
       refine .of_pure ?_;simp only[NQ];refine bY.cond (fun _=>bK.lft _) (fun _=>?_);split
       ·split
        ·trivial
        ·split
         ·trivial
         ·exact bY.cond (fun _=>bK.lft _) (fun _=>trivial)
       ·trivial
   ·exact .of_pure trivial
  case len=>
   split
   ·exact .of_pure (bK.lft _)
   ·exact .of_pure trivial
  case min=>exact .of_pure (bK.lft _)
  case max=>exact .of_pure (bK.lft _)
omit [Dr]in
theorem e7(hI:IsoPure cx)(e:Env)(gid:Nat)(o:Oper):Class (aC cx o) (fQ cx e gid o):=by
 unfold fQ;cases ho:o.op<;>simp only<;>(try exact .of_pure (bK.lft _))<;>(try exact .of_pure trivial)
 case binOp=>exact .of_pure (bY.cond (fun _=>trivial) fun _=>bK.lft _)
 case buildSlice t n ps=>
  cases hha:cn cx.ann.ha o.dst with
  |true=>exact .of_stay (by unfold aC;rw[ho];simp only[hha,NF]) (by unfold aC;rw[ho];simp only[hha,NF]) (wa _ _ _ _)
  |false=>exact .of_pure (bK.lft _)
 case move x=>exact .of_pure (tQ _ x)
 case assign x=>exact .of_pure (tQ _ x)
 case box t x=>
  cases hd:o.dst with
  |none=>exact .of_pure trivial
  |some s=>
   cases hk:cD cx.ann.kinds s .F with
   |H=>exact .of_stay (by unfold aC;rw[ho];simp only[hd,hk]) (by unfold aC;rw[ho];simp only[hd,hk]) (tc s t x).1
   |_=>exact .of_pure ((tc s t x).2 (by rw[hk];simp))
 case alloc t=>
  cases hd:o.dst with
  |none=>exact .of_pure trivial
  |some s=>
   cases hk:cD cx.ann.kinds s .L with
   |H=>exact .of_stay (by unfold aC;rw[ho];simp only[hd,hk]) (by unfold aC;rw[ho];simp only[hd,hk]) (kY s t).1
   |B=>exact .of_stay (by unfold aC;rw[ho];simp only[hd,hk]) (by unfold aC;rw[ho];simp only[hd,hk]) (kY s t).1
   |_=>exact .of_pure ((kY s t).2 (by rw[hk];simp) (by rw[hk];simp))
 case load t x=>
  cases x with
  |tmp p=>
   have h:=zx (cx:=cx) (e:=e) o.dst t p;simp only;cases hnl:cn cx.ann.nl o.dst&&iU (e.get p)with
   |true=>exact .of_pure trivial
   |false=>
   simp only[NQ];cases hz:cn cx.ann.fz o.dst with
   |true=>exact .of_stay (by unfold aC;rw[ho];exact hz) (by unfold aC;rw[ho]) (EC (h.1.imp fun _ g=>g.stay))
   |false=>exact⟨fun _=>h.1.imp fun _ g=>g.stay,fun _=>h.1,fun _ hr=>h.2 (by unfold aC at hr;rw[ho]at hr;exact hr),fun _=>EW o.dst t p,fun hn=>by unfold aC at hn;rw[ho]at hn;cases hn⟩
  |_=>exact .of_pure trivial
 case store t x y=>
  cases x with
  | tmp p=>
   cases hd:o.dst with
   |some d=>exact .of_pure trivial
   | none=>
    simp only;cases hlw:eI cx.ann.lw p with
    |false=>exact .of_stay (by unfold aC;rw[ho];simp[hlw]) (by unfold aC;rw[ho]) (by simp only[Bool.false_and,NQ];exact zZ t p y)
    |true=>
     cases hlo:iU (e.get p)with
     |false=>exact .of_pure trivial
     |true=>exact .of_pure (by simp only[Pv,Qe,NQ];exact zY t p y hlo)
  |_=>exact .of_pure trivial
 case nilCheck x=>
  cases x with
  |tmp p=>
   simp only;split
   ·exact .of_pure trivial
   ·exact .of_pure (bK.lft _)
  |_=>exact .of_pure trivial
 case fieldAddr t x i=>cases x<;>first|exact .of_pure (zk _ _ _)|exact .of_pure trivial
 case indexAddr t x i=>cases x<;>first|exact .of_pure (zr _ _ _)|exact .of_pure trivial
 case slice t x lo hi mx=>
  refine .of_pure (bY.cond (fun _=>?_) fun _=>bK.lft _);unfold nS;split
  ·split
   ·trivial
   ·split
    ·exact bY.cond (fun _=>bK.lft _) fun _=>trivial
    ·trivial
  ·trivial
 case makeMap t r=>exact .of_stay (by unfold aC;rw[ho]) (by unfold aC;rw[ho]) (bY.cond (fun _=>trivial) fun _=>uZ)
 case lookup t x i ok=>exact .of_app (by unfold aC;rw[ho]) (by unfold aC;rw[ho]) ⟨B8 _ _ _ _ _,zy _ _ _ _ _⟩
 case mapUpdate t m k x=>exact .of_stay (by unfold aC;rw[ho]) (by unfold aC;rw[ho]) (by unfold lE;split;exact tZ _ _ _ _ _;trivial)
 case insert t m k x=>exact .of_stay (by unfold aC;rw[ho]) (by unfold aC;rw[ho]) (by unfold lE;split;exact tZ _ _ _ _ _;trivial)
 case range t x=>exact .of_stay (by unfold aC;rw[ho]) (by unfold aC;rw[ho]) (xR _ _ _)
 case entry x=>exact .of_app (by unfold aC;rw[ho]) (by unfold aC;rw[ho]) ⟨zd _,wx _⟩
 case panic x=>
  refine .of_piv ?_ ?_ ?_
  ·unfold aC;rw[ho]
  ·unfold aC;rw[ho]
  ·intro hn;unfold aC at hn;rw[ho]at hn;cases hn
 case call c=>exact yQ hI ho
end
end Go.Av
namespace Go.Av
variable [Dr]
structure EqE (e e':Env):Prop where
 get:∀t,e'.get t=e.get t
 al:∀g,aV e'.al g=aV e.al g
 lb:∀B,bN e'.lb B=bN e.lb B
 lf:∀B,bw e'.sl B=bw e.sl B
omit [Dr]in
theorem EqE.refl(e:Env):EqE e e:=⟨fun _=>rfl,fun _=>rfl,fun _=>rfl,fun _=>rfl⟩
omit [Dr]in
theorem EqE.symm{e e':Env}(h:EqE e e'):EqE e' e:=⟨fun t=>(h.get t).symm,fun t=>(h.al t).symm,fun t=>(h.lb t).symm,fun t=>(h.lf t).symm⟩
omit [Dr]in
theorem EqE.trans{a b c:Env}(h:EqE a b)(g:EqE b c):EqE a c:=
 ⟨fun t=>(g.get t).trans (h.get t),fun t=>(g.al t).trans (h.al t),fun t=>(g.lb t).trans (h.lb t),fun t=>(g.lf t).trans (h.lf t)⟩
def RE:R Env->R Env->Prop
 |.fail,_=>True
 |.ok e h,r=>∃e',r= .ok e' h/\EqE e e'
 |.pan v h,r=>r= .pan v h
omit [Dr]in
theorem RE.refl(r:R Env):RE r r:=by
 cases r with
 |ok e h=>exact⟨e,rfl,.refl e⟩
 |pan v h=>exact rfl
 |fail=>trivial
omit [Dr]in
theorem RE.trans{a b c:R Env}(h:RE a b)(g:RE b c):RE a c:=by
 cases a with
 |ok e x=>
  obtain⟨e',rfl,h⟩:=h;obtain⟨e2,rfl,g⟩:=g;exact⟨e2,rfl,h.trans g⟩
 |pan v x=>cases h;exact g
 |fail=>trivial
omit [Dr]in
theorem jS(l r:List (Nat×Ent))(t:Nat):cf (l++r) t=if(∃x∈l,x.1=t)then cf l t else cf r t:=by
 induction l with
 |nil=>simp
 | cons x l ih=>
  obtain⟨k,y⟩:=x;rw[Ob,cB,cB];by_cases hk:k=t
  ·subst hk;simp
  ·rw[if_neg hk,if_neg hk,ih];have:(∃x∈(k,y):: l,x.1=t)↔(∃x∈l,x.1=t):=by
    simp only[NP,QP];constructor
    ·rintro (h|h)
     ·exact absurd h hk
     ·exact h
    ·exact .inr
   simp only[this]
omit [Dr]in
theorem rN{l:List (Nat×Ent)}(r:List (Nat×Ent)){t:Nat}(h:∀x∈l,x.1≠t):cf (l++r) t=cf r t:=by
 rw[jS,if_neg];rintro⟨x,hx,ht⟩;exact h x hx ht
omit [Dr]in
theorem jT(d:Option Tmp)(x:Ent)(r:List (Nat×Ent))(t:Nat):cf (sH d x r) t=if d=some t then x else cf r t:=by
 cases d with
 |none=>simp[sH]
 |some s=>simp only[sH,cB,NB]
omit [Dr]in
theorem pM{l r s:List (Nat×Ent)}{t:Nat}(h:cf r t=cf s t):cf (l++r) t=cf (l++s) t:=by
 rw[jS,jS,h]
omit [Dr]in
theorem gP(l r:List (Nat×Ent))(B:Nat):bw (l++r) B=(bw l B&&bw r B):=by
 unfold bw;rw[List.all_append]
def nh(x:Ent)(B:Nat):Bool:=match x.v with
 |.loc C _=>!(Nat.beq C B)
 |.val _=>true
omit [Dr]in
theorem eR(d:Option Tmp)(x:Ent)(r:List (Nat×Ent))(B:Nat):bw (sH d x r) B=((d.isNone||nh x B)&&bw r B):=by
 cases d with
 |none=>simp[sH]
 |some t=>rfl
omit [Dr]in
theorem nK{l:List (Nat×Ent)}{B t C off:Nat}(h:bw l B=true)(ht:(cf l t).v= .loc C off):C≠B:=by
 induction l with
 |nil=>simp[cf,Ent.none]at ht
 | cons x l ih=>
  obtain⟨k,y⟩:=x;rw[cB]at ht;simp only[bw,OT,NG]at h;split at ht
  ·rw[ht]at h;have h1:=h.1;simp only[OK]at h1;intro hc;rw[hc,QL]at h1;cases h1
  ·exact ih (by unfold bw;exact h.2) ht
omit [Dr]in
theorem eJ(l r:List (Nat×Option Nat))(g:Nat):aV (l++r) g=(match aV l g with|some z=>some z|none=>aV r g):=by
 induction l with
 |nil=>rfl
 |cons x l ih=>
  obtain⟨k,y⟩:=x;rw[Ob,cm,cm];split
  ·rfl
  ·exact ih
omit [Dr]in
theorem pq{l:List (Nat×Option Nat)}{k g:Nat}(h:∀x∈l,x.1=k)(hg:g≠k):aV l g=none:=by
 induction l with
 |nil=>rfl
 | cons x l ih=>
  obtain⟨j,y⟩:=x;rw[cm,if_neg]
  ·exact ih fun x hx=>h x (by simp[hx])
  ·have:=h (j,y) (by simp)
   simp at this;omega
omit [Dr]in
theorem nH(r:List (Nat×Nat))(k B:Nat):bN (mc r k) B=if k=B then none else bN r B:=by
 induction r with
 |nil=>simp[mc,bN]
 | cons x r ih=>
  obtain⟨j,y⟩:=x;simp only[mc];by_cases hj:j=k
  ·subst hj;simp only[QL,NF,ih,eh];split<;>rfl
  ·have:Nat.beq j k=false:=by rw[O2];intro hh;exact hj (NR hh)
   simp only[this,NQ,eh,ih];by_cases hg:j=B
   ·subst hg;rw[NE rfl,if_neg (fun h=>hj h.symm),NE rfl]
   ·rw[if_neg hg,if_neg hg]
omit [Dr]in
theorem EqE.upd{e e':Env}(h:EqE e e')(d:Option Tmp)(u:Upd):EqE (e.upd d u) (e'.upd d u):=by
 refine⟨fun t=>?_,fun g=>?_,fun B=>?_,fun B=>?_⟩
 ·show cf (sH d u.ent (u.ls++e'.sl)) t=cf (sH d u.ent (u.ls++e.sl)) t;rw[jT,jT,pM (h.get t)]
 ·show aV (u.add++eG e'.al u.drop) g=aV (u.add++eG e.al u.drop) g;have:aV (eG e'.al u.drop) g=aV (eG e.al u.drop) g:=by
   cases u.drop with
   |none=>exact h.al g
   |some k=>simp only[eG,kX,h.al g]
  rw[eJ,eJ,this]
 ·show bN (mz (ek e'.lb u.unlb) u.lb) B=bN (mz (ek e.lb u.unlb) u.lb) B;have:bN (ek e'.lb u.unlb) B=bN (ek e.lb u.unlb) B:=by
   cases u.unlb with
   |none=>exact h.lb B
   |some k=>simp only[ek,nH,h.lb B]
  cases u.lb with
  |none=>exact this
  |some x=>
   obtain⟨k,n⟩:=x;simp only[mz,eh,this]
 ·show bw (sH d u.ent (u.ls++e'.sl)) B=bw (sH d u.ent (u.ls++e.sl)) B;rw[eR,eR,gP,gP,h.lf B]
section
variable {cx:Cx} {ops:Array Oper} {base:Nat}
def eZ(ops:Array Oper)(o:Oper):List Nat:=match o.guard with
 |some (j,_)=>(match (ops[j]?).bind (·.dst)with|some t=>[t]|none=>[])
 |none=>[]
omit [Dr]in
theorem gq{i:Nat}{o:Oper}(ho:ops[i]? = some o):dp ops i=eZ ops o++jA o:=by
 unfold dp eZ;rw[ho];rfl
omit [Dr]in
theorem ge{e e':Env}{i:Nat}{o:Oper}(ho:ops[i]? = some o)(hg:∀t∈eZ ops o,e'.get t=e.get t)(A:Agree cx o e e'){h:Hp}(hr:fh cx base ops i e h≠.fail):fh cx base ops i e' h=fh cx base ops i e h:=by
 unfold fh at hr |-;rw[ho]at hr;rw[ho];simp only at hr |-;have key:∀ {A':Act1->Act1} ,(∀h,ef (A' .bad) h= .fail)->ef (A' (fQ cx e ((base+i)*1000) o)) h≠.fail->ef (A' (fQ cx e' ((base+i)*1000) o)) h=ef (A' (fQ cx e ((base+i)*1000) o)) h:=by
  intro A' h1 h2;rw[Cl A];intro hb;rw[hb]at h2;exact h2 (h1 h)
 cases hgd:o.guard with
 |none=>
  rw[hgd]at hr;exact key (A':=id) (fun _=>rfl) hr
 | some g=>
  obtain⟨j,want⟩:=g;rw[hgd]at hr;simp only at hr |-;cases hdj:dG ops j with
  |none=>rfl
  | some t=>
   rw[hdj]at hr;simp only at hr |-;cases hpl:fa cx o with
   |false=>rfl
   | true=>
    rw[hpl]at hr;simp only[NF]at hr |-;have ht:e'.get t=e.get t:=hg t (by unfold eZ;rw[hgd];simp only;rw[show (ops[j]?).bind (·.dst)=some t from hdj];simp);have hav:e'.av t=e.av t:=by simp only[Env.av,ht]
    rw[hav];cases hq:e.av t with
    | bool b=>
     rw[hq]at hr;simp only[kN]at hr |-;cases hb:(b== want)with
     |false=>rfl
     |true=>
      rw[hb]at hr;exact key (A':=ib) (fun _=>rfl) hr
    |tup vs=>cases vs<;>rfl
    |_=>rfl
omit [Dr]in
theorem EqE.agree{e e':Env}(h:EqE e e')(o:Oper):Agree cx o e e':=
 ⟨fun t _=>h.get t,fun _=>⟨fun t _=>h.get t,h.lb⟩,fun _=>h.al,fun _ s _ hl=>by rw[h.lf];exact hl⟩
omit [Dr]in
theorem yj{e e':Env}(h:EqE e e')(i:Nat)(x:Hp):RE (stepG cx base ops i e x) (stepG cx base ops i e' x):=by
 unfold stepG;simp only[ae,M.pure];cases hr:fh cx base ops i e x with
 |fail=>trivial
 | _=>
  have ho:∃o,ops[i]? = some o:=by
   cases ho:ops[i]? with
   |none=>unfold fh at hr;rw[ho]at hr;cases hr
   |some o=>exact⟨o,rfl⟩
  obtain⟨o,ho⟩:=ho;rw[ge ho (fun t _=>h.get t) (h.agree o) (by rw[hr];simp),hr]
  first
   |exact⟨_,rfl,h.upd _ _⟩
   |exact rfl
omit [Dr]in
theorem RE.bind{m m':M Env}{x x':Hp}(h:RE (m x) (m' x')){f f':Env->M Env}(hf:∀e e' x,EqE e e'->RE (f e x) (f' e' x)):RE (ae m f x) (ae m' f' x'):=by
 simp only[ae];revert h;generalize m x=r;generalize m' x'=r';intro h;cases r with
 |ok e x=>obtain⟨e',rfl,h⟩:=h;exact hf e e' x h
 |pan v x=>cases h;exact rfl
 |fail=>trivial
omit [Dr]in
theorem nX:∀(l:List Nat){e e':Env}(_:EqE e e')(x:Hp),RE (br cx base ops l e x) (br cx base ops l e' x)
 |[],e,e',h,x=>⟨e',rfl,h⟩
 |i:: l,e,e',h,x=>by
  exact RE.bind (yj h i x) fun e e' x h=>nX l h x
end
end Go.Av
namespace Go.Av
variable [Dr]
omit [Dr]in
theorem xB{l:List Nat}{t:Nat}(h:t∈l):eI l t=true:=(gR l t).2 h
omit [Dr]in
theorem nQ{l:List Nat}{d:Option Nat}(h:cn l d=false):∀t∈l,d≠some t:=by
 intro t ht hd;rw[hd]at h;simp only[cn]at h;rw[xB ht]at h;cases h
omit [Dr]in
theorem oU{a b:Option Nat}(h:clash a b=false):∀t,a=some t->b≠some t:=by
 intro t ha hb;rw[ha,hb]at h;simp[clash]at h
section
variable {cx:Cx} {ops:Array Oper} {base:Nat} {e:Env}
omit [Dr]in
theorem vF{gid:Nat}{f:Foot}{ss:Option Nat}{u:Upd}(h:Shape e gid f ss u):Shape e gid f ss (gy u):=
 ⟨fun _=>rfl,fun _=>rfl,fun _=>rfl,fun _ x h=>by simp[gy]at h,fun _=>rfl,fun _=>rfl,fun hw C off hh=>h.loc hw C off hh,fun x h=>by simp[gy]at h⟩
omit [Dr]in
theorem Aa{p q:Upd->Prop}(hpq:∀u,p u->q (gy u)){A:Act1}(h:cH p A):cH q (ib A):=by
 cases A with
 |bad=>trivial
 |stat u=>exact hpq _ h
 |dyn m sh=>exact fun v=>hpq _ (h v)
 |thr v=>trivial
omit [Dr]in
theorem FK{p:∀ {α:Type},M α->Prop}{A:Act1}(h:bY p A):bY p (ib A):=by
 cases A<;>exact h
omit [Dr]in
theorem qG{i:Nat}{o:Oper}(ho:ops[i]? = some o){h h':Hp}{u:Upd}(hr:fh cx base ops i e h= .ok u h'):Shape e ((base+i)*1000) (aC cx o) (cG o) u:=by
 unfold fh at hr;rw[ho]at hr;simp only at hr;cases hgd:o.guard with
 |none=>rw[hgd]at hr;exact lM (lV _ _ _ _) hr
 | some g=>
  obtain⟨j,want⟩:=g;rw[hgd]at hr;simp only at hr;cases hdj:dG ops j with
  |none=>rw[hdj]at hr;cases hr
  | some t=>
   rw[hdj]at hr;simp only at hr;cases hpl:fa cx o with
   |false=>rw[hpl]at hr;cases hr
   | true=>
    rw[hpl]at hr;simp only[NF]at hr;have h0:∀ {h h':Hp},(M.pure (Upd.ofV (.tup [])):M Upd) h= .ok u h'->Shape e ((base+i)*1000) (aC cx o) (cG o) u:=by
     intro h h' hh;cases hh;exact Shape.ofV ..
    generalize e.av t=q at hr;cases q with
    |bool b=>
     simp only[kN]at hr;cases hb:(b== want)with
     |false=>rw[hb]at hr;exact h0 hr
     |true=>rw[hb]at hr;exact lM (Aa (fun u=>vF) (lV _ _ _ _)) hr
    |tup vs=>
     cases vs with
     |nil=>exact h0 hr
     |cons v vs=>cases hr
    |_=>cases hr
omit [Dr]in
theorem Ao{p:∀ {α:Type},M α->Prop}(h1:∀ {α:Type} (m:M α),bK m->p m)(h2:∀ {α β:Type} (m:M α) (f:α->β),p m->p (ae m fun v=>M.pure (f v))){A:Act1}(h:bY p A):p (ef A):=by
 cases A with
 |bad=>exact h1 _ bK.fail
 |stat u=>exact h1 _ (bK.pure u)
 |dyn m sh=>exact h2 _ _ h
 |thr v=>exact h.elim
omit [Dr]in
theorem kg{p:∀ {α:Type},M α->Prop}(h1:∀ {α:Type} (m:M α),bK m->p m)(h2:∀ {α β:Type} (m:M α) (f:α->β),p m->p (ae m fun v=>M.pure (f v))){i:Nat}{o:Oper}(ho:ops[i]? = some o)(h:bY p (fQ cx e ((base+i)*1000) o)):p (fh cx base ops i e):=by
 unfold fh;rw[ho];simp only;cases hgd:o.guard with
 |none=>exact Ao h1 h2 h
 | some g=>
  obtain⟨j,want⟩:=g;simp only;cases hdj:dG ops j with
  |none=>exact h1 _ bK.fail
  | some t=>
   simp only;cases hpl:fa cx o with
   |false=>exact h1 _ bK.fail
   | true=>
    simp only[NF];unfold kN;split
    ·rename_i b _;cases hb:(b== want)with
     |false=>exact h1 _ (bK.pure _)
     |true=>exact Ao h1 h2 (FK h)
    ·exact h1 _ (bK.pure _)
    ·exact h1 _ bK.fail
structure Small (ops:Array Oper):Prop where
 dst:∀(i:Nat)(o:Oper),ops[i]? = some o->∀t,o.dst=some t->t<1000
 src:∀(i:Nat)(o:Oper),ops[i]? = some o->∀t∈jA o,t<1000
omit [Dr]in
theorem Small.reads(hS:Small ops){i:Nat}{o:Oper}(ho:ops[i]? = some o):∀t∈dp ops i,t<1000:=by
 intro t ht;rw[gq ho,N6]at ht;rcases ht with ht|ht
 ·unfold eZ at ht;split at ht
  ·rename_i j _ _;cases hj:ops[j]? with
   |none=>rw[hj]at ht;simp at ht
   |some oj=>
    rw[hj]at ht;simp only[PT]at ht;cases hd:oj.dst with
    |none=>rw[hd]at ht;simp at ht
    |some s=>rw[hd]at ht;simp at ht;rw[ht];exact hS.dst j oj hj s hd
  ·simp at ht
 ·exact hS.src i o ho t ht
omit [Dr]in
theorem oJ{gid:Nat}{x:Foot}{ss:Option Nat}{u:Upd}{d:Option Tmp}(hsh:Shape e gid x ss u){t:Nat}(h1:d≠some t)(h2:ss≠some t)(h3:t<1000):(e.upd d u).get t=e.get t:=by
 rw[cS,if_neg h1];refine rN _ fun y hy hyt=>?_;rcases hsh.keys y hy with h|h
 ·omega
 ·exact h2 (by rw[h,hyt])
omit [Dr]in
theorem EF{gid:Nat}{x:Foot}{ss:Option Nat}{u:Upd}{d:Option Tmp}(hsh:Shape e gid x ss u)(hw:x.wl=false){t:Nat}(h1:d≠some t):(e.upd d u).get t=e.get t:=by
 rw[cS,if_neg h1,hsh.ls hw];rfl
omit [Dr]in
theorem s6{gid:Nat}{x:Foot}{ss:Option Nat}{u:Upd}{d:Option Tmp}{o:Oper}(hsh:Shape e gid x ss u)(hd:∀t,d=some t->t<1000)(hops:∀t∈jA o,d≠some t/\ss≠some t/\t<1000)(hloc:((aC cx o).rl||(aC cx o).wl)=true->x.wl=false)(hal:(aC cx o).dr=true->x.ad=false/\x.dr=false):Agree cx o e (e.upd d u):=by
 refine⟨fun t ht=>oJ hsh (hops t ht).1 (hops t ht).2.1 (hops t ht).2.2,fun h=>⟨fun t ht=>EF hsh (hloc h) (fun hh=>Nat.not_lt.2 ht (hd t hh)),fun B=>?_⟩,fun h g=>?_,fun h s _ hl=>?_⟩
 ·show bN (mz (ek e.lb u.unlb) u.lb) B=bN e.lb B;rw[hsh.lb (hloc h),hsh.unlb (hloc h)];rfl
 ·show aV (u.add++eG e.al u.drop) g=aV e.al g;rw[hsh.noad (hal h).1,hsh.nodr (hal h).2];rfl
 ·have hw:=hloc (by rw[h];simp);show bw (sH d u.ent (u.ls++e.sl)) (bL s)=true;rw[hsh.ls hw,eR,N4,hl,Qm];have:nh u.ent (bL s)=true:=by
   unfold nh;split
   ·rename_i C off hv;obtain⟨t,off',ht⟩:=hsh.loc hw C off hv
    have:=nK hl ht
    rw[OK,O2];intro hh;exact this (NR hh)
   ·rfl
  rw[this,Bool.or_true]
omit [Dr]in
theorem Bl{gid:Nat}{x:Foot}{ss:Option Nat}{u:Upd}{d:Option Tmp}{o:Oper}(hsh:Shape e gid x ss u)(hd:∀t,d=some t->t<1000)(hops:∀t∈jA o,d≠some t/\ss≠some t/\t<1000)(hloc:((aC cx o).rl||(aC cx o).wl)=true->x.wl=false)(hal:(aC cx o).dr=true->x.ad=false/\x.dr=false):Agree cx o (e.upd d u) e:=by
 have A:=s6 (cx:=cx) hsh hd hops hloc hal;refine⟨fun t ht=>(A.ops t ht).symm,fun h=>⟨fun t ht=>((A.loc h).1 t ht).symm,fun B=>((A.loc h).2 B).symm⟩,fun h g=>(A.al h g).symm,fun _ s _ hl=>?_⟩;have hl':bw (sH d u.ent (u.ls++e.sl)) (bL s)=true:=hl;rw[eR,gP]at hl';simp only[NG]at hl';exact hl'.2.2
omit [Dr]in
theorem yx{gi gj:Nat}{x y:Foot}{si sj:Option Nat}{u v:Upd}{d f:Option Tmp}(hu:Shape e gi x si u)(hv:Shape e gj y sj v)(hy:y.wl=false)(hf:∀t,f=some t->t<1000)(hdf:∀t,d=some t->f≠some t)(hsf:∀t,si=some t->f≠some t)(hg:gi≠gj)(h1:x.dr=true->y.dr=false/\y.ad=false)(h2:x.ad=true->y.dr=false)(h3:x.ad=true->y.ad=true->x.wl=false):EqE ((e.upd d u).upd f v) ((e.upd f v).upd d u):=by
 have e1:=hv.ls hy;have e2:=hv.lb hy;have e3:=hv.unlb hy;refine⟨fun t=>?_,fun g=>?_,fun B=>?_,fun B=>?_⟩
 ·rw[cS,cS,e1];show (if d=some t then u.ent else cf (u.ls++sH f v.ent (v.ls++e.sl)) t)=if f=some t then v.ent else cf (sH d u.ent (u.ls++e.sl)) t;rw[e1,jT,N4];by_cases hft:f=some t
  ·rw[NE hft,if_neg (fun h=>hdf t h hft),rN,jT,NE hft];intro z hz hzt;rcases hu.keys z hz with h|h
   ·exact Nat.not_lt.2 h (by rw[hzt];exact hf t hft)
   ·exact hsf z.1 h (by rw[hzt];exact hft)
  ·rw[if_neg hft];split
   ·rfl
   ·exact pM (by rw[jT,if_neg hft])
 ·show aV (u.add++eG (v.add++eG e.al v.drop) u.drop) g=aV (v.add++eG (u.add++eG e.al u.drop) v.drop) g;cases hxd:x.dr with
  |true=>
   obtain⟨h4,h5⟩:=h1 hxd;rw[hv.noad h5,hv.nodr h4];rfl
  | false=>
   rw[hu.nodr hxd];cases hxa:x.ad with
   |false=>rw[hu.noad hxa];rfl
   | true=>
    rw[hv.nodr (h2 hxa)];cases hya:y.ad with
    |false=>rw[hv.noad hya];rfl
    |true=>
     have k1:=hu.add (h3 hxa hya);have k2:=hv.add hy;show aV (u.add++(v.add++e.al)) g=aV (v.add++(u.add++e.al)) g;rw[eJ,eJ,eJ,eJ];by_cases hgi:g=gi
     ·rw[pq k2 (by omega)]
     ·rw[pq k1 hgi]
 ·show bN (mz (ek (mz (ek e.lb v.unlb) v.lb) u.unlb) u.lb) B=bN (mz (ek (mz (ek e.lb u.unlb) u.lb) v.unlb) v.lb) B;rw[e2,e3];rfl
 ·show bw (sH d u.ent (u.ls++sH f v.ent (v.ls++e.sl))) B=bw (sH f v.ent (v.ls++sH d u.ent (u.ls++e.sl))) B;simp only[eR,gP]
  ac_rfl
end
end Go.Av
namespace Go.Av
variable [Dr]
section
variable {cx:Cx} {ops:Array Oper} {base:Nat}
structure Ind (cx:Cx) (ops:Array Oper) (i j:Nat) (a b:Oper):Prop where
 ha:ops[i]? = some a
 hb:ops[j]? = some b
 piv:(aC cx a).piv=false
 l1:(aC cx a).wl=true->(aC cx b).rl=false/\(aC cx b).wl=false
 l2:(aC cx a).rl=true->(aC cx b).wl=false
 h1:(aC cx a).wh=true->(aC cx b).rh=false/\(aC cx b).wh=false
 h2:(aC cx a).rh=true->(aC cx b).wh=false\/(aC cx b).nw=true
 g1:(aC cx a).dr=true->(aC cx b).dr=false/\(aC cx b).ad=false
 g2:(aC cx a).ad=true->(aC cx b).dr=false
 g3:(aC cx a).ad=true->(aC cx b).ad=true->(aC cx a).wl=false/\(aC cx b).wl=false
 r1:∀t∈dp ops j,a.dst≠some t
 r2:∀t∈dp ops i,b.dst≠some t
 s1:∀t∈dp ops j,cG a≠some t
 s2:∀t∈dp ops i,cG b≠some t
 c1:∀t,cG a=some t->b.dst≠some t
 c2:∀t,a.dst=some t->cG b≠some t
 c3:∀t,a.dst=some t->b.dst≠some t
omit [Dr]in
theorem BZ{i j:Nat}(h:nC cx ops i j=true):∃a b,Ind cx ops i j a b:=by
 unfold nC at h;split at h
 ·rename_i a b ha hb;refine⟨a,b,?_⟩;simp only[NG,OK]at h;obtain⟨⟨⟨⟨⟨⟨⟨⟨⟨⟨⟨⟨⟨⟨k1,k2⟩,k3⟩,k4⟩,k5⟩,k6⟩,k7⟩,k8⟩,k9⟩,k10⟩,k11⟩,k12⟩,k13⟩,k14⟩,k15⟩:=h;refine⟨ha,hb,k1,fun q=>?_,fun q=>?_,fun q=>?_,fun q=>?_,fun q=>?_,fun q=>?_,fun q q'=>?_,nQ k9,nQ k10,nQ k11,nQ k12,oU k13,oU k14,oU k15⟩
  ·rw[q]at k2;simpa using k2
  ·rw[q]at k3;simpa using k3
  ·rw[q]at k4;simpa using k4
  ·rw[q]at k5;simp only[PG]at k5;cases hb:(aC cx b).wh<;>simp_all
  ·rw[q]at k6;simpa using k6
  ·rw[q]at k7;simpa using k7
  ·rw[q,q']at k8;simpa using k8
 ·cases h
omit [Dr]in
theorem swap(hI:IsoPure cx)(hS:Small ops){i j:Nat}(hij:nC cx ops i j=true)(hne:i≠j)(e:Env)(h:Hp):
  RE (ae (stepG cx base ops i e) (stepG cx base ops j) h) (ae (stepG cx base ops j e) (stepG cx base ops i) h):=by
 obtain⟨a,b,I⟩:=BZ hij;have hda:dG ops i=a.dst:=by simp[dG,I.ha]
 have hdb:dG ops j=b.dst:=by simp[dG,I.hb]
 unfold stepG;rw[hda,hdb];simp only[ae,M.pure];cases hri:fh cx base ops i e h with
 |fail=>trivial
 |pan v h'=>exact absurd hri (kg (p:=@eF) (fun _ g=>g.read.stay) (fun _ f g=>g.bnd f) I.ha ((e7 hI e _ a).stay I.piv) h v h')
 | ok u h1=>
  simp only;have shu:=qG I.ha hri;have hra:=gq (ops:=ops) I.ha;have hrb:=gq (ops:=ops) I.hb;have hbo:∀t∈jA b,a.dst≠some t/\cG a≠some t/\t<1000:=fun t ht=>⟨I.r1 t (by rw[hrb];simp[ht]),I.s1 t (by rw[hrb];simp[ht]),hS.src j b I.hb t ht⟩;have hao:∀t∈jA a,b.dst≠some t/\cG b≠some t/\t<1000:=fun t ht=>⟨I.r2 t (by rw[hra];simp[ht]),I.s2 t (by rw[hra];simp[ht]),hS.src i a I.ha t ht⟩;have Abwd:Agree cx b (e.upd a.dst u) e:=Bl shu (hS.dst i a I.ha) hbo (fun q=>by
   cases hw:(aC cx a).wl with
   |false=>rfl
   |true=>obtain⟨q1,q2⟩:=I.l1 hw;rw[q1,q2]at q;cases q) (fun q=>by
   constructor
   ·cases hw:(aC cx a).ad with
    |false=>rfl
    |true=>have:=I.g2 hw;rw[this]at q;cases q
   ·cases hw:(aC cx a).dr with
    |false=>rfl
    |true=>have:=(I.g1 hw).1;rw[this]at q;cases q)
  have hgb:∀t∈eZ ops b,e.get t=(e.upd a.dst u).get t:=fun t ht=>by
   have htr:t∈dp ops j:=by rw[hrb];simp[ht]
   exact (oJ shu (I.r1 t htr) (I.s1 t htr) (hS.reads I.hb t htr)).symm
  -- the second, after the first
  cases hrj:fh cx base ops j (e.upd a.dst u) h1 with
  |fail=>trivial
  | pan v h2=>
   have hj:=ge (base:=base) I.hb hgb Abwd (h:=h1) (by rw[hrj];simp);rw[hrj]at hj
   -- j leaves: so it may write, and i did not touch the heap
   have hwb:(aC cx b).wh=true:=by
    cases hw:(aC cx b).wh with
    |true=>rfl
    |false=>exact absurd hj ((kg (p:=@dR) (fun _ g=>g.read) (fun _ f g=>g.bnd f) I.hb ((e7 hI e _ b).read hw)).stay _ _ _)
   have hwa:(aC cx a).wh=false:=by
    cases hw:(aC cx a).wh with
    |false=>rfl
    |true=>have:=(I.h1 hw).2;rw[this]at hwb;cases hwb
   have hh:h1=h:=by
    have hR:dR (fh cx base ops i e):=kg (p:=@dR) (fun _ g=>g.read) (fun _ f g=>g.bnd f) I.ha ((e7 hI e _ a).read hwa);rcases hR h with hx|⟨u',hx⟩<;>rw[hri]at hx<;>cases hx;rfl
   subst hh;rw[hj];exact rfl
  | ok v h2=>
   have hj:=ge (base:=base) I.hb hgb Abwd (h:=h1) (by rw[hrj];simp);rw[hrj]at hj;have shv:=qG I.hb hj;have Afwd:Agree cx a e (e.upd b.dst v):=s6 shv (hS.dst j b I.hb) hao (fun q=>by
    cases hw:(aC cx b).wl with
    |false=>rfl
    | true=>
     exfalso;cases hrl:(aC cx a).rl with
     |true=>have:=I.l2 hrl;rw[this]at hw;cases hw
     |false=>
      rw[hrl]at q;have hwl:(aC cx a).wl=true:=by simpa using q
      have:=(I.l1 hwl).2
      rw[this]at hw;cases hw) (fun q=>⟨(I.g1 q).2,(I.g1 q).1⟩)
   have hga:∀t∈eZ ops a,(e.upd b.dst v).get t=e.get t:=fun t ht=>by
    have htr:t∈dp ops i:=by rw[hra];simp[ht]
    exact oJ shv (I.r2 t htr) (I.s2 t htr) (hS.reads I.ha t htr)
   have hcomm:EqE ((e.upd a.dst u).upd b.dst v) ((e.upd b.dst v).upd a.dst u):=by
    have hgij:(base+i)*1000≠(base+j)*1000:=by omega
    cases hwb:(aC cx b).wl with
    |false=>
     exact yx shu shv hwb (hS.dst j b I.hb) I.c3 I.c1 hgij I.g1 I.g2 (fun q q'=>(I.g3 q q').1)
    | true=>
     have hwa:(aC cx a).wl=false:=by
      cases hw:(aC cx a).wl with
      |false=>rfl
      |true=>have:=(I.l1 hw).2;rw[this]at hwb;cases hwb
     refine (yx shv shu hwa (hS.dst i a I.ha) (fun t ht hh=>I.c3 t hh ht) (fun t ht hh=>I.c2 t hh ht) (Qr hgij) (fun q=>⟨?_,?_⟩) (fun q=>?_) (fun q q'=>?_)).symm
     ·cases hw:(aC cx a).dr with
      |false=>rfl
      |true=>have:=(I.g1 hw).1;rw[this]at q;cases q
     ·cases hw:(aC cx a).ad with
      |false=>rfl
      |true=>have:=I.g2 hw;rw[this]at q;cases q
     ·cases hw:(aC cx a).dr with
      |false=>rfl
      |true=>have:=(I.g1 hw).2;rw[this]at q;cases q
     ·have:=(I.g3 q' q).2;rw[this]at hwb;cases hwb
   cases hwa:(aC cx a).wh with
   | false=>
    have hR:dR (fh cx base ops i e):=kg (p:=@dR) (fun _ g=>g.read) (fun _ f g=>g.bnd f) I.ha ((e7 hI e _ a).read hwa);have hh:h1=h:=by
     rcases hR h with hx|⟨u',hx⟩<;>rw[hri]at hx<;>cases hx;rfl
    subst hh;rw[hj];simp only;have hi2:fh cx base ops i e h2= .ok u h2:=by
     cases hra':(aC cx a).rh with
     |false=>
      obtain⟨q,hq⟩:bK (fh cx base ops i e):=kg (p:=@bK) (fun _ g=>g) (fun _ f g=>g.bnd f) I.ha ((e7 hI e _ a).pure hwa hra');rw[hq]at hri |-;cases q with
      |none=>cases hri
      |some u'=>cases hri;rfl
     | true=>
      rcases I.h2 hra' with hwb|hnw
      case inr=>
       have hNw:yF (fh cx base ops j e):=kg (p:=@yF) (fun _ g=>g.nw) (fun _ f g=>g.bnd f) I.hb ((e7 hI e _ b).nw hnw);have hAp:lZ (fh cx base ops i e)/\dR (fh cx base ops i e):=kg (p:=fun m=>lZ m/\dR m) (fun _ g=>⟨g.app,g.read⟩) (fun _ f g=>lZ.bnd g f) I.ha ((e7 hI e _ a).app hwa);obtain⟨t,rfl⟩:=hNw _ _ _ hj;exact hAp.1 _ t _ hri
      have hRb:dR (fh cx base ops j e):=kg (p:=@dR) (fun _ g=>g.read) (fun _ f g=>g.bnd f) I.hb ((e7 hI e _ b).read hwb);rcases hRb h1 with hx|⟨u',hx⟩<;>rw[hj]at hx<;>cases hx;exact hri
    rw[ge I.ha hga Afwd (by rw[hi2];simp),hi2];exact⟨_,rfl,hcomm⟩
   | true=>
    obtain⟨hrb',hwb⟩:=I.h1 hwa;obtain⟨q,hq⟩:bK (fh cx base ops j e):=kg (p:=@bK) (fun _ g=>g) (fun _ f g=>g.bnd f) I.hb ((e7 hI e _ b).pure hwb hrb');rw[hq]at hj |-;cases q with
    |none=>cases hj
    |some u'=>
     cases hj;simp only[ah];rw[ge I.ha hga Afwd (by rw[hri];simp),hri];exact⟨_,rfl,hcomm⟩
omit [Dr]in
theorem IP(hI:IsoPure cx)(hS:Small ops){i:Nat}(q:List Nat):∀(p:List Nat),(∀x∈p,nC cx ops x i=true/\x≠i)->∀(e:Env)(h:Hp),RE (br cx base ops (p++i:: q) e h) (br cx base ops (i:: (p++q)) e h)
 |[],_,e,h=>RE.refl _
 | x:: p,hp,e,h=>by
  have ih:=fun e h=>IP hI hS q p (fun y hy=>hp y (by simp[hy])) e h;have h1:RE (br cx base ops (x:: (p++i:: q)) e h) (br cx base ops (x:: i:: (p++q)) e h):=by
   simp only[br,ae]at ih |-;cases stepG cx base ops x e h with
   |ok e' h'=>exact ih e' h'
   |pan v h'=>exact rfl
   |fail=>trivial
  refine h1.trans ?_;have e1:br cx base ops (x:: i:: (p++q)) e=ae (ae (stepG cx base ops x e) (stepG cx base ops i)) (br cx base ops (p++q)):=by rw[gG];rfl
  have e2:br cx base ops (i:: x:: (p++q)) e=ae (ae (stepG cx base ops i e) (stepG cx base ops x)) (br cx base ops (p++q)):=by rw[gG];rfl
  show RE (br cx base ops (x:: i:: (p++q)) e h) (br cx base ops (i:: x:: (p++q)) e h);rw[e1,e2];exact RE.bind (swap hI hS (hp x (by simp)).1 (hp x (by simp)).2 e h) fun e e' x h=>nX _ h x
end
end Go.Av
namespace Go.Av
variable [Dr]
omit [Dr]in
theorem FA{a b:Option (Nat×Bool)}(h:Bb a b=true):a=b:=by
 unfold Bb at h;split at h
 ·rfl
 ·simp only[NG,Ol]at h;rw[NR h.1,h.2]
 ·cases h
def ig(gs:List (Option (Nat×Bool)×List Nat)):List Nat:=gs.flatMap (·.2)
omit [Dr]in
theorem jv(ops:Array Oper):∀l:List Nat,ig (dH ops l)=l/\∀g∈dH ops l,∀i∈g.2,guardOf ops i=g.1
 |[]=>⟨rfl,by simp[dH]⟩
 | i :: is=>by
  obtain⟨h1,h2⟩:=jv ops is;simp only[dH];cases hg:dH ops is with
  |nil=>
   rw[hg]at h1;have:is=[]:=by simpa [ig]using h1.symm
   subst this;exact⟨rfl,by simp⟩
  | cons x r=>
   obtain⟨g,js⟩:=x;rw[hg]at h1 h2;simp only;cases hs:Bb (guardOf ops i) g with
   | true=>
    refine⟨?_,fun y hy=>?_⟩
    ·simp only[NF,ig,OV,Ob]at h1 |-;rw[h1]
    ·simp only[NF,NP]at hy;rcases hy with rfl|hy
     ·intro k hk;simp only[NP]at hk;rcases hk with rfl|hk
      ·exact FA hs
      ·exact h2 (g,js) (by simp) k hk
     ·exact h2 y (by simp[hy])
   | false=>
    refine⟨?_,fun y hy=>?_⟩
    ·simp only[NQ,ig,OV,Ob,N4]at h1 |-;rw[h1]
    ·simp only[NQ,NP]at hy;rcases hy with rfl|rfl|hy
     ·intro k hk;simp only[OA]at hk;subst hk;rfl
     ·exact h2 (g,js) (by simp)
     ·exact h2 y (by simp[hy])
omit [Dr]in
theorem wy{ρ:Type}(e:Env)(d:Option Tmp)(A:Act1)(k:Env->M ρ):nj e d A k=ae (ef A) fun u=>k (e.upd d u):=by
 cases A with
 |bad=>rfl
 |stat u=>rfl
 |dyn m sh=>simp only[nj,ef,gG,aA]
 |thr v=>rfl
omit [Dr]in
theorem Bu{α β:Type}{m:M α}{f g:α->M β}{h:Hp}(hfg:∀u h',m h= .ok u h'->f u h'=g u h'):ae m f h=ae m g h:=by
 simp only[ae];cases hm:m h with
 |ok u h'=>exact hfg u h' hm
 |pan v h'=>rfl
 |fail=>rfl
section
variable {cx:Cx} {ops:Array Oper} {base:Nat}
omit [Dr]in
theorem Bj{i:Nat}{o:Oper}(ho:ops[i]? = some o)(hg:guardOf ops i=none)(e:Env):fh cx base ops i e=ef (fQ cx e ((base+i)*1000) o):=by
 have:o.guard=none:=by simpa [guardOf,ho]using hg
 unfold fh;rw[ho];simp only;rw[this]
omit [Dr]in
theorem ow{i j t:Nat}{want:Bool}{o:Oper}(ho:ops[i]? = some o)(hg:guardOf ops i=some (j,want))(hj:dG ops j=some t)(hp:fa cx o=true)(e:Env):
  fh cx base ops i e=kN (e.av t) want (ef (ib (fQ cx e ((base+i)*1000) o))):=by
 have:o.guard=some (j,want):=by simpa [guardOf,ho]using hg
 unfold fh;rw[ho];simp only;rw[this];simp only;rw[hj];simp only;rw[hp];rfl
omit [Dr]in
theorem xY{ρ:Type}:∀(is:List Nat)(e:Env)(k:Env->M ρ)(_:∀i∈is,guardOf ops i=none),jl cx base ops false is e k=ae (br cx base ops is e) k
 |[],e,k,_=>rfl
 | i:: is,e,k,hg=>by
  simp only[jl,br];unfold stepG;cases ho:ops[i]? with
  |none=>unfold fh;rw[ho];rfl
  |some o=>
   simp only;rw[wy,Bj ho (hg i (by simp)),gG,gG];have hd:dG ops i=o.dst:=by simp[dG,ho]
   rw[hd];congr 1;funext u;simp only[aA];exact xY is _ k fun j hj=>hg j (by simp[hj])
structure Turned (ds:List Nat) (e e':Env):Prop where
 get:∀t,t ∉ ds->e'.get t=e.get t
 al:e'.al=e.al
 lb:e'.lb=e.lb
 lf:∀B,bw e.sl B=true->bw e'.sl B=true
 ng:∀t∈ds,(e'.get t).g=none
omit [Dr]in
theorem Turned.step{ds:List Nat}{e e':Env}(H:Turned ds e e'){u:Upd}{d:Option Nat}(hls:u.ls=[])(hadd:u.add=[])(hdrop:u.drop=none)(hlb:u.lb=none)(hunlb:u.unlb=none)(hg:u.ent.g=none)(hloc:∀C off,u.ent.v= .loc C off->∃t off',(e'.get t).v= .loc C off'):Turned (d.toList++ds) e (e'.upd d u):=by
 have hget:∀t,(e'.upd d u).get t=if d=some t then u.ent else e'.get t:=fun t=>by rw[cS,hls];rfl
 refine⟨fun t ht=>?_,?_,?_,fun B hB=>?_,fun t ht=>?_⟩
 ·simp only[N6,not_or,PZ]at ht;rw[hget,if_neg ht.1];exact H.get t ht.2
 ·show u.add++eG e'.al u.drop=e.al;rw[hadd,hdrop];exact H.al
 ·show mz (ek e'.lb u.unlb) u.lb=e.lb;rw[hlb,hunlb];exact H.lb
 ·have h1:=H.lf B hB;show bw (sH d u.ent (u.ls++e'.sl)) B=true;rw[hls,eR,N4,h1,Qm];have:nh u.ent B=true:=by
   unfold nh;split
   ·rename_i C off hv;obtain⟨t,off',ht⟩:=hloc C off hv
    have:=nK h1 ht
    rw[OK,O2];intro hh;exact this (NR hh)
   ·rfl
  rw[this,Bool.or_true]
 ·rw[hget];split
  ·exact hg
  ·rename_i hd;simp only[N6,PZ]at ht;rcases ht with ht|ht
   ·exact absurd ht hd
   ·exact H.ng t ht
omit [Dr]in
theorem Turned.refl(e:Env):Turned [] e e:=⟨fun _ _=>rfl,rfl,rfl,fun _ h=>h,fun t h=>by simp at h⟩
omit [Dr]in
theorem Turned.sub{ds ds':List Nat}{e e':Env}(H:Turned ds e e')(h:∀t,t∈ds↔t∈ds'):Turned ds' e e':=
 ⟨fun t ht=>H.get t fun hh=>ht ((h t).1 hh),H.al,H.lb,H.lf,fun t ht=>H.ng t ((h t).2 ht)⟩
structure GroupOk (cx:Cx) (ops:Array Oper) (j:Nat) (want:Bool) (t:Nat) (is:List Nat):Prop where
 hj:dG ops j=some t
 each:∀i∈is,∃o,ops[i]? = some o/\guardOf ops i=some (j,want)/\fa cx o=true
 nt:t ∉ dc ops is
omit [Dr]in
theorem ji(i:Nat)(is:List Nat):∀t,t∈dc ops (i:: is)↔dG ops i=some t\/t∈dc ops is:=by
 intro t;unfold dc;simp only[Qd,NP,QP]
omit [Dr]in
theorem GroupOk.tail{j:Nat}{want:Bool}{t i:Nat}{is:List Nat}(G:GroupOk cx ops j want t (i:: is)):GroupOk cx ops j want t is:=
 ⟨G.hj,fun k hk=>G.each k (by simp[hk]),fun h=>G.nt ((ji i is t).2 (.inr h))⟩
omit [Dr]in
theorem GroupOk.ne{j:Nat}{want:Bool}{t i:Nat}{is:List Nat}(G:GroupOk cx ops j want t (i:: is)):dG ops i≠some t:=fun h=>G.nt ((ji i is t).2 (.inl h))
omit [Dr]in
theorem kK{A:Act1}{h h':Hp}{u:Upd}(hr:ef (ib A) h= .ok u h'):∃u0,ef A h= .ok u0 h'/\u=gy u0:=by
 rw[pp]at hr;cases hx:ef A h<;>rw[hx]at hr<;>simp at hr;exact⟨_,by rw[hr.2],hr.1.symm⟩
omit [Dr]in
theorem ua{ρ:Type}{j:Nat}{want:Bool}{t:Nat}:∀(is:List Nat)(e:Env)(k:Env->M ρ)(h:Hp),GroupOk cx ops j want t is->e.av t= .bool want->jl cx base ops true is e k h=ae (br cx base ops is e) k h
 |[],e,k,h,_,_=>rfl
 |i:: is,e,k,h,G,hc=>by
  obtain⟨o,ho,hg,hp⟩:=G.each i (by simp);have hd:dG ops i=o.dst:=by simp[dG,ho]
  simp only[jl,br,ho,NF];rw[wy];unfold stepG;rw[ow ho hg G.hj hp,hc,gG,gG];simp only[kN,OB,NF,aA,hd];refine Bu fun u h' hu=>?_;obtain⟨u0,hu0,rfl⟩:=kK hu;refine ua is _ k h' G.tail ?_;have:(e.upd o.dst (gy u0)).get t=e.get t:=by rw[cS,if_neg (by rw[<- hd];exact G.ne)];rfl
  simp only[Env.av,this];exact hc
omit [Dr]in
theorem og{j:Nat}{want:Bool}{t:Nat}:∀(is:List Nat)(e e':Env)(h h':Hp),GroupOk cx ops j want t is->e.av t= .bool want->br cx base ops is e h= .ok e' h'->Turned (dc ops is) e e':=by
 have key:∀(is:List Nat)(e0 e e':Env)(ds:List Nat)(h h':Hp),GroupOk cx ops j want t is->e.av t= .bool want->Turned ds e0 e->br cx base ops is e h= .ok e' h'->Turned (dc ops is++ds) e0 e':=by
  intro is
  induction is with
  |nil=>
   intro e0 e e' ds h h' _ _ H hr;cases hr;exact H
  | cons i is ih=>
   intro e0 e e' ds h h' G hc H hr;obtain⟨o,ho,hg,hp⟩:=G.each i (by simp);have hd:dG ops i=o.dst:=by simp[dG,ho]
   simp only[br]at hr;unfold stepG at hr;rw[ow ho hg G.hj hp,hc,gG]at hr;simp only[kN,OB,NF,hd,ae]at hr;cases hx:ef (ib (fQ cx e ((base+i)*1000) o)) h with
   |fail=>rw[hx]at hr;cases hr
   |pan v hh=>rw[hx]at hr;cases hr
   | ok u hh=>
    rw[hx]at hr;simp only at hr;obtain⟨u0,hu0,rfl⟩:=kK hx;have hsh:=lM (lV cx e ((base+i)*1000) o) hu0;simp only[fa,NG,OK]at hp;have H2:=H.step (u:=gy u0) (d:=o.dst) rfl rfl rfl rfl rfl rfl (hsh.loc hp.1);refine (ih e0 _ e' _ hh h' G.tail ?_ H2 hr).sub fun s=>?_
    ·have:(e.upd o.dst (gy u0)).get t=e.get t:=by rw[cS,if_neg (by rw[<- hd];exact G.ne)];rfl
     simp only[Env.av,this];exact hc
    ·simp only[N6,ji,PZ,hd];constructor
     ·rintro (h|h|h)
      ·exact .inl (.inr h)
      ·exact .inl (.inl h)
      ·exact .inr h
     ·rintro ((h|h)|h)
      ·exact .inr (.inl h)
      ·exact .inl h
      ·exact .inr (.inr h)
 intro is e e' h h' G hc hr;exact (key is e e e' [] h h' G hc (.refl e) hr).sub (by simp)
def Off(c:AV)(want:Bool):Prop:=c= .tup []\/∃b,c= .bool b/\(b== want)=false
omit [Dr]in
theorem Off.look{c:AV}{want:Bool}(h:Off c want)(m:M Upd):kN c want m=M.pure (.ofV (.tup [])):=by
 rcases h with rfl|⟨b,rfl,hb⟩
 ·rfl
 ·simp only[kN,hb,NQ]
omit [Dr]in
theorem Hc{j:Nat}{want:Bool}{t:Nat}:∀(is:List Nat)(e:Env)(h:Hp),GroupOk cx ops j want t is->Off (e.av t) want->∃e',br cx base ops is e h= .ok e' h/\Turned (dc ops is) e e'/\∀s∈dc ops is,e'.get s=⟨.val (.tup []),none⟩:=by
 have key:∀(is:List Nat)(e0 e:Env)(ds:List Nat)(h:Hp),GroupOk cx ops j want t is->Off (e.av t) want->Turned ds e0 e->(∀s∈ds,e.get s=⟨.val (.tup []),none⟩)->
   ∃e',br cx base ops is e h= .ok e' h/\Turned (dc ops is++ds) e0 e'/\∀s∈dc ops is++ds,e'.get s=⟨.val (.tup []),none⟩:=by
  intro is
  induction is with
  |nil=>exact fun e0 e ds h _ _ H hds=>⟨e,rfl,H,hds⟩
  | cons i is ih=>
   intro e0 e ds h G hc H hds;obtain⟨o,ho,hg,hp⟩:=G.each i (by simp);have hd:dG ops i=o.dst:=by simp[dG,ho]
   have hget:∀s,(e.upd o.dst (.ofV (.tup []))).get s=if o.dst=some s then⟨.val (.tup []),none⟩else e.get s:=fun s=>by rw[cS];rfl
   have H2:=H.step (u:=.ofV (.tup [])) (d:=o.dst) rfl rfl rfl rfl rfl rfl (fun C off hh=>by cases hh);have hav:(e.upd o.dst (.ofV (.tup []))).av t=e.av t:=by
    have:(e.upd o.dst (.ofV (.tup []))).get t=e.get t:=by rw[hget,if_neg (by rw[<- hd];exact G.ne)]
    simp only[Env.av,this]
   obtain⟨e',h1,h2,h3⟩:=ih e0 (e.upd o.dst (.ofV (.tup []))) (o.dst.toList++ds) h G.tail (by rw[hav];exact hc) H2 (fun s hs=>by
    rw[hget];split
    ·rfl
    ·rename_i hn;simp only[N6,PZ]at hs;rcases hs with hs|hs
     ·exact absurd hs hn
     ·exact hds s hs)
   have hiff:∀s,s∈dc ops is++(o.dst.toList++ds)↔s∈dc ops (i:: is)++ds:=fun s=>by
    simp only[N6,ji,PZ,hd];constructor
    ·rintro (h|h|h)
     ·exact .inl (.inr h)
     ·exact .inl (.inl h)
     ·exact .inr h
    ·rintro ((h|h)|h)
     ·exact .inr (.inl h)
     ·exact .inl h
     ·exact .inr (.inr h)
   refine⟨e',?_,h2.sub hiff,fun s hs=>h3 s ((hiff s).2 hs)⟩;simp only[br];unfold stepG;rw[ow ho hg G.hj hp,hc.look,hd];exact h1
 intro is e h G hc;obtain⟨e',h1,h2,h3⟩:=key is e e [] h G hc (.refl e) (by simp);exact⟨e',h1,h2.sub (by simp),fun s hs=>h3 s (by simp[hs])⟩
end
end Go.Av
namespace Go.Av
variable [Dr]
section
variable {cx:Cx} {ops:Array Oper} {base:Nat}
structure Rel (ops:Array Oper) (L:List Nat) (e2 e:Env):Prop where
 get:∀t,e2.get t=e.get t\/(e2.get t=Ent.none/\t<1000/\∀i∈L,t ∉ dp ops i)
 al:∀g,aV e2.al g=aV e.al g
 lb:∀B,bN e2.lb B=bN e.lb B
 lf:∀B,bw e2.sl B=true->bw e.sl B=true
omit [Dr]in
theorem Rel.refl(ops:Array Oper)(L:List Nat)(e:Env):Rel ops L e e:=⟨fun _=>.inl rfl,fun _=>rfl,fun _=>rfl,fun _ h=>h⟩
omit [Dr]in
theorem Rel.sub{L L':List Nat}{e2 e:Env}(H:Rel ops L e2 e)(h:∀i∈L',i∈L):Rel ops L' e2 e:=
 ⟨fun t=>(H.get t).imp id fun⟨h1,h2,h3⟩=>⟨h1,h2,fun i hi=>h3 i (h i hi)⟩,H.al,H.lb,H.lf⟩
omit [Dr]in
theorem Rel.read{L:List Nat}{e2 e:Env}(H:Rel ops L e2 e){i t:Nat}(hi:i∈L)(ht:t∈dp ops i):e.get t=e2.get t:=by
 rcases H.get t with h|⟨_,_,h⟩
 ·exact h.symm
 ·exact absurd ht (h i hi)
omit [Dr]in
theorem Rel.agree{L:List Nat}{e2 e:Env}(H:Rel ops L e2 e){i:Nat}{o:Oper}(hi:i∈L)(ho:ops[i]? = some o):Agree cx o e2 e:=by
 refine⟨fun t ht=>H.read hi (by rw[gq ho];simp[ht]),fun _=>⟨fun t ht=>?_,fun B=>(H.lb B).symm⟩,fun _ g=>(H.al g).symm,fun _ s _ hl=>H.lf _ hl⟩;rcases H.get t with h|⟨_,h,_⟩
 ·exact h.symm
 ·omega
omit [Dr]in
theorem Rel.upd{L:List Nat}{e2 e:Env}(H:Rel ops L e2 e)(d:Option Tmp)(u:Upd):Rel ops L (e2.upd d u) (e.upd d u):=by
 refine⟨fun t=>?_,fun g=>?_,fun B=>?_,fun B hB=>?_⟩
 ·rw[cS,cS];split
  ·exact .inl rfl
  ·rw[jS,jS];split
   ·exact .inl rfl
   ·exact H.get t
 ·show aV (u.add++eG e2.al u.drop) g=aV (u.add++eG e.al u.drop) g;have:aV (eG e2.al u.drop) g=aV (eG e.al u.drop) g:=by
   cases u.drop with
   |none=>exact H.al g
   |some k=>simp only[eG,kX,H.al g]
  rw[eJ,eJ,this]
 ·show bN (mz (ek e2.lb u.unlb) u.lb) B=bN (mz (ek e.lb u.unlb) u.lb) B;have:bN (ek e2.lb u.unlb) B=bN (ek e.lb u.unlb) B:=by
   cases u.unlb with
   |none=>exact H.lb B
   |some k=>simp only[ek,nH,H.lb B]
  cases u.lb with
  |none=>exact this
  |some x=>
   obtain⟨k,n⟩:=x;simp only[mz,eh,this]
 ·have hB':bw (sH d u.ent (u.ls++e2.sl)) B=true:=hB;show bw (sH d u.ent (u.ls++e.sl)) B=true;rw[eR,gP]at hB' |-;simp only[NG]at hB' |-;exact⟨hB'.1,hB'.2.1,H.lf B hB'.2.2⟩
omit [Dr]in
theorem Rel.run:∀(is:List Nat){L:List Nat}{e2 e:Env}(_:Rel ops L e2 e)(_:∀i∈is,i∈L)(h:Hp),br cx base ops is e2 h≠.fail->
  (∃e2' e' h',br cx base ops is e2 h= .ok e2' h'/\br cx base ops is e h= .ok e' h'/\Rel ops L e2' e')\/∃v h',br cx base ops is e2 h= .pan v h'/\br cx base ops is e h= .pan v h'
 |[],L,e2,e,H,_,h,_=>.inl ⟨e2,e,h,rfl,rfl,H⟩
 | i:: is,L,e2,e,H,hL,h,hr=>by
  simp only[br]at hr |-;unfold stepG at hr |-;simp only[ae,M.pure]at hr |-;cases hx:fh cx base ops i e2 h with
  |fail=>rw[hx]at hr;exact absurd rfl hr
  | _ =>
   have ho:∃o,ops[i]? = some o:=by
    cases ho:ops[i]? with
    |none=>unfold fh at hx;rw[ho]at hx;cases hx
    |some o=>exact⟨o,rfl⟩
   obtain⟨o,ho⟩:=ho;have hi:=hL i (by simp);have hy:fh cx base ops i e h=fh cx base ops i e2 h:=ge ho (fun t ht=>H.read hi (by rw[gq ho];simp[ht])) (H.agree hi ho) (by rw[hx];simp);rw[hy,hx]
   first
    | rw[hx]at hr
      exact Rel.run is (H.upd _ _) (fun k hk=>hL k (by simp[hk])) _ hr
    |exact .inr ⟨_,_,rfl,rfl⟩
omit [Dr]in
theorem rj(e:Env):∀(ds:List Nat)(t:Nat),(forget e ds).get t=if t∈ds then Ent.none else e.get t
 |[],t=>by simp[forget]
 | d:: ds,t=>by
  show cf ((d,Ent.none):: (forget e ds).sl) t=_;rw[cB];by_cases hd:d=t
  ·subst hd;simp
  ·rw[if_neg hd]
   have:=rj e ds t
   simp only[Env.get]at this;rw[this];have hd':¬t=d:=fun h=>hd h.symm;simp[hd',Env.get]
omit [Dr]in
theorem pI(e:Env):∀(ds:List Nat),(forget e ds).al=e.al/\(forget e ds).lb=e.lb/\∀B,bw (forget e ds).sl B=bw e.sl B
 |[]=>⟨rfl,rfl,fun _=>rfl⟩
 |_d:: ds=>pI e ds
omit [Dr]in
theorem pS(e:Env)(f:Nat->AV):∀(outs:List Nat)(pre:List AV)(t:Nat),(fW e (pre++outs.map f) pre.length outs).get t=if t∈outs then⟨.val (f t),none⟩else e.get t
 |[],pre,t=>by simp[fW]
 | d:: ds,pre,t=>by
  show cf ((d,⟨.val (nth (pre++(d:: ds).map f) pre.length),none⟩):: (fW e (pre++(d:: ds).map f) (pre.length+1) ds).sl) t=_;rw[cB];have hn:nth (pre++(d:: ds).map f) pre.length=f d:=by simp[nth]
  by_cases hd:d=t
  ·subst hd;rw[hn];simp
  ·rw[if_neg hd]
   have:=pS e f ds (pre++[f d]) t
   simp only[Oz,N3,Of,Ot,Pl]at this;simp only[Env.get,N8]at this |-;rw[this];have hd':¬t=d:=fun h=>hd h.symm;simp[hd']
omit [Dr]in
theorem nZ(e:Env)(vs:List AV):∀(outs:List Nat)(i:Nat),(fW e vs i outs).al=e.al/\(fW e vs i outs).lb=e.lb/\∀B,bw (fW e vs i outs).sl B=bw e.sl B
 |[],_i=>⟨rfl,rfl,fun _=>rfl⟩
 |_d:: ds,i=>nZ e vs ds (i+1)
omit [Dr]in
theorem Ah(gs:List (Option (Nat×Bool)×List Nat))(t:Nat):Ag ops gs t=true↔∃i∈ig gs,t∈dp ops i:=by
 unfold Ag ig;simp only[Pf,QK,gR];constructor
 ·rintro⟨g,hg,i,hi,ht⟩;exact⟨i,⟨g,hg,hi⟩,ht⟩
 ·rintro⟨i,⟨g,hg,hi⟩,ht⟩;exact⟨g,hg,i,hi,ht⟩
omit [Dr]in
theorem Rel.close{is:List Nat}{gs:List (Option (Nat×Bool)×List Nat)}{e2 e e':Env}(H:Rel ops (is++ig gs) e2 e)(hS:Small ops)(T:Turned (dc ops is) e e'){vs:List AV}{f:Nat->AV}(hvs:vs=(dz ops is gs).map f)(hf:∀t∈dz ops is gs,e'.get t=⟨.val (f t),none⟩\/(f t= .any/\t<1000/\∀i∈ig gs,t ∉ dp ops i)):Rel ops (ig gs) (fW (forget e2 (dc ops is)) vs 0 (dz ops is gs)) e':=by
 have hr:=nZ (forget e2 (dc ops is)) vs (dz ops is gs) 0;have hr2:=pI e2 (dc ops is);refine⟨fun t=>?_,fun g=>?_,fun B=>?_,fun B hB=>?_⟩
 ·have hg:=pS (forget e2 (dc ops is)) f (dz ops is gs) [] t;simp only[N4,Ot]at hg;rw[hvs,hg];split
  ·rename_i ht;rcases hf t ht with h|⟨h1,h2,h3⟩
   ·exact .inl h.symm
   ·exact .inr ⟨by rw[h1];rfl,h2,h3⟩
  ·rename_i ht;rw[rj];split
   ·rename_i hd;refine .inr ⟨rfl,?_,fun i hi hti=>ht ?_⟩
    ·unfold dc at hd;simp only[Qd]at hd;obtain⟨i,hi,hd⟩:=hd;unfold dG at hd;cases hoi:ops[i]? with
     |none=>rw[hoi]at hd;simp at hd
     |some o=>rw[hoi]at hd;exact hS.dst i o hoi t hd
    ·unfold dz;rw[OS];exact⟨hd,(Ah gs t).2 ⟨i,hi,hti⟩⟩
   ·rename_i hd;rw[T.get t hd];rcases H.get t with h|⟨h1,h2,h3⟩
    ·exact .inl h
    ·exact .inr ⟨h1,h2,fun i hi=>h3 i (by simp[hi])⟩
 ·rw[hr.1,hr2.1,T.al];exact H.al g
 ·rw[hr.2.1,hr2.2.1,T.lb];exact H.lb B
 ·rw[hr.2.2,hr2.2.2]at hB;exact T.lf B (H.lf B hB)
omit [Dr]in
theorem sn(l m:List Nat):∀e:Env,br cx base ops (l++m) e=ae (br cx base ops l e) (br cx base ops m):=by
 induction l with
 |nil=>intro e;rfl
 |cons i l ih=>
  intro e;show ae (stepG cx base ops i e) (br cx base ops (l++m))=ae (ae (stepG cx base ops i e) (br cx base ops l)) (br cx base ops m);rw[gG];congr 1;funext e';exact ih e'
omit [Dr]in
theorem GC{x:Ent}(h1:mT x=true)(h2:x.g=none):x=⟨.val x.av,none⟩:=by
 obtain⟨v,g⟩:=x;cases v with
 |val a=>simp only at h2;subst h2;rfl
 |loc B off=>cases h1
omit [Dr]in
theorem jQ{ρ:Type}(hS:Small ops):∀(gs:List (Option (Nat×Bool)×List Nat))(e2 e:Env)(k:Env->M ρ)(h:Hp),(∀g∈gs,∀i∈g.2,guardOf ops i=g.1)->Rel ops (ig gs) e2 e->eo cx base ops gs e2 k h≠.fail->
  (∃e2' e' h',eo cx base ops gs e2 k h=k e2' h'/\br cx base ops (ig gs) e h= .ok e' h'/\Rel ops [] e2' e')\/∃v h',eo cx base ops gs e2 k h= .pan v h'/\br cx base ops (ig gs) e h= .pan v h'
 |[],e2,e,k,h,_,H,_=>.inl ⟨e2,e,h,rfl,rfl,H⟩
 | (none,is):: gs,e2,e,k,h,hg,H,hr=>by
  have hg0:∀i∈is,guardOf ops i=none:=hg (none,is) (by simp);have hfl:ig ((none,is):: gs)=is++ig gs:=rfl;rw[hfl]at H |-;rw[sn];simp only[eo]at hr |-;rw[xY is e2 _ hg0]at hr |-;simp only[ae]at hr |-;have hr2:br cx base ops is e2 h≠.fail:=fun hf=>by rw[hf]at hr;exact hr rfl
  rcases H.run (base:=base) (cx:=cx) is (fun i hi=>by simp[hi]) h hr2 with⟨e2',e',h',h1,h2,H'⟩|⟨v,h',h1,h2⟩
  ·rw[h1]at hr |-;rw[h2];exact jQ hS gs e2' e' k h' (fun g hgg=>hg g (by simp[hgg])) (H'.sub fun i hi=>by simp[hi]) hr
  ·rw[h1,h2];exact .inr ⟨v,h',rfl,rfl⟩
 | (some (j,want),is):: gs,e2,e,k,h,hg,H,hr=>by
  have hg0:∀i∈is,guardOf ops i=some (j,want):=hg (some (j,want),is) (by simp);have hfl:ig ((some (j,want),is):: gs)=is++ig gs:=rfl;rw[hfl]at H |-;rw[sn];simp only[eo]at hr |-;cases hdj:dG ops j with
  |none=>rw[hdj]at hr;exact absurd rfl hr
  | some t=>
   rw[hdj]at hr;simp only at hr |-;revert hr;cases hc:((is.all fun i=>match ops[i]? with|some o=>fa cx o&&o.dst.isSome|none=>false)&&!(eI (dc ops is) t))with
   |false=>intro hr;exact absurd rfl hr
   | true=>
    intro hr;simp only[NF]at hr |-;simp only[NG,OK,Oc]at hc;have G:GroupOk cx ops j want t is:=by
     refine⟨hdj,fun i hi=>?_,fun ht=>?_⟩
     ·have:=hc.1 i hi
      cases hoi:ops[i]? with
      |none=>rw[hoi]at this;cases this
      |some o=>
       rw[hoi]at this;simp only[NG]at this;exact⟨o,rfl,hg0 i hi,this.1⟩
     ·rw[(gR _ _).2 ht]at hc;exact Bool.noConfusion hc.2
    have htr:∀i∈is,t∈dp ops i:=fun i hi=>by
     obtain⟨o,ho,hgi,_⟩:=G.each i hi;rw[gq ho];have:o.guard=some (j,want):=by simpa [guardOf,ho]using hgi
     have:t∈eZ ops o:=by
      unfold eZ;rw[this];simp only;rw[show (ops[j]?).bind (·.dst)=some t from hdj];simp
     simp[this]
    -- the guard says yes
    cases is with
    | nil=>
     have hrn:∀e,br cx base ops [] e=M.pure e:=fun _=>rfl;rw[hrn,aA];have ho:dz ops [] gs=[]:=rfl;have hd:dc ops []=[]:=rfl;rw[ho,hd]at hr |-;have hpure:∀ {q:AV} {m:M (List AV)},m h= .ok [] h->aB q want ([]:List Nat).length m h≠.fail->aB q want ([]:List Nat).length m h= .ok [] h:=by
      intro q m hm hne;cases q with
      |bool b=>
       simp only[aB];cases b== want with
       |true=>exact hm
       |false=>rfl
      |tup vs=>
       cases vs with
       |nil=>rfl
       |cons v vs=>exact absurd rfl hne
      |_=>exact absurd rfl hne
     simp only[ae]at hr |-;have hp:=hpure (q:=e2.av t) (m:=jl cx base ops true [] e2 fun e'=>bif ([]:List Nat).all (fun t=>mT (e'.get t))then M.pure (([]:List Nat).map e'.av)else M.fail) rfl (fun hf=>by rw[hf]at hr;exact hr rfl);rw[hp]at hr |-;exact jQ hS gs e2 e k h (fun g hgg=>hg g (by simp[hgg])) (H.sub fun i hi=>by simp[hi]) hr
    |cons i0 is0=>
    have hav:e.av t=e2.av t:=by
     have:=H.read (i:=i0) (by simp) (htr i0 (by simp))
     simp only[Env.av,this]
    generalize hiseq:i0:: is0=is at *;have hoff:Off (e2.av t) want->(aB (e2.av t) want (dz ops is gs).length (jl cx base ops true is e2 fun e'=>bif (dz ops is gs).all (fun t=>mT (e'.get t))then M.pure ((dz ops is gs).map e'.av)else M.fail))=M.pure (List.replicate (dz ops is gs).length (.tup [])):=by
     rintro (hq|⟨b,hq,hb⟩)
     ·rw[hq];rfl
     ·rw[hq];simp only[aB,hb,NQ]
    have hcase:Off (e2.av t) want\/e2.av t= .bool want:=by
     cases hq:e2.av t with
     |bool b=>
      cases hb:(b== want)with
      |true=>right;simp at hb;rw[hb]
      |false=>exact .inl (.inr ⟨b,rfl,hb⟩)
     |tup vs=>
      cases vs with
      |nil=>exact .inl (.inl rfl)
      |cons v vs=>rw[hq]at hr;exact absurd rfl hr
     |_=>rw[hq]at hr;exact absurd rfl hr
    rcases hcase with ho|hy
    ·rw[hoff ho,aA]at hr |-;obtain⟨e',h1,T,h2⟩:=Hc (base:=base) is e h G (by rw[hav];exact ho);simp only[ae];rw[h1];refine jQ hS gs _ e' k h (fun g hgg=>hg g (by simp[hgg])) (H.close hS T (f:=fun _=>.tup []) ?_ fun s hs=>.inl ?_) hr
     ·exact (List.map_const' ..).symm
     ·refine h2 s ?_;unfold dz at hs;exact (OS.1 hs).1
    ·rw[hy]at hr |-;simp only[aB,OB,NF,ae]at hr |-;rw[ua is e2 _ h G hy]at hr |-;simp only[ae]at hr |-;have hr2:br cx base ops is e2 h≠.fail:=fun hf=>by rw[hf]at hr;exact hr rfl
     rcases H.run (base:=base) (cx:=cx) is (fun i hi=>by simp[hi]) h hr2 with⟨e2',e',h',h1,h2,H'⟩|⟨v,h',h1,h2⟩
     ·rw[h1]at hr |-;rw[h2];simp only at hr |-;have T2:=og is e2 e2' h h' G hy h1;have T:=og is e e' h h' G (by rw[hav];exact hy) h2;cases hv:(dz ops is gs).all (fun t=>mT (e2'.get t))with
      |false=>rw[hv]at hr;exact absurd rfl hr
      |true=>
       rw[hv]at hr;simp only[NF,M.pure]at hr |-;refine jQ hS gs _ e' k h' (fun g hgg=>hg g (by simp[hgg])) (H.close hS T (f:=e2'.av) rfl fun s hs=>?_) hr;have hsd:s∈dc ops is:=by unfold dz at hs;exact (OS.1 hs).1
       have hval:=GC (Oc.1 hv s hs) (T2.ng s hsd);rcases H'.get s with h3|⟨h3,h4,h5⟩
       ·left;rw[<- h3];exact hval
       ·right;exact⟨by simp only[Env.av,h3];rfl,h4,fun i hi=>h5 i (by simp[hi])⟩
     ·rw[h1,h2];exact .inr ⟨v,h',rfl,rfl⟩
end
end Go.Av
namespace Go.Av
variable [Dr]
omit [Dr]in
theorem kv(acc:List Nat):∀(es:List Edge)(x:Nat),(jx acc es).testBit x=true↔∃e∈es,Region.binds .any e=true/\(e.on=x\/(acc.getD e.on 0).testBit x=true)
 |[],x=>by simp[jx]
 | e :: es,x=>by
  simp only[jx];cases hb:Region.binds .any e with
  | false=>
   simp only[NQ,kv acc es x,NP];constructor
   ·rintro⟨e',he,h⟩;exact⟨e',.inr he,h⟩
   ·rintro⟨e',rfl|he,h⟩
    ·rw[hb]at h;exact absurd h.1 (by simp)
    ·exact⟨e',he,h⟩
  | true=>
   simp only[NF,Nat.testBit_or,Ox,kv acc es x,NP,Nat.testBit_two_pow,Oa];constructor
   ·rintro ((⟨e',he,h⟩|h)|h)
    ·exact⟨e',.inr he,h⟩
    ·exact⟨e,.inl rfl,hb,.inl h⟩
    ·exact⟨e,.inl rfl,hb,.inr h⟩
   ·rintro⟨e',rfl|he,h1,h2⟩
    ·rcases h2 with h2|h2
     ·exact .inl (.inr h2)
     ·exact .inr h2
    ·exact .inl (.inl ⟨e',he,h1,h2⟩)
omit [Dr]in
theorem tb:∀(os:List Oper)(acc:List Nat),∃r:List Nat,yM os acc=acc++r/\r.length=os.length/\∀(k:Nat)(o:Oper),os[k]? = some o->r[k]? = some (jx (acc++r.take k) o.after.toList)
 |[],acc=>⟨[],by simp[yM],rfl,by simp⟩
 | o:: os,acc=>by
  obtain⟨r,h1,h2,h3⟩:=tb os (acc++[jx acc o.after.toList]);refine⟨jx acc o.after.toList:: r,by simp[yM,h1],by simp[h2],fun k o' ho=>?_⟩;cases k with
  |zero=>simp at ho;subst ho;simp
  |succ k=>
   simp only[Pw,List.take_succ_cons]at ho |-;rw[h3 k o' ho];simp
section
variable {ops:Array Oper}
def lg(ops:Array Oper):List Nat:=yM ops.toList []
omit [Dr]in
theorem D3{j:Nat}{o:Oper}(ho:ops[j]? = some o):(lg ops).length=ops.size/\(lg ops).getD j 0=jx ((lg ops).take j) o.after.toList:=by
 obtain⟨r,h1,h2,h3⟩:=tb ops.toList [];have h4:lg ops=r:=by unfold lg;rw[h1];simp
 rw[h4];refine⟨by simp[h2],?_⟩
 have:=h3 j o (by simpa using ho)
 rw[Oj,this];simp
omit [Dr]in
theorem Br{listed:Nat->Prop}(hcl:∀(j:Nat)(o:Oper),ops[j]? = some o->listed j->∀e∈o.after.toList,Region.binds .any e=true->listed e.on):
  ∀(j:Nat)(o:Oper),ops[j]? = some o->(∀e∈o.after.toList,Region.binds .any e=true->listed e.on)->∀x,((lg ops).getD j 0).testBit x=true->listed x:=by
 intro j
 induction j using Nat.strongRecOn with
 | _ j ih=>
  intro o ho hl x hx;obtain⟨hlen,hget⟩:=D3 ho;rw[hget,kv]at hx;obtain⟨e,he,hb,hx|hx⟩:=hx
  ·rw[<- hx];exact hl e he hb
  ·by_cases hj:e.on<j
   ·have hjs:j<ops.size:=(NT.1 ho).1;have hos:ops[e.on]? = some ops[e.on]:=Og (by omega);have h1:((lg ops).take j).getD e.on 0=(lg ops).getD e.on 0:=by
     rw[Oj,Oj,N0,NE hj]
    rw[h1]at hx;exact ih e.on hj _ hos (hcl e.on _ hos (hl e he hb)) x hx
   ·rw[Oj,N0,if_neg hj]at hx;simp at hx
def CN(cx:Cx)(ops:Array Oper)(i j:Nat):Prop:=((lg ops).getD i 0).testBit j=false/\(((lg ops).getD j 0).testBit i=true\/nC cx ops i j=true)
omit [Dr]in
theorem pO{cx:Cx}:∀ {l:List Nat},kD cx ops (lg ops) l=true->l.Pairwise (CN cx ops)/\∀i∈l,((lg ops).getD i 0).testBit i=false
 |[],_=>⟨.nil,by simp⟩
 |i:: l,h=>by
  simp only[kD,NG,OK,Oc,Ox]at h;obtain⟨⟨h1,h2⟩,h3⟩:=h;obtain⟨h4,h5⟩:=pO h3;refine⟨.cons (fun j hj=>h2 j hj) h4,fun k hk=>?_⟩;simp only[NP]at hk;rcases hk with rfl|hk
  ·exact h1
  ·exact h5 k hk
omit [Dr]in
theorem lk:∀ {l:List Nat},distinct l=true->l.Nodup
 |[],_=>.nil
 |i:: l,h=>by
  simp only[distinct,NG,OK]at h;refine Pk.2 ⟨fun hi=>?_,lk h.2⟩;rw[(gR _ _).2 hi]at h;exact Bool.noConfusion h.1
variable {P:Program} {cx:Cx} {c:Entry} {N base:Nat}
theorem wu(hT:TOK P cx.T)(hC:db P cx.own cx.call)(hI:IsoPure cx)(hO:OpsOk N cx ops)(hS:Small ops)(hbit:∀i x,((lg ops).getD i 0).testBit x=true->x<ops.size)(hself:∀i,i<ops.size->((lg ops).getD i 0).testBit i=false){Q:Exit->Act->World->Prop}:∀(n:Nat)(rest:List Nat)(listed:Array Bool)(D:List Nat)(e:Env)(h:Hp)(a:Act)(w:World),rest.length=n->listed.size=ops.size->rest.Nodup->
  (∀i,i∈rest↔i<ops.size/\listed.getD i true=false)->(∀i∈rest,i ∉ D)->(∀i∈D,i<ops.size)->
  (∀(j:Nat)(o:Oper),ops[j]? = some o->listed.getD j false=true->∀e∈o.after.toList,Region.binds .any e=true->listed.getD e.on false=true)->rest.Pairwise (CN cx ops)->
  eW c N (UD base D) e h a w->br cx base ops rest e h≠.fail->
  (∀e0 e' h' a' w',br cx base ops rest e h= .ok e0 h'->EqE e0 e'->eW c N (UR base ops.size) e' h' a' w'->a'.defers=a.defers->Q .normal a' w')->
  (∀pv h' v w' a',br cx base ops rest e h= .pan pv h'->mw c pv h' v w'->a'.defers=a.defers->Q (.panic [{ v,recovered:=false }]) a' w')->wpAny P .any ops Q n listed a w
 |0,rest,listed,D,e,h,a,w,hlen,hsz,hnd,hmem,hdis,hD,hcl,hpw,H,hr,hn,hp=>by
  have:rest=[]:=NV hlen;subst this;refine⟨?_,hn e e h a w rfl (.refl e) (H.wider (Hz hD)) rfl⟩;refine PX.2 fun i hi=>?_;obtain⟨h0,o,ho,_⟩:=mem_ready.1 hi
  have:=(hmem i).2 ⟨(NT.1 ho).1,h0⟩
  simp at this
 | n + 1,rest,listed,D,e,h,a,w,hlen,hsz,hnd,hmem,hdis,hD,hcl,hpw,H,hr,hn,hp=>by
  have hgd:∀i,i<ops.size->listed.getD i true=listed.getD i false:=fun i hi=>by
   rw[Om,Om,Og (by omega)];rfl
  refine⟨fun hemp=>?_,fun i hi=>?_⟩
  ·exfalso;cases rest with
   |nil=>simp at hlen
   | cons r0 tl=>
    have hr0:=(hmem r0).1 (by simp);have hor:ops[r0]? = some ops[r0]:=Og hr0.1;have:r0∈Region.ready .any ops listed:=by
     refine mem_ready.2 ⟨hr0.2,_,hor,fun ed hed hb=>?_⟩;have hbt:((lg ops).getD r0 0).testBit ed.on=true:=by
      rw[(D3 hor).2,kv];exact⟨ed,by simpa using hed,hb,.inl rfl⟩
     have hlt:=hbit r0 ed.on hbt;cases hl:listed.getD ed.on false with
     |true=>rfl
     | false=>
      have hin:=(hmem ed.on).2 ⟨hlt,by rw[hgd _ hlt];exact hl⟩;simp only[NP]at hin;rcases hin with hin|hin
      ·rw[hin]at hbt;rw[hself r0 hr0.1]at hbt;cases hbt
      ·have:=(O5.1 hpw).1 ed.on hin
       rw[this.1]at hbt;cases hbt
    rw[hemp]at this;simp at this
  ·obtain⟨h0,o,ho,hall⟩:=mem_ready.1 hi;have hlt:i<ops.size:=(NT.1 ho).1;have hin:=(hmem i).2 ⟨hlt,h0⟩;obtain⟨p,q,rfl⟩:=List.append_of_mem hin;have hnd':=hnd;rw[QH]at hnd';have hni:i ∉ p++q:=by
    intro hm;rw[N6]at hm;rcases hm with hm|hm
    ·exact hnd'.2.2 i hm i (by simp) rfl
    ·exact (Pk.1 hnd'.2.1).1 hm
   have hclo:=Br (ops:=ops) (listed:=fun j=>listed.getD j false=true) (fun j o ho hj ed hed hb=>hcl j o ho hj ed hed hb) i o ho (fun ed hed hb=>hall ed (by simpa using hed) hb);have hfront:∀x∈p,nC cx ops x i=true/\x≠i:=by
    intro x hx;have hpr:=(List.pairwise_append.1 hpw).2.2 x hx i (by simp);refine⟨?_,fun hxi=>hni (by rw[<- hxi];simp[hx])⟩;rcases hpr.2 with h1|h1
    ·have hxl:=hclo x h1;have hxr:=(hmem x).1 (by simp[hx]);rw[hgd x hxr.1]at hxr;rw[hxr.2]at hxl;cases hxl
    ·exact h1
   have hRE:=IP (base:=base) hI hS q p hfront e h;have hr':br cx base ops (i:: (p++q)) e h≠.fail:=by
    intro hf;rw[hf]at hRE;cases hx:br cx base ops (p++i:: q) e h with
    |fail=>exact hr hx
    |ok e0 h0=>rw[hx]at hRE;obtain⟨_,h1,_⟩:=hRE;cases h1
    |pan v h0=>rw[hx]at hRE;cases hRE
   simp only[br,ae]at hr';have hstep:∀ {r:R Env},br cx base ops (i:: (p++q)) e h=r->br cx base ops (i:: (p++q)) e h=r:=fun h=>h;simp only[br,ae]at hRE;refine sy hT hC hO (hdis i hin) H (fun hf=>by rw[hf]at hr';exact hr' rfl) (fun e1 h1 a1 w1 hst hs hdf=>?_) (fun pv h1 v w1 hst hps=>?_)
   ·rw [hst]at hr' hRE;simp only at hr' hRE;refine wu hT hC hI hO hS hbit hself n (p++q) (listed.setIfInBounds i true) (i:: D) e1 h1 a1 w1 ?_ (by simp[hsz]) ?_ (fun k=>?_) (fun k hk=>?_) (fun k hk=>?_) (fun k o' ho' hk ed hed hb=>?_) ?_ hs hr' (fun e0 e' h' a' w' hok heq hsat hdf'=>?_) (fun pv h' v w' a' hok hps hdf'=>?_)
    ·simp only[N3,Of]at hlen |-;omega
    ·exact hnd.sublist (List.Sublist.append (List.Sublist.refl p) (List.sublist_cons_self i q))
    ·have hset:k≠i->(listed.setIfInBounds i true).getD k true=listed.getD k true:=fun hk=>by
      rw[Om,Om,PV (Qr hk)]
     constructor
     ·intro hk;have hki:k≠i:=fun h=>hni (h▸hk);rw[hset hki];exact (hmem k).1 (by
       simp only[N6,NP]at hk |-;rcases hk with hk|hk
       ·exact .inl hk
       ·exact .inr (.inr hk))
     ·rintro⟨h1,h2⟩;have hki:k≠i:=by
       rintro rfl;rw[Om,Array.getElem?_setIfInBounds_self]at h2;rw[NE (by omega)]at h2;simp at h2
      rw[hset hki]at h2
      have:=(hmem k).2 ⟨h1,h2⟩
      simp only[N6,NP]at this |-;rcases this with h|h|h
      ·exact .inl h
      ·exact absurd h hki
      ·exact .inr h
    ·simp only[NP,not_or];refine⟨fun hki=>hni (hki▸hk),hdis k ?_⟩;simp only[N6,NP]at hk |-;rcases hk with hk|hk
     ·exact .inl hk
     ·exact .inr (.inr hk)
    ·simp only[NP]at hk;rcases hk with rfl|hk
     ·exact hlt
     ·exact hD k hk
    ·have hmono:∀x,listed.getD x false=true->(listed.setIfInBounds i true).getD x false=true:=fun x hx=>getD_set_true hx;by_cases hki:k=i
     ·subst hki;rw[ho]at ho';cases ho';exact hmono _ (hall ed (by simpa using hed) hb)
     ·refine hmono _ (hcl k o' ho' ?_ ed hed hb);rw[Om,PV (Qr hki),<- Om]at hk;exact hk
    ·exact hpw.sublist (List.Sublist.append (List.Sublist.refl p) (List.sublist_cons_self i q))
    ·rw[hok]at hRE;cases hx:br cx base ops (p++i:: q) e h with
     |fail=>exact absurd hx hr
     |ok ex hx'=>
      rw[hx]at hRE;obtain⟨e0',h2,h3⟩:=hRE;cases h2;exact hn ex e' _ a' w' hx (h3.trans heq) hsat (hdf'.trans hdf)
     |pan v h0=>rw[hx]at hRE;cases hRE
    ·rw[hok]at hRE;cases hx:br cx base ops (p++i:: q) e h with
     |fail=>exact absurd hx hr
     |ok ex hx'=>rw[hx]at hRE;obtain⟨_,h1,_⟩:=hRE;cases h1
     |pan v0 h0=>
      rw[hx]at hRE;cases hRE;exact hp _ _ v w' a' hx hps (hdf'.trans hdf)
   ·rw[hst]at hRE;cases hx:br cx base ops (p++i:: q) e h with
    |fail=>exact absurd hx hr
    |ok ex hx'=>rw[hx]at hRE;obtain⟨_,h1,_⟩:=hRE;cases h1
    |pan v0 h0=>
     rw[hx]at hRE;cases hRE;exact hp _ _ v w1 a hx hps rfl
end
end Go.Av
namespace Go.Av
variable [Dr]
structure IsoCall (cx:Cx):Prop where
 iso:∀f args,cx.iso f=true->∃x:Option (Bool×AV),∀h,cx.call f args h=(match x with|none=>.fail|some (true,v)=>.ok v h|some (false,v)=>.pan v h)
 nw:∀f args,cx.nw f=true->yF (cx.call f args)
omit [Dr]in
theorem IsoCall.draw{cx:Cx}(h:IsoCall cx):IsoPure (fe cx):=by
 refine⟨?_,fun f args hf=>?_⟩
 case refine_2=>
  have hn:=h.nw f args hf;show yF (bif cx.iso f then bH (cx.call f args)else cx.call f args);cases cx.iso f with
  |false=>exact hn
  |true=>
   intro hp v h' hh;simp only[NF,bH]at hh;cases hq:cx.call f args hp with
   |ok a b=>rw[hq]at hh;cases hh;exact hn _ _ _ hq
   |pan a b=>rw[hq]at hh;cases hh
   |fail=>rw[hq]at hh;cases hh
 intro f args hf;have hf':cx.iso f=true:=hf;obtain⟨x,hx⟩:=h.iso f args hf';refine⟨match x with|some (true,v)=>some v|_=>none,?_⟩;show (bif cx.iso f then bH (cx.call f args)else cx.call f args)=_;rw[hf'];funext hp;simp only[NF,bH,hx];rcases x with _|⟨b,v⟩
 ·rfl
 ·cases b<;>rfl
theorem db.draw{P:Program}{cx:Cx}(h:db P cx.own cx.call):db P (fe cx).own (fe cx).call:=by
 intro f args hp S β w vs hr hg hw hh hv;have hcall:(fe cx).call f args hp=(bif cx.iso f then bH (cx.call f args) hp else cx.call f args hp):=by
  show (bif cx.iso f then bH (cx.call f args)else cx.call f args) hp=_;cases cx.iso f<;>rfl
 rw[hcall]at hr |-
 have key:∀r,r=cx.call f args hp->r≠.fail->Calls P f vs.toArray w (fc ((fe cx).own f) S β hp w r)/\(P.funcs[f]?).any (fun fn=>fn.body.isSome&&!(fn.name== "runtime.NumGoroutine"))=true:=by
  intro r hr1 hr2;subst hr1;exact h f args hp S β w vs hr2 hg hw hh hv
 cases hi:cx.iso f with
 |false=>rw[hi]at hr;exact key _ rfl hr
 |true=>
  rw[hi]at hr;simp only[NF,bH]at hr |-;cases hx:cx.call f args hp with
  |ok v hq=>rw[hx]at hr;exact key _ hx.symm (by simp)
  |pan v hq=>rw[hx]at hr;exact absurd rfl hr
  |fail=>rw[hx]at hr;exact absurd rfl hr
def kR(c:Entry)(N:Nat)(e:Env)(h:Hp)(a:Act)(w:World):Prop:=eW c N (fun g=>g<e.nx*1000) e h a w
theorem eW.rel{c:Entry}{N:Nat}{U:Nat->Prop}{e2 e:Env}{h:Hp}{a:Act}{w:World}{ops:Array Oper}(H:eW c N U e h a w)(R:Rel ops [] e2 e):eW c N U e2 h a w:=by
 obtain⟨S,β,γ,lam,ω,F⟩:=H;refine⟨S,β,γ,lam,ω,F.weak (fun t=>?_) (fun t g hg=>?_) (fun g z hz=>by rw[R.al]at hz;exact hz) (fun B n hB=>by rw[R.lb]at hB;exact hB)⟩
 ·rcases R.get t with h|⟨h1,h2,_⟩
  ·exact .inl (by rw[h])
  ·exact .inr ⟨by rw[h1];rfl,h2⟩
 ·rcases R.get t with h|⟨h1,_⟩
  ·rw[h]at hg;exact hg
  ·rw[h1]at hg;cases hg
theorem eW.eqE{c:Entry}{N:Nat}{U:Nat->Prop}{e2 e:Env}{h:Hp}{a:Act}{w:World}(H:eW c N U e h a w)(R:EqE e e2):eW c N U e2 h a w:=by
 obtain⟨S,β,γ,lam,ω,F⟩:=H;exact⟨S,β,γ,lam,ω,F.weak (fun t=>.inl (by rw[R.get])) (fun t g hg=>by rw[R.get]at hg;exact hg) (fun g z hz=>by rw[R.al]at hz;exact hz) (fun B n hB=>by rw[R.lb]at hB;exact hB)⟩
theorem eW.nx{c:Entry}{N:Nat}{U:Nat->Prop}{e:Env}{h:Hp}{a:Act}{w:World}(n:Nat)(H:eW c N U e h a w):eW c N U { e with nx:=n } h a w:=by
 obtain⟨S,β,γ,lam,ω,F⟩:=H;exact⟨S,β,γ,lam,ω,F.weak (fun t=>.inl rfl) (fun t g hg=>hg) (fun g z hz=>hz) (fun B n hB=>hB)⟩
section
variable {P:Program} {cx:Cx} {c:Entry} {e:Env} {h:Hp} {a:Act} {w:World} {ops:Array Oper} {id:Nat}
omit [Dr]in
theorem sO{n:Nat}(hn:n<=1000)(hd:jM n ops=true)(hk:∀p,B5 (cD cx.ann.kinds p .L)=true->p<n):OpsOk n cx ops/\Small ops:=by
 unfold jM at hd;rw[Qp]at hd;have h1:∀(i:Nat)(o:Oper),ops[i]? = some o->(∀t,o.dst=some t->t<n)/\∀t∈jA o,t<1000:=by
  intro i o ho
  have:=hd o (Array.mem_of_getElem? ho)
  simp only[NG,Oc,Oa]at this;refine⟨fun t ht=>?_,this.2⟩;have h2:=this.1;rw[ht]at h2;simpa using h2
 refine⟨⟨fun i o ho=>(h1 i o ho).1,fun i o ho x hx t hxt=>(h1 i o ho).2 t ?_,hk⟩,⟨fun i o ho t ht=>On ((h1 i o ho).1 t ht) hn,fun i o ho=>(h1 i o ho).2⟩⟩;subst hxt;exact Qd.2 ⟨_,hx,rfl⟩
theorem Cr{ρ:Type}(hT:TOK P cx.T)(hC:db P cx.own cx.call)(hI:IsoCall cx)(hk:∀p,B5 (cD cx.ann.kinds p .L)=true->p<cx.nt){draw:Bool}{k:Env->M ρ}(H:kR c cx.nt e h a w)(hr:pz cx id ops draw e k h≠.fail){Q:Exit->Act->World->Prop}(hn:∀e' h' a' w',pz cx id ops draw e k h=k e' h'->kR c cx.nt e' h' a' w'->a'.defers=a.defers->Q .normal a' w')(hp:∀pv h' v w' a',pz cx id ops draw e k h= .pan pv h'->mw c pv h' v w'->a'.defers=a.defers->Q (.panic [{ v,recovered:=false }]) a' w'):
  (Code.region id ops draw).wp P Q a w:=by
 have hN:cx.nt<=1000:=by obtain⟨S,β,γ,lam,ω,F⟩:=H;exact F.tsz.2
 have H0:eW c cx.nt (UD e.nx []) e h a w:=H.wider fun g hg=>.inl hg;unfold pz at hr hn hp;cases hds:jM cx.nt ops with
 |false=>rw[hds]at hr;exact absurd rfl hr
 | true=>
  obtain⟨hO,hS⟩:=sO (cx:=cx) hN hds hk;rw[hds]at hr hn hp;simp only[NF]at hr hn hp;cases draw with
  | false=>
   simp only[NQ]at hr hn hp;obtain⟨hfl,hgs⟩:=jv ops (List.range ops.size);refine wp_region (ud hT hC hO (List.range ops.size) [] e h a w QN (by simp) H0 ?_ ?_ ?_)
   all_goals
    have hseq:=jQ (cx:=cx) (base:=e.nx) hS (dH ops (List.range ops.size)) e e _ h hgs (.refl ops _ e) hr;rw[hfl]at hseq
   ·rcases hseq with⟨_,_,_,_,h2,_⟩|⟨_,_,_,h2⟩<;>rw[h2]<;>simp
   ·intro e' h' a' w' hok hsat hdf;rcases hseq with⟨e2',e'',h'',h1,h2,hR⟩|⟨_,_,_,h2⟩
    ·rw[h2]at hok;cases hok;refine hn _ _ a' w' h1 (eW.nx _ ((hsat.wider (Hz ?_)).rel hR)) hdf;intro i hi;simpa using hi
    ·rw[h2]at hok;cases hok
   ·intro pv h' v w' a' hok hps hdf;rcases hseq with⟨e2',e'',h'',h1,h2,hR⟩|⟨_,_,h1,h2⟩
    ·rw[h2]at hok;cases hok
    ·rw[h2]at hok;cases hok;exact hp _ _ v w' a' h1 hps hdf
  | true=>
   simp only[NF]at hr hn hp;generalize tV cx id ops.size=ord at hr hn hp;cases hdo:mI cx ops ord with
   |false=>rw[hdo]at hr;exact absurd rfl hr
   | true=>
    rw[hdo]at hr hn hp;simp only[NF]at hr hn hp;simp only[mI,Fe,NG,Oc,Oa]at hdo;obtain⟨⟨⟨⟨⟨hlen,hmem⟩,hdist⟩,hlt⟩,hbits⟩,hpairs⟩:=hdo;have hlen':ord.length=ops.size:=NR hlen;obtain⟨hpw,hself⟩:=pO (cx:=cx) (ops:=ops) hpairs;have hpw':ord.Pairwise (CN (fe cx) ops):=hpw;have hO':OpsOk cx.nt (fe cx) ops:=⟨hO.dst,hO.src,hO.kin⟩;obtain⟨hfl,hgs⟩:=jv ops ord;have hseq:=jQ (cx:=fe cx) (base:=e.nx) hS (dH ops ord) e e _ h hgs (.refl ops _ e) hr;rw[hfl]at hseq;refine wp_region_draw fun t=>?_;have hsch:Region.schedule (P.follows .mixedOrders) ops t=Region.linearise .any ops t:=by
     simp only[Region.schedule,hT.mix,Bool.true_or,NS]
    rw[hsch];have hmem':∀i,i∈ord↔i<ops.size:=fun i=>⟨fun hi=>hlt i hi,fun hi=>(gR _ _).1 (hmem i (by simpa using hi))⟩;refine wpAny_sound ops.size t _ a _ (wu (cx:=fe cx) (c:=c) (N:=cx.nt) (base:=e.nx) hT hC.draw hI.draw hO' hS ?_ ?_ ops.size ord (Array.replicate ops.size false) [] e h a w.drew hlen' (by simp) (lk hdist) ?_ (by simp) (by simp) ?_ hpw' ?_ ?_ ?_ ?_)
    ·intro i x hx;rcases N7 x ops.size with h'|h'
     ·exact h'
     ·have hm:(lg ops).getD i 0<2 ^ ops.size:=by
       rw[Oj];cases hi:(lg ops)[i]? with
       |none=>simp;exact Nat.pow_pos (by omega)
       |some m=>exact hbits m (Ov hi)
      rw[Nat.testBit_lt_two_pow (On hm (Nat.pow_le_pow_right (by omega) h'))]at hx;cases hx
    ·exact fun i hi=>hself i ((hmem' i).2 hi)
    ·intro i;rw[hmem'];constructor
     ·intro hi;refine⟨hi,?_⟩;rw[Om,QQ,NE hi];rfl
     ·exact fun hi=>hi.1
    ·intro j o ho hj;exfalso;rw[Om,QQ]at hj;split at hj<;>simp at hj
    ·obtain⟨S,β,γ,lam,ω,F⟩:=H0;exact⟨S,β,γ,lam,ω,F.drew⟩
    ·rcases hseq with⟨_,_,_,_,h2,_⟩|⟨_,_,_,h2⟩<;>rw[h2]<;>simp
    ·intro e0 e' h' a' w' hok heq hsat hdf;rcases hseq with⟨e2',e'',h'',h1,h2,hR⟩|⟨_,_,_,h2⟩
     ·rw[h2]at hok;cases hok;exact hn _ _ a' w' h1 (eW.nx _ ((hsat.eqE heq.symm).rel hR)) hdf
     ·rw[h2]at hok;cases hok
    ·intro pv h' v w' a' hok hps hdf;rcases hseq with⟨e2',e'',h'',h1,h2,hR⟩|⟨_,_,h1,h2⟩
     ·rw[h2]at hok;cases hok
     ·rw[h2]at hok;cases hok;exact hp _ _ v w' a' h1 hps hdf
end
end Go.Av
namespace Go.Av
variable [Dr]
omit [Dr]in
theorem kC{e:Env}:∀(l:List (Nat×Option Nat))(used:List Nat)(vs:List AV),gS e l used=some vs->vs.length=l.length/\
  (∀(i:Nat)(t:Nat)(z:Option Nat),l[i]? = some (t,z)->∃a,vs[i]? = some a/\(e.get t).v= .val a/\∀sz,z=some sz->∃g z0,(e.get t).g=some g/\aV e.al g=some z0/\(z0=none\/z0=some sz)/\g ∉ used)/\
  ∀(i j:Nat)(t t' sz sz':Nat),i<j->l[i]? = some (t,some sz)->l[j]? = some (t',some sz')->(e.get t).g≠(e.get t').g
 |[],used,vs,h=>by
  simp only[gS,NB]at h;subst h;exact⟨rfl,by simp,by simp⟩
 | (t,none):: r,used,vs,h=>by
  simp only[gS]at h;split at h
  ·rename_i a ha;split at h
   ·rename_i vs' hvs;simp only[NB]at h;subst h;obtain⟨h1,h2,h3⟩:=kC r used vs' hvs;refine⟨by simp[h1],fun i t' z hi=>?_,fun i j t1 t2 sz1 sz2 hij hi hj=>?_⟩
    ·cases i with
     |zero=>
      simp only[Od,NB,OG]at hi;obtain⟨rfl,rfl⟩:=hi;exact⟨a,rfl,ha,fun sz hsz=>by cases hsz⟩
     |succ i=>simpa using h2 i t' z (by simpa using hi)
    ·cases i with
     |zero=>simp at hi
     |succ i=>
      cases j with
      |zero=>omega
      |succ j=>exact h3 i j t1 t2 sz1 sz2 (by omega) (by simpa using hi) (by simpa using hj)
   ·cases h
  ·cases h
 | (t, some sz):: r,used,vs,h=>by
  simp only[gS]at h;split at h
  ·rename_i a g ha hg;split at h
   ·cases h
   ·rename_i z0 hz0;have hcond:vG z0 (some sz)=true/\eI used g=false/\(match gS e r (g:: used)with|some vs=>some (a:: vs)|none=>none)=some vs:=by
     cases hm:eI used g with
     | true=>
      rw[hm]at h;cases z0 with
      |none=>cases h
      |some n=>
       simp only at h;cases hb:Nat.beq n sz<;>rw[hb]at h<;>cases h
     | false=>
      rw[hm]at h;cases z0 with
      |none=>exact⟨rfl,rfl,h⟩
      |some n=>
       simp only at h;cases hb:Nat.beq n sz with
       |true=>rw[hb]at h;exact⟨hb,rfl,h⟩
       |false=>rw[hb]at h;cases h
    obtain⟨hc1,hc2,h⟩:=hcond;have hc:=And.intro hc1 hc2
    ·split at h
     ·rename_i vs' hvs;simp only[NB]at h;subst h;have hgu:g ∉ used:=fun hm=>by
       rw[(gR _ _).2 hm]at hc;exact Bool.noConfusion hc.2
      have hz:z0=none\/z0=some sz:=by
       cases z0 with
       |none=>exact .inl rfl
       |some n=>exact .inr (by rw[NR hc.1])
      obtain⟨h1,h2,h3⟩:=kC r (g:: used) vs' hvs;refine⟨by simp[h1],fun i t' z hi=>?_,fun i j t1 t2 sz1 sz2 hij hi hj=>?_⟩
      ·cases i with
       |zero=>
        simp only[Od,NB,OG]at hi;obtain⟨rfl,rfl⟩:=hi;exact⟨a,rfl,ha,fun sz' hsz=>by cases hsz;exact⟨g,z0,hg,hz0,hz,hgu⟩⟩
       |succ i=>
        obtain⟨a',k1,k2,k3⟩:=h2 i t' z (by simpa using hi);refine⟨a',by simpa using k1,k2,fun sz' hsz=>?_⟩;obtain⟨g',z',m1,m2,m3,m4⟩:=k3 sz' hsz;exact⟨g',z',m1,m2,m3,fun hm=>m4 (by simp[hm])⟩
      ·cases i with
       | zero=>
        cases j with
        |zero=>omega
        |succ j=>
         simp only[Od,NB,OG]at hi;obtain⟨rfl,_⟩:=hi;obtain⟨a',k1,k2,k3⟩:=h2 j t2 (some sz2) (by simpa using hj);obtain⟨g',z',m1,m2,m3,m4⟩:=k3 sz2 rfl;rw[hg,m1];intro hh;simp only[NB]at hh;exact m4 (by simp[hh])
       |succ i=>
        cases j with
        |zero=>omega
        |succ j=>exact h3 i j t1 t2 sz1 sz2 (by omega) (by simpa using hi) (by simpa using hj)
     ·cases h
  ·cases h
omit [Dr]in
theorem kP(vs:List AV)(r:List (Nat×Ent))(t:Nat):∀(l:List (Nat×Option Nat))(k:Nat),
  (∃(i:Nat)(z:Option Nat),l[i]? = some (t,z)/\cf (cZ vs k l++r) t=⟨.val (nth vs (k+i)),z.map fun _=>k+i⟩)\/
  ((∀(i:Nat)(z:Option Nat),l[i]? ≠some (t,z))/\cf (cZ vs k l++r) t=cf r t)
 |[],k=>.inr ⟨by simp,rfl⟩
 | (s,z):: l,k=>by
  have hh:cZ vs k ((s,z):: l)=(s,⟨.val (nth vs k),z.map fun _=>k⟩):: cZ vs (k+1) l:=by cases z<;>rfl
  rw[hh,Ob,cB];by_cases hs:s=t
  ·subst hs;rw[NE rfl];exact .inl ⟨0,z,rfl,rfl⟩
  ·rw[if_neg hs];rcases kP vs r t l (k+1)with⟨i,z',h1,h2⟩|⟨h1,h2⟩
   ·refine .inl ⟨i+1,z',by simpa using h1,?_⟩;rw[h2,show k+1+i=k+(i+1) by omega]
   ·refine .inr ⟨fun i z' hi=>?_,h2⟩;cases i with
    |zero=>simp at hi;exact hs hi.1
    |succ i=>exact h1 i z' (by simpa using hi)
omit [Dr]in
theorem gK:∀(l:List (Nat×Option Nat))(k g:Nat)(y:Option Nat),aV (ka k l) g=some y->∃(i t sz:Nat),l[i]? = some (t,some sz)/\g=k+i/\y=some sz
 |[],k,g,y,h=>by simp[ka,aV]at h
 |(s,none):: l,k,g,y,h=>by
  obtain⟨i,t,sz,h1,h2,h3⟩:=gK l (k+1) g y h;exact⟨i+1,t,sz,by simpa using h1,by omega,h3⟩
 | (s,some n):: l,k,g,y,h=>by
  simp only[ka,cm]at h;split at h
  ·rename_i hk;simp only[NB]at h;exact⟨0,s,n,rfl,by omega,h.symm⟩
  ·obtain⟨i,t,sz,h1,h2,h3⟩:=gK l (k+1) g y h;exact⟨i+1,t,sz,by simpa using h1,by omega,h3⟩
omit [Dr]in
theorem oO(t:Nat):∀(l:List (Nat×Nat×Nat)),(∃B off,(t,B,off)∈l/\cf (l.map fun x=>(x.1,(⟨.loc x.2.1 x.2.2,none⟩:Ent))) t=⟨.loc B off,none⟩)\/cf (l.map fun x=>(x.1,(⟨.loc x.2.1 x.2.2,none⟩:Ent))) t=Ent.none
 |[]=>.inr rfl
 | (s,B,off):: l=>by
  rw[N8,cB];by_cases hs:s=t
  ·subst hs;rw[NE rfl];exact .inl ⟨B,off,by simp,rfl⟩
  ·rw[if_neg hs];rcases oO t l with⟨B',off',h1,h2⟩|h
   ·exact .inl ⟨B',off',by simp[h1],h2⟩
   ·exact .inr h
omit [Dr]in
theorem rL{e:Env}:∀ {l:List (Nat×Nat×Nat)},rK e l=true->∀t B off,(t,B,off)∈l->(e.get t).v= .loc B off
 |[],_,t,B,off,h=>by simp at h
 | (s,B0,off0):: l,h,t,B,off,hm=>by
  simp only[rK,NG]at h;simp only[NP,OG]at hm;rcases hm with⟨rfl,rfl,rfl⟩|hm
  ·have h1:=h.1;split at h1
   ·rename_i B' off' hv;simp only[NG]at h1;rw[hv,NR h1.1,NR h1.2]
   ·cases h1
  ·exact rL h.2 t B off hm
omit [Dr]in
theorem tI{e:Env}:∀ {l:List (Nat×Nat)},xo e l=true->∀B n,bN l B=some n->bN e.lb B=some n
 |[],_,B,n,h=>by simp[bN]at h
 | (B0,n0):: l,h,B,n,hm=>by
  simp only[xo,NG]at h;rw[eh]at hm;split at hm
  ·rename_i hB;subst hB;simp only[NB]at hm;subst hm;have h1:=h.1;split at h1
   ·rename_i m hv;rw[hv,NR h1]
   ·cases h1
  ·exact tI h.2 B n hm
section
variable {c:Entry} {N:Nat} {e:Env} {h:Hp} {a:Act} {w:World}
open Classical in
theorem vK{ja:JA}{vs:List AV}(H:kR c N e h a w)(hp:pack ja e=some vs):kR c N (unpack ja vs) h a w:=by
 obtain⟨S,β,γ,lam,ω,F⟩:=H;unfold pack at hp;cases hlo:(rK e ja.locs&&xo e ja.lbs)with
 |false=>rw[hlo]at hp;cases hp
 | true=>
  rw[hlo]at hp;simp only[NF]at hp;simp only[NG]at hlo;obtain⟨hlen,hval,hdis⟩:=kC ja.vals [] vs hp
  -- the groups carried
  let gOf:Nat->Option Nat:=fun i=>match ja.vals[i]? with|some (t,some _)=>(e.get t).g|_=>none
  have hg1:∀i t sz,ja.vals[i]? = some (t,some sz)->∃g z0,gOf i=some g/\(e.get t).g=some g/\aV e.al g=some z0/\(z0=none\/z0=some sz):=by
   intro i t sz hi;obtain⟨a',_,_,h3⟩:=hval i t (some sz) hi;obtain⟨g,z0,k1,k2,k3,_⟩:=h3 sz rfl;refine⟨g,z0,?_,k1,k2,k3⟩;show (match ja.vals[i]? with|some (t,some _)=>(e.get t).g|_=>none)=some g;rw[hi];exact k1
  have hg2:∀i j g,gOf i=some g->gOf j=some g->i=j:=by
   have hex:∀i g,gOf i=some g->∃t sz,ja.vals[i]? = some (t,some sz)/\(e.get t).g=some g:=by
    intro i g hi;have hi':(match ja.vals[i]? with|some (t,some _)=>(e.get t).g|_=>none)=some g:=hi;split at hi'
    ·rename_i t sz ht;exact⟨t,sz,ht,hi'⟩
    ·cases hi'
   intro i j g hi hj;obtain⟨t,sz,k1,k2⟩:=hex i g hi;obtain⟨t',sz',m1,m2⟩:=hex j g hj;rcases QG i j with hlt|heq|hlt
   ·exact absurd (k2.trans m2.symm) (hdis i j t t' sz sz' hlt k1 m1)
   ·exact heq
   ·exact absurd (m2.trans k2.symm) (hdis j i t' t sz' sz hlt m1 k1)
  let γ':Nat->Value:=fun i=>match gOf i with|some g=>γ g|none=>undef
  let ω':Nat->Owner:=fun b=>match ω b with
   |.grp g=>if hx:∃i,gOf i=some g then .grp (Classical.choose hx)else .no
   |o=>o
  have hωg:∀b g i,ω b= .grp g->gOf i=some g->ω' b= .grp i:=by
   intro b g i hb hi;show (match ω b with|.grp g=>if hx:∃i,gOf i=some g then Owner.grp (Classical.choose hx)else .no|o=>o)= .grp i;rw[hb];simp only;have hx:∃i,gOf i=some g:=⟨i,hi⟩;rw[dif_pos hx,hg2 _ _ g (Qs hx) hi]
  have hωo:∀b,(∀g,ω b≠.grp g)->ω' b=ω b:=by
   intro b hb;show (match ω b with|.grp g=>if hx:∃i,gOf i=some g then Owner.grp (Classical.choose hx)else .no|o=>o)=ω b;cases ho:ω b with
   |grp g=>exact absurd ho (hb g)
   |_=>rfl
  have hωn:∀b,ω' b≠.no->ω b≠.no:=by
   intro b hb ho;refine hb ?_;rw[hωo b (fun g hg=>by rw[ho]at hg;cases hg),ho]
  have hωx:∀b g,ω' b= .grp g->∃g',ω b= .grp g':=by
   intro b g hg;cases ho:ω b with
   |grp g'=>exact⟨g',rfl⟩
   |_=>rw[hωo b (fun g' h'=>by rw[ho]at h';cases h'),ho]at hg;cases hg
  -- the slots
  have hget:∀t,(∃(i:Nat)(z:Option Nat)(a':AV),ja.vals[i]? = some (t,z)/\(e.get t).v= .val a'/\(unpack ja vs).get t=⟨.val a',z.map fun _=>i⟩)\/(∃B off,(e.get t).v= .loc B off/\(unpack ja vs).get t=⟨.loc B off,none⟩)\/(unpack ja vs).get t=Ent.none:=by
   intro t;have hu:(unpack ja vs).get t=cf (cZ vs 0 ja.vals++ja.locs.map fun x=>(x.1,(⟨.loc x.2.1 x.2.2,none⟩:Ent))) t:=rfl;rcases kP vs (ja.locs.map fun x=>(x.1,(⟨.loc x.2.1 x.2.2,none⟩:Ent))) t ja.vals 0 with⟨i,z,h1,h2⟩|⟨h1,h2⟩
   ·obtain⟨a',k1,k2,_⟩:=hval i t z h1;refine .inl ⟨i,z,a',h1,k2,?_⟩;rw[hu,h2,NU];have:nth vs i=a':=by simp[nth,k1]
    rw[this]
   ·rcases oO t ja.locs with⟨B,off,k1,k2⟩|k
    ·exact .inr (.inl ⟨B,off,rL hlo.1 t B off k1,by rw[hu,h2,k2]⟩)
    ·exact .inr (.inr (by rw[hu,h2,k]))
  have hgg:∀t g,((unpack ja vs).get t).g=some g->∃sz,ja.vals[g]? = some (t,some sz):=by
   intro t g hg;rcases hget t with⟨i,z,a',h1,_,h3⟩|⟨_,_,_,h3⟩|h3
   ·rw[h3]at hg;cases z with
    |none=>simp at hg
    |some sz=>simp at hg;subst hg;exact⟨sz,h1⟩
   ·rw[h3]at hg;cases hg
   ·rw[h3]at hg;cases hg
  have hγ:∀t g,((unpack ja vs).get t).g=some g->∃g0 z0,(e.get t).g=some g0/\aV e.al g0=some z0/\γ' g=γ g0:=by
   intro t g hg;obtain⟨sz,h1⟩:=hgg t g hg;obtain⟨g0,z0,k1,k2,k3,_⟩:=hg1 g t sz h1;refine⟨g0,z0,k2,k3,?_⟩;show (match gOf g with|some g=>γ g|none=>undef)=γ g0;rw[k1]
  refine⟨S,β,γ',lam,ω',⟨F.wf,F.gro,F.keep,F.le,F.ext,F.hlen,fun l cs hl hcs=>?_,F.tsz,fun t ht=>?_,fun t g z ht hg hz=>?_,fun B n hB=>?_,fun g z hz=>?_,fun b hb=>⟨(F.mine b (hωn b hb)).1.imp (fun hE=>⟨hE.1,fun g hg=>by obtain⟨g',h'⟩:=hωx b g hg;exact hE.2 g' h'⟩) id,(F.mine b (hωn b hb)).2⟩,fun t g hg=>?_,fun g z hz=>?_⟩⟩
  ·rcases F.heap l cs hl hcs with⟨b,x,h1,h2,h3,h4⟩|⟨b,h1,h3,h4⟩
   ·exact .inl ⟨b,x,h1,h2,by rw[hωo b (fun g hg=>by rw[h3]at hg;cases hg)];exact h3,h4⟩
   ·exact .inr ⟨b,h1,by rw[hωo b (fun g hg=>by rw[h3]at hg;cases hg)];exact h3,h4⟩
  ·have hs:=F.slots t ht;rcases hget t with⟨i,z,a',_,h2,h3⟩|⟨B,off,h2,h3⟩|h3
   ·rw[h3];rw[h2]at hs;exact hs
   ·rw[h3];rw[h2]at hs;exact hs
   ·rw[h3];simp[Ent.none,fB,VR]
  ·obtain⟨g0,z0,k1,k2,k3⟩:=hγ t g hg;rw[k3];exact F.grps t g0 z0 ht k1 k2
  ·obtain⟨k1,k2,k3,b,x,k4,k5,k6,k7,k8⟩:=F.lblk B n (tI hlo.2 B n hB);refine⟨k1,k2,k3,b,x,k4,k5,by rw[hωo b (fun g hg=>by rw[k6]at hg;cases hg)];exact k6,k7,fun i hi=>?_⟩;obtain⟨v,a',m1,m2,m3,m4⟩:=k8 i hi;have hgr:∀g z,((unpack ja vs).get (B+i)).g=some g->aV (unpack ja vs).al g=some z->v=γ' g:=by
    intro g z hg _;obtain⟨g0,z0,p1,p2,p3⟩:=hγ _ g hg;rw[p3];exact m4 g0 z0 p1 p2
   rcases hget (B+i)with⟨j,z,a2,_,h2,h3⟩|⟨B',off,h2,h3⟩|h3
   ·refine⟨v,a2,m1,by rw[h3],?_,hgr⟩;rw[m2]at h2;cases h2;exact m3
   ·rw[m2]at h2;cases h2
   ·exact⟨v,.any,m1,by rw[h3];rfl,by simp[VR],hgr⟩
  ·obtain⟨i,t,sz,h1,h2,h3⟩:=gK ja.vals 0 g z hz;rw[NU]at h2;subst h2;obtain⟨g0,z0,k1,k2,k3,k4⟩:=hg1 g t sz h1;have hγ':γ' g=γ g0:=by
    show (match gOf g with|some g=>γ g|none=>undef)=γ g0;rw[k1]
   rw[hγ'];obtain⟨ad,len,cap,m1,m2,m3,m4⟩:=F.free g0 z0 k3;refine⟨ad,len,cap,m1,m2,m3,m4.imp id ?_⟩;rintro⟨sz',b,off,x,p1,p2,p3,p4,p5,p6⟩;have:sz'=sz:=by
    rcases k4 with k4|k4<;>rw[k4]at p1<;>cases p1;rfl
   subst this;exact⟨sz',b,off,x,h3,p2,p3,p4,hωg b g0 g p5 k1,p6⟩
  ·obtain⟨sz,h1⟩:=hgg t g hg;have:g<ja.vals.length:=by
    rcases N7 g ja.vals.length with h|h
    ·exact h
    ·rw[NX h]at h1;cases h1
   show g<ja.vals.length*1000;omega
  ·obtain⟨i,t,sz,h1,h2,h3⟩:=gK ja.vals 0 g z hz;have:i<ja.vals.length:=by
    rcases N7 i ja.vals.length with h|h
    ·exact h
    ·rw[NX h]at h1;cases h1
   show g<ja.vals.length*1000;omega
omit [Dr]in
theorem GH(d:Nat)(h:Hp):oH d h .any= .any:=by cases d<;>rfl
omit [Dr]in
theorem A3(g:AV->AV)(hg:g .any= .any)(vs:List AV)(i:Nat):nth (vs.map g) i=g (nth vs i):=by
 unfold nth;rw[Oj,Oj,Ou];cases vs[i]? with
 |none=>simp[hg]
 |some v=>rfl
structure Reval (g:AV->AV) (x y:Ent):Prop where
 gr:y.g=x.g
 v:(∃a,x.v= .val a/\y.v= .val (g a))\/(∃B off,x.v= .loc B off/\y.v= .loc B off)
omit [Dr]in
theorem gz(g:AV->AV)(hg:g .any= .any)(vs:List AV)(r:List (Nat×Ent))(hr:∀t,Reval g (cf r t) (cf r t))(t:Nat):∀(l:List (Nat×Option Nat))(k:Nat),
  Reval g (cf (cZ vs k l++r) t) (cf (cZ (vs.map g) k l++r) t)
 |[],k=>by simpa [cZ]using hr t
 |(s,none):: l,k=>by
  simp only[cZ,Ob,cf];cases Nat.beq s t with
  |true=>exact⟨rfl,.inl ⟨_,rfl,by simp only[NF];rw[A3 g hg]⟩⟩
  |false=>exact gz g hg vs r hr t l (k+1)
 |(s,some z):: l,k=>by
  simp only[cZ,Ob,cf];cases Nat.beq s t with
  |true=>exact⟨rfl,.inl ⟨_,rfl,by simp only[NF];rw[A3 g hg]⟩⟩
  |false=>exact gz g hg vs r hr t l (k+1)
omit [Dr]in
theorem vJ(g:AV->AV)(hg:g .any= .any)(ja:JA)(vs:List AV)(t:Nat):Reval g ((unpack ja vs).get t) ((unpack ja (vs.map g)).get t):=by
 refine gz g hg vs _ (fun t=>?_) t ja.vals 0;rcases oO t ja.locs with⟨B,off,_,k2⟩|k
 ·rw[k2];exact⟨rfl,.inr ⟨B,off,rfl,rfl⟩⟩
 ·rw[k];exact⟨rfl,.inl ⟨.any,rfl,by simp[Ent.none,hg]⟩⟩
theorem FR.reval{U:Nat->Prop}{S:aE}{β:List bT}{γ:Nat->Value}{lam:Nat->Option Nat}{ω:Nat->Owner}{e2:Env}{h2:Hp}{S2:aE}{ω2:Nat->Owner}{g:AV->AV}(F:FR c N U e h a w S β γ lam ω)(F2:FR c N U e h2 a w S2 β γ lam ω2)(hg:∀x v,VR S β x v->VR S2 β (g x) v)(hr:∀t,Reval g (e.get t) (e2.get t))(hal:e2.al=e.al)(hlb:e2.lb=e.lb):FR c N U e2 h2 a w S2 β γ lam ω2:=by
 refine⟨F2.wf,F2.gro,F2.keep,F2.le,F2.ext,F2.hlen,F2.heap,F2.tsz,fun t ht=>?_,fun t k z ht hk hz=>?_,fun B n hB=>?_,fun k z hz=>F2.free k z (by rw[<- hal];exact hz),F2.mine,fun t k hk=>?_,fun k z hz=>F2.used.2 k z (by rw[<- hal];exact hz)⟩
 ·have h1:=F.slots t ht;rcases (hr t).v with⟨x,q1,q2⟩|⟨B,off,q1,q2⟩
  ·rw[q1]at h1;rw[q2];exact hg _ _ h1
  ·rw[q1]at h1;rw[q2];exact h1
 ·rw[(hr t).gr]at hk;rw[hal]at hz;exact F2.grps t k z ht hk hz
 ·rw[hlb]at hB;obtain⟨k1,k2,k3,b,x,k4,k5,k6,k7,k8⟩:=F2.lblk B n hB;obtain⟨_,_,_,b',x',j4,j5,j6,j7,j8⟩:=F.lblk B n hB;rw[k4]at j4;cases j4;cases k5.inj j5;refine⟨k1,k2,k3,b,x,k4,k5,k6,k7,fun i hi=>?_⟩;obtain⟨v,a',m1,m2,m3,m4⟩:=k8 i hi;obtain⟨v',a'',n1,n2,n3,_⟩:=j8 i hi;rw[m1]at n1;cases n1;rcases (hr (B+i)).v with⟨y,q1,q2⟩|⟨B',off,q1,q2⟩
  ·rw[n2]at q1;cases q1;refine⟨v,g a'',m1,q2,hg _ _ n3,fun k z hk hz=>?_⟩;rw[(hr (B+i)).gr]at hk;rw[hal]at hz;exact m4 k z hk hz
  ·rw[n2]at q1;cases q1
 ·rw[(hr t).gr]at hk;exact F2.used.1 t k hk
theorem sR{ja:JA}{vs:List AV}(H:kR c N (unpack ja vs) h a w):kR c N (unpack ja (vs.map (oH 6 h))) (h.map fun _=>[]) a w:=by
 obtain⟨S,β,γ,lam,ω,F⟩:=H;obtain⟨S2,ω2,F2,hf⟩:=F.freeze;have F3:=F.reval F2 (g:=oH 6 h) (fun x v hx=>hf _ _ hx) (vJ _ (GH 6 h) ja vs) (e2:=unpack ja (vs.map (oH 6 h))) rfl rfl;exact⟨S2,β,γ,lam,ω2,F3⟩
end
end Go.Av
namespace Go.Av
variable [Dr]
omit [Dr]in
theorem Ef{ρ:Type}{ps:List Nat}{k:Nat->M ρ}{h:Hp}(hr:pZ ps k h≠.fail):∀q∈ps,pZ ps k h=k q h:=by
 intro q hq;unfold pZ at hr |-;cases ps with
 |nil=>simp at hq
 | cons p ps=>
  simp only at hr |-;by_cases hall:∀q∈ps,k q h=k p h
  ·rw[NE hall];rcases NP.1 hq with rfl|hq
   ·rfl
   ·exact (hall q hq).symm
  ·rw[if_neg hall]at hr;exact absurd rfl hr
omit [Dr]in
theorem zF{ops:Array Oper}{draw:Bool}{p d q:Nat}(h:rU ops draw=some (p,d,q)):draw=false/\d≠q/\∃x y:Oper,ops.toList=[x,y]/\x.op= .next (.tmp p) false/\x.dst=some d/\x.guard=none/\
  y.op= .extract (.tmp d) 0/\y.dst=some q/\y.guard=none:=by
 unfold rU at h;cases draw with
 |true=>cases h
 | false=>
  simp only[NQ]at h;split at h
  ·rename_i x y hops;split at h
   ·rename_i p' d' d2 q' h1 h2 h3 h4 h5 h6;cases hb:Nat.beq d' d2&&!(Nat.beq d' q')with
    |false=>rw[hb]at h;cases h
    |true=>
     rw[hb]at h;simp only[NF,NB,OG]at h;obtain⟨rfl,rfl,rfl⟩:=h;simp only[NG,OK]at hb
     have:=NR hb.1
     subst this;exact⟨rfl,fun hh=>by subst hh;simp at hb,x,y,hops,h1,h2,h3,h4,h5,h6⟩
   ·cases h
  ·cases h
omit [Dr]in
theorem Cg(ps:List Nat):(ps.map fun(i:Nat)=>AV.int .i64 i).map xC=ps:=by
 rw[P2];apply Pt fun i=>?_;rw[Ou];cases ps[i]? <;> simp[xC]
section
variable {P:Program} {cx:Cx} {c:Entry} {e:Env} {h:Hp} {a:Act} {w:World} {ops:Array Oper} {id:Nat}
omit [Dr]in
theorem vD{Q:Exit->Act->World->Prop}{p d q N:Nat}{x y:Oper}{b:Bool}{w':World}{vs:List Value}(hN:N<=a.tmps.size)(hops:ops.toList=[x,y])(h1:x.op= .next (.tmp p) false)(h2:x.dst=some d)(h3:x.guard=none)(h4:y.op= .extract (.tmp d) 0)(h5:y.dst=some q)(h6:y.guard=none)(hd:d<N)(hrun:(Instr.next (a.eval (.tmp p)) false x.type).run P w= .ok (.tuple (.bool b:: vs).toArray) w')(hq:Q .normal ((a.put (some d) (.tuple (.bool b:: vs).toArray)).put (some q) (.bool b)) w'):(Code.region id ops false).wp P Q a w:=by
 refine wp_region_list ?_;rw[hops];unfold wpList;rw[NE (by unfold Region.wanted;rw[h3])];refine .inl ?_;unfold Oper.wp;have hr1:(execOp a.eval x).run P w= .ok (.value (.tuple (.bool b:: vs).toArray)) w':=by
  simp only[execOp,h1,Sem.run_bind,hrun,Result.andThen_ok,Sem.run_pure]
 rw[hr1];simp only[Oper.upon];unfold wpList;rw[NE (by unfold Region.wanted;rw[h6])];refine .inl ?_;unfold Oper.wp;have hev:(a.put x.dst (.tuple (.bool b:: vs).toArray)).eval (.tmp d)= .tuple (.bool b:: vs).toArray:=by
  rw[h2];have hlt:d<a.tmps.size:=by omega
  simp[Act.put,Act.eval,hlt]
 have hr2:(execOp (a.put x.dst (.tuple (.bool b:: vs).toArray)).eval y).run P w'= .ok (.value (.bool b)) w':=by
  simp[execOp,h4,hev,Instr.extract]
 rw[hr2];simp only[Oper.upon];unfold wpList;rw[h2,h5];exact hq
theorem FR.two{N:Nat}{U:Nat->Prop}{S:aE}{β:List bT}{γ:Nat->Value}{lam:Nat->Option Nat}{ω:Nat->Owner}(F:FR c N U e h a w S β γ lam ω){d q:Nat}(hd:d<N)(hq:q<N)(v:Value)(b:Bool):
  FR c N U ((e.set d Ent.none).set q ⟨.val (.bool b),none⟩) h ((a.put (some d) v).put (some q) (.bool b)) w S β γ lam ω:=by
 have F1:=F.setV (d:=some d) (r:=.any) (v:=v) (fun t ht=>by cases ht;exact hd) (by simp[VR]);exact F1.setV (d:=some q) (r:=.bool b) (v:=.bool b) (fun t ht=>by cases ht;exact hq) (by simp[VR])
theorem zR{ρ:Type}(hT:TOK P cx.T)(hC:db P cx.own cx.call)(hI:IsoCall cx)(hk:∀p,B5 (cD cx.ann.kinds p .L)=true->p<cx.nt){draw:Bool}{k:Env->M ρ}(H:kR c cx.nt e h a w)(hr:ll cx id ops draw e k h≠.fail){Q:Exit->Act->World->Prop}(hn:∀e' h' a' w',ll cx id ops draw e k h=k e' h'->kR c cx.nt e' h' a' w'->a'.defers=a.defers->Q .normal a' w')(hp:∀pv h' v w' a',ll cx id ops draw e k h= .pan pv h'->mw c pv h' v w'->a'.defers=a.defers->Q (.panic [{ v,recovered:=false }]) a' w'):
  (Code.region id ops draw).wp P Q a w:=by
 unfold ll at hr hn hp;cases hno:rU ops draw with
 |none=>
  rw[hno]at hr hn hp;exact Cr hT hC hI hk H hr hn hp
 | some pdq =>
  obtain⟨p,d,q⟩:=pdq;obtain⟨rfl,hdq,x,y,hops,g1,g2,g3,g4,g5,g6⟩:=zF hno;rw[hno]at hr hn;simp only at hr hn;clear hp;cases hb:decide (p<1000)&&decide (d<cx.nt)&&decide (q<cx.nt)with
  |false=>rw[hb]at hr;exact absurd rfl hr
  | true =>
   rw[hb]at hr hn;simp only[NF]at hr hn;simp only[NG,Oa]at hb;obtain⟨⟨hp,hd⟩,hq⟩:=hb;obtain⟨S,β,γ,lam,ω,F⟩:=H;have hdef:∀(v u:Value),((a.put (some d) v).put (some q) u).defers=a.defers:=fun v u=>rfl;have hvp:=bl F (.tmp p) (fun t ht=>by cases ht;exact hp);simp only[opnd]at hvp;cases hx:e.av p with
   | it l =>
    rw[hx]at hr hn hvp;simp only[jz]at hr hn;simp only[VR]at hvp;obtain⟨⟨b,z⟩,hbl,h0,hv⟩:=hvp;simp only at h0;subst h0;cases hh:h[l]? with
    |none=>rw[hh]at hr;exact absurd rfl hr
    | some cs =>
     rw[hh]at hr hn;have hcases:(cs=[.tup [],.nilm])\/(∃m n qs cu,cs=[.tup [],.mp m,.int .i64 n,.sl qs,cu])\/¬((cs=[.tup [],.nilm])\/(∃m n qs cu,cs=[.tup [],.mp m,.int .i64 n,.sl qs,cu])):=by
      by_cases h1:(cs=[.tup [],.nilm])\/(∃m n qs cu,cs=[.tup [],.mp m,.int .i64 n,.sl qs,cu])
      ·exact h1.elim .inl (fun h=>.inr (.inl h))
      ·exact .inr (.inr h1)
     rcases hcases with rfl|⟨m,n,qs,cu,rfl⟩|hno
     ·simp only at hr hn;obtain⟨hI,_,_⟩:=F.heap.iterRow hh (by simp) (by simp) hbl;rcases hI with⟨_,_,_,_,_,_,_,_,h1,_⟩|⟨_,since,seen,last,h4⟩
      ·simp at h1
      ·refine vD (vs:=[]) (b:=false) (w':=w) F.tsz.1 hops g1 g2 g3 g4 g5 g6 hd ?_ ?_
       ·rw[hv];simp[Instr.next,i7 h4 (by simp)]
       ·exact hn _ _ _ _ rfl ⟨_,_,_,_,_,(F.killH l).two hd hq _ _⟩ (hdef _ _)
     ·simp only at hr hn;cases hm:h[m]? with
      |none=>rw[hm]at hr;exact absurd rfl hr
      | some ds=>
       rw[hm]at hr hn;by_cases hds:∃es,ds=[.tup es]
       ·obtain⟨es,rfl⟩:=hds;simp only at hr hn;by_cases hnl:(es.length:Int)=n
        ·rw [NE hnl]at hr hn;obtain⟨hI,hωb,_⟩:=F.heap.iterRow hh (by simp) (by simp) hbl;rcases hI with⟨l',n',ps,bm,since,seen,last,cur,h1,h2,h3,h4,hcu,h5⟩|⟨h1,_⟩
         ·simp only[jC,O3,AV.mp.injEq,AV.int.injEq,AV.sl.injEq,QA,PY]at h1;obtain⟨rfl,rfl,rfl,rfl⟩:=h1;obtain⟨_,k2⟩:=h5 es hm;obtain⟨ents,clock,j1,j2,j3,j4,j5⟩:=k2 (by omega);obtain⟨ents0,clock0,r1,r2,r3,_⟩:=F.heap.mapRow hm h2;rw[j1]at r1;simp only[NB,Obj.map.injEq]at r1;obtain⟨rfl,rfl⟩:=r1;subst j4;rw[Cg]at hr hn;have mP:bm≠b:=by rintro rfl;rw[j1]at h4;cases h4
          rcases t7 (P:=P) x.type h4 j1 j2 h3 with⟨i1,i2⟩|⟨i,u,w1,i1,i2,i3,i4⟩
          ·rw[<- j3]at i1;subst i1;simp only at hr hn;refine vD (vs:=[]) (b:=false) (w':=w) F.tsz.1 hops g1 g2 g3 g4 g5 g6 hd (by rw[hv];exact i2) ?_;exact hn _ _ _ _ rfl ⟨_,_,_,_,_,(F.killH l).two hd hq _ _⟩ (hdef _ _)
          ·rw [<- j3]at i1;cases hps:ps with
           |nil=>rw[hps]at i1;simp at i1
           | cons r rs=>
            rw[hps]at hr hn i1;simp only at hr hn;have hdm:=Ef hr i i1;refine vD (vs:=[u.key,u.val]) (b:=true) F.tsz.1 hops g1 g2 g3 g4 g5 g6 hd (by rw[hv];exact i4) ?_;have F1:FR c cx.nt (fun g=>g<e.nx*1000) e h a w1 S β γ lam ω:=by rcases i3 with rfl|rfl;exact F;exact F.drew
            have hw1:w1.heap=w.heap:=by rcases i3 with rfl|rfl<;>rfl
            have hml:l≠m:=by rintro rfl;rw[hm]at hh;simp at hh
            have hlt:=dY hh;have hbw:b<w1.heap.size:=by rw[hw1];exact (NT.1 h4).1
            have F2:=F1.turnI (cs':=[.tup [],.mp m,.int .i64 (n':Nat),jC ((r:: rs).filter fun r=>!(Nat.beq r i)),.int .i64 (i:Nat)]) (.mapIter (some bm) since (seen.push u.born) last) hh (by simp) (by simp) (by simp) hbl
             (.inr (.inl ⟨m,n',(r:: rs).filter fun r=>!(Nat.beq r i),bm,since,seen.push u.born,last,.int .i64 (i:Nat),rfl,h2,h3,i8 _ hbw,.inr ⟨i,rfl⟩,fun es2 he2=>by
              rw[OP,if_neg hml,hm]at he2;simp only[NB,O3,AV.tup.injEq,PY]at he2;subst he2;refine⟨by omega,fun _=>⟨ents,last,by rw[bX _ _ _ mP,hw1];exact j1,j2,by rw[nJ r3.2 i2,<- j3,hps],rfl,fun c hc=>?_⟩⟩;simp only[AV.int.injEq,QA,Int.natCast_inj]at hc;subst hc;exact⟨u,i2,by simp⟩⟩))
            exact hn _ _ _ _ hdm ⟨_,_,_,_,_,F2.two hd hq _ _⟩ (hdef _ _)
         ·simp at h1
        ·rw[if_neg hnl]at hr;exact absurd rfl hr
       ·exfalso;apply hr;split
        ·rename_i es hes;simp only[NB]at hes;exact absurd ⟨es,hes⟩ hds
        ·rfl
     ·exfalso;apply hr;split
      ·rename_i hes;simp only[NB]at hes;exact absurd (.inl hes) hno
      ·rename_i m n qs cu hes;simp only[NB]at hes;exact absurd (.inr ⟨m,n,qs,cu,hes⟩) hno
      ·rfl
   |_=>rw[hx]at hr;exact absurd rfl hr
end
end Go.Av
namespace Go.Av
variable [Dr]
section
variable {P:Program} {Q:Exit->Act->World->Prop} {b:Code}
def kW(P:Program)(c:Code)(Q:Exit->Act->World->Prop)(a:Act)(w:World):Prop:=
 ∀(b:Frame)(k:List Item)(cs:List Frame),∃e a' w',Q e a' w'/\Arrives P (lone (b.at a (.code c:: .inLoop c:: k)) cs w) b k cs e a' w'
omit [Dr]in
theorem kW.loop{a:Act}{w:World}(h:kW P b Q a w):(Code.loop b).wp P Q a w:=
 fun f k cs=>let ⟨e,a',w',q,r⟩:=h f k cs;⟨e,a',w',q,.of_steps (.one step_loop) r⟩
omit [Dr]in
theorem kW.round{a:Act}{w:World}(h:b.wp P (Exit.then (kW P b Q) Q) a w):kW P b Q a w:=by
 intro f k cs;obtain⟨e,a₁,w₁,hq,harr⟩:=h f (.inLoop b:: k) cs;cases e with
 |normal=>
  obtain⟨e₂,a₂,w₂,hq₂,harr₂⟩:=hq f k cs;exact⟨e₂,a₂,w₂,hq₂,.of_steps (Steps.trans harr (.one step_inLoop)) harr₂⟩
 |exit id=>exact⟨_,a₁,w₁,hq,.pass (x:=.inLoop b) rfl (fun _ _=>.inl (by simp)) harr⟩
 |goto l=>exact⟨_,a₁,w₁,hq,.pass (x:=.inLoop b) rfl (fun _ _=>.inl (by simp)) harr⟩
 |ret=>exact⟨_,a₁,w₁,hq,.pass (x:=.inLoop b) rfl (fun _ _=>.inl (by simp)) harr⟩
 |panic ch=>exact⟨_,a₁,w₁,hq,.pass (x:=.inLoop b) rfl (fun _ _=>.inl (by simp)) harr⟩
 |outgrown=>exact⟨_,a₁,w₁,hq,.pass (x:=.inLoop b) rfl (fun _ _=>.inl (by simp)) harr⟩
end
section
variable {P:Program} {cx:Cx} {c:Entry} {ρ:Type}
omit [Dr]in
theorem Ep{fx:bq ρ}{id:Nat}{code:Code}{e:Env}{kn kr:Env->M ρ}{kx:Nat->Env->M ρ}(hc:∀b,code≠.loop b):
  ev cx fx (.block id code) e kn kx kr=ev cx fx code e kn (fun i e'=>bif Nat.beq i id then kn e' else kx i e') kr:=by
 cases code<;>first|rfl|exact absurd rfl (hc _)
def zu(cx:Cx)(x:Code):Option JA:=match nd x with
 |some t=>pE cx.ann.joins t
 |none=>none
omit [Dr]in
theorem Jt{fx:bq ρ}{x y:Code}{e:Env}{kn kr:Env->M ρ}{kx:Nat->Env->M ρ}:ev cx fx (.seq x y) e kn kx kr=(match zu cx x with
  |some ja=>jn (fun vs=>ev cx fx y (unpack ja vs) kn kx kr) fun j=>ev cx fx x e (sB ja j) kx kr
  |none=>ev cx fx x e (fun e'=>ev cx fx y e' kn kx kr) kx kr):=by
 unfold zu;simp only[ev];cases nd x with
 |none=>rfl
 |some t=>
  simp only;cases pE cx.ann.joins t<;>rfl
structure Posts (c:Entry) (N:Nat) (r:R ρ) (a:Act) (kn:Env->M ρ) (kx:Nat->Env->M ρ) (kr:Env->M ρ) (Q:Exit->Act->World->Prop):Prop where
 nrm:∀e' h' a' w',r=kn e' h'->kR c N e' h' a' w'->a'.defers=a.defers->Q .normal a' w'
 ext:∀i e' h' a' w',r=kx i e' h'->kR c N e' h' a' w'->a'.defers=a.defers->Q (.exit i) a' w'
 ret:∀e' h' a' w',r=kr e' h'->kR c N e' h' a' w'->a'.defers=a.defers->Q .ret a' w'
 pan:∀pv h' v w' a',r= .pan pv h'->mw c pv h' v w'->a'.defers=a.defers->Q (.panic [{ v,recovered:=false }]) a' w'
theorem vH{ja:JA}{j:List AV->M ρ}{e:Env}{h:Hp}{N:Nat}{a:Act}{w:World}(H:kR c N e h a w)(hr:sB ja j e h≠.fail):∃vs h',sB ja j e h=j vs h'/\kR c N (unpack ja vs) h' a w:=by
 unfold sB at hr |-;cases hp:pack ja e with
 |none=>rw[hp]at hr;exact absurd rfl hr
 |some vs=>
  have hs:=vK H hp;simp only;cases ja.fz with
  |false=>exact⟨vs,h,rfl,hs⟩
  |true=>exact⟨_,_,rfl,sR hs⟩
theorem Es(hT:TOK P cx.T)(hC:db P cx.own cx.call)(hI:IsoCall cx)(hk:∀p,B5 (cD cx.ann.kinds p .L)=true->p<cx.nt)(m:Nat):∀(n:Nat)(code:Code),SizeOf.sizeOf code<n->
  ∀(e:Env)(h:Hp)(a:Act)(w:World)(kn:Env->M ρ)(kx:Nat->Env->M ρ)(kr:Env->M ρ)(Q:Exit->Act->World->Prop),kR c cx.nt e h a w->ev cx (dt m) code e kn kx kr h≠.fail->
  Posts c cx.nt (ev cx (dt m) code e kn kx kr h) a kn kx kr Q->code.wp P Q a w:=by
 intro n
 induction n with
 |zero=>intro code hn;omega
 | succ n ih=>
  intro code hn e h a w kn kx kr Q H hr hp;cases code<;>(try exact absurd rfl hr)
  case skip=>exact wp_skip (hp.nrm e h a w rfl H rfl)
  case exit id=>exact wp_exit (hp.ext id e h a w rfl H rfl)
  case ret=>exact wp_ret (hp.ret e h a w rfl H rfl)
  case region id ops draw=>exact zR hT hC hI hk H hr hp.nrm hp.pan
  case seq x y=>
   have hx:SizeOf.sizeOf x<n:=by simp at hn;omega
   have hy:SizeOf.sizeOf y<n:=by simp at hn;omega
   refine wp_seq ?_;rw[Jt]at hr hp;generalize zu cx x=oj at hr hp;cases oj with
   |none=>
    simp only at hr hp;refine ih x hx e h a w _ kx kr _ H hr ⟨fun e' h' a' w' hok hs hd=>?_,fun i e' h' a' w' hok hs hd=>hp.ext i e' h' a' w' hok hs hd,fun e' h' a' w' hok hs hd=>hp.ret e' h' a' w' hok hs hd,fun pv h' v w' a' hok hs hd=>hp.pan pv h' v w' a' hok hs hd⟩;rw[hok]at hr hp;exact ih y hy e' h' a' w' kn kx kr Q hs hr ⟨fun e2 h2 a2 w2 k1 k2 k3=>hp.nrm e2 h2 a2 w2 k1 k2 (k3.trans hd),fun i e2 h2 a2 w2 k1 k2 k3=>hp.ext i e2 h2 a2 w2 k1 k2 (k3.trans hd),fun e2 h2 a2 w2 k1 k2 k3=>hp.ret e2 h2 a2 w2 k1 k2 (k3.trans hd),fun pv h2 v w2 a2 k1 k2 k3=>hp.pan pv h2 v w2 a2 k1 k2 (k3.trans hd)⟩
   |some ja=>
    simp only[jn]at hr hp;refine ih x hx e h a w _ kx kr _ H hr ⟨fun e' h' a' w' hok hs hd=>?_,fun i e' h' a' w' hok hs hd=>hp.ext i e' h' a' w' hok hs hd,fun e' h' a' w' hok hs hd=>hp.ret e' h' a' w' hok hs hd,fun pv h' v w' a' hok hs hd=>hp.pan pv h' v w' a' hok hs hd⟩;rw[hok]at hr hp;obtain⟨vs,h3,hj,hs3⟩:=vH hs hr;rw[hj]at hr hp;exact ih y hy (unpack ja vs) h3 a' w' kn kx kr Q hs3 hr ⟨fun e2 h2 a2 w2 k1 k2 k3=>hp.nrm e2 h2 a2 w2 k1 k2 (k3.trans hd),fun i e2 h2 a2 w2 k1 k2 k3=>hp.ext i e2 h2 a2 w2 k1 k2 (k3.trans hd),fun e2 h2 a2 w2 k1 k2 k3=>hp.ret e2 h2 a2 w2 k1 k2 (k3.trans hd),fun pv h2 v w2 a2 k1 k2 k3=>hp.pan pv h2 v w2 a2 k1 k2 (k3.trans hd)⟩
  case cond o x y=>
   have hx:SizeOf.sizeOf x<n:=by simp at hn;omega
   have hy:SizeOf.sizeOf y<n:=by simp at hn;omega
   cases o<;>(try exact absurd rfl hr)
   case const v=>
    simp only[ev]at hr hp
    have hav:∀b,cA v= .bool b->a.eval (.const v)= .bool b:=by
     intro b hb;show v= .bool b;cases v with
     |bool c=>simp only[cA,Aw,AV.bool.injEq]at hb;rw[hb]
     |tuple vs=>simp only[cA]at hb;cases hvs:vs.isEmpty<;>rw[hvs]at hb<;>cases hb
     |pointer p=>cases p<;>(simp only[cA,Aw]at hb;cases hb)
     |map p=>cases p<;>(simp only[cA,Aw]at hb;cases hb)
     | slice p n m=>
      have hs:Aw (.slice p n m)= .sl []\/Aw (.slice p n m)= .any:=by
       cases p with
       |some q=>exact .inr rfl
       | none=>cases n with
        |succ n=>exact .inr rfl
        |zero=>cases m with
         |succ m=>exact .inr rfl
         |zero=>exact .inl rfl
      simp only[cA]at hb;rcases hs with hs|hs<;>rw[hs]at hb<;>cases hb
     |_=>simp only[cA,Aw]at hb;cases hb
    cases hq:cA v<;>rw[hq]at hr hp<;>(try exact absurd rfl hr);rename_i b;cases b with
    |true=>exact wp_cond (hav true hq) (ih x hx e h a w kn kx kr Q H hr hp)
    |false=>exact wp_cond (hav false hq) (ih y hy e h a w kn kx kr Q H hr hp)
   rename_i t;simp only[ev]at hr hp;cases ht:decide (t<1000)with
   |false=>rw[ht]at hr;exact absurd rfl hr
   | true=>
    rw[ht]at hr hp;simp only[NF]at hr hp;have htl:t<1000:=by simpa using ht
    have hav:∀b,e.av t= .bool b->a.eval (.tmp t)= .bool b:=by
     intro b hb;obtain⟨S,β,γ,lam,ω,F⟩:=H;have hs:=F.slots t htl;simp only[Env.av,Ent.av]at hb;cases hv:(e.get t).v with
     |val av=>
      rw[hv]at hs hb;simp only at hb;subst hb;simp only[fB,VR]at hs;exact hs
     |loc B off=>rw[hv]at hb;cases hb
    cases hq:e.av t<;>rw[hq]at hr hp<;>(try exact absurd rfl hr);rename_i b;cases b with
    |true=>exact wp_cond (hav true hq) (ih x hx e h a w kn kx kr Q H hr hp)
    |false=>exact wp_cond (hav false hq) (ih y hy e h a w kn kx kr Q H hr hp)
  case block id code=>
   refine wp_block ?_;by_cases hc:∃b,code= .loop b
   ·obtain⟨b,rfl⟩:=hc;have hb:SizeOf.sizeOf b<n:=by simp at hn;omega
    simp only[ev]at hr hp;cases hja:pE cx.ann.loops id with
    |none=>rw[hja]at hr;exact absurd rfl hr
    | some ja=>
     rw[hja]at hr hp;simp only at hr hp;refine kW.loop ?_;obtain⟨vs,h3,hj,hs3⟩:=vH H hr;rw[hj]at hr hp;have key:∀(k:Nat)(vs:List AV)(h:Hp)(a1:Act)(w:World),kR c cx.nt (unpack ja vs) h a1 w->a1.defers=a.defers->
       dt k (fun self vs=>ev cx (dt m) b (unpack ja vs) (sB ja self) (fun i e'=>bif Nat.beq i id then kn e' else kx i e') kr) vs h≠.fail->
       Posts c cx.nt (dt k (fun self vs=>ev cx (dt m) b (unpack ja vs) (sB ja self) (fun i e'=>bif Nat.beq i id then kn e' else kx i e') kr) vs h) a kn kx kr Q->kW P b (Exit.inBlock id Q) a1 w:=by
      intro k
      induction k with
      |zero=>intro vs h a1 w _ _ hr _;exact absurd rfl hr
      | succ k ihk=>
       intro vs h a1 w hs hd hr hp;simp only[dt]at hr hp;refine kW.round (ih b hb (unpack ja vs) h a1 w _ _ kr _ hs hr ⟨fun e' h' a' w' hok hs' hd'=>?_,fun i e' h' a' w' hok hs' hd'=>?_,fun e' h' a' w' hok hs' hd'=>hp.ret e' h' a' w' hok hs' (hd'.trans hd),fun pv h' v w' a' hok hs' hd'=>hp.pan pv h' v w' a' hok hs' (hd'.trans hd)⟩)
       ·rw[hok]at hr hp;obtain⟨vs',h4,hj',hs4⟩:=vH hs' hr;rw[hj']at hr hp;exact ihk vs' h4 a' w' hs4 (hd'.trans hd) hr hp
       ·cases hi:Nat.beq i id with
        |true=>
         rw[hi]at hok
         have:=NR hi
         subst this;show Exit.inBlock i Q (.exit i) a' w';simp only[Exit.inBlock,NS];exact hp.nrm e' h' a' w' hok hs' (hd'.trans hd)
        |false=>
         rw[hi]at hok;have hne:i≠id:=fun hh=>by subst hh;simp at hi
         show Exit.inBlock id Q (.exit i) a' w';simp only[Exit.inBlock,if_neg hne];exact hp.ext i e' h' a' w' hok hs' (hd'.trans hd)
     exact key m vs h3 a w hs3 rfl hr hp
   ·have hc':∀b,code≠.loop b:=fun b hb=>hc ⟨b,hb⟩;rw[Ep hc']at hr hp;have hs:SizeOf.sizeOf code<n:=by simp at hn;omega
    refine ih code hs e h a w kn _ kr _ H hr ⟨fun e' h' a' w' hok hs' hd'=>hp.nrm e' h' a' w' hok hs' hd',fun i e' h' a' w' hok hs' hd'=>?_,fun e' h' a' w' hok hs' hd'=>hp.ret e' h' a' w' hok hs' hd',fun pv h' v w' a' hok hs' hd'=>hp.pan pv h' v w' a' hok hs' hd'⟩;cases hi:Nat.beq i id with
    |true=>
     rw[hi]at hok
     have:=NR hi
     subst this;show Exit.inBlock i Q (.exit i) a' w';simp only[Exit.inBlock,NS];exact hp.nrm e' h' a' w' hok hs' hd'
    |false=>
     rw[hi]at hok;have hne:i≠id:=fun hh=>by subst hh;simp at hi
     show Exit.inBlock id Q (.exit i) a' w';simp only[Exit.inBlock,if_neg hne];exact hp.ext i e' h' a' w' hok hs' hd'
end
end Go.Av
namespace Go.Av
variable [Dr]
omit [Dr]in
theorem qI:∀(args:List AV)(i t:Nat),cf (vX i args) t=if i<=t/\t<i+args.length then⟨.val (nth args (t-i)),none⟩else Ent.none
 |[],i,t=>by
  simp only[vX,cf,Ot,Oi];rw[if_neg (by omega)]
 | a:: as0,i,t=>by
  simp only[vX,cB,Of];by_cases h:i=t
  ·subst h;rw[NE rfl,NE (by omega)];simp[nth]
  ·rw[if_neg h,qI as0 (i+1) t];by_cases h2:i+1<=t/\t<i+1+as0.length
   ·rw[NE h2,NE (by omega)];have:t-i=(t-(i+1))+1:=by omega
    simp[nth,this]
   ·rw[if_neg h2,if_neg (by omega)]
section
variable {P:Program} {cx:Cx}
open Classical in
theorem Kq{w:World}{S:aE}{β:List bT}{h:Hp}{args:List AV}{vs:List Value}{n:Nat}(hg:yD β h w)(hw:Wf S w)(hh:da S β w h)(hv:bC S β args vs)(hn:args.length<=n)(hn2:n<=1000):
  ∃γ lam ω,FR { w,S,β,E:=ct β h,gok:=hg } n (fun g=>g<(p9 args).nx*1000) (p9 args) h { tmps:=vs.toArray++Array.replicate (n-vs.toArray.size) undef,defers:=[] } w S β γ lam ω:=by
 obtain⟨hlen,ω0,hr⟩:=hh;have hvl:=hv.length;have hget:∀t,(p9 args).get t=if t<args.length then⟨.val (nth args t),none⟩else Ent.none:=fun t=>by
  have:=qI args 0 t
  simp only[OX,QA,NU,QM]at this;exact this
 let ω:Nat->Owner:=fun b=>if ct β h b then ω0 b else .no;refine⟨fun _=>undef,fun _=>none,ω,⟨hw,Gro.refl _,fun b _ _=>⟨rfl,fun _=>rfl⟩,aE.le_refl S,fm.refl β,hlen,fun l cs hl hcs=>?_,⟨?_,hn2⟩,fun t ht=>?_,fun t g z ht hg=>?_,fun B m hB=>?_,fun g z hz=>?_,fun b hb=>?_,fun t g hg=>?_,fun g z hz=>?_⟩⟩
 ·have hown:∀b n,β[l]? = some (b,n)->ω0 b= .heap l->ω b= .heap l:=fun b n h1 h3=>by
   show (if ct β h b then ω0 b else .no)=_;rw[NE ⟨l,cs,_,hl,hcs,h1⟩];exact h3
  rcases hr l cs hl hcs with⟨b,x,h1,h2,h3,h4⟩|⟨b,h1,h3,h4⟩
  ·exact .inl ⟨b,x,h1,h2,hown b _ h1 h3,h4⟩
  ·exact .inr ⟨b,h1,hown b _ h1 h3,h4⟩
 ·simp;omega
 ·rw[hget];split
  ·rename_i hlt;have hx:args[t]? = some (nth args t):=by simp[nth,hlt]
   obtain⟨v,h1,h2⟩:=hv.get hx;have:(vs.toArray++Array.replicate (n-vs.toArray.size) undef).getD t undef=v:=by
    rw[Om,PH (by simp;omega)];simp[h1]
   rw[this];exact h2
  ·simp[Ent.none,fB,VR]
 ·rw[hget]at hg;split at hg<;>cases hg
 ·cases hB
 ·cases hz
 ·have hb':ct β h b:=by
   by_cases ho:ct β h b
   ·exact ho
   ·exact absurd (show ω b= .no from if_neg ho) hb
  obtain⟨l,cs,m,h1,h2,h3⟩:=hb';obtain⟨b',x,k1,k2,k3,_⟩:=hr.own h1 h2;rw[h3]at k1;cases k1;have hω:ω b= .heap l:=by
   show (if ct β h b then ω0 b else .no)=_;rw[NE ⟨l,cs,_,h1,h2,h3⟩];exact k3
  exact⟨.inl ⟨⟨l,cs,_,h1,h2,h3⟩,fun g=>by rw[hω];simp⟩,k2⟩
 ·rw[hget]at hg;split at hg<;>cases hg
 ·cases hz
theorem start{w:World}{S:aE}{β:List bT}{h:Hp}{args:List AV}{vs:List Value}{n:Nat}(hg:yD β h w)(hw:Wf S w)(hh:da S β w h)(hv:bC S β args vs)(hn:args.length<=n)(hn2:n<=1000):
  kR { w,S,β,E:=ct β h,gok:=hg } n (p9 args) h { tmps:=vs.toArray++Array.replicate (n-vs.toArray.size) undef,defers:=[] } w:=⟨S,β,Kq hg hw hh hv hn hn2⟩
def iE(tmps:Array Value):ResultVar->Sem Value
 |.tmp t=>pure (tmps.getD t undef)
 |.cell p t=>do loadVar t (<- asAddr (tmps.getD p undef))
omit [Dr]in
theorem se(fn:Func)(tmps:Array Value):results fn tmps=(do let vs <- fn.results.mapM (iE tmps);pure (if h:vs.size=1 then vs[0]else .tuple vs)):=by
 unfold results;congr 1
theorem Km{c:Entry}{N:Nat}{U:Nat->Prop}{e:Env}{h:Hp}{a:Act}{w:World}{S:aE}{β:List bT}{γ:Nat->Value}{lam:Nat->Option Nat}{ω:Nat->Owner}(hT:TOK P cx.T)(F:FR c N U e h a w S β γ lam ω){r:ResultVar}{v:AV}(hr:xT cx.T e r=some v):∃u,(iE a.tmps r).run P w= .ok u w/\VR S β v u:=by
 cases r with
 | tmp t=>
  simp only[xT]at hr;cases ht:decide (t<1000)with
  |false=>rw[ht]at hr;cases hr
  | true=>
   rw[ht]at hr;simp only[NF]at hr;have hs:=F.slots t (by simpa using ht);cases hv:(e.get t).v with
   |loc B off=>rw[hv]at hr;cases hr
   |val av=>
    rw[hv]at hr hs;simp only[NB]at hr;subst hr;exact⟨_,by simp only[iE,Sem.run_pure],hs⟩
 | cell p t=>
  simp only[xT]at hr;cases hp:decide (p<1000)with
  |false=>rw[hp]at hr;cases hr
  | true=>
   rw[hp]at hr;simp only[NF]at hr;have hs:=F.slots p (by simpa using hp);cases hv:(e.get p).v with
   | loc B off=>
    rw[hv]at hr hs;cases ht:cx.T t with
    |none=>rw[ht]at hr;cases hr
    | some ti=>
     rw[ht]at hr;simp only at hr;cases hin:l5 e B off ti.size with
     |false=>rw[hin]at hr;cases hr
     | true=>
      rw[hin]at hr;simp only[NF]at hr;simp only[fB]at hs;obtain⟨b,hlam,hpv⟩:=hs;obtain⟨b',x,m,hm,hle,hlam',hrow,hms,hcells⟩:=F.locals hin;rw[hlam]at hlam';cases hlam';let f:Nat->Value:=fun i=>(x[off+i]?).getD undef;have hf:∀i,i<ti.size->x[off+i]? = some (f i):=fun i hi=>by
       obtain⟨v,_,hv',_⟩:=hcells i hi;show _=some ((x[off+i]?).getD undef);rw[hv'];rfl
      have hload:=pL hT ht hrow f hf;have hexec:∀v,(loadVar t ⟨b,off,none⟩).run P w= .ok v w->(iE a.tmps (.cell p t)).run P w= .ok v w:=fun v hv'=>by
       simp only[iE];rw[hpv];simpa [asAddr]using hv'
      cases hag:ti.agg with
      |true=>
       rw[hag]at hr;simp only[NF,NB]at hr;subst hr;refine⟨_,hexec _ (hload.1 hag),?_⟩;simp only[VR];refine⟨_,rfl,rm ti.size fun i hi=>?_⟩;obtain⟨v,a',g1,g2,g3,_⟩:=hcells i hi;have:f i=v:=by show (x[off+i]?).getD undef=v;rw[g1];rfl
       rw[this];simp only[Env.av,Ent.av,g2];exact g3
      | false=>
       rw[hag]at hr;simp only[NQ]at hr;cases hone:decide (ti.size=1)with
       |false=>rw[hone]at hr;cases hr
       |true=>
        rw[hone]at hr;simp only[NF,NB]at hr;subst hr;have hone':ti.size=1:=by simpa using hone
        obtain⟨v,a',g1,g2,g3,g4⟩:=hcells 0 (by omega);simp only[Oi]at g1 g2 g4;have hfv:f 0=v:=by show (x[off+0]?).getD undef=v;rw[Oi,g1];rfl
        refine⟨v,hexec _ (hfv▸hload.2 hag hone'),?_⟩;simp only[Env.av,Ent.av,g2];exact g3
   | val av=>
    rw[hv]at hr hs;cases ht:cx.T t with
    |none=>rw[ht]at hr;cases hr
    |some ti=>
     rw[ht]at hr;simp only at hr;obtain⟨v,h1,h2⟩:=AQ hT F.wf hr hs;refine⟨v,?_,h2⟩;unfold af at hr;rw[ht]at hr;cases av<;>simp only[reduceCtorEq]at hr;simp only[fB,VR]at hs;obtain⟨b,off,vs,hpv,_,_⟩:=hs;simp only[iE];rw[hpv]at h1 |-;simpa [Instr.loadAt,Instr.sureAddr,asAddr]using h1
theorem zS{c:Entry}{N:Nat}{U:Nat->Prop}{e:Env}{h:Hp}{a:Act}{w:World}{S:aE}{β:List bT}{γ:Nat->Value}{lam:Nat->Option Nat}{ω:Nat->Owner}(hT:TOK P cx.T)(F:FR c N U e h a w S β γ lam ω){fn:Func}{vs:List AV}(hr:gt cx.T e fn.results.toList=some vs):∃u,(results fn a.tmps).run P w= .ok u w/\VR S β (mm vs) u:=by
 have key:∀(l:List ResultVar)(vs:List AV),gt cx.T e l=some vs->∃us:List Value,(l.mapM (iE a.tmps)).run P w= .ok us w/\bC S β vs us:=by
  intro l
  induction l with
  |nil=>intro vs h;simp only[gt,NB]at h;subst h;exact⟨[],by simp,by simp[bC]⟩
  | cons r rs ih=>
   intro vs h;simp only[gt]at h;cases h1:xT cx.T e r with
   |none=>rw[h1]at h;cases h
   | some v=>
    cases h2:gt cx.T e rs with
    |none=>rw[h1,h2]at h;cases h
    |some vs'=>
     rw[h1,h2]at h;simp only[NB]at h;subst h;obtain⟨u,k1,k2⟩:=Km hT F h1;obtain⟨us,m1,m2⟩:=ih vs' h2;refine⟨u:: us,?_,by simp only[bC];exact⟨u,us,rfl,k2,m2⟩⟩;rw[Qf,Sem.run_bind,k1,Result.andThen_ok,Sem.run_bind,m1,Result.andThen_ok,Sem.run_pure]
 obtain⟨us,k1,k2⟩:=key _ _ hr;have hlen:=k2.length;have hrun:(fn.results.mapM (iE a.tmps)).run P w= .ok us.toArray w:=by
  rw[QJ];rw[map_eq_pure_bind,Sem.run_bind,k1,Result.andThen_ok,Sem.run_pure]
 refine⟨if h:us.toArray.size=1 then us.toArray[0]else .tuple us.toArray,?_,?_⟩
 ·rw[se,Sem.run_bind,hrun,Result.andThen_ok,Sem.run_pure]
 ·unfold mm;split
  ·rename_i v;cases us with
   |nil=>simp at hlen
   |cons u us=>
    cases us with
    |nil=>simp only[bC]at k2;obtain⟨x,xs,hx,hy,_⟩:=k2;simp at hx;simp[hx.1,hy]
    |cons u2 us=>simp at hlen
  ·rename_i hne;rw[dif_neg]
   ·simp only[VR];exact⟨us,rfl,k2⟩
   ·intro h1;have:vs.length=1:=by rw[<- hlen];simpa using h1
    match vs,this with
    |[v],_=>exact hne v rfl
end
end Go.Av
namespace Go.Av
variable [Dr]
omit [Dr]in
theorem xl{n:Nat}{ks:List (Nat×Kind)}(h:nG n ks=true):∀p,B5 (cD ks p .L)=true->p<n:=by
 intro p hp
 induction ks with
 |nil=>simp[cD,B5]at hp
 | cons x ks ih=>
  obtain⟨k,y⟩:=x;unfold nG at h;simp only[OT,NG]at h;simp only[cD]at hp;cases hk:Nat.beq k p with
  |true=>
   rw[hk]at hp;simp only[NF]at hp
   have:=h.1
   rw[hp]at this;have hk':=NR hk;subst hk';simpa using this
  |false=>
   rw[hk]at hp;exact ih h.2 hp
section
variable {P:Program} {cx:Cx}
theorem Ke{c:Entry}{N:Nat}{U:Nat->Prop}{e:Env}{h:Hp}{a:Act}{w:World}{S:aE}{β:List bT}{γ:Nat->Value}{lam:Nat->Option Nat}{ω:Nat->Owner}(F:FR c N U e h a w S β γ lam ω){fn:Func}{sz:Nat}(ho:vf fn e sz=true){u:Value}(hu:(results fn a.tmps).run P w= .ok u w):uo c.w.heap.size S β w h sz u:=by
 unfold vf at ho;split at ho
 ·rename_i t hres;cases ht:decide (t<1000)with
  |false=>rw[ht]at ho;cases ho
  | true=>
   rw[ht]at ho;simp only[PG]at ho;split at ho
   ·rename_i g hg;split at ho
    ·rename_i z hz;have hgr:=F.grps t g z (by simpa using ht) hg hz;obtain⟨ad,len,cap,h1,h2,h3,h4⟩:=F.free g z hz;have hue:u=a.tmps.getD t undef:=by
      have hr:fn.results= #[.tmp t]:=by apply PM;simpa using hres
      rw[se,hr]at hu;simp[iE]at hu;simpa using hu.symm
     rw[hue,hgr];refine⟨ad,len,cap,h1,h2,h3,h4.imp id ?_⟩;rintro⟨sz',b,off,x,k1,k2,k3,k4,k5,k6⟩;have hsz:sz'=sz:=by
      rw[k1]at ho;simp only[vG]at ho;exact NR ho
     subst hsz;refine⟨b,off,x,k2,k3,k4,(F.mine b (by rw[k5];simp)).1.grp k5,fun hb=>?_,k6⟩;obtain⟨l,_,hl,_⟩:=F.hown hb;rw[k5]at hl;cases hl
    ·cases ho
   ·cases ho
 ·cases ho
omit [Dr]in
theorem Fv{fn:Func}{own:Option Nat}{e:Env}{h:Hp}(hr:j0 cx fn own e h≠.fail):∃rs,gt cx.T e fn.results.toList=some rs/\(j0 cx fn own e h= .ok (mm rs) h\/(own=none/\j0 cx fn own e h= .ok (oH 6 h (mm rs)) (h.map fun _=>[])))/\∀sz,own=some sz->vf fn e sz=true:=by
 have key:∀b z:Bool,(bif b then ae (ah ((gt cx.T e fn.results.toList).map mm)) (bif z then(bif own.isSome then fun _=>M.fail else vO)else M.pure)else M.fail:M AV) h≠.fail->b=true/\∃rs,gt cx.T e fn.results.toList=some rs/\
   ((bif b then ae (ah ((gt cx.T e fn.results.toList).map mm)) (bif z then(bif own.isSome then fun _=>M.fail else vO)else M.pure)else M.fail:M AV) h= .ok (mm rs) h\/
    (own=none/\(bif b then ae (ah ((gt cx.T e fn.results.toList).map mm)) (bif z then(bif own.isSome then fun _=>M.fail else vO)else M.pure)else M.fail:M AV) h= .ok (oH 6 h (mm rs)) (h.map fun _=>[]))):=by
  intro b z hr;cases b with
  |false=>exact absurd rfl hr
  | true=>
   refine⟨rfl,?_⟩;cases hres:gt cx.T e fn.results.toList with
   |none=>rw[hres]at hr;exact absurd rfl hr
   | some rs=>
    rw[hres]at hr;cases z with
    |false=>exact⟨rs,rfl,.inl rfl⟩
    |true=>
     cases own with
     |none=>exact⟨rs,rfl,.inr ⟨rfl,rfl⟩⟩
     |some sz=>exact absurd rfl hr
 unfold j0 at hr |-;cases own with
 |none=>
  obtain⟨_,rs,h1,h2⟩:=key true _ hr;exact⟨rs,h1,h2,fun sz hsz=>by cases hsz⟩
 |some sz=>
  obtain⟨h0,rs,h1,h2⟩:=key _ _ hr;exact⟨rs,h1,h2,fun sz' hsz=>by cases hsz;exact h0⟩
theorem iM(hT:TOK P cx.T)(hC:db P cx.own cx.call)(hI:IsoCall cx)(m:Nat){f:FuncId}{fn:Func}(hf:P.funcs[f]? = some fn)(hnt:cx.nt=fn.ntmps){own:Option Nat}{args:List AV}{h:Hp}{S:aE}{β:List bT}{w:World}{vs:List Value}(hr:cJ cx (dt m) fn own args h≠.fail)(hg:yD β h w)(hw:Wf S w)(hh:da S β w h)(hv:bC S β args vs):Calls P f vs.toArray w (fc own S β h w (cJ cx (dt m) fn own args h))/\fn.body.isSome=true:=by
 unfold cJ at hr |-;cases hb:fn.body with
 |none=>rw[hb]at hr;exact absurd rfl hr
 | some code=>
  rw[hb]at hr;simp only at hr |-;refine⟨?_,rfl⟩;cases hc:(decide (args.length<=fn.ntmps)&&decide (fn.ntmps<=1000)&&nG cx.nt cx.ann.kinds)with
  |false=>rw[hc]at hr;exact absurd rfl hr
  | true=>
   rw[hc]at hr;simp only[NF]at hr |-;simp only[NG,Oa]at hc;obtain⟨⟨hc1,hc2⟩,hc3⟩:=hc;have H:kR { w,S,β,E:=ct β h,gok:=hg } cx.nt (p9 args) h { tmps:=vs.toArray++Array.replicate (fn.ntmps-vs.toArray.size) undef,defers:=[] } w:=by
    rw[hnt];exact start hg hw hh hv hc1 hc2
   have hret:∀(e':Env)(h':Hp)(a':Act)(w':World),ev cx (dt m) code (p9 args) (j0 cx fn own) (fun _ _=>M.fail) (j0 cx fn own) h=j0 cx fn own e' h'->
     kR { w,S,β,E:=ct β h,gok:=hg } cx.nt e' h' a' w'->∃v,(results fn a'.tmps).run P w'= .ok v w'/\fc own S β h w (ev cx (dt m) code (p9 args) (j0 cx fn own) (fun _ _=>M.fail) (j0 cx fn own) h) (.returned v) w':=by
    intro e' h' a' w' hok hs;rw[hok]at hr |-;obtain⟨rs,hres,hret,hown⟩:=Fv hr;obtain⟨S',β',γ,lam,ω,F⟩:=hs;obtain⟨u,hu1,hu2⟩:=zS (P:=P) hT F hres;rcases hret with hret|⟨rfl,hret⟩
    ·rw[hret];exact⟨u,hu1,S',β',u,rfl,hu2,F.out,fun sz hsz=>Ke F (hown sz hsz) hu1⟩
    ·rw[hret];obtain⟨S2,ω2,F2,hf⟩:=F.freeze;exact⟨u,hu1,S2,β',u,rfl,hf _ _ hu2,F2.out,fun sz hsz=>by cases hsz⟩
   refine calls_of_wp hf hb (Es hT hC hI (xl hc3) m _ code (Qo _) (p9 args) h _ w _ _ _ _ H hr ⟨fun e' h' a' w' hok hs hd=>?_,fun i e' h' a' w' hok hs hd=>?_,fun e' h' a' w' hok hs hd=>?_,fun pv h' v w' a' hok hs hd=>?_⟩)
   ·exact⟨hd,hret e' h' a' w' hok hs⟩
   ·rw[hok]at hr;exact absurd rfl hr
   ·exact⟨hd,hret e' h' a' w' hok hs⟩
   ·refine⟨hd,?_⟩;rw[hok];obtain⟨S',β',hout,hvr⟩:=hs;exact⟨S',β',v,rfl,hvr,hout⟩
end
open Classical in
theorem AL{S:aE}{β:List bT}{w w':World}{h:Hp}(_hw:Wf S w)(hh:da S β w h){β0:List bT}{h0:Hp}(hE:∀b,¬ct β0 h0 b){S':aE}{β':List bT}{h':Hp}(L:Left (ct β0 h0) S β0 w S' β' w' h'):∃S2,Left (ct β h) S β w S2 β w' h/\(∀a v,VR S' β' a v->VR S2 β (oH 6 h' a) v)/\∀sz v,uo w.heap.size S' β' w' h' sz v->uo w.heap.size S2 β w' h sz v:=by
 obtain⟨hlen,ω,hH⟩:=L.heap;have hnew:∀b,ct β' h' b->w.heap.size<=b:=fun b hb=>(L.owned b hb).resolve_left (hE b);let S2:aE:=fun b o=>if ct β' h' b then w'.cell? ⟨b,o,none⟩else S' b o;have hS2n:∀b,¬ct β' h' b->∀o,S2 b o=S' b o:=fun b hb o=>if_neg hb;have hS2y:∀b,ct β' h' b->∀o,S2 b o=w'.cell? ⟨b,o,none⟩:=fun b hb o=>NE hb;have hle:S'.le S2:=by
  intro b o v hv;by_cases hb:ct β' h' b
  ·obtain⟨l,cs,n,h1,h2,h3⟩:=hb;obtain⟨b',x,k1,k2,k3,k5⟩:=hH.own h1 h2;rw[h3]at k1;cases k1;rw[k5]at hv;cases hv
  ·rw[hS2n b hb];exact hv
 have hrow:∀b,b<w.heap.size->w'.heap[b]? = w.heap[b]? /\∀o,S2 b o=S b o:=by
  intro b hb;have hk:=L.keep b hb (hE b);refine⟨hk.1,fun o=>?_⟩;rw[hS2n b (fun ho=>by have:=hnew b ho;omega)];exact hk.2 o
 have hwf:Wf S2 w':=by
  intro b o v hv;by_cases hb:ct β' h' b
  ·rw[hS2y b hb]at hv;exact hv
  ·rw[hS2n b hb]at hv;exact L.wf b o v hv
 obtain⟨hlen0,ω0,hH0⟩:=hh;have hlt0:∀b,ct β h b->b<w.heap.size:=by
  rintro b ⟨l,cs,n,h1,h2,h3⟩;obtain⟨b',x,k1,k2,_⟩:=hH0.own h1 h2;rw[h3]at k1;cases k1;exact k2
 have hle0:S.le S2:=aE.le_trans L.le hle;refine⟨S2,⟨hle0,fm.refl β,hwf,L.gro,fun b hb _=>hrow b hb,⟨hlen0,ω0,hH0.rows hle0 (fm.refl β) hlen0 fun l cs hl _=>.inl ⟨hl,fun b hb ho=>⟨ho,(hrow b hb).1,fun o h=>by rw[(hrow b hb).2];exact h⟩⟩⟩,fun b hb=>.inl hb⟩,fun a v hv=>uN hH hle (fun b o x hb hr=>?_) 6 a v hv,fun sz v=>?_⟩
 ·rw[hS2y b hb,hr.cell]
 ·rintro⟨ad,len,cap,k1,k2,k3,k4⟩;refine⟨ad,len,cap,k1,k2,k3,k4.imp id ?_⟩;rintro⟨b,off,x,p1,p2,p3,p4,p5,p6⟩;refine⟨b,off,x,p1,p2,p3,p4,fun hb=>?_,fun o ho=>by rw[hS2n b p5];exact p6 o ho⟩
  have:=hlt0 b hb
  omega
theorem EN{S:aE}{β:List bT}{w w':World}{h:Hp}{own:Option Nat}{m:List AV->M AV}{args:List AV}{en:Ending}(hw:Wf S w)(hh:da S β w h)(hp:fc own S [] [] w (m (eV aw args) []) en w'):fc own S β h w (rE m args h) en w':=by
 have key:=fun{S':aE} {β':List bT} {h':Hp} (L:Left (ct [] []) S [] w S' β' w' h')=>AL hw hh (by rintro b ⟨l,cs,n,h1,_⟩;simp at h1) L;unfold rE;cases hm:m (eV aw args) []with
 |fail=>rw[hm]at hp;exact hp.elim
 |ok r h'=>
  rw[hm]at hp;obtain⟨S',β',v,h1,h2,h3,h4⟩:=hp;obtain⟨S2,k1,k2,k3⟩:=key h3;exact⟨S2,β,v,h1,k2 r v h2,k1,fun sz hsz=>k3 sz v (h4 sz hsz)⟩
 |pan r h'=>
  rw[hm]at hp;obtain⟨S',β',v,h1,h2,h3⟩:=hp;obtain⟨S2,k1,k2,k3⟩:=key h3;exact⟨S2,β,v,h1,k2 r v h2,k1⟩
structure GoodPg (P:Program) (p:Pg):Prop where
 tok:TOK P p.T
 funcs:∀f fn a,p.funcs f=some (fn,a)->P.funcs[f]? = some fn/\(fn.name== "runtime.NumGoroutine")=false
 other:∀f E,p.other f=some E->∀call,db P p.own call->∀(args:List AV)(h:Hp)(S:aE)(β:List bT)(w:World)(vs:List Value),E call args h≠.fail->yD β h w->Wf S w->da S β w h->bC S β args vs->
  Calls P f vs.toArray w (fc (p.own f) S β h w (E call args h))/\(P.funcs[f]?).any (fun fn=>fn.body.isSome&&!(fn.name== "runtime.NumGoroutine"))=true
 nw:∀f,p.nw f=true->∃E,p.other f=some E/\∀call args,yF (E call args)
omit [Dr]in
theorem da.nil{S:aE}{w:World}:da S [] w []:=⟨rfl,fun _=>.no,fun l cs hl=>by simp at hl⟩
theorem wz{P:Program}{p:Pg}(G:GoodPg P p)(m:Nat){call:FuncId->List AV->M AV}(hC:db P p.own call)(hI:∀n a,IsoCall (p.cx call n a)):db P p.own (jk p call (dt m)):=by
 intro f args h S β w vs hr hg hw hh hv;unfold jk at hr |-;cases ho:p.other f with
 |some E=>rw[ho]at hr;exact G.other f E ho call hC args h S β w vs hr hg hw hh hv
 | none=>
  rw[ho]at hr;simp only at hr |-;cases hf:p.funcs f with
  |none=>rw[hf]at hr;exact absurd rfl hr
  | some x=>
   obtain⟨fn,a⟩:=x;rw[hf]at hr;simp only at hr |-;obtain⟨hf1,hf2⟩:=G.funcs f fn a hf
   have hany:fn.body.isSome=true->(P.funcs[f]?).any (fun fn=>fn.body.isSome&&!(fn.name== "runtime.NumGoroutine"))=true:=by
    intro hb;rw[hf1];simp only[Option.any_some,hb,hf2,Bool.not_false,P7]
   cases hi:a.iso with
   |false=>
    rw[hi]at hr;simp only[NQ]at hr |-;obtain⟨h1,h2⟩:=iM (cx:=p.cx call fn.ntmps a) G.tok hC (hI _ _) m hf1 rfl hr hg hw hh hv;exact⟨h1,hany h2⟩
   | true=>
    rw[hi]at hr;simp only[NF]at hr |-;have hr':cJ (p.cx call fn.ntmps a) (dt m) fn (p.own f) (eV aw args) []≠.fail:=by
     intro hf;unfold rE at hr;rw[hf]at hr;exact hr rfl
    obtain⟨h1,h2⟩:=iM (cx:=p.cx call fn.ntmps a) G.tok hC (hI _ _) m hf1 rfl hr' ⟨hg.1,fun b _ hb=>by obtain⟨l,_,_,h1,_⟩:=hb;simp at h1⟩ hw da.nil (Eb hv);exact⟨h1.mono fun en w' hp=>EN hw hh hp,hany h2⟩
omit [Dr]in
theorem zh(p:Pg)(hN:∀f,p.nw f=true->∃E,p.other f=some E/\∀call args,yF (E call args)):∀n k a,IsoCall (p.cx (dV p n) k a)
 |0,k,a=>⟨fun f args _=>⟨none,fun _=>rfl⟩,fun f args _ h v h' hh=>by cases hh⟩
 | n+1,k,a=>by
  refine⟨?_,fun f args hf=>?_⟩
  case refine_2=>
   obtain⟨E,hE,hn⟩:=hN f hf;have:(p.cx (dV p (n+1)) k a).call f args=E (dV p n) args:=by
    show jk p (dV p n) (dt n) f args=_;unfold jk;rw[hE]
   rw[this];exact hn _ _
  intro f args hi;have hi':p.iso f=true:=hi;unfold Pg.iso at hi';cases ho:p.other f with
  |some E=>rw[ho]at hi';cases hi'
  | none=>
   rw[ho]at hi';simp only at hi';cases hf:p.funcs f with
   |none=>rw[hf]at hi';cases hi'
   |some x=>
    obtain⟨fn,b⟩:=x;rw[hf]at hi';simp only at hi';refine⟨match cJ (p.cx (dV p n) fn.ntmps b) (dt n) fn (p.own f) (eV aw args) []with|.ok r h'=>some (true,oH 6 h' r)|.pan v h'=>some (false,oH 6 h' v)|.fail=>none,fun h=>?_⟩;show jk p (dV p n) (dt n) f args h=_;unfold jk;rw[ho];simp only;rw[hf];simp only[hi',NF,rE];cases cJ (p.cx (dV p n) fn.ntmps b) (dt n) fn (p.own f) (eV aw args) []<;>rfl
theorem nk{P:Program}{p:Pg}(G:GoodPg P p):∀n,db P p.own (dV p n)
 |0=>fun _f _args _h _S _β _w _vs hr=>absurd rfl hr
 |n+1=>wz G n (nk G n) fun k a=>zh p G.nw n k a
end Go.Av
namespace Go.Av
def EL{m:List AV->M AV}{ms:Nat->List AV->M AV}(h:bz m ms)(args:List AV):aS (rE m args) fun n=>rE (ms n) args:=by
 intro x;obtain⟨h1,h2⟩:=h (eV aw args) []
 (try dsimp only at h1 h2)
 refine⟨fun hne=>?_,fun n hne=>?_⟩
 ·have hne':m (eV aw args) []≠.fail:=fun hf=>hne (by simp only[rE,hf]);obtain⟨N,hN⟩:=h1 hne';refine⟨N,fun n hn=>?_⟩
  (try dsimp only)
  simp only[rE,hN n hn]
 ·(try dsimp only at hne |-)
  have hne':ms n (eV aw args) []≠.fail:=fun hf=>hne (by simp only[rE,hf]);simp only[rE,h2 n hne']
def ey(p:Pg):Prop:=∀f E,p.other f=some E->∀(call:FuncId->List AV->M AV)(calls:Nat->FuncId->List AV->M AV),(∀f,bz (call f) fun n=>calls n f)->bz (E call) fun n=>E (calls n)
section
variable {cx:Cx} {call:FuncId->List AV->M AV} {calls:Nat->FuncId->List AV->M AV} {fx:bq AV} {fxs:Nat->bq AV}
theorem zg(hc:∀f,bz (call f) fun n=>calls n f)(hfx:oq fx fxs)(hfc:vP fx)(hfcs:∀n,vP (fxs n))(fn:Func)(own:Option Nat):
  bz (cJ (cx.wc call) fx fn own) fun n=>cJ (cx.wc (calls n)) (fxs n) fn own:=by
 intro args;unfold cJ;cases fn.body with
 |none=>exact aS.const _
 | some c=>
  have key:∀b:Bool,aS (bif b then ev (cx.wc call) fx c (p9 args) (j0 (cx.wc call) fn own) (fun _ _=>M.fail) (j0 (cx.wc call) fn own)else M.fail) fun n=>(bif b then ev (cx.wc (calls n)) (fxs n) c (p9 args) (j0 (cx.wc (calls n)) fn own) (fun _ _=>M.fail) (j0 (cx.wc (calls n)) fn own)else M.fail):=by
   intro b;cases b with
   |false=>exact aS.const _
   |true=>
    have hr:bz (j0 (cx.wc call) fn own) fun n=>j0 (cx.wc (calls n)) fn own:=bz.const (j0 cx fn own);exact Js _ c (Qo _) call calls fx fxs hc hfx hfc hfcs (p9 args) _ (fun n=>j0 (cx.wc (calls n)) fn own) _ (fun _ _ _=>M.fail) _ (fun n=>j0 (cx.wc (calls n)) fn own) hr (fun i=>bz.const _) hr
  exact key (decide (args.length<=fn.ntmps)&&decide (fn.ntmps<=1000)&&nG cx.nt cx.ann.kinds)
theorem tm{p:Pg}(hO:ey p)(hc:∀f,bz (call f) fun n=>calls n f)(hfx:oq fx fxs)(hfc:vP fx)(hfcs:∀n,vP (fxs n))(f:FuncId):bz (jk p call fx f) fun n=>jk p (calls n) (fxs n) f:=by
 intro args;unfold jk;cases ho:p.other f with
 |some E=>exact hO f E ho call calls hc args
 | none=>
  simp only;cases p.funcs f with
  |none=>exact aS.const _
  |some x=>
   obtain⟨fn,a⟩:=x;simp only;have hb:=zg (cx:=p.cx call fn.ntmps a) hc hfx hfc hfcs fn (p.own f);cases a.iso with
   |true=>exact EL hb args
   |false=>exact hb args
end
theorem py{p:Pg}(hO:ey p):∀n f args,yz (dV p n f args) (dV p (n+1) f args)
 |0,f,args=>fun x hne=>absurd rfl hne
 | n+1,f,args=>by
  have hc:∀f,bz (dV p (n+1) f) fun m=>(if m=0 then dV p n else dV p (n+1)) f:=by
   intro f args x;refine⟨fun _=>⟨1,fun m hm=>?_⟩,fun m hne=>?_⟩
   ·(try dsimp only)
    rw[if_neg (by omega)]
   ·(try dsimp only at hne |-)
    by_cases h0:m=0
    ·rw[NE h0]at hne |-;exact py hO n f args x hne
    ·rw[if_neg h0]
  have h:=tm hO hc (wH n) (uL (n+1)) (fun m=>by
   by_cases h0:m=0
   ·rw[NE h0];exact uL n
   ·rw[if_neg h0];exact uL (n+1)) f args
  intro x hne
  have:=(h x).2 0
  (try dsimp only at this)
  rw[NE rfl,NE rfl]at this;exact this hne
def uI{p:Pg}(hO:ey p){n m:Nat}(h:n<=m)(f:FuncId)(args:List AV):yz (dV p n f args) (dV p m f args):=by
 induction m with
 | zero => have:n=0:=by omega
           subst this;exact .refl _
 |succ m ih=>
  by_cases hn:n=m+1
  ·subst hn;exact .refl _
  ·exact (ih (by omega)).trans (py hO m f args)
open Classical in
noncomputable def ai(p:Pg)(f:FuncId)(args:List AV):M AV:=fun h=>if hx:∃n,dV p n f args h≠.fail then dV p (Classical.choose hx) f args h else .fail
def oA{p:Pg}(hO:ey p)(f:FuncId):bz (ai p f) fun n=>dV p n f:=by
 intro args h;refine tf (fun n m hnm hne=>uI hO hnm f args h hne) ?_;unfold ai;by_cases hx:∃n,dV p n f args h≠.fail
 ·left;simp only[dif_pos hx];exact⟨_,Qs hx,rfl⟩
 ·right;simp only[dif_neg hx];exact⟨fun n=>Pj fun h=>hx ⟨n,h⟩,trivial⟩
def pj.uniq{α:Type}{a a':R α}{b:Nat->R α}(h:pj a b)(g:pj a' fun n=>b (n+1)):a=a':=by
 by_cases ha:a= .fail
 ·by_cases ha':a'= .fail
  ·rw[ha,ha']
  ·obtain⟨N,hN⟩:=g.1 ha';have h1:=hN N (NL _)
   (try dsimp only at h1)
   exact (h.2 (N+1) (by rw[h1];exact ha')).symm.trans h1
 ·obtain⟨N,hN⟩:=h.1 ha;have h1:=hN (N+1) (by omega);have h2:=g.2 N
  (try dsimp only at h2)
  exact h1.symm.trans (h2 (by rw[h1];exact ha))
def qM{p:Pg}(hO:ey p)(f:FuncId)(args:List AV):ai p f args=jk p (ai p) aj f args:=by
 funext h;have h1:=oA hO f args h;have h2:=tm hO (fun f=>oA hO f) wG Ex (fun n=>uL n) f args h;exact h1.uniq h2
def pu[Dr]{P:Program}{p:Pg}(G:GoodPg P p)(hO:ey p):db P p.own (ai p):=by
 intro f args h S β w vs hr hg hw hh hv;obtain⟨N,hN⟩:=(oA hO f args h).1 hr;have h1:=hN N (NL _)
 (try dsimp only at h1)
 rw[<- h1]at hr |-;exact nk G N f args h S β w vs hr hg hw hh hv
end Go.Av
namespace Go.Av
section
variable {ρ:Type}
theorem aT{F:(List AV->M ρ)->List AV->M ρ}(hF:ma F)(vs:List AV):aj F vs=F (aj F) vs:=by
 funext h;exact (gM hF vs h).uniq (hF _ _ (gM hF) vs h)
theorem ax{c:AV}{x y:M ρ}{xs ys:Nat->M ρ}(hx:aS x xs)(hy:aS y ys):aS (ar c x y) fun n=>ar c (xs n) (ys n):=by
 unfold ar;cases c with
 |bool b=>cases b<;>first|exact hx|exact hy
 |_=>exact aS.const _
theorem uQ{k:List AV->M ρ}{ks:Nat->List AV->M ρ}{m:(List AV->M ρ)->M ρ}{ms:Nat->(List AV->M ρ)->M ρ}(hk:bz k ks)(hm:∀j js,bz j js->aS (m j) fun n=>ms n (js n)):aS (jn k m) fun n=>jn (ks n) (ms n):=
 hm k ks hk
theorem iF{F:(List AV->M ρ)->List AV->M ρ}{Fs:Nat->(List AV->M ρ)->List AV->M ρ}(h1:bE F Fs)(h2:ma F)(h3:∀n,ma (Fs n)):bz (aj F) fun n=>aj (Fs n):=Ex F Fs h1 h2 h3
end
end Go.Av
namespace Go.Av
def aH(m:M AV):M AV:=fun h=>match m []with
 |.ok r h'=>.ok (oH 6 h' r) h
 |.pan v h'=>.pan (oH 6 h' v) h
 |.fail=>.fail
def ay{p:Pg}(hO:ey p){f:FuncId}{fn:Func}{a:Ann}(h1:p.other f=none)(h2:p.funcs f=some (fn,a))(h3:a.iso=true)(args:List AV):
  ai p f args=aH (cJ (p.cx (ai p) fn.ntmps a) aj fn (p.own f) (eV aw args)):=by
 rw[qM hO];unfold jk;rw[h1];simp only;rw[h2];simp only[h3,NF];rfl
def bI{p:Pg}(hO:ey p){f:FuncId}{fn:Func}{a:Ann}(h1:p.other f=none)(h2:p.funcs f=some (fn,a))(h3:a.iso=false)(args:List AV):
  ai p f args=cJ (p.cx (ai p) fn.ntmps a) aj fn (p.own f) args:=by
 rw[qM hO];unfold jk;rw[h1];simp only;rw[h2];simp only[h3,NQ]
def eL{p:Pg}(hO:ey p){f:FuncId}{E:(FuncId->List AV->M AV)->List AV->M AV}(h1:p.other f=some E)(args:List AV):ai p f args=E (ai p) args:=by
 rw[qM hO];unfold jk;rw[h1]
def ki(T:TT)(t:TypeId):(FuncId->List AV->M AV)->List AV->M AV:=fun _ args=>match args with
 |[.sl es]=>ah (ck T t (.sl []) (.sl es))
 |_=>M.fail
def fL(T:TT)(t:TypeId):(FuncId->List AV->M AV)->List AV->M AV:=fun _ args=>match args with
 |[.sl es]=>appH T t true (.sl []) (.sl es)
 |_=>M.fail
def yu(t:TypeId)(k:IntKind)(zero:AV):R AV->R AV
 |.ok v h'=>bif cE 4 v then .ok (.tup [.agg (aa v),.int k 0]) h' else .fail
 |.pan (.iface t' (.int k' n)) h'=>bif Nat.beq t' t&&decide (k'=k)then .ok (.tup [zero,.int k n]) h' else .fail
 |_=>.fail
def yt(t:TypeId)(k:IntKind)(zero:AV):(FuncId->List AV->M AV)->List AV->M AV:=fun call args=>match args with
 |[f]=>fun h=>yu t k zero (cO call f [] h)
 |_=>M.fail
def Ff{m:M AV}{ms:Nat->M AV}(p:R AV->R AV)(hp:p .fail= .fail)(h:aS m ms):aS (fun x=>p (m x)) fun n=>fun x=>p (ms n x):=by
 intro x;obtain⟨h1,h2⟩:=h x;constructor
 ·intro hne;obtain⟨N,hN⟩:=h1 (fun hh=>hne (by simp only[hh,hp]));exact⟨N,fun n hn=>NM p (hN n hn)⟩
 ·intro n hne;exact NM p (h2 n (fun hh=>hne (by have:=NM p hh;simpa [hp]using this)))
def yX(T:TT)(t:TypeId)(call:FuncId->List AV->M AV)(calls:Nat->FuncId->List AV->M AV):bz (ki T t call) fun n=>ki T t (calls n):=bz.const _
def yW(T:TT)(t:TypeId)(call:FuncId->List AV->M AV)(calls:Nat->FuncId->List AV->M AV):bz (fL T t call) fun n=>fL T t (calls n):=bz.const _
def FN(t:TypeId)(k:IntKind)(zero:AV)(call:FuncId->List AV->M AV)(calls:Nat->FuncId->List AV->M AV)(hc:∀f,bz (call f) fun n=>calls n f):bz (yt t k zero call) fun n=>yt t k zero (calls n):=by
 have hv:∀f,aS (cO call f []) fun n=>cO (calls n) f []:=by
  intro f;unfold cO;split
  ·exact hc _ _
  ·exact aS.const _
 intro args;cases args with
 |nil=>exact aS.const _
 |cons f r=>
  cases r with
  |nil=>exact Ff (yu t k zero) rfl (hv f)
  |cons _ _=>exact aS.const _
def iG{α:Type}{b:Bool}{x:α}{o:Option α}{y:α}(h:(bif b then some x else o)=some y):x=y\/o=some y:=by
 cases b with
 |true=>exact .inl (by simpa using h)
 |false=>exact .inr h
def BE(T:TT)(t:TypeId)(call:FuncId->List AV->M AV)(args:List AV):yF (fL T t call args):=by
 unfold fL;split
 ·rename_i y;intro h v h' hh;unfold appH at hh;split at hh
  ·cases hh
  ·split at hh
   ·split at hh
    ·cases hh
    ·split at hh
     ·cases hh
     ·rename_i bs _;revert hh;generalize (_&&_:Bool)=b1;cases b1 with
      |false=>intro hh;cases hh
      | true=>
       simp only[NF];cases bs.isEmpty with
       |true=>intro hh;cases hh;exact⟨[],by simp⟩
       |false=>
        simp only[NQ];generalize decide (_<=140737488355328)=b2;cases b2 with
        |false=>intro hh;cases hh
        |true=>intro hh;cases hh;exact⟨_,rfl⟩
   ·cases hh
 ·intro h v h' hh;cases hh
end Go.Av
namespace Go.Av.Ap
abbrev bk:=List UInt8
inductive Val where
 |mk (kind n:Int) (names:List bk) (values:List Val)
instance:Inhabited Val:=⟨.mk 0 0 [] []⟩
inductive Exp where
 |mk (op n:Int) (s m:bk) (names:List bk) (args:List Exp)
instance:Inhabited Exp:=⟨.mk 0 0 [] [] [] []⟩
inductive Ty where
 |mk (kind:Int) (fields:List (bk×Ty))
instance:Inhabited Ty:=⟨.mk 0 []⟩
abbrev ie:=bk×Ty
structure Fun where
 name:bk
 pub:Bool
 params:List ie
 result:Ty
 effects:Int
 body:Exp
 deriving Inhabited
structure Mod where
 name:bk
 uses:List bk
 vars:List ie
 init:List Exp
 funcs:List Fun
 moves:Bool
 old:List ie
 forward:List Exp
 back:List Exp
 deriving Inhabited
def Val.kind:Val->Int|.mk k _ _ _=>k
def Val.n:Val->Int|.mk _ n _ _=>n
def Val.names:Val->List bk|.mk _ _ ns _=>ns
def Val.values:Val->List Val|.mk _ _ _ vs=>vs
def Exp.op:Exp->Int|.mk o _ _ _ _ _=>o
def Exp.n:Exp->Int|.mk _ n _ _ _ _=>n
def Exp.s:Exp->bk|.mk _ _ s _ _ _=>s
def Exp.m:Exp->bk|.mk _ _ _ m _ _=>m
def Exp.names:Exp->List bk|.mk _ _ _ _ ns _=>ns
def Exp.args:Exp->List Exp|.mk _ _ _ _ _ es=>es
def Ty.kind:Ty->Int|.mk k _=>k
def Ty.fields:Ty->List ie|.mk _ fs=>fs
@[simp] theorem Nt(a b c d):(Val.mk a b c d).kind=a:=rfl
@[simp] theorem Ny(a b c d):(Val.mk a b c d).n=b:=rfl
@[simp] theorem Nr(a b c d):(Val.mk a b c d).names=c:=rfl
@[simp] theorem Nq(a b c d):(Val.mk a b c d).values=d:=rfl
def strs(l:List bk):AV:=.sl (l.map .str)
mutual
def Val.av:Val->AV
 |.mk k n ns vs=>.agg [.int .i64 k,.int .i64 n,strs ns,.sl (dP vs)]
def dP:List Val->List AV
 |[]=>[]
 |v:: vs=>v.av:: dP vs
end
mutual
def Exp.cells:Exp->List AV
 |.mk o n s m ns es=>[.int .i64 o,.int .i64 n,.str s,.str m,strs ns,.sl (hG es)]
def hG:List Exp->List AV
 |[]=>[]
 |e:: es=>.agg e.cells:: hG es
end
def Exp.av(e:Exp):AV:=.agg e.cells
mutual
def Ty.cells:Ty->List AV
 |.mk k fs=>[.int .i64 k,.sl (hP fs)]
def hP:List (bk×Ty)->List AV
 |[]=>[]
 |f:: fs=>dW f:: hP fs
def dW:bk×Ty->AV
 |(n,t)=>.agg (.str n:: t.cells)
end
def Ty.av(t:Ty):AV:=.agg t.cells
def Fun.av(f:Fun):AV:=.agg ([.str f.name,.bool f.pub,.sl (hP f.params)]++f.result.cells++[.int .i64 f.effects]++f.body.cells)
def kp(l:List Fun):AV:=.sl (l.map Fun.av)
def Mod.av(m:Mod):AV:=.agg [.str m.name,strs m.uses,.sl (hP m.vars),.sl (hG m.init),kp m.funcs,.bool m.moves,.sl (hP m.old),.sl (hG m.forward),.sl (hG m.back)]
def vals(l:List Val):AV:=.sl (dP l)
def cb(l:List Exp):AV:=.sl (hG l)
def di(l:List ie):AV:=.sl (hP l)
def mods(l:List Mod):AV:=.sl (l.map Mod.av)
def ints(l:List Int):AV:=.sl (l.map (.int .i64))
structure Vars where
 module:bk
 values:List Val
 deriving Inhabited
structure Deed where
 effect:Int
 arg:Int
 answer:Int
 deriving DecidableEq,Inhabited
structure Call where
 module:bk
 func:bk
 args:List Val
 deriving Inhabited
def Vars.av(v:Vars):AV:=.agg [.str v.module,vals v.values]
def Deed.av(d:Deed):AV:=.agg [.int .i64 d.effect,.int .i64 d.arg,.int .i64 d.answer]
def Call.av(c:Call):AV:=.agg [.str c.module,.str c.func,vals c.args]
def sC(l:List Vars):AV:=.sl (l.map Vars.av)
def deeds(l:List Deed):AV:=.sl (l.map Deed.av)
def calls(l:List Call):AV:=.sl (l.map Call.av)
structure Out where
 err:Int
 value:Val
 deeds:List Deed
 calls:List Call
 state:List Vars
def Out.av(o:Out):AV:=.agg [.int .i64 o.err,.int .i64 o.value.kind,.int .i64 o.value.n,strs o.value.names,vals o.value.values,Ap.deeds o.deeds,Ap.calls o.calls,sC o.state]
theorem eu:(l:List Val)->dP l=l.map Val.av
 |[]=>rfl
 |v:: l=>by simp[dP,eu l]
theorem eO:(l:List Exp)->hG l=l.map Exp.av
 |[]=>rfl
 |v:: l=>by simp[hG,eO l,Exp.av]
theorem iT:(l:List ie)->hP l=l.map dW
 |[]=>rfl
 |v:: l=>by simp[hP,iT l]
def Val.av_eq(v:Val):v.av= .agg [.int .i64 v.kind,.int .i64 v.n,strs v.names,vals v.values]:=by cases v;rfl
def Exp.cells_eq(e:Exp):e.cells=[.int .i64 e.op,.int .i64 e.n,.str e.s,.str e.m,strs e.names,cb e.args]:=by cases e;rfl
def Ty.cells_eq(t:Ty):t.cells=[.int .i64 t.kind,di t.fields]:=by cases t;simp[Ty.cells,di,Ty.kind,Ty.fields]
def nv(f:ie):dW f= .agg [.str f.1,.int .i64 f.2.kind,di f.2.fields]:=by obtain⟨n,t⟩:=f;simp[dW,Ty.cells_eq]
@[simp] theorem bW(v:Val):aa v.av=[.int .i64 v.kind,.int .i64 v.n,strs v.names,vals v.values]:=by rw[v.av_eq];rfl
@[simp] theorem aO(e:Exp):aa e.av=[.int .i64 e.op,.int .i64 e.n,.str e.s,.str e.m,strs e.names,cb e.args]:=by rw[Exp.av,e.cells_eq];rfl
@[simp] theorem my(f:ie):aa (dW f)=[.str f.1,.int .i64 f.2.kind,di f.2.fields]:=by rw[nv];rfl
@[simp] theorem sZ(t:Ty):aa t.av=[.int .i64 t.kind,di t.fields]:=by rw[Ty.av,t.cells_eq];rfl
@[simp] theorem fp(f:Fun):aa f.av=[.str f.name,.bool f.pub,di f.params,.int .i64 f.result.kind,di f.result.fields,.int .i64 f.effects,.int .i64 f.body.op,.int .i64 f.body.n,.str f.body.s,.str f.body.m,strs f.body.names,cb f.body.args]:=by
 simp[Fun.av,aa,Ty.cells_eq,Exp.cells_eq,di]
@[simp] theorem gd(m:Mod):aa m.av=[.str m.name,strs m.uses,di m.vars,cb m.init,kp m.funcs,.bool m.moves,di m.old,cb m.forward,cb m.back]:=rfl
@[simp] theorem wN(v:Val):AV.agg [.int .i64 v.kind,.int .i64 v.n,strs v.names,vals v.values]=v.av:=(v.av_eq).symm
@[simp] theorem wI(e:Exp):AV.agg [.int .i64 e.op,.int .i64 e.n,.str e.s,.str e.m,strs e.names,cb e.args]=e.av:=by rw[Exp.av,e.cells_eq]
@[simp] theorem AH(t:Ty):AV.agg [.int .i64 t.kind,di t.fields]=t.av:=by rw[Ty.av,t.cells_eq]
@[simp] theorem wJ(f:ie):AV.agg [.str f.1,.int .i64 f.2.kind,di f.2.fields]=dW f:=(nv f).symm
@[simp] theorem ri(f:Fun):AV.agg [.str f.name,.bool f.pub,di f.params,.int .i64 f.result.kind,di f.result.fields,.int .i64 f.effects,.int .i64 f.body.op,.int .i64 f.body.n,.str f.body.s,.str f.body.m,strs f.body.names,cb f.body.args]=f.av:=by
 simp[Fun.av,Ty.cells_eq,Exp.cells_eq,di]
@[simp] theorem wK(m:Mod):AV.agg [.str m.name,strs m.uses,di m.vars,cb m.init,kp m.funcs,.bool m.moves,di m.old,cb m.forward,cb m.back]=m.av:=rfl
theorem eX{α:Type}(g:Nat->Nat->Nat->Nat->Bool->AV)(f:α->AV)(h:∀x,cl g (f x)=f x):(l:List α)->eV g (l.map f)=l.map f
 |[]=>rfl
 |x:: l=>by simp[eV,h x,eX g f h l]
@[simp] theorem nc(g:Nat->Nat->Nat->Nat->Bool->AV)(l:List bk):cl g (strs l)=strs l:=by
 simp[strs,cl,eX g AV.str (fun _=>rfl) l]
@[simp] theorem qh(g:Nat->Nat->Nat->Nat->Bool->AV)(l:List Int):cl g (ints l)=ints l:=by
 simp[ints,cl,eX g (AV.int .i64) (fun _=>rfl) l]
mutual
theorem Val.cl_av(g:Nat->Nat->Nat->Nat->Bool->AV):(v:Val)->cl g v.av=v.av
 |.mk k n ns vs=>by simp[Val.av,cl,eV,vL g vs]
theorem vL(g:Nat->Nat->Nat->Nat->Bool->AV):(l:List Val)->eV g (dP l)=dP l
 |[]=>rfl
 |v:: l=>by simp[dP,eV,Val.cl_av g v,vL g l]
end
mutual
theorem Exp.cl_cells(g:Nat->Nat->Nat->Nat->Bool->AV):(e:Exp)->eV g e.cells=e.cells
 |.mk o n s m ns es=>by simp[Exp.cells,cl,eV,qk g es]
theorem qk(g:Nat->Nat->Nat->Nat->Bool->AV):(l:List Exp)->eV g (hG l)=hG l
 |[]=>rfl
 |e:: l=>by simp[hG,eV,cl,Exp.cl_cells g e,qk g l]
end
mutual
theorem Ty.cl_cells(g:Nat->Nat->Nat->Nat->Bool->AV):(t:Ty)->eV g t.cells=t.cells
 |.mk k fs=>by simp[Ty.cells,cl,eV,ny g fs]
theorem ny(g:Nat->Nat->Nat->Nat->Bool->AV):(l:List (bk×Ty))->eV g (hP l)=hP l
 |[]=>rfl
 |f:: l=>by simp[hP,eV,Ey g f,ny g l]
theorem Ey(g:Nat->Nat->Nat->Nat->Bool->AV):(f:bk×Ty)->cl g (dW f)=dW f
 |(n,t)=>by simp[dW,cl,eV,Ty.cl_cells g t]
end
@[simp] theorem li(g:Nat->Nat->Nat->Nat->Bool->AV)(v:Val):cl g v.av=v.av:=v.cl_av g
@[simp] theorem qj(g:Nat->Nat->Nat->Nat->Bool->AV)(l:List Val):cl g (vals l)=vals l:=by simp[vals,cl,vL]
@[simp] theorem uA(g:Nat->Nat->Nat->Nat->Bool->AV)(e:Exp):cl g e.av=e.av:=by simp[Exp.av,cl,Exp.cl_cells]
@[simp] theorem Gs(g:Nat->Nat->Nat->Nat->Bool->AV)(l:List Exp):cl g (cb l)=cb l:=by simp[cb,cl,qk]
@[simp] theorem M8(g:Nat->Nat->Nat->Nat->Bool->AV)(t:Ty):cl g t.av=t.av:=by simp[Ty.av,cl,Ty.cl_cells]
@[simp] theorem MN(g:Nat->Nat->Nat->Nat->Bool->AV)(f:ie):cl g (dW f)=dW f:=Ey g f
@[simp] theorem Ma(g:Nat->Nat->Nat->Nat->Bool->AV)(l:List ie):cl g (di l)=di l:=by simp[di,cl,ny]
theorem qQ(g:Nat->Nat->Nat->Nat->Bool->AV):(a b:List AV)->eV g (a++b)=eV g a++eV g b
 |[],b=>rfl
 |x:: a,b=>by simp[eV,qQ g a b]
@[simp] theorem yU(g:Nat->Nat->Nat->Nat->Bool->AV)(f:Fun):cl g f.av=f.av:=by
 simp[Fun.av,cl,eV,qQ,ny,Ty.cl_cells,Exp.cl_cells]
@[simp] theorem Gt(g:Nat->Nat->Nat->Nat->Bool->AV)(l:List Fun):cl g (kp l)=kp l:=by simp[kp,cl,eX g Fun.av (yU g)]
@[simp] theorem Jj(g:Nat->Nat->Nat->Nat->Bool->AV)(m:Mod):cl g m.av=m.av:=by
 simp[Mod.av,cl,eV,ny,qk,Gt]
@[simp] theorem ix(g:Nat->Nat->Nat->Nat->Bool->AV)(l:List Mod):cl g (mods l)=mods l:=by simp[mods,cl,eX g Mod.av (Jj g)]
@[simp] theorem uB(g:Nat->Nat->Nat->Nat->Bool->AV)(k:IntKind)(n:Int):cl g (.int k n)= .int k n:=rfl
@[simp] theorem L9(g:Nat->Nat->Nat->Nat->Bool->AV)(b:Bool):cl g (.bool b)= .bool b:=rfl
@[simp] theorem yV(g:Nat->Nat->Nat->Nat->Bool->AV)(s:bk):cl g (.str s)= .str s:=rfl
@[simp] theorem Gu(g:Nat->Nat->Nat->Nat->Bool->AV)(v:Vars):cl g v.av=v.av:=by simp[Vars.av,cl,eV]
@[simp] theorem Gr(g:Nat->Nat->Nat->Nat->Bool->AV)(v:Deed):cl g v.av=v.av:=by simp[Deed.av,cl,eV]
@[simp] theorem qg(g:Nat->Nat->Nat->Nat->Bool->AV)(v:Call):cl g v.av=v.av:=by simp[Call.av,cl,eV]
@[simp] theorem Ll(g:Nat->Nat->Nat->Nat->Bool->AV)(l:List Vars):cl g (sC l)=sC l:=by simp[sC,cl,eX g Vars.av (Gu g)]
@[simp] theorem Lj(g:Nat->Nat->Nat->Nat->Bool->AV)(l:List Deed):cl g (deeds l)=deeds l:=by simp[deeds,cl,eX g Deed.av (Gr g)]
@[simp] theorem D8(g:Nat->Nat->Nat->Nat->Bool->AV)(l:List Call):cl g (calls l)=calls l:=by simp[calls,cl,eX g Call.av (qg g)]
@[simp] theorem MO(g:Nat->Nat->Nat->Nat->Bool->AV)(o:Out):cl g o.av=o.av:=by simp[Out.av,cl,eV]
@[simp] theorem po(v:Vars):aa v.av=[.str v.module,vals v.values]:=rfl
@[simp] theorem pm(v:Deed):aa v.av=[.int .i64 v.effect,.int .i64 v.arg,.int .i64 v.answer]:=rfl
@[simp] theorem pk(v:Call):aa v.av=[.str v.module,.str v.func,vals v.args]:=rfl
@[simp] theorem qC(o:Out):aa o.av=[.int .i64 o.err,.int .i64 o.value.kind,.int .i64 o.value.n,strs o.value.names,vals o.value.values,deeds o.deeds,calls o.calls,sC o.state]:=rfl
@[simp] theorem tz(v:Vars):AV.agg [.str v.module,vals v.values]=v.av:=rfl
@[simp] theorem tw(v:Deed):AV.agg [.int .i64 v.effect,.int .i64 v.arg,.int .i64 v.answer]=v.av:=rfl
@[simp] theorem tv(v:Call):AV.agg [.str v.module,.str v.func,vals v.args]=v.av:=rfl
@[simp] theorem wL(o:Out):AV.agg [.int .i64 o.err,.int .i64 o.value.kind,.int .i64 o.value.n,strs o.value.names,vals o.value.values,deeds o.deeds,calls o.calls,sC o.state]=o.av:=rfl
@[simp] theorem KQ(v:Vars):cM v.av=some 2:=rfl
@[simp] theorem KO(v:Deed):cM v.av=some 3:=rfl
@[simp] theorem KN(v:Call):cM v.av=some 3:=rfl
@[simp] theorem LY(v:Out):cM v.av=some 8:=rfl
@[simp] theorem tT(v:Vars):cE 2 v.av=true:=by simp[cE,bh,vals]
@[simp] theorem lU(v:Deed):cE 3 v.av=true:=by simp[cE,bh]
@[simp] theorem tS(v:Call):cE 3 v.av=true:=by simp[cE,bh,vals]
@[simp] theorem xJ(v:Out):cE 8 v.av=true:=by simp[cE,bh,vals,strs,deeds,calls,sC]
def Clean(a:AV):Prop:=∀g,cl g a=a
def Clean.frz{a:AV}(h:Clean a)(d:Nat)(hp:Hp):oH d hp a=a:=by
 cases d with
 |zero=>exact h _
 |succ d=>exact h _
def bb{a:AV}(h:Clean a):aH (M.pure a)=M.pure a:=by
 funext hp;simp only[aH,M.pure,h.frz]
@[simp] theorem lS(b:Bool):aH (M.pure (.bool b))=M.pure (.bool b):=bb fun _=>rfl
@[simp] theorem de(k:IntKind)(n:Int):aH (M.pure (.int k n))=M.pure (.int k n):=bb fun _=>rfl
@[simp] theorem LJ(s:bk):aH (M.pure (.str s))=M.pure (.str s):=bb fun _=>rfl
@[simp] theorem EM(v:Val):aH (M.pure v.av)=M.pure v.av:=bb fun g=>li g v
@[simp] theorem KC(v:List Val):aH (M.pure (vals v))=M.pure (vals v):=bb fun g=>qj g v
@[simp] theorem LG(v:Exp):aH (M.pure v.av)=M.pure v.av:=bb fun g=>uA g v
@[simp] theorem LH(v:Fun):aH (M.pure v.av)=M.pure v.av:=bb fun g=>yU g v
@[simp] theorem L0(v:Val):cM v.av=some 4:=by rw[v.av_eq];rfl
@[simp] theorem LU(e:Exp):cM e.av=some 6:=by rw[Exp.av,e.cells_eq];rfl
@[simp] theorem LV(f:ie):cM (dW f)=some 3:=by rw[nv];rfl
@[simp] theorem Mc(t:Ty):cM t.av=some 2:=by rw[Ty.av,t.cells_eq];rfl
@[simp] theorem LW(f:Fun):cM f.av=some 12:=by simp[Fun.av,cM,Ty.cells_eq,Exp.cells_eq]
@[simp] theorem LX(m:Mod):cM m.av=some 9:=rfl
@[simp] theorem eA(v:Val):cE 4 v.av=true:=by simp[cE,bh,strs,vals]
@[simp] theorem lC(e:Exp):cE 6 e.av=true:=by simp[cE,bh,strs,cb]
@[simp] theorem nR(f:ie):cE 3 (dW f)=true:=by simp[cE,bh,di]
@[simp] theorem jY(f:Fun):cE 12 f.av=true:=by simp[cE,bh,di,strs,cb]
@[simp] theorem rV(m:Mod):cE 9 m.av=true:=by simp[cE,bh,di,strs,cb,kp]
@[simp] theorem Fb(s:bk):cE 1 (.str s)=true:=rfl
@[simp] theorem Fa(k:IntKind)(n:Int):cE 1 (.int k n)=true:=rfl
def eb{α:Type}{sz:Nat}{f:α->AV}(h:∀x,cE sz (f x)=true)(l:List α):dw sz (l.map f)=true:=by simp[dw,h]
@[simp] theorem KL(l:List bk):dw 1 (l.map AV.str)=true:=eb Fb l
@[simp] theorem Cj(l:List Int):dw 1 (l.map (AV.int .i64))=true:=eb (Fa .i64) l
@[simp] theorem Ck(l:List Val):dw 4 (dP l)=true:=by rw[eu];exact eb eA l
@[simp] theorem KF(l:List Exp):dw 6 (hG l)=true:=by rw[eO];exact eb lC l
@[simp] theorem KG(l:List ie):dw 3 (hP l)=true:=by rw[iT];exact eb nR l
@[simp] theorem KH(l:List Fun):dw 12 (l.map Fun.av)=true:=eb jY l
@[simp] theorem KI(l:List Mod):dw 9 (l.map Mod.av)=true:=eb rV l
def ry{T:TT}{t e:Nat}{ti ei:TI}(ht:T t=some ti)(hk:ti.kind= .slice e)(he:T e=some ei){α:Type}{f:α->AV}(hs:∀x,cM (f x)=some ei.size){l:List α}{i:Nat}{x:α}(h:l[i]? = some x):
  ak T t (.sl (l.map f)) (.int .i64 (i:Int))=some (.ip (aa (f x))):=by
 unfold ak;rw[ht];simp only[hk,he];rw[if_neg (by omega)];have:(l.map f)[(i:Int).toNat]? = some (f x):=by rw[PI,Ou,h];rfl
 rw[this];simp only;rw[NE (hs x)]
def ca{T:TT}{t e:Nat}{ti ei:TI}(ht:T t=some ti)(hk:ti.kind= .slice e)(he:T e=some ei){α:Type}[Inhabited α]{f:α->AV}(hs:∀x,cM (f x)=some ei.size){l:List α}{n:Int}(h0:0<=n)(h:n<(l.length:Int)):
  ak T t (.sl (l.map f)) (.int .i64 n)=some (.ip (aa (f l[n.toNat]!))):=by
 have hlt:n.toNat<l.length:=by omega
 have:=ry ht hk he hs (l:=l) (i:=n.toNat) (x:=l[n.toNat]!) (by rw[List.getElem!_eq_getElem?_getD,NH hlt];rfl)
 rw[show ((n.toNat:Nat):Int)=n by omega]at this;exact this
def kZ{T:TT}{t e:Nat}{ti ei:TI}(ht:T t=some ti)(hk:ti.kind= .slice e)(he:T e=some ei){α:Type}{f:α->AV}(hs:∀x,cE ei.size (f x)=true){a b:List α}(h:(a.length+b.length)*ei.bytes<=140737488355328)(h0:0<ei.bytes):
  ck T t (.sl (a.map f)) (.sl (b.map f))=some (.sl ((a++b).map f)):=by
 unfold ck;rw[ht];simp only[hk,he,iQ];rw[eb hs,eb hs];simp[h,h0,kO]
end Go.Av.Ap
namespace Go.Av
open Go.RowKit Go.Sort Go.Proofs
section
variable [Dr]
theorem Left.grew(hd:Dr.on){S S':aE}{β β':List bT}{w w':World}{h':Hp}(L:Left (ct [] []) S β w S' β' w' h'):∃q os,w'=grow (w.drewN q) os:=by
 have hg:=L.gro;have hd:=hg.cnt hd;have hk:∀b,b<w.heap.size->w'.heap[b]? = w.heap[b]?:=fun b hb=>(L.keep b hb (by rintro⟨l,_,_,h1,_⟩;simp at h1)).1;refine⟨w'.drawn-w.drawn,w'.heap.extract w.heap.size w'.heap.size,?_⟩;have e1:w.heap++w'.heap.extract w.heap.size w'.heap.size=w'.heap:=by
  apply QC;intro i;by_cases hi:i<w.heap.size
  ·rw[PH hi,hk i hi]
  ·rw[Array.getElem?_append_right (by omega),Array.getElem?_extract];split
   ·rw[show w.heap.size+(i-w.heap.size)=i by omega]
   ·rw[OI (by omega)]
 have e2:w.drawn+(w'.drawn-w.drawn)=w'.drawn:=by omega
 obtain⟨h1,h2,h3,h4,h5⟩:=w';obtain⟨g1,g2,g3,g4,g5⟩:=w;have a1:=hg.os;have a2:=hg.out;have a3:=hg.tape;simp only at a1 a2 a3 e1 e2;unfold grow World.drewN;simp only[e1,e2,a1,a2,a3]
end
theorem lp{α β:Type}(f:α->List β)(k:Nat)(hk:∀x,(f x).length=k)(hp:0<k):∀(l:List α)(t:Nat),(l.map f).flatten[t]? = (l[t / k]?).bind fun x=>(f x)[t % k]?
 |[],t=>by simp
 | x:: l,t=>by
  simp only[N8,PK];by_cases h:t<k
  ·rw[NJ (by rw[hk];exact h),Nat.div_eq_of_lt h,Nat.mod_eq_of_lt h];simp
  ·rw[N9 (by rw[hk];omega),hk,lp f k hk hp l (t-k)];rw[Nat.div_eq_sub_div hp (by omega:k<=t),Nat.mod_eq_sub_mod (by omega:k<=t)];simp
theorem pH{α β:Type}(f:α->List β)(k:Nat)(hk:∀x,(f x).length=k):∀(l:List α),(l.map f).flatten.length=l.length*k
 |[]=>by simp
 |x:: l=>by simp only[N8,PK,N3,hk,pH f k hk l,Of,Nat.succ_mul];omega
section
variable {α:Type} [Inhabited α]
theorem ko(enc:α->List Value)(k:Nat)(hk:∀x,(enc x).length=k)(hp:0<k)(d:Array α):(flatK enc k d).toList=(d.toList.map enc).flatten:=by
 apply Pt;intro t;rw[lp enc k hk hp];by_cases ht:t<d.size*k
 ·have hd:t / k<d.size:=by rw[Nat.div_lt_iff_lt_mul hp];exact ht
  have hm:t % k<k:=Nat.mod_lt _ hp;have h1:=get_flatK enc k d t ht;rw[ND (flatK enc k d) t (by rw[size_flatK];exact ht),ND d _ hd,ND (enc _) _ (by rw[hk];exact hm)]at h1;rw[NH (by simpa using ht),Array.getElem_toList,h1,Oe,Og hd];simp only[PT];rw[NH (by rw[hk];exact hm)]
 ·rw[NX (by simp only[OD,size_flatK];omega),NX (by simp only[OD];rw[Nat.le_div_iff_mul_le hp];omega)];rfl
theorem sV(F x:Array Value)(off:Nat)(hf:off+F.size<=x.size):putCells id off F x=(x.toList.take off++F.toList++x.toList.drop (off+F.size)).toArray:=by
 apply QC;intro t;unfold putCells;simp only[Array.getElem?_mapIdx,OO];by_cases h1:t<off
 ·rw[NJ (by simp;omega),NJ (by simp;omega),N0,NE h1,Oe,Og (by omega)];simp only[Oo];rw[if_neg (by omega)]
 ·by_cases h2:t<off+F.size
  ·rw[NJ (by simp;omega),N9 (by simp;omega)];have e:(x.toList.take off).length=off:=by simp;omega
   rw[e,Og (by omega:t<x.size),Oe,Og (by omega:t-off<F.size)];simp only[Oo,id];rw[NE ⟨by omega,h2⟩,ND F _ (by omega)]
  ·have e:(x.toList.take off++F.toList).length=off+F.size:=by simp;omega
   rw[N9 (by rw[e];omega),e,OL,Oe,show off+F.size+(t-(off+F.size))=t by omega];cases x[t]? with
   |none=>rfl
   |some y=>simp only[Oo];rw[if_neg (by omega)]
theorem yh{w:World}{b:Nat}{x:Array Value}(hr:Row w b x)(enc:α->List Value)(k off n:Nat)(d:Array α)(os:Array Obj)(hf:off+d.size*k<=x.size):
  Row (sortWorldK enc k w b off n d os) b (x.toList.take off++(flatK enc k d).toList++x.toList.drop (off+(flatK enc k d).size)).toArray:=by
 have hlt:=hr.lt;obtain⟨e,he⟩:=hr;refine⟨e,?_⟩;rw[<- sV (flatK enc k d) x off (by rw[size_flatK];exact hf)];show ((w.heap.modify b (onCells (putCells id off (flatK enc k d))))++os)[b]? = _;rw[PH (by simpa using hlt),P3,NE rfl,he];rfl
theorem m5{w:World}{b b':Nat}(enc:α->List Value)(k off n:Nat)(d:Array α)(os:Array Obj)(hlt:b'<w.heap.size)(hb:b'≠b):(sortWorldK enc k w b off n d os).heap[b']? = w.heap[b']?:=by
 show ((w.heap.modify b (onCells (putCells id off (flatK enc k d))))++os)[b']? = _;rw[PH (by simpa using hlt),P3,if_neg (fun h=>hb h.symm)]
theorem yg[Dr]{w:World}{b:Nat}(enc:α->List Value)(k off n:Nat)(d:Array α)(os:Array Obj):Gro w (sortWorldK enc k w b off n d os):=by
 refine⟨?_,rfl,rfl,rfl,fun _=>?_⟩
 ·show _<=((w.heap.modify b (onCells (putCells id off (flatK enc k d))))++os).size;simp
 ·show w.drawn<=w.drawn+n;omega
end
section
variable [Dr] {S:aE} {β:List bT} {h:Hp} {w w':World}
theorem ER(hw:Wf S w)(hh:da S β w h){l b nb off:Nat}{cs acs:List AV}{vs:List Value}(hcs:h[l]? = some cs)(hne:cs≠[])(hb:β[l]? = some (b,nb))(hb0:nb≠0)(hvs:bC S β acs vs)(hle:off+acs.length<=cs.length)(hoc:cs.all bh=true)(hoa:acs.all bh=true)(hg:Gro w w')(hr:∀x,Row w b x->cs.length<=x.size->Row w' b (x.toList.take off++vs++x.toList.drop (off+vs.length)).toArray)(ho:∀b',b'<w.heap.size->b'≠b->w'.heap[b']? = w.heap[b']?):
  Left (ct β h) S β w S β w' (h.set l (setCells cs off acs)):=by
 obtain⟨hlen,ω,hH⟩:=hh;obtain⟨z,j1,j2,j3,j4,j5⟩:=eE.cells hH hcs hne hb hb0;rw[hb]at j1;cases j1;have hvl:=hvs.length;have hzs:cs.length<=z.size:=by
  have:=j4.length
  simp at this;omega
 have hrow:=hr z j2 hzs;have hll:l<h.length:=by
  rcases N7 l h.length with k|k
  ·exact k
  ·rw[NX k]at hcs;cases hcs
 have hown:∀b',ct β (h.set l (setCells cs off acs)) b'->ct β h b':=by
  rintro b' ⟨l',cs',n,k1,k2,k3⟩;by_cases hl:l'=l
  ·subst hl;exact⟨l',cs,n,hcs,hne,k3⟩
  ·rw[OW (fun e=>hl e.symm)]at k1;exact⟨l',cs',n,k1,k2,k3⟩
 refine⟨aE.le_refl S,fm.refl β,fun b' o v hv=>?_,hg,fun b' hb' hE=>?_,⟨by simpa using hlen,ω,eE.rows hH (aE.le_refl S) (fm.refl β) hlen fun l' cs' hl' hne'=>?_⟩,fun b' hb'=>.inl (hown b' hb')⟩
 ·have hne2:b'≠b:=by rintro rfl;rw[j5]at hv;cases hv
  rw[cell_of_heap (ho b' (hw.lt hv) hne2)];exact hw b' o v hv
 ·have hne2:b'≠b:=by rintro rfl;exact hE ⟨l,cs,_,hcs,hne,hb⟩
  exact⟨ho b' hb' hne2,fun _=>rfl⟩
 ·by_cases hl:l'=l
  ·subst hl;rw[OZ hll]at hl';cases hl';refine .inr ⟨b,_,?_,hrow,j3,?_,j5,fun t ht=>?_⟩
   ·rw[hb];simp;omega
   ·rw[fj _ _ _ (by omega)];have hsp:bC S β (setCells cs off acs) (((z.toList.take cs.length).take off++vs++(z.toList.take cs.length).drop (off+vs.length))):=by
     unfold setCells;rw[hvl];exact ((j4.take off).append hvs).append (j4.drop _)
    have heq:(z.toList.take off++vs++z.toList.drop (off+vs.length)).take cs.length=
      (z.toList.take cs.length).take off++vs++(z.toList.take cs.length).drop (off+vs.length):=by
     rw[Py,Py];have e1:(z.toList.take off).length=off:=by simp;omega
     rw[PR,PR];have e2:min cs.length off=off:=by omega
     have e3:min off cs.length=off:=by omega
     rw[e2,e3,e1];have e4:vs.take (cs.length-off)=vs:=OY (by omega);rw[e4];congr 1;rw[Q2,N3,e1];congr 2;omega
    show bC S β _ (List.take _ _);rw[show (z.toList.take off++vs++z.toList.drop (off+vs.length)).toArray.toList=(z.toList.take off++vs++z.toList.drop (off+vs.length))from rfl,heq];exact hsp
   ·rcases ht.setCells with g|g
    ·exact absurd g (jV hoc t)
    ·exact absurd g (jV hoa t)
  ·rw[OW (fun e=>hl e.symm)]at hl';refine .inl ⟨hl',fun b2 hlt hω=>⟨hω,ho b2 hlt ?_,fun o=>id⟩⟩;rintro rfl;rw[j3]at hω;cases hω;exact hl rfl
end
structure Els (α:Type) where
 k:Nat
 ea:α->List AV
 ev:α->List Value
 dec:List AV->Option (List α)
structure ElsOK {α:Type} (X:Els α):Prop where
 pos:0<X.k
 la:∀x,(X.ea x).length=X.k
 lv:∀x,(X.ev x).length=X.k
 one:∀x,∀v∈X.ev x,v.oneCell'=true
 vr:∀(S:aE)(β:List bT)(x:α),bC S β (X.ea x) (X.ev x)
 rv:∀(S:aE)(β:List bT)(x:α)(vs:List Value),bC S β (X.ea x) vs->vs=X.ev x
 dec:∀cs l,X.dec cs=some l->cs=(l.map X.ea).flatten
theorem ElsOK.flat{α:Type}{X:Els α}(hX:ElsOK X)(S:aE)(β:List bT):∀l:List α,bC S β (l.map X.ea).flatten (l.map X.ev).flatten
 |[]=>by simp[bC]
 |x:: l=>by simp only[N8,PK];exact (hX.vr S β x).append (hX.flat S β l)
theorem NA{S:aE}{β:List bT}:{ps qs:List AV} ->{vs:List Value} ->bC S β (ps++qs) vs->∃u v,vs=u++v/\bC S β ps u/\bC S β qs v
 |[],_,vs,h=>⟨[],vs,rfl,by simp[bC],h⟩
 |_:: ps,qs,vs,h=>by
  simp only[Ob,bC]at h;obtain⟨x,xs,rfl,h1,h2⟩:=h;obtain⟨u,v,rfl,h3,h4⟩:=NA h2;exact⟨x:: u,v,rfl,by simp only[bC];exact⟨x,u,rfl,h1,h3⟩,h4⟩
theorem ElsOK.unflat{α:Type}{X:Els α}(hX:ElsOK X){S:aE}{β:List bT}:∀(l:List α)(vs:List Value),bC S β (l.map X.ea).flatten vs->vs=(l.map X.ev).flatten
 |[],vs,h=>by simpa [bC]using h
 |x:: l,vs,h=>by
  simp only[N8,PK]at h|-;obtain⟨u,v,rfl,h1,h2⟩:=NA h;rw[hX.rv S β x u h1,hX.unflat l v h2]
def mi{α:Type}(X:Els α)(g:Nat)(srt:List α->List α):(FuncId->List AV->M AV)->List AV->M AV:=fun _ args h=>match args with
 |[.sl [],.fn (.func g') [] []]=>bif Nat.beq g' g then .ok (.tup []) h else .fail
 | [.hs l off len sz _,.fn (.func g') [] []]=>match h[l]? with
  |none=>.fail
  |some cs=>match X.dec ((cs.drop off).take (len*X.k))with
   |none=>.fail
   | some xs=>bif Nat.beq g' g&&Nat.beq sz X.k&&decide (0<len)&&decide (off+len*X.k<=cs.length)&&decide (xs.length=len)&&decide (len<4611686018427387904)&&decide ((srt xs).length=len)&&cs.all bh&&((srt xs).map X.ea).flatten.all bh
     then .ok (.tup []) (h.set l (setCells cs off ((srt xs).map X.ea).flatten))else .fail
 |_=>.fail
section
variable [Dr] {α:Type} [Inhabited α] {P:Program}
theorem Ho{X:Els α}(hX:ElsOK X){f g:Nat}{srt:List α->List α}(call:FuncId->List AV->M AV)
  (hcal:∀(w:World)(blk off cap:Nat)(d:Array α),kU w->gN<=blk->HoldsK X.ev X.k w blk off d->blk<w.heap.size->d.size<4611686018427387904->
   Calls P f #[.slice (some ⟨blk,off,none⟩) d.size cap,.func (.func g) #[] #[]] w fun e w'=>e= .returned (.tuple #[])/\∃n os,w'=sortWorldK X.ev X.k w blk off n (srt d.toList).toArray os)
  {l off len sz g':Nat} {ag:Bool} {h:Hp} {S:aE} {β:List bT} {w:World} {vs:List Value} (hr:mi X g srt call [.hs l off len sz ag,.fn (.func g') [] []] h≠.fail) (hg:yD β h w) (hw:Wf S w) (hh:da S β w h)
  (hv:bC S β [.hs l off len sz ag,.fn (.func g') [] []] vs):Calls P f vs.toArray w (fc none S β h w (mi X g srt call [.hs l off len sz ag,.fn (.func g') [] []] h)):=by
 unfold mi at hr |-;simp only at hr |-;cases hl:h[l]? with
 |none=>rw[hl]at hr;exact absurd rfl hr
 | some cs=>
  rw[hl]at hr;simp only at hr |-;cases hd:X.dec ((cs.drop off).take (len*X.k))with
  |none=>rw[hd]at hr;exact absurd rfl hr
  | some xs=>
   rw[hd]at hr;simp only at hr |-;cases hc:(Nat.beq g' g&&Nat.beq sz X.k&&decide (0<len)&&decide (off+len*X.k<=cs.length)&&decide (xs.length=len)&&decide (len<4611686018427387904)&&decide ((srt xs).length=len)&&cs.all bh&&((srt xs).map X.ea).flatten.all bh)with
   |false=>rw[hc]at hr;exact absurd rfl hr
   | true=>
    simp only[NG,Oa]at hc;obtain⟨⟨⟨⟨⟨⟨⟨⟨c1,c2⟩,c3⟩,c4⟩,c5⟩,c6⟩,c7⟩,c8⟩,c9⟩:=hc;obtain rfl:=NR c1;obtain rfl:=NR c2;simp only[NF];have hpos:=hX.pos;have hlk:0<len*X.k:=PQ c3 hpos;have hne:cs≠[]:=by rintro rfl;simp at c4;omega
    simp only[bC]at hv;obtain⟨v1,r1,rfl,hv1,v2,r2,rfl,hv2,rfl⟩:=hv;obtain⟨⟨b,nb⟩,cap,hb,hb0,rfl,k1,k2⟩:=hv1.hs_pos c3;simp only[VR,bC]at hv2;obtain⟨y1,y2,rfl,rfl,rfl⟩:=hv2;have hh':=hh;obtain⟨hlen,ω,hH⟩:=hh;obtain⟨z,j1,j2,j3,j4,j5⟩:=eE.cells hH hl hne hb hb0;rw[hb]at j1;cases j1;have hzs:cs.length<=z.size:=by
     have:=j4.length
     simp at this;omega
    have hown:ct β h b:=⟨l,cs,_,hl,hne,hb⟩;have hgb:gN<=b:=by
     rcases N7 b gN with k|k
     ·exact absurd hown (hg.2 b k)
     ·exact k
    have hxs:=hX.dec _ _ hd;have hvx:=hX.unflat (S:=S) (β:=β) xs _ (by rw[<- hxs];exact (j4.drop off).take (len*X.k));have hflat:=ko X.ev X.k hX.lv hpos xs.toArray;have hsz:(flatK X.ev X.k xs.toArray).size=len*X.k:=by rw[size_flatK];simp[c5]
    have hholds:HoldsK X.ev X.k w b off xs.toArray:=by
     intro j hj;rw[hsz]at hj;have e1:(flatK X.ev X.k xs.toArray)[j]! = z[off+j]'(by omega):=by
      have h1:(flatK X.ev X.k xs.toArray).toList[j]? = z.toList[off+j]?:=by
       rw[hflat,show xs.toArray.toList=xs from rfl,<- hvx,N0,NE hj,OL,N0,NE (by omega)]
      rw[Oe,Oe,Og (by omega),Og (by omega)]at h1;rw[ND _ j (by omega)];exact QZ h1
     rw[e1];refine⟨by rw[j2.cell,Og (by omega)];rfl,?_⟩;obtain⟨e,he⟩:=j2;simp[World.frozen?,he]
    have hcall:=hcal w b off cap xs.toArray hg.1 hgb hholds j2.lt (by simpa [c5]using c6);rw[show xs.toArray.size=len by simp[c5]]at hcall;refine hcall.mono ?_;rintro e w' ⟨rfl,n,os,rfl⟩;have hfl2:=ko X.ev X.k hX.lv hpos (srt xs).toArray;have hs2:(flatK X.ev X.k (srt xs).toArray).size=len*X.k:=by rw[size_flatK];simp[c7]
    have hal:((srt xs).map X.ea).flatten.length=len*X.k:=by rw[pH X.ea X.k hX.la,c7]
    refine⟨S,β,_,rfl,by simp only[VR,bC];exact⟨[],rfl,rfl⟩,ER (vs:=(flatK X.ev X.k (srt xs).toArray).toList) hw hh' hl hne hb hb0 (by rw[hfl2];exact hX.flat S β (srt xs)) (by rw[hal];exact c4) c8 c9 (yg X.ev X.k off n _ os) (fun x hx hle=>?_) (fun b' hlt hne2=>m5 X.ev X.k off n _ os hlt hne2),fun _ hsz=>by cases hsz⟩
    have:=yh hx X.ev X.k off n (srt xs).toArray os (by simp only[OQ,c7];omega)
    exact this
end
end Go.Av
namespace Go.Av.Ap
open Go Go.Av
abbrev aG:=bk×bk
def bp(r:aG):AV:=.agg [.str r.1,.str r.2]
def aI(l:List aG):AV:=.sl (l.map bp)
def zQ(l:List (List aG)):AV:=.sl (l.map aI)
@[simp] theorem ej(r:aG):aa (bp r)=[.str r.1,.str r.2]:=rfl
@[simp] theorem jP(r:aG):AV.agg [.str r.1,.str r.2]=bp r:=rfl
@[simp] theorem iX(r:aG):cE 2 (bp r)=true:=rfl
@[simp] theorem tU(l:List aG):dw 2 (l.map bp)=true:=eb iX l
@[simp] theorem mE(g:Nat->Nat->Nat->Nat->Bool->AV)(r:aG):cl g (bp r)=bp r:=rfl
@[simp] theorem qi(g:Nat->Nat->Nat->Nat->Bool->AV)(l:List aG):cl g (aI l)=aI l:=by simp[aI,cl,eX g bp (mE g)]
@[simp] theorem Lk(g:Nat->Nat->Nat->Nat->Bool->AV)(l:List (List aG)):cl g (zQ l)=zQ l:=by simp[zQ,cl,eX g aI (qi g)]
section
variable {V:Type}
def gU:List (aG×V)->aG->V->List (aG×V)
 |[],k,v=>[(k,v)]
 |x:: r,k,v=>if x.1=k then(k,v):: r else x:: gU r k v
def fu:List (aG×V)->aG->Option V
 |[],_=>none
 |x:: r,k=>if x.1=k then some x.2 else fu r k
def ee(f:V->AV)(x:aG×V):AV:=.tup [bp x.1,f x.2]
def mQ(m:bk)(l:List (bk×V))(out:List (aG×V)):List (aG×V):=l.foldr (fun f o=>gU o (m,f.1) f.2) out
def jw:List (bk×List (bk×V))->List bk->List (aG×V)->List (aG×V)
 |[],_,out=>out
 |m:: ms,seen,out=>if m.1∈seen then jw ms seen out else jw ms (seen++[m.1]) (mQ m.1 m.2 out)
end
def wR:AV->Option (bk×AV)
 |.agg [.str s,.bool p,.sl l,.int .i64 k,.sl fs,.int .i64 e,.int .i64 o,.int .i64 n,.str a,.str b,.sl ns,.sl es]=>some (s,.agg [.str s,.bool p,.sl l,.int .i64 k,.sl fs,.int .i64 e,.int .i64 o,.int .i64 n,.str a,.str b,.sl ns,.sl es])
 |_=>none
def zD:AV->Option (bk×List (bk×AV))
 |.agg [.str s,.sl _,.sl _,.sl _,.sl fs,.bool _,.sl _,.sl _,.sl _]=>(fs.mapM wR).map fun l=>(s,l)
 |_=>none
def rA:(FuncId->List AV->M AV)->List AV->M AV:=fun _ args h=>match args with
 |[.sl ms]=>(match ms.mapM zD with
  |some l=>if l.length<=1000000/\∀m∈l,m.2.length<=1000000 then .ok (.mp h.length) (h++[[.tup ((jw l [] []).map (ee id))]])else .fail
  |none=>.fail)
 |_=>.fail
def m8(a b:aG):Bool:=bQ a.1 b.1||(a.1== b.1&&bQ a.2 b.2)
def rF(a b:aG):Bool:=!(m8 b a)
def rB(x:aG):List aG->List aG
 |[]=>[x]
 |y:: l=>if rF x y=true then x:: y:: l else y:: rB x l
def cP:List aG->List aG
 |[]=>[]
 |x:: l=>rB x (cP l)
def xj:AV->Option aG
 |.tup [.agg [.str a,.str b],_]=>some (a,b)
 |_=>none
def oc(gs:List Nat)(o:Nat):(FuncId->List AV->M AV)->List AV->M AV:=fun _ args h=>match args with
 | [.fn (.func g) [] [.ip [x]],.fn (.func o') [] []]=>bif eI gs g&&Nat.beq o o' then
   (match jj h x with
   |some es=>(match es.mapM xj with
    |some ks=>if ks.length<=1000000 then .ok (aI (cP ks)) h else .fail
    |none=>.fail)
   |none=>.fail)else .fail
 |_=>.fail
def qS(x y:aG):Int:=if m8 x y=true then -1 else if m8 y x=true then 1 else 0
def mG:List AV->Option (List aG)
 |[]=>some []
 |.str a:: .str b:: r=>match mG r with
  |some l=>some ((a,b):: l)
  |none=>none
 |_=>none
def FJ(s:bk):Value:=.string ⟨s.toArray⟩
def px(r:aG):List AV:=[.str r.1,.str r.2]
def dq(r:aG):List Value:=[FJ r.1,FJ r.2]
def dM:Els aG:=⟨2,px,dq,mG⟩
def str_eq{x:ByteArray}{s:bk}(h:x.data.toList=s):Value.string x=FJ s:=by
 unfold FJ;congr 1;exact ByteArray.ext (PM (by rw[h]))
def BL:∀(cs:List AV)(l:List aG),mG cs=some l->cs=(l.map px).flatten:=by
 intro cs
 fun_induction mG cs with
 |case1=>intro l h;cases h;rfl
 |case2 a b r l' h ih=>
  intro l hl;simp only[NB]at hl;subst hl;rw[ih l' h];rfl
 |case3 a b r h ih=>intro l hl;cases hl
 |case4=>intro l hl;cases hl
def za(l:List aG):mG (l.map px).flatten=some l:=by
 induction l with
 |nil=>rfl
 |cons x l ih=>
  simp only[N8,PK,px,Ob,N4,mG];rw[show (l.map px).flatten=(l.map fun r:aG=>_).flatten from rfl]at ih;rw[ih]
def oD:ElsOK dM where
 pos:=by decide
 la:=fun _=>rfl
 lv:=fun _=>rfl
 one:=fun x v hv=>by
  simp only[dM,dq,NP,OJ,Pz]at hv;rcases hv with rfl|rfl<;>rfl
 vr:=fun S β x=>by
  simp only[dM,px,dq,bC,VR,FJ];exact⟨_,_,rfl,⟨_,rfl,by simp⟩,_,_,rfl,⟨_,rfl,by simp⟩,rfl⟩
 rv:=fun S β x vs h=>by
  simp only[dM,px,bC,VR]at h;obtain⟨_,_,rfl,⟨a,rfl,ha⟩,_,_,rfl,⟨b,rfl,hb⟩,rfl⟩:=h;simp only[dM,dq,str_eq ha,str_eq hb]
 dec:=BL
open Go.RowKit Go.Sort Go.Proofs in
def gx(l:List aG):List aG:=(pdq (ltOf qS) l.toArray 0 l.toArray.size (Lib.bitLen l.toArray.size) true true).toList
def gV(o:Nat):(FuncId->List AV->M AV)->List AV->M AV:=fun call args h=>match args with
 |[.hn,.fn (.func o') [] []]=>bif Nat.beq o' o then .ok (.tup []) h else .fail
 |args=>mi dM o gx call args h
theorem fI:∀s:bk,bQ s s=false
 |[]=>rfl
 |a:: x=>by simp[bQ,fI x]
theorem m6:∀a b c:bk,bQ a b=true->bQ b c=true->bQ a c=true
 |_,[],_,h,_=>by simp[bQ]at h
 |_,_:: _,[],_,h=>by simp[bQ]at h
 |[],_:: _,_:: _,_,_=>rfl
 | a:: x,b:: y,c:: z,h1,h2=>by
  simp only[bQ,Ox,Oa,NG,Ol]at h1 h2 |-;rcases h1 with h1|⟨rfl,h1⟩
  ·rcases h2 with h2|⟨rfl,h2⟩
   ·exact .inl (UInt8.lt_trans h1 h2)
   ·exact .inl h1
  ·rcases h2 with h2|⟨rfl,h2⟩
   ·exact .inl h2
   ·exact .inr ⟨rfl,m6 x y z h1 h2⟩
theorem gW:∀a b:bk,bQ a b=false->a≠b->bQ b a=true
 |[],[],_,h=>absurd rfl h
 |[],_:: _,h,_=>by simp[bQ]at h
 |_:: _,[],_,_=>rfl
 | a:: x,b:: y,h,hn=>by
  simp only[bQ,P5,QW,Pq,Oh,Ox,Oa,NG,Ol]at h|-;by_cases hab:a=b
  ·subst hab;rcases h.2 with h2|h2
   ·exact absurd rfl h2
   ·exact .inr ⟨rfl,gW x y h2 (fun e=>hn (by rw[e]))⟩
  ·left;have h1:=h.1;rw[UInt8.not_lt]at h1;exact UInt8.lt_of_le_of_ne h1 (fun e=>hab e.symm)
def nL(a:aG):m8 a a=false:=by simp[m8,fI]
def uT{a b c:aG}(h1:m8 a b=true)(h2:m8 b c=true):m8 a c=true:=by
 simp only[m8,Ox,NG,Ol]at *;rcases h1 with h1|⟨e1,h1⟩<;>rcases h2 with h2|⟨e2,h2⟩
 ·exact .inl (m6 _ _ _ h1 h2)
 ·exact .inl (by rw[<- e2];exact h1)
 ·exact .inl (by rw[e1];exact h2)
 ·exact .inr ⟨by rw[e1,e2],m6 _ _ _ h1 h2⟩
def qm{a b:aG}(h:m8 a b=false)(hn:a≠b):m8 b a=true:=by
 simp only[m8,P5,Pq,Oh,Ox,NG,Ol]at *;by_cases e:a.1=b.1
 ·rcases h.2 with h2|h2
  ·exact absurd e h2
  ·exact .inr ⟨e.symm,gW _ _ h2 (fun e2=>hn (Prod.ext e e2))⟩
 ·exact .inl (gW _ _ h.1 e)
def xz{a b:aG}(h:m8 a b=true):m8 b a=false:=by
 cases hb:m8 b a with
 |false=>rfl
 |true=>have:=uT h hb;rw[nL]at this;cases this
def EP{a b c:aG}(h1:rF a b=true)(h2:rF b c=true):rF a c=true:=by
 simp only[rF,OK]at *;cases h3:m8 c a with
 |false=>rfl
 | true=>
  by_cases e:b=c
  ·subst e;rw[h3]at h1;cases h1
  ·have:=qm h2 (fun e'=>e e'.symm)
   have:=uT this h3
   rw[this]at h1;cases h1
def GR(a b:aG):(rF a b||rF b a)=true:=by
 simp only[rF,Ox,OK];cases h:m8 b a with
 |false=>exact .inl rfl
 |true=>exact .inr (xz h)
def EO{a b:aG}(h1:rF a b=true)(h2:rF b a=true):a=b:=by
 simp only[rF,OK]at *;by_cases e:a=b
 ·exact e
 ·have:=qm h2 e
  rw[this]at h1;cases h1
theorem mS(x:aG):∀l:List aG,(rB x l).Perm (x:: l)
 |[]=>.refl _
 |y:: l=>by
  simp only[rB];split
  ·exact .refl _
  ·exact ((mS x l).cons y).trans (.swap x y l)
theorem cN:∀l:List aG,(cP l).Perm l
 |[]=>.refl _
 |x:: l=>(mS x (cP l)).trans ((cN l).cons x)
theorem nE(x:aG):∀l:List aG,l.Pairwise (fun a b=>rF a b=true)->(rB x l).Pairwise fun a b=>rF a b=true
 |[],_=>by simp[rB]
 | y:: l,h=>by
  obtain⟨h1,h2⟩:=O5.1 h;simp only[rB];split
  ·rename_i hxy;refine O5.2 ⟨fun z hz=>?_,h⟩;rcases NP.1 hz with rfl|hz
   ·exact hxy
   ·exact EP hxy (h1 z hz)
  ·rename_i hxy;refine O5.2 ⟨fun z hz=>?_,nE x l h2⟩;rcases NP.1 ((mS x l).mem_iff.1 hz)with rfl|hz
   ·have:=GR y z
    rw[Ox]at this;exact this.resolve_right hxy
   ·exact h1 z hz
theorem fX:∀l:List aG,(cP l).Pairwise fun a b=>rF a b=true
 |[]=>.nil
 |x:: l=>nE x _ (fX l)
def su{l l':List aG}(hp:l.Perm l')(h:l.Pairwise fun a b=>rF a b=true)(h':l'.Pairwise fun a b=>rF a b=true):l=l':=
 hp.eq_of_pairwise (fun _ _ _ _ h1 h2=>EO h1 h2) h h'
def mj{l l':List aG}(hp:l.Perm l'):cP l=cP l':=
 su ((cN l).trans (hp.trans (cN l').symm)) (fX l) (fX l')
open Go.RowKit Go.Sort Go.Proofs in
def lT(x y:aG):ltOf qS x y=m8 x y:=by
 unfold ltOf qS;cases h:m8 x y with
 |true=>simp
 |false=>cases h2:m8 y x<;>simp
open Go.RowKit Go.Sort Go.Proofs in
def L4:SWO (ltOf qS) where
 irrefl:=fun x=>by rw[lT];exact nL x
 trans:=fun x y z h1 h2=>by rw[lT]at *;exact uT h1 h2
 ntrans:=fun x y z h1 h2=>by
  rw[lT]at *
  have:=EP (a:=z) (b:=y) (c:=x) (by simp[rF,h2]) (by simp[rF,h1])
  simpa [rF]using this
open Go.RowKit Go.Sort Go.Proofs in
def ue(l:List aG):(gx l).Perm l/\(gx l).Pairwise (fun a b=>rF a b=true):=by
 have h:=pdq_sorts (ltOf qS) L4 l.toArray 0 l.toArray.size (Lib.bitLen l.toArray.size) true true (OX _) (NL _) (Or.inl rfl);obtain⟨⟨hs,_,hp⟩,ho⟩:=h;unfold gx;generalize pdq (ltOf qS) l.toArray 0 l.toArray.size (Lib.bitLen l.toArray.size) true true=d at hs hp ho;refine⟨?_,?_⟩
 ·rw[<- hs,Array.extract_size,hs,Array.extract_size]at hp;exact hp
 ·rw[PO];intro i j hi hj hij;simp only[OD]at hi hj
  have:=ho i j (OX _) hij (by omega)
  rw[ND d i hi,ND d j hj,lT]at this;simp only[Array.getElem_toList,rF,this];rfl
def o9(l:List aG):gx l=cP l:=su ((ue l).1.trans (cN l).symm) (ue l).2 (fX l)
def gw(l:List aG):(cP l).length=l.length:=(cN l).length_eq
end Go.Av.Ap
namespace Go.Av
variable [Dr]
theorem pw{P:Program}{cx:Cx}{own:Option Nat}(hT:TOK P cx.T)(hC:db P cx.own cx.call)(hI:IsoCall cx){f:FuncId}{fn:Func}(hf:P.funcs[f]? = some fn)(hnt:cx.nt=fn.ntmps){E:List AV->Hp->R AV}(h0:∀h,E [] h= .ok (.sl []) h)(h1:∀e es h,cJ cx (dt 0) fn own [.sl (e:: es)] h=E (e:: es) h)(h2:∀h,cJ cx (dt 0) fn own [.hn] h= .ok (.sl []) h)(h3:∀l off h,cJ cx (dt 0) fn own [.hs l off 0 1 false] h= .ok (.sl []) h){es:List AV}{h:Hp}{S:aE}{β:List bT}{w:World}{vs:List Value}(hr:E es h≠.fail)(hg:yD β h w)(hw:Wf S w)(hh:da S β w h)(hv:bC S β [.sl es] vs):Calls P f vs.toArray w (fc own S β h w (E es h))/\fn.body.isSome=true:=by
 cases es with
 |cons e es=>
  rw[<- h1]at hr |-;exact iM hT hC hI 0 hf hnt hr hg hw hh hv
 | nil=>
  rw[h0];simp only[bC]at hv;obtain⟨v,_,rfl,hv,rfl⟩:=hv;have hv0:=hv;simp only[VR]at hv;obtain⟨a,cap,rfl,hc,hn,hq⟩:=hv;cases a with
  |none=>
   have hcap:=hn rfl;subst hcap;have hv2:bC S β [.hn] [.slice none ([]:List AV).length 0]:=by simp[bC,VR]
   have:=iM (own:=own) hT hC hI 0 hf hnt (args:=[.hn]) (h:=h) (by rw[h2];simp) hg hw hh hv2
   rw[h2]at this;exact this
  | some q=>
   obtain⟨hs,_⟩:=hq q rfl;have hX:da S [(q.block,q.off+cap)] w [[]]:=⟨rfl,fun _=>.no,fun l cs hl hne=>by
    cases l with
    |zero=>simp at hl;exact absurd hl hne
    |succ l=>simp at hl⟩
   have hE:∀b,¬ct [(q.block,q.off+cap)] [[]] b:=by
    rintro b ⟨l,cs,n,k1,k2,_⟩;cases l with
    |zero=>simp at k1;exact k2 k1
    |succ l=>simp at k1
   have hv2:bC S [(q.block,q.off+cap)] [.hs 0 q.off 0 1 false] [.slice (some q) ([]:List AV).length cap]:=by
    simp only[bC,VR];rcases ON cap with h0|h0
    ·subst h0;exact⟨_,_,rfl,.inr ⟨trivial,q,rfl⟩,rfl⟩
    ·have hq':q=⟨q.block,q.off,none⟩:=by
      have:=hs h0
      cases q;simp_all
     exact⟨_,_,rfl,.inl ⟨(q.block,q.off+cap),cap,rfl,(by show q.off+cap≠0;omega),by rw[<- hq'];rfl,OX _,by simp⟩,rfl⟩
   have:=iM (own:=own) hT hC hI 0 hf hnt (args:=[.hs 0 q.off 0 1 false]) (h:=[[]]) (by rw[h3];simp) ⟨hg.1,fun b _=>hE b⟩ hw hX hv2
   rw[h3]at this;refine⟨this.1.mono fun en w' hp=>?_,this.2⟩;obtain⟨S',β',v,k1,k2,k3,k4⟩:=hp;obtain⟨S2,j1,j2,j3⟩:=AL hw hh hE k3;exact⟨S2,β,v,k1,j2 (.sl []) v k2,j1,fun sz hsz=>j3 sz v (k4 sz hsz)⟩
end Go.Av
namespace Go.Av
attribute [simp] aA am D4 Bv
@[simp] theorem az{α:Type}(b:Bool)(x y:M α):ar (.bool b) x y=if b=true then x else y:=by cases b<;>rfl
def gv(b w:Bool)(y:AV):AV:=bif b== w then y else .tup []
@[simp] theorem Nb(y:AV):gv false false y=y:=rfl
@[simp] theorem Ng(y:AV):gv true true y=y:=rfl
@[simp] theorem Nc(y:AV):gv false true y= .tup []:=rfl
@[simp] theorem Nf(y:AV):gv true false y= .tup []:=rfl
@[simp high] theorem bP(b w:Bool)(y:AV):aB (.bool b) w 1 (M.pure [y])=M.pure [gv b w y]:=by cases b<;>cases w<;>rfl
@[simp high] theorem Ky(b w c w2:Bool)(y:AV):aB (gv b w (.bool c)) w2 1 (M.pure [y])=M.pure [gv b w (gv c w2 y)]:=by cases b<;>cases w<;>cases c<;>cases w2<;>rfl
@[simp high] theorem Kz(b w c e:Bool):aB (.bool b) w 1 (ae (ah (aM (gv b w (.bool c)) (.bool true) (gv b w (gv c false (.bool e))))) fun v=>M.pure [v])=M.pure [gv b w (.bool (c||e))]:=by
 cases b<;>cases w<;>cases c<;>rfl
@[simp high] theorem JB(b w c e:Bool):aB (.bool b) w 1 (ae (ah (aM (gv b w (.bool c)) (gv b w (gv c true (.bool e))) (.bool false))) fun v=>M.pure [v])=M.pure [gv b w (.bool (c&&e))]:=by
 cases b<;>cases w<;>cases c<;>rfl
@[simp high] theorem ec(b c:Bool):aM (.bool b) (gv b true (.bool c)) (.bool false)=some (.bool (b&&c)):=by cases b<;>rfl
@[simp high] theorem gT(b c:Bool):aM (.bool b) (.bool true) (gv b false (.bool c))=some (.bool (b||c)):=by cases b<;>rfl
@[simp] theorem GI(w:Bool)(n:Nat)(m:M (List AV)):aB (.bool !w) w n m=M.pure (List.replicate n (.tup [])):=by cases w<;>rfl
@[simp] theorem nB(w:Bool)(n:Nat)(m:M (List AV)):aB (.bool w) w n m=m:=by cases w<;>rfl
@[simp] theorem tE(n:Nat)(m:M (List AV)):aB (.bool false) true n m=M.pure (List.replicate n (.tup [])):=rfl
@[simp] theorem KA(n:Nat)(m:M (List AV)):aB (.bool true) false n m=M.pure (List.replicate n (.tup [])):=rfl
@[simp] theorem zq(w:Bool)(n:Nat)(m:M (List AV)):aB (.tup []) w n m=M.pure (List.replicate n (.tup [])):=rfl
@[simp] theorem zL(x y:AV):aM (.bool true) x y=some x:=rfl
@[simp] theorem lG(x y:AV):aM (.bool false) x y=some y:=rfl
@[simp] theorem aL(x:AV)(l:List AV):nth (x:: l) 0=x:=rfl
@[simp] theorem aY(x:AV)(l:List AV)(n:Nat):nth (x:: l) (n+1)=nth l n:=rfl
@[simp] theorem eQ{α:Type}(k:List AV->M α)(m:(List AV->M α)->M α):jn k m=m k:=rfl
@[simp] theorem cX{α:Type}(a:α):bH (M.pure a)=M.pure a:=rfl
@[simp] theorem kH(b:Bool):jG .not (.bool b)=some (.bool !b):=rfl
@[simp] theorem nq(l:List AV)(i:Nat):aP (.tup l) i=l[i]?:=rfl
@[simp] theorem IU:True:=trivial
@[simp] theorem aQ(l k:Nat):aU (.hp l k)=some (.hp l k):=rfl
@[simp] theorem Ka(cs:List AV):aU (.ip cs)=some (.ip cs):=rfl
@[simp] theorem qE(s:List UInt8):aa (.str s)=[.str s]:=rfl
@[simp] theorem I4(k:IntKind)(n:Int):aa (.int k n)=[.int k n]:=rfl
@[simp] theorem bd(cs:List AV):aa (.agg cs)=cs:=rfl
@[simp] theorem dD(T:TT)(t:Nat)(a b:Int):ao T .add t (.int .i64 a) (.int .i64 b)=some (.int .i64 (IntKind.i64.wrap (a+b))):=rfl
@[simp] theorem gD(T:TT)(t:Nat)(a b:Int):ao T .sub t (.int .i64 a) (.int .i64 b)=some (.int .i64 (IntKind.i64.wrap (a-b))):=rfl
@[simp] theorem Ar(T:TT)(t:Nat)(a b:Int):ao T .mul t (.int .i64 a) (.int .i64 b)=some (.int .i64 (IntKind.i64.wrap (a*b))):=rfl
@[simp] theorem bV(T:TT)(t:Nat)(a b:Int):ao T .lss t (.int .i64 a) (.int .i64 b)=some (.bool (decide (a<b))):=rfl
@[simp] theorem lN(T:TT)(t:Nat)(a b:Int):ao T .leq t (.int .i64 a) (.int .i64 b)=some (.bool (decide (a<=b))):=rfl
@[simp] theorem na(T:TT)(t:Nat)(a b:Int):ao T .gtr t (.int .i64 a) (.int .i64 b)=some (.bool (decide (b<a))):=rfl
@[simp] theorem gB(T:TT)(t:Nat)(a b:Int):ao T .geq t (.int .i64 a) (.int .i64 b)=some (.bool (decide (b<=a))):=rfl
@[simp] theorem dj(T:TT)(t:Nat)(a b:Int):ao T .eql t (.int .i64 a) (.int .i64 b)=some (.bool (a== b)):=rfl
@[simp] theorem gC(T:TT)(t:Nat)(a b:Int):ao T .neq t (.int .i64 a) (.int .i64 b)=some (.bool (a != b)):=rfl
@[simp] theorem vE(T:TT)(t:Nat)(a b:List UInt8):ao T .eql t (.str a) (.str b)=some (.bool (a== b)):=rfl
@[simp] theorem oe(T:TT)(t:Nat)(a b:List UInt8):ao T .neq t (.str a) (.str b)=some (.bool !(a== b)):=rfl
@[simp] theorem Me(T:TT)(t:Nat)(a b:List UInt8):ao T .lss t (.str a) (.str b)=some (.bool (bQ a b)):=rfl
@[simp] theorem Md(T:TT)(t:Nat)(a b:List UInt8):ao T .geq t (.str a) (.str b)=some (.bool !(bQ a b)):=rfl
@[simp] theorem bG{n:Nat}{x:AV}(h:cE n x=true):aK n x=M.pure (.agg (aa x)):=by
 unfold aK jt;rw[h];rfl
@[simp] theorem bM{n:Nat}{x:AV}(h:cE n x=true):ap n [] x=M.pure (.agg (aa x)):=by
 unfold ap jt;rw[h];rfl
@[simp] theorem KE(b:Bool)(x:AV):fN b [x]=some x:=by simp[fN]
@[simp] theorem oS(b:Bool)(a c:Int):fN b [.int .i64 a,.int .i64 c]=some (.int .i64 (if b=true then max a c else min a c)):=by
 cases b
 ·simp only[fN,Cf,NQ];congr 2;simp only[Int.min_def];split<;>split<;>simp_all<;>omega
 ·simp only[fN,Cf,NF];congr 2;simp only[Int.max_def];split<;>split<;>simp_all<;>omega
def aF{x:Int}(h1:-9223372036854775808<=x)(h2:x<=9223372036854775807):IntKind.i64.wrap x=x:=IntWalk.i64_in _ ⟨h1,h2⟩
def fb{n:Nat}(h:n<=4611686018427387904):IntKind.i64.wrap ((n:Int)+1)=((n+1:Nat):Int):=by
 rw[IntWalk.i64_in _ (by omega)];omega
namespace Ap
mutual
def Val.sz:Val->Nat
 |.mk _ _ ns vs=>1+ns.length+bJ vs
def bJ:List Val->Nat
 |[]=>0
 |v:: vs=>v.sz+bJ vs
end
theorem i9:{l:List Val} ->{v:Val} ->v∈l->v.sz<=bJ l
 |w:: l,v,h=>by
  simp only[bJ];rcases NP.1 h with rfl|h
  ·omega
  ·have:=i9 h;omega
def Val.sz_pos(v:Val):1<=v.sz:=by cases v;simp[Val.sz];omega
theorem kJ:(l:List Val)->l.length<=bJ l
 |[]=>by simp
 |v:: l=>by have:=kJ l;have:=v.sz_pos;simp only[bJ,Of];omega
def Val.sz_names(v:Val):v.names.length<=v.sz:=by cases v;simp[Val.sz,Val.names];omega
def Val.sz_values(v:Val):bJ v.values<v.sz:=by cases v;simp[Val.sz,Val.values];omega
def Val.sz_len(v:Val):v.values.length<v.sz:=Nat.lt_of_le_of_lt (kJ _) v.sz_values
def Ns{v x:Val}(h:x∈v.values):x.sz<v.sz:=Nat.lt_of_le_of_lt (i9 h) v.sz_values
end Ap
end Go.Av
namespace Go.Av
def bj{α:Type}(F:α->Bool):List α->Int->Int
 |[],_=>-1
 |x:: l,i=>if F x=true then i else bj F l (i+1)
theorem wZ{α:Type}(F:α->Bool):(l:List α)->(i:Int)->0<=i->(0<=bj F l i↔l.any F=true)
 |[],i,_=>by simp[bj]
 |x:: l,i,h=>by
  simp only[bj];split
  ·rename_i hx;simp[hx,h]
  ·rename_i hx;rw[wZ F l (i+1) (by omega)];simp[hx]
def BW{α:Type}(F:α->Bool)(l:List α):decide (0<=bj F l 0)=l.any F:=by
 have:=wZ F l 0 (by omega)
 cases h:l.any F with
 |true=>simp[this.2 h]
 |false=>simp only[QW];intro hh;rw[this.1 hh]at h;cases h
@[simp] theorem IX(a b:Nat):((a:Int)== (b:Int))=(a== b):=by rw[Pa];simp;omega
@[simp] theorem G7(a:Nat):((a:Int)== 0)=(a== 0):=by rw[Pa];simp
@[simp] theorem IY(a b:Nat):((a:Int) != (b:Int))=(a != b):=by rw[Pa];simp;omega
end Go.Av
namespace Go.Av
open Ap
@[simp high] theorem Jh(x:Val):aK 4 (Val.av x)=M.pure (Val.av x):=by rw[bG (eA x),bW,wN]
@[simp high] theorem Gp(x:Val):ap 4 [] (Val.av x)=M.pure (Val.av x):=by rw[bM (eA x),bW,wN]
@[simp high] theorem Jc(x:Exp):aK 6 (Exp.av x)=M.pure (Exp.av x):=by rw[bG (lC x),aO,wI]
@[simp high] theorem Gi(x:Exp):ap 6 [] (Exp.av x)=M.pure (Exp.av x):=by rw[bM (lC x),aO,wI]
@[simp high] theorem Jd(x:ie):aK 3 (dW x)=M.pure (dW x):=by rw[bG (nR x),my,wJ]
@[simp high] theorem Gj(x:ie):ap 3 [] (dW x)=M.pure (dW x):=by rw[bM (nR x),my,wJ]
@[simp high] theorem iP(x:Fun):aK 12 (Fun.av x)=M.pure (Fun.av x):=by rw[bG (jY x),fp,ri]
@[simp high] theorem Gk(x:Fun):ap 12 [] (Fun.av x)=M.pure (Fun.av x):=by rw[bM (jY x),fp,ri]
@[simp high] theorem Je(x:Mod):aK 9 (Mod.av x)=M.pure (Mod.av x):=by rw[bG (rV x),gd,wK]
@[simp high] theorem Gl(x:Mod):ap 9 [] (Mod.av x)=M.pure (Mod.av x):=by rw[bM (rV x),gd,wK]
@[simp high] theorem IK(x:Vars):aK 2 (Vars.av x)=M.pure (Vars.av x):=by rw[bG (tT x),po,tz]
@[simp high] theorem FX(x:Vars):ap 2 [] (Vars.av x)=M.pure (Vars.av x):=by rw[bM (tT x),po,tz]
@[simp high] theorem IJ(x:Deed):aK 3 (Deed.av x)=M.pure (Deed.av x):=by rw[bG (lU x),pm,tw]
@[simp high] theorem FW(x:Deed):ap 3 [] (Deed.av x)=M.pure (Deed.av x):=by rw[bM (lU x),pm,tw]
@[simp high] theorem II(x:Ap.Call):aK 3 (Ap.Call.av x)=M.pure (Ap.Call.av x):=by rw[bG (tS x),pk,tv]
@[simp high] theorem FV(x:Ap.Call):ap 3 [] (Ap.Call.av x)=M.pure (Ap.Call.av x):=by rw[bM (tS x),pk,tv]
@[simp high] theorem Jf(x:Ap.Out):aK 8 (Ap.Out.av x)=M.pure (Ap.Out.av x):=by rw[bG (xJ x),qC,wL]
@[simp high] theorem Gm(x:Ap.Out):ap 8 [] (Ap.Out.av x)=M.pure (Ap.Out.av x):=by rw[bM (xJ x),qC,wL]
@[simp] theorem A4(t:Ty):cE 2 t.av=true:=by simp[cE,bh,di]
@[simp high] theorem Kw(x:Ty):aK 2 (Ty.av x)=M.pure (Ty.av x):=by rw[bG (A4 x),sZ,AH]
@[simp high] theorem IL(x:Ty):ap 2 [] (Ty.av x)=M.pure (Ty.av x):=by rw[bM (A4 x),sZ,AH]
end Go.Av
namespace Go.Av
@[simp] theorem FY(c:Prop)[Decidable c](a b:Bool):(if c then(M.pure (.bool a):M AV)else M.pure (.bool b))=M.pure (.bool (if c then a else b)):=by split<;>rfl
@[simp] theorem GN(c:Prop)[Decidable c](a b:Int):(if c then(M.pure (.int .i64 a):M AV)else M.pure (.int .i64 b))=M.pure (.int .i64 (if c then a else b)):=by split<;>rfl
def AG{F:(List AV->M AV)->List AV->M AV}(hF:∀vs,aj F vs=F (aj F) vs)(st:Nat->List AV)(n:Nat)(G:Nat->Bool)(hend:F (aj F) (st n)=M.pure (.bool true))(hstep:∀k,k<n->F (aj F) (st k)=if G k=true then aj F (st (k+1))else M.pure (.bool false)):
  ∀k,k<=n->aj F (st k)=M.pure (.bool ((List.range' k (n-k)).all G)):=by
 have key:∀r k,n-k=r->k<=n->aj F (st k)=M.pure (.bool ((List.range' k r).all G)):=by
  intro r
  induction r with
  |zero=>
   intro k hr hk;obtain rfl:k=n:=by omega
   rw[hF,hend];rfl
  |succ r ih=>
   intro k hr hk;rw[hF,hstep k (by omega),ih (k+1) (by omega) (by omega)];simp only[List.range'_succ,OT];cases G k<;>rfl
 exact fun k hk=>key (n-k) k rfl hk
def qH{α:Type}[Inhabited α](P:α->Bool)(l:List α):(List.range' 0 l.length).all (fun k=>P l[k]!)=l.all P:=by
 rw[Pa];simp only[Oc,List.mem_range'_1];constructor
 ·intro h x hx;obtain⟨i,hi,rfl⟩:=Qz hx
  have:=h i ⟨OX _,by omega⟩
  rwa [ND l i hi]at this
 ·intro h k hk;have hk':k<l.length:=by omega
  rw[ND l k hk'];exact h _ (NW hk')
def Cy{T:TT}{t e:Nat}{ti ei:TI}(ht:T t=some ti)(hk:ti.kind= .slice e)(he:T e=some ei)(es:List AV){n:Int}(h0:0<=n)(h1:n<=es.length):dh T t (.sl es) none (some (.int .i64 n)) none=some (.sl (es.take n.toNat)):=by
 unfold dh;rw[ht];simp[hk,he,dl,h0,h1]
def pT{T:TT}{t e:Nat}{ti ei:TI}(ht:T t=some ti)(hk:ti.kind= .slice e)(he:T e=some ei)(es:List AV):dh T t (.sl es) none (some (.int .i64 es.length)) (some (.int .i64 es.length))=some (.sl es):=by
 unfold dh;rw[ht];simp[hk,he,dl]
def o7{T:TT}{t e:Nat}{ti ei:TI}(ht:T t=some ti)(hk:ti.kind= .slice e)(he:T e=some ei)(es:List AV)(hok:dw ei.size es=true){n:Int}(h0:0<=n)(h1:n<=es.length):dh T t (.sl es) (some (.int .i64 n)) none none=some (.sl (es.drop n.toNat)):=by
 unfold dh;rw[ht];simp[hk,he,dl,h0,h1,hok]
end Go.Av
namespace Go.Av.Ap
open Go Go.Av
def Val.limN:Nat->Val->Prop
 |0,_=>True
 |n+1,v=>v.names.length<=140737488355328/\v.values.length<=140737488355328/\∀x∈v.values,x.limN n
def Val.Lim(v:Val):Prop:=∀n,v.limN n
def Exp.limN:Nat->Exp->Prop
 |0,_=>True
 |n+1,v=>v.names.length<=8796093022208/\v.args.length<=140737488355328/\∀x∈v.args,x.limN n
def Exp.Lim(v:Exp):Prop:=∀n,v.limN n
def Ty.limN:Nat->Ty->Prop
 |0,_=>True
 |n+1,v=>v.fields.length<=140737488355328/\∀x∈v.fields,x.2.limN n
def Ty.Lim(v:Ty):Prop:=∀n,v.limN n
def Val.Lim.names{v:Val}(h:v.Lim):v.names.length<=140737488355328:=(h 1).1
def Val.Lim.len{v:Val}(h:v.Lim):v.values.length<=140737488355328:=(h 1).2.1
def Val.Lim.kid{v:Val}(h:v.Lim){x:Val}(hx:x∈v.values):x.Lim:=fun n=>(h (n+1)).2.2 x hx
def Exp.Lim.names{v:Exp}(h:v.Lim):v.names.length<=8796093022208:=(h 1).1
def Exp.Lim.len{v:Exp}(h:v.Lim):v.args.length<=140737488355328:=(h 1).2.1
def Exp.Lim.kid{v:Exp}(h:v.Lim){x:Exp}(hx:x∈v.args):x.Lim:=fun n=>(h (n+1)).2.2 x hx
def Ty.Lim.len{v:Ty}(h:v.Lim):v.fields.length<=140737488355328:=(h 1).1
def Ty.Lim.kid{v:Ty}(h:v.Lim){x:ie}(hx:x∈v.fields):x.2.Lim:=fun n=>(h (n+1)).2 x hx
structure Fun.Lim (f:Fun):Prop where
 params:f.params.length<=140737488355328
 pty:∀x∈f.params,x.2.Lim
 result:f.result.Lim
 body:f.body.Lim
structure Mod.Lim (m:Mod):Prop where
 uses:m.uses.length<=140737488355328
 vars:m.vars.length<=140737488355328
 vty:∀x∈m.vars,x.2.Lim
 init:m.init.length<=140737488355328
 ies:∀e∈m.init,e.Lim
 funcs:m.funcs.length<=140737488355328
 fns:∀f∈m.funcs,f.Lim
 old:m.old.length<=140737488355328
 oty:∀x∈m.old,x.2.Lim
 forward:m.forward.length<=140737488355328
 fes:∀e∈m.forward,e.Lim
 back:m.back.length<=140737488355328
 bes:∀e∈m.back,e.Lim
end Go.Av.Ap
