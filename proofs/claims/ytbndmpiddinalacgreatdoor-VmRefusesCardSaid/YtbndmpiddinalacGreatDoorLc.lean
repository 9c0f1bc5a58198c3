/- The abstract evaluator and plain laws, part 3. Condition: the table of types is the program's. -/
import Derived.Test.YtbndmpiddinalacGreatDoorLb
import Derived.KernelRfl
import Derived.IntWalk
import Derived.Below
import Derived.Lib.IndexMore
import Derived.Lib.Fields
import Derived.ChangeSame
import Derived.OpenShut
import Derived.ChangeReads
import Derived.ReadAgain
import Derived.Deep.Slices
import Derived.WideShapes
import Derived.SizedLaws
set_option linter.defProp false
set_option linter.unusedSimpArgs false
set_option linter.unusedVariables false
namespace Go.Av
variable [Dr]
section
variable {cx:Cx} {ops:Array Oper} {base:Nat}
structure Ind (cx:Cx) (ops:Array Oper) (i j:Nat) (a b:Oper):Prop where
 ha:ops[i]? = some a
 hb:ops[j]? = some b
 piv:(az cx a).piv=false
 l1:(az cx a).wl=true->(az cx b).rl=false/\(az cx b).wl=false
 l2:(az cx a).rl=true->(az cx b).wl=false\/((∃t p,a.op= .load t (.tmp p))/\(∃t,b.op= .alloc t)/\b.guard=none)
 h1:(az cx a).wh=true->(az cx b).rh=false/\(az cx b).wh=false
 h2:(az cx a).rh=true->(az cx b).wh=false\/(az cx b).nw=true
 g1:(az cx a).dr=true->(az cx b).dr=false/\(az cx b).ad=false
 g2:(az cx a).ad=true->(az cx b).dr=false
 g3:(az cx a).ad=true->(az cx b).ad=true->(az cx a).wl=false/\(az cx b).wl=false
 r1:∀t∈d4 ops j,a.dst≠some t
 r2:∀t∈d4 ops i,b.dst≠some t
 s1:∀t∈d4 ops j,cU a≠some t
 s2:∀t∈d4 ops i,cU b≠some t
 c1:∀t,cU a=some t->b.dst≠some t
 c2:∀t,a.dst=some t->cU b≠some t
 c3:∀t,a.dst=some t->b.dst≠some t
section
omit [Dr]
theorem Fz{i j:Nat}(h:pX cx ops i j=true):(∃a b,Ind cx ops i j a b)\/∃a b,ops[i]? = some a/\ops[j]? = some b/\(Be cx a b=true\/Bz cx a b=true\/ux cx a b=true):=by
 unfold pX at h;split at h
 ·rename_i a b ha hb;cases hs:Be cx a b with
  |true=>grind
  |false=>
  cases ht:Bz cx a b with
  |true=>grind
  |false=>
  cases hl:ux cx a b with
  |true=>grind
  |false=>
  refine .inl ⟨a,b,?_⟩;rw[hs,ht,hl]at h;simp only[Bool.false_or,XJ,Yh]at h;obtain⟨⟨⟨⟨⟨⟨⟨⟨⟨⟨⟨⟨⟨⟨k1,k2⟩,k3⟩,k4⟩,k5⟩,k6⟩,k7⟩,k8⟩,k9⟩,k10⟩,k11⟩,k12⟩,k13⟩,k14⟩,k15⟩:=h;refine⟨ha,hb,k1,fun q=>?_,fun q=>?_,fun q=>?_,fun q=>?_,fun q=>?_,fun q=>?_,fun q q'=>?_,qd k9,qd k10,qd k11,qd k12,rj k13,rj k14,rj k15⟩
  ·grind
  ·rw[q]at k3;cases hw:(az cx b).wl with
   |false=>exact .inl rfl
   | true=>
    rw[hw]at k3;simp only[YN,XJ,Yh,Bool.not_eq_false']at k3;refine .inr ⟨?_,?_⟩
    ·grind [RG]
    ·have h1:=k3.2;unfold RF at h1;split at h1
     all_goals simp_all
  all_goals grind
 ·cases h
theorem vu{T:TT}{t l o:Nat}{v r:AV}{h h':Hp}(hh:bN T t (.hp l o) v h= .ok r h'):r= .tup []/\∃ti cs,T t=some ti/\h[l]? = some cs/\(bY ti.size v&&decide (o+ti.size<=cs.length)&&decide (0<ti.size))=true/\h'=h.set l (setCells cs o (aa v)):=by
 unfold bN at hh
 grind
theorem xB{T:TT}{t l o:Nat}{v:AV}{h:Hp}{ti:TI}{cs:List AV}(ht:T t=some ti)(hl:h[l]? = some cs)(hc:(bY ti.size v&&decide (o+ti.size<=cs.length)&&decide (0<ti.size))=true):bN T t (.hp l o) v h= .ok (.tup []) (h.set l (setCells cs o (aa v))):=by
 simp_all[bN]
theorem Bd{T:TT}{b:Bool}{t:Nat}{a v r:AV}{h h':Hp}(hh:me T b t a v h= .ok r h'):∃l o,a= .hp l o/\(Nat.beq (l+1) h.length== b)=true/\bN T t (.hp l o) v h= .ok r h':=by
 unfold me at hh
 grind
theorem qx{i:Nat}{a:Oper}(ha:ops[i]? = some a){t p:Nat}{y:Operand}(ho:a.op= .store t (.tmp p) y)(hd:a.dst=none)(hg:a.guard=none)(hp:vd cx p=true)(e:Env)(h:Hp):
  stepG cx base ops i e h=match (e.get p).v with
   |.loc _ _=>.fail
   |.val A=>match me cx.T (dT cx.ann.sl1 p) t A (opnd e y) h with
    |.ok _ h'=>.ok e h'
    |.pan v h'=>.pan v h'
    |.fail=>.fail:=by
 have hdo:dM ops i=none:=by simp[dM,ha,hd]
 unfold stepG fU;rw[ha,hdo];simp only[hg];unfold gR;rw[ho,hd];simp only[hp,XL];unfold xp;cases (e.get p).v with
 |loc B off=>rfl
 |val A=>
  simp only[d6,ar];cases me cx.T (dT cx.ann.sl1 p) t A (opnd e y) h with
  |ok v h'=>rfl
  |pan v h'=>rfl
  |fail=>rfl
theorem IV{i j:Nat}{a b:Oper}(ha:ops[i]? = some a)(hb:ops[j]? = some b)(hs:Be cx a b=true)(e:Env)(h:Hp):
  RE (ar (stepG cx base ops i e) (stepG cx base ops j) h) (ar (stepG cx base ops j e) (stepG cx base ops i) h):=by
 unfold Be at hs;split at hs
 ·rename_i t p y t' q z ho ho' hd hd' hg hg';have hpq:vd cx p=true/\vd cx q=true/\dT cx.ann.sl1 p≠dT cx.ann.sl1 q:=by
   unfold vd;simp only[Yy,XJ,Yh]at hs;rcases hs with⟨⟨h1,h2⟩,h3⟩|⟨⟨h1,h2⟩,h3⟩
   ·grind
   ·grind
  obtain⟨k1,k2,k3⟩:=hpq;simp only[ar];rw[qx ha ho hd hg k1 e h,qx hb ho' hd' hg' k2 e h];cases hA:(e.get p).v with
  |loc B off=>trivial
  | val A=>
   simp only;cases hx:me cx.T (dT cx.ann.sl1 p) t A (opnd e y) h with
   |fail=>trivial
   |pan v h'=>exact absurd hx (rA _ _ _ _ _ _ _ _)
   | ok r h1=>
    simp only;rw[qx hb ho' hd' hg' k2 e h1];cases hB:(e.get q).v with
    |loc B off=>trivial
    | val B=>
     simp only;cases hy:me cx.T (dT cx.ann.sl1 q) t' B (opnd e z) h1 with
     |fail=>trivial
     |pan v h'=>exact absurd hy (rA _ _ _ _ _ _ _ _)
     | ok r2 h2=>
      obtain⟨l,o,rfl,c1,s1⟩:=Bd hx;obtain⟨l',o',rfl,c2,s2⟩:=Bd hy;obtain⟨_,ti,cs,t1,g1,w1,rfl⟩:=vu s1;obtain⟨_,ti',cs',t2,g2,w2,rfl⟩:=vu s2;rw[Y6]at c2;have hne:l≠l':=fun hll=>by
       grind
      rw[List.getElem?_set_ne hne]at g2;have e1:me cx.T (dT cx.ann.sl1 q) t' (.hp l' o') (opnd e z) h= .ok (.tup []) (h.set l' (setCells cs' o' (aa (opnd e z)))):=by
       unfold me;simp only[c2,XL];exact xB t2 g2 w2
      simp only[e1];rw[qx ha ho hd hg k1 e _,hA];have e2:me cx.T (dT cx.ann.sl1 p) t (.hp l o) (opnd e y) (h.set l' (setCells cs' o' (aa (opnd e z))))= .ok (.tup []) ((h.set l' (setCells cs' o' (aa (opnd e z)))).set l (setCells cs o (aa (opnd e y)))):=by
       unfold me;simp only[Y6,c1,XL];exact xB t1 Z7 w1
      simp only[e2];refine⟨e,?_,.refl e⟩;rw[List.set_comm _ _ (fun h=>hne h)]
 ·cases hs
end
def pH(s:Nat)(zs:List AV)(n:Nat):Upd:={ ent:=⟨.loc (aN s) 0,none⟩,ls:=kl (aN s) zs [] 0 n,add:=[],lb:=some (aN s,n) }
section
omit [Dr]
theorem EB{i:Nat}{a:Oper}(ha:ops[i]? = some a){t s:Nat}(ho:a.op= .alloc t)(hd:a.dst=some s)(hg:a.guard=none)(hw:(az cx a).wl=true)(hn:(fT cx.ann.nils s).isEmpty=true):
  ∃(c:Bool)(zs:List AV)(n:Nat),(c=true->n<1000)/\∀e h,stepG cx base ops i e h=bif c&&aV e.sl (aN s)then .ok (e.upd (some s) (pH s zs n)) h else .fail:=by
 have hdo:dM ops i=some s:=by simp[dM,ha,hd]
 have hnn:fT cx.ann.nils s=[]:=by simpa using hn
 have hstep:∀e h,stepG cx base ops i e h=ar (d6 (fP cx e ((base+i)*1000) s t)) (fun u=>ao (e.upd (some s) u)) h:=fun e h=>by
  simp_all[stepG,fU,gR]
 cases ht:cx.T t with
 |none=>
  refine⟨false,[],0,(fun h=>by cases h),fun e h=>?_⟩;rw[hstep];unfold fP;rw[ht];rfl
 | some ti=>
  have hk:dp cx.ann.kinds s .L≠.F/\dp cx.ann.kinds s .L≠.H/\dp cx.ann.kinds s .L≠.B:=by
   unfold az at hw;rw[ho,hd]at hw;simp only at hw;refine⟨fun h=>?_,fun h=>?_,fun h=>?_⟩<;>rw[h]at hw<;>cases hw
  refine⟨decide (ti.size<1000)&&iJ (dE true ti) [] ti.size,dE (dT cx.ann.hb s) ti,ti.size,fun h=>Z7,fun e h=>?_⟩;rw[hstep];unfold fP;rw[ht];simp only[hnn];have key:∀b:Bool,(ar (d6 (bif decide (ti.size<1000)&&b&&iJ (dE true ti) [] ti.size then Act1.stat { ent:=⟨.loc (aN s) 0,none⟩,ls:=kl (aN s) (dE (dT cx.ann.hb s) ti) [] ((base+i)*1000) ti.size,add:=qV [] ((base+i)*1000),lb:=some (aN s,ti.size) }else .bad)) (fun u=>ao (e.upd (some s) u)) h:R Env)=bif decide (ti.size<1000)&&iJ (dE true ti) [] ti.size&&b then .ok (e.upd (some s) (pH s (dE (dT cx.ann.hb s) ti) ti.size)) h else .fail:=by
   intro b;cases decide (ti.size<1000)<;>cases b<;>cases iJ (dE true ti) [] ti.size<;>rfl
  cases hkk:dp cx.ann.kinds s .L with
  |F=>grind
  |H=>grind
  |B=>grind
  |L=>exact key _
  |S=>exact key _
theorem AD{s t:Nat}(h:s≠t):aN s≠aN t:=by unfold aN;omega
theorem uz{e:Env}{s t:Nat}(h:s≠t)(zs:List AV)(n:Nat):aV (e.upd (some s) (pH s zs n)).sl (aN t)=aV e.sl (aN t):=by
 have h1:Nat.beq (aN s) (aN t)=false:=by
  rw[YR];exact fun hh=>AD h (Nat.eq_of_beq_eq_true hh)
 have h2:aV (kl (aN s) zs [] 0 n) (aN t)=true:=by
  unfold aV kl;rw[XY];intro x hx;simp only[Y5]at hx;obtain⟨k,_,rfl⟩:=hx;rfl
 show aV (qu (some s) (pH s zs n).ent ((pH s zs n).ls++e.sl)) (aN t)=_;rw[eT,gq];show ((false||nZ ⟨.loc (aN s) 0,none⟩ (aN t))&&(aV (kl (aN s) zs [] 0 n) (aN t)&&aV e.sl (aN t)))=_;rw[h2];show ((false||!(Nat.beq (aN s) (aN t)))&&(true&&aV e.sl (aN t)))=_;rw[h1];rfl
theorem Jl{e:Env}{s t:Nat}(h:s≠t)(hs:s<1000)(ht:t<1000)(zs ys:List AV){n m:Nat}(hn:n<1000)(hm:m<1000):EqE ((e.upd (some s) (pH s zs n)).upd (some t) (pH t ys m)) ((e.upd (some t) (pH t ys m)).upd (some s) (pH s zs n)):=by
 have rs:∀x∈(pH s zs n).ls,aN s<=x.1/\x.1<aN s+n:=px;have rt:∀x∈(pH t ys m).ls,aN t<=x.1/\x.1<aN t+m:=px;have hb:aN s=1000*(s+1):=rfl;have hb':aN t=1000*(t+1):=rfl;refine⟨fun k=>?_,fun g=>rfl,fun B=>?_,fun B=>?_⟩
 ·rw [cO,cO];show (if some s=some k then(pH s zs n).ent else cE ((pH s zs n).ls++qu (some t) (pH t ys m).ent ((pH t ys m).ls++e.sl)) k)=if some t=some k then(pH t ys m).ent else cE ((pH t ys m).ls++qu (some s) (pH s zs n).ent ((pH s zs n).ls++e.sl)) k;by_cases h1:s=k
  ·subst h1;rw[XK rfl,XG (fun hh=>h (Yu hh).symm),fO _ (fun x hx=>Z7),fA,XK rfl]
  ·rw[XG (fun hh=>h1 (Yu hh))];by_cases h2:t=k
   ·subst h2;rw[XK rfl,fO _ (fun x hx=>Z7),fA,XK rfl]
   ·rw[XG (fun hh=>h2 (Yu hh))];by_cases h3:aN s<=k/\k<aN s+n
    ·have e1:∀x∈(pH t ys m).ls,x.1≠k:=fun x hx=>Z7
     rw[fO _ e1,fA,XG (fun hh=>h1 (Yu hh))];exact lq (by rw[fA,XG (fun hh=>h2 (Yu hh)),fO _ e1])
    ·have e1:∀x∈(pH s zs n).ls,x.1≠k:=fun x hx=>Z7
     rw[fO _ e1,fA,XG (fun hh=>h2 (Yu hh))];exact (lq (by rw[fA,XG (fun hh=>h1 (Yu hh)),fO _ e1])).symm
 ·show be ((aN s,n):: (aN t,m):: e.lb) B=be ((aN t,m):: (aN s,n):: e.lb) B;have hne:=AD h;simp only[be];cases h1:Nat.beq (aN s) B with
  |false=>rfl
  | true=>
   have:=Nat.eq_of_beq_eq_true h1
   subst this;have h2:Nat.beq (aN t) (aN s)=false:=by
    rw[YR];exact fun hh=>hne (Nat.eq_of_beq_eq_true hh).symm
   rw[h2];rfl
 ·show aV (qu (some s) (pH s zs n).ent ((pH s zs n).ls++qu (some t) (pH t ys m).ent ((pH t ys m).ls++e.sl))) B=aV (qu (some t) (pH t ys m).ent ((pH t ys m).ls++qu (some s) (pH s zs n).ent ((pH s zs n).ls++e.sl))) B
  grind [eT,gq]
theorem KM{i j:Nat}{a b:Oper}(ha:ops[i]? = some a)(hb:ops[j]? = some b)(hs:Bz cx a b=true)(e:Env)(h:Hp):
  RE (ar (stepG cx base ops i e) (stepG cx base ops j) h) (ar (stepG cx base ops j e) (stepG cx base ops i) h):=by
 unfold Bz at hs;split at hs
 ·rename_i t t' s s' ho ho' hd hd' hg hg';simp only[XJ,Yh,XI]at hs;obtain⟨⟨⟨⟨⟨⟨h0,h1⟩,h2⟩,h3⟩,h4⟩,h5⟩,h6⟩:=hs;have hne:s≠s':=fun hh=>Z9
  obtain⟨c,zs,n,hn,f1⟩:=EB (base:=base) ha ho hd hg h3 h5;obtain⟨c',ys,m,hm,f2⟩:=EB (base:=base) hb ho' hd' hg' h4 h6;simp only[ar];rw[f1,f2];cases hc:c&&aV e.sl (aN s)with
  |false=>trivial
  | true=>
   simp only[XL];rw[f2,uz hne];cases hc':c'&&aV e.sl (aN s')with
   |false=>trivial
   |true=>
    simp only[XL];rw[f1,uz (fun hh=>hne hh.symm),hc];simp only[XJ]at hc hc';exact⟨_,rfl,Jl hne h1 h2 zs ys (hn hc.1) (hm hc'.1)⟩
 ·cases hs
end
omit [Dr]in
mutual
theorem Cj:(a b:AV)->nA a b=true->a=b
 |.agg a,.agg b,h=>by simp only[nA]at h;rw[mC a b h]
 |.tup a,.tup b,h=>by simp only[nA]at h;rw[mC a b h]
 |.sl a,.sl b,h=>by simp only[nA]at h;rw[mC a b h]
 |.ip a,.ip b,h=>by simp only[nA]at h;rw[mC a b h]
 |.fn f a c,.fn f' a' c',h=>by
  simp only[nA,XJ,XI]at h;rw[h.1.1,mC a a' h.1.2,mC c c' h.2]
 |.iface t a,.iface t' b,h=>by
  simp only[nA,XJ]at h;rw[Nat.eq_of_beq_eq_true h.1,Cj a b h.2]
 |.hp l o,.hp l' o',h=>by
  simp_all[nA]
 |.hs l o n s g,.hs l' o' n' s' g',h=>by
  simp_all[nA]
 |.any,b,h=>by cases b<;>first|rfl|cases h
 |.bool a,b,h=>by cases b<;>first|simp_all[nA]|cases h
 |.int k a,b,h=>by cases b<;>first|simp_all[nA]|cases h
 |.str a,b,h=>by cases b<;>first|simp_all[nA]|cases h
 |.nilp,b,h=>by cases b<;>first|rfl|cases h
 |.nilf,b,h=>by cases b<;>first|rfl|cases h
 |.nili,b,h=>by cases b<;>first|rfl|cases h
 |.hn,b,h=>by cases b<;>first|rfl|cases h
 |.nilm,b,h=>by cases b<;>first|rfl|cases h
 |.he,b,h=>by cases b<;>first|rfl|cases h
 |.mp l,b,h=>by cases b<;>first|(simp only[nA]at h;rw[Nat.eq_of_beq_eq_true h];done)|cases h
 |.nilb l,b,h=>by cases b<;>first|(simp only[nA]at h;rw[Nat.eq_of_beq_eq_true h];done)|cases h
 |.it l,b,h=>by cases b<;>first|(simp only[nA]at h;rw[Nat.eq_of_beq_eq_true h];done)|cases h
 |.byt t n,b,h=>by cases b<;>first|simp_all[nA]|cases h
theorem mC:(a b:List AV)->qP a b=true->a=b
 |[],[],_=>rfl
 |a:: l,b:: r,h=>by
  simp only[qP,XJ]at h;rw[Cj a b h.1,mC l r h.2]
 |[],_:: _,h=>by simp[qP]at h
 |_:: _,[],h=>by simp[qP]at h
end
section
omit [Dr]
theorem Er{m r:Nat}:∀ {cs ds:List AV} {b o:Nat} {v:AV},uW m r b cs ds=true->Nat.beq ((b+o) % m) r=true->cs[o]? = some v->ds[o]? = some v
 |[],_,_,_,_,_,_,h=>by simp at h
 |_:: _,[],_,_,_,h,_,_=>by simp[uW]at h
 |c:: cs,d:: ds,b,0,v,h,hm,hv=>by
  simp only[uW,XJ]at h;simp only[Zj]at hm
  grind [Cj]
 |c:: cs,d:: ds,b,o+1,v,h,hm,hv=>by
  simp only[uW,XJ]at h;simp only[Yv]at hv |-;exact Er h.2 Z7 hv
theorem Ay{m r:Nat}:∀ {h h':Hp} {l:Nat} {cs:List AV},lp m r h h'=true->h[l]? = some cs->∃ds,h'[l]? = some ds/\uW m r 0 cs ds=true
 |[],_,_,_,_,h=>by simp at h
 |_:: _,[],_,_,h,_=>by simp[lp]at h
 |c:: t,d:: t',0,cs,h,hl=>by
  simp only[lp,XJ]at h
  grind
 |c:: t,d:: t',l+1,cs,h,hl=>by
  simp only[lp,XJ]at h;exact Ay (l:=l) h.2 (by simpa using hl)
theorem yx{T:TT}{m r:Nat}{t:TypeId}{x v:AV}{h h1 h':Hp}(hh:fN T m r t x h= .ok v h1)(hk:lp m r h h'=true):h1=h/\fN T m r t x h'= .ok v h':=by
 unfold fN at hh |-;split at hh
 ·rename_i l off ti ht;cases hb:Nat.beq (off % m) r&&!ti.agg with
  |false=>grind
  | true=>
   rw[hb]at hh;simp only[XL]at hh |-;simp only[XJ,Yh]at hb;unfold bg at hh |-;simp only[ht]at hh |-;cases hl:h[l]? with
   |none=>grind
   | some cs=>
    rw[hl]at hh;simp only[hb.2,XT]at hh;cases hc:cs[off]? with
    |none=>grind
    |some w=>
     rw[hc]at hh;simp only at hh;cases hh;obtain⟨ds,g1,g2⟩:=Ay hk hl;have g3:=Er (b:=0) g2 Z7 hc
     grind
 ·cases hh
theorem KN(hS:Small ops){i j:Nat}{a b:Oper}(ha:ops[i]? = some a)(hb:ops[j]? = some b)(hs:ux cx a b=true)(e:Env)(h:Hp):
  RE (ar (stepG cx base ops i e) (stepG cx base ops j) h) (ar (stepG cx base ops j e) (stepG cx base ops i) h):=by
 unfold ux at hs;split at hs
 ·rename_i t p c s u ho ho' hd hd' hg hg';split at hs
  ·rename_i f hcal;simp only[XJ,Yh,XI]at hs;obtain⟨⟨⟨⟨⟨⟨h0,h1⟩,h2⟩,h3⟩,h4⟩,h5⟩,h6⟩:=hs;have hsu:s≠u:=fun hh=>Z9
   have hup:u≠p:=fun hh=>Z9
   have hsb:∀x∈ig b,x≠s:=fun x hx hh=>by
    grind [iI]
   obtain⟨m,r,hlm,hcm⟩:∃m r,ju cx.ann.lm a.dst=some (m,r)/\ju cx.ann.cm b.dst=some (m,r):=by
    split at h6
    all_goals simp_all
   rw[hd]at hlm;rw[hd']at hcm h5;have hdi:dM ops i=some s:=by simp[dM,ha,hd]
   have hdj:dM ops j=some u:=by simp[dM,hb,hd']
   -- the load
   have fa:∀(e:Env)(h:Hp),stepG cx base ops i e h=match (e.get p).v with
     |.loc _ _=>.fail
     |.val A=>match fN cx.T m r t A h with
      |.ok v h'=>.ok (e.upd (some s) (.ofV v)) h'
      |.pan v h'=>.pan v h'
      |.fail=>.fail:=fun e h=>by
    unfold stepG fU;rw[ha,hdi];simp only[hg];unfold gR;rw[ho,hd];simp only[hlm];cases (e.get p).v with
    |loc B off=>rfl
    |val A=>
     simp only[d6,ar];cases fN cx.T m r t A h<;>rfl
   -- the call
   have fb:∀(e:Env)(h:Hp),stepG cx base ops j e h=bif !(cx.iso f)&&(cx.own f).isNone then(match iy m r (cx.call f (c.args.toList.map (opnd e))) h with
      |.ok v h'=>.ok (e.upd (some u) (.ofV v)) h'
      |.pan v h'=>.pan v h'
      |.fail=>.fail)else .fail:=fun e h=>by
    unfold stepG fU;rw[hb,hdj];simp only[hg'];unfold gR;rw[ho',hd'];simp only;unfold ie;rw[hcal,hd'];simp only[h5,XT,hcm];cases !(cx.iso f)&&(cx.own f).isNone with
    |false=>rfl
    |true=>
     simp only[XL,d6,ar];cases iy m r (cx.call f (c.args.toList.map (opnd e))) h<;>rfl
   have hargs:∀v,c.args.toList.map (opnd (e.upd (some s) (.ofV v)))=c.args.toList.map (opnd e):=fun v=>by
    refine Y0 fun x hx=>?_;cases x with
    | tmp k=>
     have hk:k∈ig b:=by
      unfold ig;rw[ho',Zs];exact⟨.tmp k,by grind [Op.operands,Call.operands],rfl⟩
     have hks:=hsb k hk;simp only[opnd];have:(e.upd (some s) (.ofV v)).get k=e.get k:=by
      rw[cO,XG (fun hh=>hks (Yu hh).symm)];rfl
     unfold Env.av;rw[this]
    |_=>rfl
   simp only[ar];rw[fa];cases hA:(e.get p).v with
   |loc B off=>trivial
   | val A=>
    simp only;cases hx:fN cx.T m r t A h with
    |fail=>trivial
    |pan v h'=>exact absurd hx ((mN _ _ _ _ _).stay _ _ _)
    | ok v h1=>
     simp only;rw[fb,hargs,fb];cases hi:!(cx.iso f)&&(cx.own f).isNone with
     |false=>trivial
     | true=>
      simp only[XL];have hh1:h1=h:=by
       rcases mN cx.T m r t A h with k|⟨w,k⟩<;>rw[hx]at k<;>cases k;rfl
      subst hh1;unfold iy;cases hy:cx.call f (c.args.toList.map (opnd e)) h1 with
      |fail=>trivial
      |pan v' h'=>exact rfl
      | ok v' h'=>
       simp only;cases hk:lp m r h1 h' with
       |false=>trivial
       | true=>
        simp only[XL];rw[fa];have hp:((e.upd (some u) (.ofV v')).get p).v= .val A:=by
         rw[cO,XG (fun hh=>hup (Yu hh))];exact hA
        rw[hp];simp only[(yx hx hk).2];refine⟨_,rfl,?_⟩;exact vD (gi:=0) (gj:=1) (x:={}) (y:={}) (si:=none) (sj:=none) (Shape.ofV e 0 {} none v) (Shape.ofV e 1 {} none v') rfl (fun t ht=>Z7) (fun t ht hh=>Z7) (fun t ht=>by cases ht) Z6 (fun h=>by cases h) (fun h=>by cases h) (fun h=>by cases h)
  ·cases hs
 ·cases hs
theorem swap(hI:IsoPure cx)(hS:Small ops){i j:Nat}(hij:pX cx ops i j=true)(hne:i≠j)(e:Env)(h:Hp):
  RE (ar (stepG cx base ops i e) (stepG cx base ops j) h) (ar (stepG cx base ops j e) (stepG cx base ops i) h):=by
 rcases Fz hij with⟨a,b,I⟩|⟨a,b,ha,hb,hs|hs|hs⟩
 case inr.inl=>exact IV ha hb hs e h
 case inr.inr.inl=>exact KM ha hb hs e h
 case inr.inr.inr=>exact KN hS ha hb hs e h
 have hda:dM ops i=a.dst:=by simp[dM,I.ha]
 have hdb:dM ops j=b.dst:=by simp[dM,I.hb]
 unfold stepG;rw[hda,hdb];simp only[ar,ao];cases hri:fU cx base ops i e h with
 |fail=>trivial
 |pan v h'=>exact absurd hri (ml (p:=@fw) (fun _ g=>g.read.stay) (fun _ f g=>g.bnd f) I.ha ((gH hI e _ a).stay I.piv) h v h')
 | ok u h1=>
  simp only;have shu:=tj I.ha hri;have hra:=jd (ops:=ops) I.ha;have hrb:=jd (ops:=ops) I.hb;have hbo:∀t∈ig b,a.dst≠some t/\cU a≠some t/\t<1000:=fun t ht=>⟨I.r1 t Z7,I.s1 t Z7,hS.src j b I.hb t ht⟩;have hao:∀t∈ig a,b.dst≠some t/\cU b≠some t/\t<1000:=fun t ht=>⟨I.r2 t Z7,I.s2 t Z7,hS.src i a I.ha t ht⟩;have Abwd:Agree cx b (e.upd a.dst u) e:=EL shu (hS.dst i a I.ha) hbo (fun q=>by
   cases hw:(az cx a).wl with
   |false=>rfl
   |true=>obtain⟨q1,q2⟩:=I.l1 hw;grind) (fun q=>by
   constructor
   ·cases hw:(az cx a).ad with
    |false=>rfl
    |true=>have:=I.g2 hw;grind
   ·cases hw:(az cx a).dr with
    |false=>rfl
    |true=>have:=(I.g1 hw).1;grind)
  have hgb:∀t∈gG ops b,e.get t=(e.upd a.dst u).get t:=fun t ht=>by
   have htr:t∈d4 ops j:=by rw[hrb];simp[ht]
   exact (oe shu (I.r1 t htr) (I.s1 t htr) (hS.reads I.hb t htr)).symm
  -- the second, after the first
  cases hrj:fU cx base ops j (e.upd a.dst u) h1 with
  |fail=>trivial
  | pan v h2=>
   have hj:=iV (base:=base) I.hb hgb Abwd (h:=h1) (by rw[hrj];simp);rw[hrj]at hj
   -- j leaves: so it may write, and i did not touch the heap
   have hwb:(az cx b).wh=true:=by
    cases hw:(az cx b).wh with
    |true=>rfl
    |false=>exact absurd hj ((ml (p:=@eK) (fun _ g=>g.read) (fun _ f g=>g.bnd f) I.hb ((gH hI e _ b).read hw)).stay _ _ _)
   have hwa:(az cx a).wh=false:=by
    cases hw:(az cx a).wh with
    |false=>rfl
    |true=>have:=(I.h1 hw).2;grind
   have hh:h1=h:=by
    have hR:eK (fU cx base ops i e):=ml (p:=@eK) (fun _ g=>g.read) (fun _ f g=>g.bnd f) I.ha ((gH hI e _ a).read hwa);rcases hR h with hx|⟨u',hx⟩<;>rw[hri]at hx<;>cases hx;rfl
   subst hh;rw[hj];exact rfl
  | ok v h2=>
   have hj:=iV (base:=base) I.hb hgb Abwd (h:=h1) (by rw[hrj];simp);rw[hrj]at hj;have shv:=tj I.hb hj
   have Afwd:Agree cx a e (e.upd b.dst v):=by
     by_cases hla:(az cx b).wl=true/\(az cx a).rl=true
     ·rcases I.l2 hla.2 with hw|⟨⟨t,p,ho⟩,⟨t',ho'⟩,hgd⟩
      ·grind
      ·have hr':d6 (gR cx e ((base+j)*1000) b) h1= .ok v h2:=by
        have:=hj
        unfold fU at this;rw[I.hb]at this;simp only[hgd]at this;exact this
       exact zl shv ho ho' (hS.dst j b I.hb) hao hr'
     exact wn shv (hS.dst j b I.hb) hao (fun q=>by
    cases hw:(az cx b).wl with
    |false=>rfl
    | true=>
     exfalso;cases hrl:(az cx a).rl with
     |true=>grind
     |false=>
      rw[hrl]at q;have hwl:(az cx a).wl=true:=by simpa using q
      have:=(I.l1 hwl).2
      grind) (fun q=>⟨(I.g1 q).2,(I.g1 q).1⟩)
   have hga:∀t∈gG ops a,(e.upd b.dst v).get t=e.get t:=fun t ht=>by
    have htr:t∈d4 ops i:=by rw[hra];simp[ht]
    exact oe shv (I.r2 t htr) (I.s2 t htr) (hS.reads I.ha t htr)
   have hcomm:EqE ((e.upd a.dst u).upd b.dst v) ((e.upd b.dst v).upd a.dst u):=by
    have hgij:(base+i)*1000≠(base+j)*1000:=Z5
    cases hwb:(az cx b).wl with
    |false=>
     exact vD shu shv hwb (hS.dst j b I.hb) I.c3 I.c1 hgij I.g1 I.g2 (fun q q'=>(I.g3 q q').1)
    | true=>
     have hwa:(az cx a).wl=false:=by
      cases hw:(az cx a).wl with
      |false=>rfl
      |true=>have:=(I.l1 hw).2;grind
     refine (vD shv shu hwa (hS.dst i a I.ha) (fun t ht hh=>I.c3 t hh ht) (fun t ht hh=>I.c2 t hh ht) (Ne.symm hgij) (fun q=>⟨?_,?_⟩) (fun q=>?_) (fun q q'=>?_)).symm
     ·cases hw:(az cx a).dr with
      |false=>rfl
      |true=>have:=(I.g1 hw).1;grind
     ·cases hw:(az cx a).ad with
      |false=>rfl
      |true=>have:=I.g2 hw;grind
     ·cases hw:(az cx a).dr with
      |false=>rfl
      |true=>have:=(I.g1 hw).2;grind
     ·have:=(I.g3 q' q).2;grind
   cases hwa:(az cx a).wh with
   | false=>
    have hR:eK (fU cx base ops i e):=ml (p:=@eK) (fun _ g=>g.read) (fun _ f g=>g.bnd f) I.ha ((gH hI e _ a).read hwa);have hh:h1=h:=by
     rcases hR h with hx|⟨u',hx⟩<;>rw[hri]at hx<;>cases hx;rfl
    subst hh;rw[hj];simp only;have hi2:fU cx base ops i e h2= .ok u h2:=by
     cases hra':(az cx a).rh with
     |false=>
      obtain⟨q,hq⟩:bE (fU cx base ops i e):=ml (p:=@bE) (fun _ g=>g) (fun _ f g=>g.bnd f) I.ha ((gH hI e _ a).pure hwa hra');rw[hq]at hri |-;cases q with
      |none=>cases hri
      |some u'=>cases hri;rfl
     | true=>
      rcases I.h2 hra' with hwb|hnw
      case inr=>
       have hNw:ze (fU cx base ops j e):=ml (p:=@ze) (fun _ g=>g.nw) (fun _ f g=>g.bnd f) I.hb ((gH hI e _ b).nw hnw);have hAp:nc (fU cx base ops i e)/\eK (fU cx base ops i e):=ml (p:=fun m=>nc m/\eK m) (fun _ g=>⟨g.app,g.read⟩) (fun _ f g=>nc.bnd g f) I.ha ((gH hI e _ a).app hwa);obtain⟨t,rfl⟩:=hNw _ _ _ hj;exact hAp.1 _ t _ hri
      have hRb:eK (fU cx base ops j e):=ml (p:=@eK) (fun _ g=>g.read) (fun _ f g=>g.bnd f) I.hb ((gH hI e _ b).read hwb);rcases hRb h1 with hx|⟨u',hx⟩<;>rw[hj]at hx<;>cases hx;exact hri
    rw[iV I.ha hga Afwd (by rw[hi2];simp),hi2];exact⟨_,rfl,hcomm⟩
   | true=>
    obtain⟨hrb',hwb⟩:=I.h1 hwa;obtain⟨q,hq⟩:bE (fU cx base ops j e):=ml (p:=@bE) (fun _ g=>g) (fun _ f g=>g.bnd f) I.hb ((gH hI e _ b).pure hwb hrb');rw[hq]at hj |-;cases q with
    |none=>cases hj
    |some u'=>
     cases hj;simp only[bS];rw[iV I.ha hga Afwd (by rw[hri];simp),hri];exact⟨_,rfl,hcomm⟩
theorem Lh(hI:IsoPure cx)(hS:Small ops){i:Nat}(q:List Nat):∀(p:List Nat),(∀x∈p,pX cx ops x i=true/\x≠i)->∀(e:Env)(h:Hp),RE (bp cx base ops (p++i:: q) e h) (bp cx base ops (i:: (p++q)) e h)
 |[],_,e,h=>RE.refl _
 | x:: p,hp,e,h=>by
  have ih:=fun e h=>Lh hI hS q p (fun y hy=>hp y (by simp[hy])) e h;have h1:RE (bp cx base ops (x:: (p++i:: q)) e h) (bp cx base ops (x:: i:: (p++q)) e h):=by
   simp only[bp,ar]at ih |-;cases stepG cx base ops x e h with
   |ok e' h'=>exact ih e' h'
   |pan v h'=>exact rfl
   |fail=>trivial
  refine h1.trans ?_;have e1:bp cx base ops (x:: i:: (p++q)) e=ar (ar (stepG cx base ops x e) (stepG cx base ops i)) (bp cx base ops (p++q)):=by rw[jo];rfl
  have e2:bp cx base ops (i:: x:: (p++q)) e=ar (ar (stepG cx base ops i e) (stepG cx base ops x)) (bp cx base ops (p++q)):=by rw[jo];rfl
  show RE (bp cx base ops (x:: i:: (p++q)) e h) (bp cx base ops (i:: x:: (p++q)) e h);simp_all[RE.bind,swap,qo]
end
end
omit [Dr]in
theorem ID{a b:Option (Nat×Bool)}(h:Ew a b=true):a=b:=by
 unfold Ew at h;split at h
 all_goals simp_all
def jX(gs:List (Option (Nat×Bool)×List Nat)):List Nat:=gs.flatMap (·.2)
section
omit [Dr]
theorem lG(ops:Array Oper):∀l:List Nat,jX (eP ops l)=l/\∀g∈eP ops l,∀i∈g.2,guardOf ops i=g.1
 |[]=>⟨rfl,by simp[eP]⟩
 | i :: is=>by
  obtain⟨h1,h2⟩:=lG ops is;simp only[eP];cases hg:eP ops is with
  |nil=>
   rw[hg]at h1;have:is=[]:=by simpa [jX]using h1.symm
   subst this;exact⟨rfl,Z8⟩
  | cons x r=>
   obtain⟨g,js⟩:=x;rw[hg]at h1 h2;simp only;cases hs:Ew (guardOf ops i) g with
   | true=>
    refine⟨?_,fun y hy=>?_⟩
    ·simp_all[jX]
    ·simp only[XL,Yn]at hy;rcases hy with rfl|hy
     ·intro k hk;simp only[Yn]at hk;rcases hk with rfl|hk
      ·exact ID hs
      simp_all
     grind
   |false=>
    refine⟨?_,fun y hy=>?_⟩
    ·simp_all[jX]
    grind
theorem zT{ρ:Type}(e:Env)(d:Option Tmp)(A:Act1)(k:Env->M ρ):pM e d A k=ar (d6 A) fun u=>k (e.upd d u):=by
 cases A with
 |bad=>rfl
 |stat u=>rfl
 |dyn m sh=>grind [pM,d6,jo,aj]
 |thr v=>rfl
theorem ET{α β:Type}{m:M α}{f g:α->M β}{h:Hp}(hfg:∀u h',m h= .ok u h'->f u h'=g u h'):ar m f h=ar m g h:=by
 grind [ar]
end
section
variable {cx:Cx} {ops:Array Oper} {base:Nat}
section
omit [Dr]
theorem EK{i:Nat}{o:Oper}(ho:ops[i]? = some o)(hg:guardOf ops i=none)(e:Env):fU cx base ops i e=d6 (gR cx e ((base+i)*1000) o):=by
 simp_all[guardOf,fU]
theorem qF{i j t:Nat}{want:Bool}{o:Oper}(ho:ops[i]? = some o)(hg:guardOf ops i=some (j,want))(hj:dM ops j=some t)(hp:gI cx o=true)(e:Env):
  fU cx base ops i e=m0 (e.av t) want (d6 (jU (gR cx e ((base+i)*1000) o))):=by
 simp_all[guardOf,fU]
theorem A8{ρ:Type}:∀(is:List Nat)(e:Env)(k:Env->M ρ)(_:∀i∈is,guardOf ops i=none),ll cx base ops false is e k=ar (bp cx base ops is e) k
 |[],e,k,_=>rfl
 | i:: is,e,k,hg=>by
  simp only[ll,bp];unfold stepG;cases ho:ops[i]? with
  |none=>unfold fU;rw[ho];rfl
  |some o=>
   simp only;rw[zT,EK ho (hg i Z8),jo,jo];have hd:dM ops i=o.dst:=by simp[dM,ho]
   rw[hd];congr 1;funext u;simp only[aj];exact A8 is _ k fun j hj=>hg j (by simp[hj])
end
structure Turned (ds:List Nat) (e e':Env):Prop where
 get:∀t,t ∉ ds->e'.get t=e.get t
 al:e'.al=e.al
 lb:e'.lb=e.lb
 lf:∀B,aV e.sl B=true->aV e'.sl B=true
 ng:∀t∈ds,(e'.get t).g=none
section
omit [Dr]
theorem Turned.step{ds:List Nat}{e e':Env}(H:Turned ds e e'){u:Upd}{d:Option Nat}(hls:u.ls=[])(hadd:u.add=[])(hdrop:u.drop=none)(hlb:u.lb=none)(hunlb:u.unlb=none)(hg:u.ent.g=none)(hloc:∀C off,u.ent.v= .loc C off->∃t off',(e'.get t).v= .loc C off'):Turned (d.toList++ds) e (e'.upd d u):=by
 have hget:∀t,(e'.upd d u).get t=if d=some t then u.ent else e'.get t:=fun t=>by rw[cO,hls];rfl
 refine⟨fun t ht=>?_,?_,?_,fun B hB=>?_,fun t ht=>?_⟩
 ·simp only[Yl,not_or,Option.mem_toList]at ht;rw[hget,XG ht.1];exact H.get t ht.2
 ·show u.add++fX e'.al u.drop=e.al;rw[hadd,hdrop];exact H.al
 ·show nk (eZ e'.lb u.unlb) u.lb=e.lb;rw[hlb,hunlb];exact H.lb
 ·have h1:=H.lf B hB;show aV (qu d u.ent (u.ls++e'.sl)) B=true;rw[hls,eT,Ye,h1,YH];have:nZ u.ent B=true:=by
   unfold nZ;split
   ·rename_i C off hv;obtain⟨t,off',ht⟩:=hloc C off hv
    have:=mO h1 ht
    simp_all[YR]
   ·rfl
  grind
 ·rw[hget];split
  ·exact hg
  ·rename_i hd;simp only[Yl,Option.mem_toList]at ht;rcases ht with ht|ht
   ·grind
   ·exact H.ng t ht
theorem Turned.refl(e:Env):Turned [] e e:=⟨fun _ _=>rfl,rfl,rfl,fun _ h=>h,fun t h=>by simp at h⟩
theorem Turned.sub{ds ds':List Nat}{e e':Env}(H:Turned ds e e')(h:∀t,t∈ds↔t∈ds'):Turned ds' e e':=
 ⟨fun t ht=>H.get t fun hh=>ht ((h t).1 hh),H.al,H.lb,H.lf,fun t ht=>H.ng t ((h t).2 ht)⟩
end
structure GroupOk (cx:Cx) (ops:Array Oper) (j:Nat) (want:Bool) (t:Nat) (is:List Nat):Prop where
 hj:dM ops j=some t
 each:∀i∈is,∃o,ops[i]? = some o/\guardOf ops i=some (j,want)/\gI cx o=true
 nt:t ∉ dQ ops is
section
omit [Dr]
theorem li(i:Nat)(is:List Nat):∀t,t∈dQ ops (i:: is)↔dM ops i=some t\/t∈dQ ops is:=by
 simp_all[dQ]
theorem GroupOk.tail{j:Nat}{want:Bool}{t i:Nat}{is:List Nat}(G:GroupOk cx ops j want t (i:: is)):GroupOk cx ops j want t is:=
 ⟨G.hj,fun k hk=>G.each k (by simp[hk]),fun h=>G.nt ((li i is t).2 (.inr h))⟩
theorem GroupOk.ne{j:Nat}{want:Bool}{t i:Nat}{is:List Nat}(G:GroupOk cx ops j want t (i:: is)):dM ops i≠some t:=fun h=>G.nt ((li i is t).2 (.inl h))
theorem mW{A:Act1}{h h':Hp}{u:Upd}(hr:d6 (jU A) h= .ok u h'):∃u0,d6 A h= .ok u0 h'/\u=jj u0:=by
 grind [rK]
theorem xx{ρ:Type}{j:Nat}{want:Bool}{t:Nat}:∀(is:List Nat)(e:Env)(k:Env->M ρ)(h:Hp),GroupOk cx ops j want t is->e.av t= .bool want->ll cx base ops true is e k h=ar (bp cx base ops is e) k h
 |[],e,k,h,_,_=>rfl
 |i:: is,e,k,h,G,hc=>by
  obtain⟨o,ho,hg,hp⟩:=G.each i Z8;have hd:dM ops i=o.dst:=by simp[dM,ho]
  simp only[ll,bp,ho,XL];rw[zT];unfold stepG;rw[qF ho hg G.hj hp,hc,jo,jo];simp only[m0,Yf,XL,aj,hd];refine ET fun u h' hu=>?_;obtain⟨u0,hu0,rfl⟩:=mW hu;refine xx is _ k h' G.tail ?_;have:(e.upd o.dst (jj u0)).get t=e.get t:=by rw[cO,XG (by rw[<- hd];exact G.ne)];rfl
  simp only[Env.av,this];exact hc
theorem qy{j:Nat}{want:Bool}{t:Nat}:∀(is:List Nat)(e e':Env)(h h':Hp),GroupOk cx ops j want t is->e.av t= .bool want->bp cx base ops is e h= .ok e' h'->Turned (dQ ops is) e e':=by
 have key:∀(is:List Nat)(e0 e e':Env)(ds:List Nat)(h h':Hp),GroupOk cx ops j want t is->e.av t= .bool want->Turned ds e0 e->bp cx base ops is e h= .ok e' h'->Turned (dQ ops is++ds) e0 e':=by
  intro is
  induction is with
  |nil=>
   intro e0 e e' ds h h' _ _ H hr;cases hr;exact H
  | cons i is ih=>
   intro e0 e e' ds h h' G hc H hr;obtain⟨o,ho,hg,hp⟩:=G.each i Z8;have hd:dM ops i=o.dst:=by simp[dM,ho]
   simp only[bp]at hr;unfold stepG at hr;rw[qF ho hg G.hj hp,hc,jo]at hr;simp only[m0,Yf,XL,hd,ar]at hr;cases hx:d6 (jU (gR cx e ((base+i)*1000) o)) h with
   |fail=>grind
   |pan v hh=>grind
   | ok u hh=>
    rw[hx]at hr;simp only at hr;obtain⟨u0,hu0,rfl⟩:=mW hx;have hsh:=nV (oi cx e ((base+i)*1000) o) hu0;simp only[gI,XJ,Yh]at hp;have H2:=H.step (u:=jj u0) (d:=o.dst) rfl rfl rfl rfl rfl rfl (hsh.loc hp.1);refine (ih e0 _ e' _ hh h' G.tail ?_ H2 hr).sub fun s=>?_
    ·have:(e.upd o.dst (jj u0)).get t=e.get t:=by rw[cO,XG (by rw[<- hd];exact G.ne)];rfl
     grind [Env.av]
    grind [li]
 intro is e e' h h' G hc hr;exact (key is e e e' [] h h' G hc (.refl e) hr).sub Z8
end
def Off(c:AV)(want:Bool):Prop:=c= .tup []\/∃b,c= .bool b/\(b== want)=false
omit [Dr]in
theorem Off.look{c:AV}{want:Bool}(h:Off c want)(m:M Upd):m0 c want m=ao (.ofV (.tup [])):=by
 rcases h with rfl|⟨b,rfl,hb⟩
 ·rfl
 ·simp only[m0,hb,XT]
omit [Dr]in
theorem Ks{j:Nat}{want:Bool}{t:Nat}:∀(is:List Nat)(e:Env)(h:Hp),GroupOk cx ops j want t is->Off (e.av t) want->∃e',bp cx base ops is e h= .ok e' h/\Turned (dQ ops is) e e'/\∀s∈dQ ops is,e'.get s=⟨.val (.tup []),none⟩:=by
 have key:∀(is:List Nat)(e0 e:Env)(ds:List Nat)(h:Hp),GroupOk cx ops j want t is->Off (e.av t) want->Turned ds e0 e->(∀s∈ds,e.get s=⟨.val (.tup []),none⟩)->
   ∃e',bp cx base ops is e h= .ok e' h/\Turned (dQ ops is++ds) e0 e'/\∀s∈dQ ops is++ds,e'.get s=⟨.val (.tup []),none⟩:=by
  intro is
  induction is with
  |nil=>exact fun e0 e ds h _ _ H hds=>⟨e,rfl,H,hds⟩
  | cons i is ih=>
   intro e0 e ds h G hc H hds;obtain⟨o,ho,hg,hp⟩:=G.each i Z8;have hd:dM ops i=o.dst:=by simp[dM,ho]
   have hget:∀s,(e.upd o.dst (.ofV (.tup []))).get s=if o.dst=some s then⟨.val (.tup []),none⟩else e.get s:=fun s=>by rw[cO];rfl
   have H2:=H.step (u:=.ofV (.tup [])) (d:=o.dst) rfl rfl rfl rfl rfl rfl (fun C off hh=>by cases hh);have hav:(e.upd o.dst (.ofV (.tup []))).av t=e.av t:=by
    have:(e.upd o.dst (.ofV (.tup []))).get t=e.get t:=by rw[hget,XG (by rw[<- hd];exact G.ne)]
    simp only[Env.av,this]
   obtain⟨e',h1,h2,h3⟩:=ih e0 (e.upd o.dst (.ofV (.tup []))) (o.dst.toList++ds) h G.tail Z7 H2 (fun s hs=>by
    grind)
   have hiff:∀s,s∈dQ ops is++(o.dst.toList++ds)↔s∈dQ ops (i:: is)++ds:=fun s=>by
    grind [li]
   refine⟨e',?_,h2.sub hiff,fun s hs=>h3 s ((hiff s).2 hs)⟩;simp only[bp];unfold stepG;rw[qF ho hg G.hj hp,hc.look,hd];exact h1
 intro is e h G hc;obtain⟨e',h1,h2,h3⟩:=key is e e [] h G hc (.refl e) Z8
 grind
end
section
variable {cx:Cx} {ops:Array Oper} {base:Nat}
structure Rel (ops:Array Oper) (L:List Nat) (e2 e:Env):Prop where
 get:∀t,e2.get t=e.get t\/(e2.get t=Ent.none/\t<1000/\∀i∈L,t ∉ d4 ops i)
 al:∀g,aQ e2.al g=aQ e.al g
 lb:∀B,be e2.lb B=be e.lb B
 lf:∀B,aV e2.sl B=true->aV e.sl B=true
section
omit [Dr]
theorem Rel.refl(ops:Array Oper)(L:List Nat)(e:Env):Rel ops L e e:=⟨fun _=>.inl rfl,fun _=>rfl,fun _=>rfl,fun _ h=>h⟩
theorem Rel.sub{L L':List Nat}{e2 e:Env}(H:Rel ops L e2 e)(h:∀i∈L',i∈L):Rel ops L' e2 e:=
 ⟨fun t=>(H.get t).imp id fun⟨h1,h2,h3⟩=>⟨h1,h2,fun i hi=>h3 i (h i hi)⟩,H.al,H.lb,H.lf⟩
theorem Rel.read{L:List Nat}{e2 e:Env}(H:Rel ops L e2 e){i t:Nat}(hi:i∈L)(ht:t∈d4 ops i):e.get t=e2.get t:=by
 rcases H.get t with h|⟨_,_,h⟩
 all_goals grind
theorem Rel.agree{L:List Nat}{e2 e:Env}(H:Rel ops L e2 e){i:Nat}{o:Oper}(hi:i∈L)(ho:ops[i]? = some o):Agree cx o e2 e:=by
 refine⟨fun t ht=>H.read hi (by rw[jd ho];simp[ht]),fun _=>.inl ⟨fun t ht=>?_,fun B=>(H.lb B).symm⟩,fun _ g=>(H.al g).symm,fun _ s _ hl=>H.lf _ hl⟩;rcases H.get t with h|⟨_,h,_⟩
 all_goals grind
theorem Rel.upd{L:List Nat}{e2 e:Env}(H:Rel ops L e2 e)(d:Option Tmp)(u:Upd):Rel ops L (e2.upd d u) (e.upd d u):=by
 refine⟨fun t=>?_,fun g=>?_,fun B=>?_,fun B hB=>?_⟩
 ·rw[cO,cO];split
  ·exact .inl rfl
  ·rw[lX,lX];split
   ·exact .inl rfl
   ·exact H.get t
 ·show aQ (u.add++fX e2.al u.drop) g=aQ (u.add++fX e.al u.drop) g;have:aQ (fX e2.al u.drop) g=aQ (fX e.al u.drop) g:=by
   cases u.drop with
   |none=>exact H.al g
   |some k=>simp only[fX,nn,H.al g]
  rw[gd,gd,this]
 ·show be (nk (eZ e2.lb u.unlb) u.lb) B=be (nk (eZ e.lb u.unlb) u.lb) B;have:be (eZ e2.lb u.unlb) B=be (eZ e.lb u.unlb) B:=by
   cases u.unlb with
   |none=>exact H.lb B
   |some k=>simp only[eZ,pZ,H.lb B]
  cases u.lb with
  |none=>exact this
  |some x=>
   grind [nk,eQ]
 ·have hB':aV (qu d u.ent (u.ls++e2.sl)) B=true:=hB;show aV (qu d u.ent (u.ls++e.sl)) B=true;rw[eT,gq]at hB' |-;simp only[XJ]at hB' |-;exact⟨hB'.1,hB'.2.1,H.lf B hB'.2.2⟩
theorem Rel.run:∀(is:List Nat){L:List Nat}{e2 e:Env}(_:Rel ops L e2 e)(_:∀i∈is,i∈L)(h:Hp),bp cx base ops is e2 h≠.fail->
  (∃e2' e' h',bp cx base ops is e2 h= .ok e2' h'/\bp cx base ops is e h= .ok e' h'/\Rel ops L e2' e')\/∃v h',bp cx base ops is e2 h= .pan v h'/\bp cx base ops is e h= .pan v h'
 |[],L,e2,e,H,_,h,_=>.inl ⟨e2,e,h,rfl,rfl,H⟩
 | i:: is,L,e2,e,H,hL,h,hr=>by
  simp only[bp]at hr |-;unfold stepG at hr |-;simp only[ar,ao]at hr |-;cases hx:fU cx base ops i e2 h with
  |fail=>grind
  | _ =>
   have ho:∃o,ops[i]? = some o:=by
    cases ho:ops[i]? with
    |none=>unfold fU at hx;rw[ho]at hx;cases hx
    |some o=>grind
   obtain⟨o,ho⟩:=ho;have hi:=hL i Z8;have hy:fU cx base ops i e h=fU cx base ops i e2 h:=iV ho (fun t ht=>H.read hi (by rw[jd ho];simp[ht])) (H.agree hi ho) (by rw[hx];simp);rw[hy,hx]
   first
    | rw[hx]at hr
      exact Rel.run is (H.upd _ _) (fun k hk=>hL k (by simp[hk])) _ hr
    |exact .inr ⟨_,_,rfl,rfl⟩
theorem tY(e:Env):∀(ds:List Nat)(t:Nat),(forget e ds).get t=if t∈ds then Ent.none else e.get t
 |[],t=>by simp[forget]
 | d:: ds,t=>by
  show cE ((d,Ent.none):: (forget e ds).sl) t=_;rw[dz];by_cases hd:d=t
  ·subst hd;simp
  ·rw[XG hd]
   have:=tY e ds t
   grind [Env.get]
theorem rX(e:Env):∀(ds:List Nat),(forget e ds).al=e.al/\(forget e ds).lb=e.lb/\∀B,aV (forget e ds).sl B=aV e.sl B
 |[]=>⟨rfl,rfl,fun _=>rfl⟩
 |_d:: ds=>rX e ds
theorem sC(e:Env)(f:Nat->AV):∀(outs:List Nat)(pre:List AV)(t:Nat),(iM e (pre++outs.map f) pre.length outs).get t=if t∈outs then⟨.val (f t),none⟩else e.get t
 |[],pre,t=>by simp[iM]
 | d:: ds,pre,t=>by
  show cE ((d,⟨.val (ab (pre++(d:: ds).map f) pre.length),none⟩):: (iM e (pre++(d:: ds).map f) (pre.length+1) ds).sl) t=_;rw[dz];have hn:ab (pre++(d:: ds).map f) pre.length=f d:=by simp[ab]
  by_cases hd:d=t
  ·grind
  ·rw[XG hd]
   have:=sC e f ds (pre++[f d]) t
   grind [Env.get]
theorem qt(e:Env)(vs:List AV):∀(outs:List Nat)(i:Nat),(iM e vs i outs).al=e.al/\(iM e vs i outs).lb=e.lb/\∀B,aV (iM e vs i outs).sl B=aV e.sl B
 |[],_i=>⟨rfl,rfl,fun _=>rfl⟩
 |_d:: ds,i=>qt e vs ds (i+1)
theorem Di(gs:List (Option (Nat×Bool)×List Nat))(t:Nat):Dh ops gs t=true↔∃i∈jX gs,t∈d4 ops i:=by
 grind [Dh,jX,iI]
theorem Rel.close{is:List Nat}{gs:List (Option (Nat×Bool)×List Nat)}{e2 e e':Env}(H:Rel ops (is++jX gs) e2 e)(hS:Small ops)(T:Turned (dQ ops is) e e'){vs:List AV}{f:Nat->AV}(hvs:vs=(eB ops is gs).map f)(hf:∀t∈eB ops is gs,e'.get t=⟨.val (f t),none⟩\/(f t= .any/\t<1000/\∀i∈jX gs,t ∉ d4 ops i)):Rel ops (jX gs) (iM (forget e2 (dQ ops is)) vs 0 (eB ops is gs)) e':=by
 have hr:=qt (forget e2 (dQ ops is)) vs (eB ops is gs) 0;have hr2:=rX e2 (dQ ops is);refine⟨fun t=>?_,fun g=>?_,fun B=>?_,fun B hB=>?_⟩
 ·have hg:=sC (forget e2 (dQ ops is)) f (eB ops is gs) [] t;simp only[Ye,Yk]at hg;rw[hvs,hg];split
  ·rename_i ht;rcases hf t ht with h|⟨h1,h2,h3⟩
   ·grind
   ·exact .inr ⟨by rw[h1];rfl,h2,h3⟩
  ·rename_i ht;rw[tY];split
   ·rename_i hd;refine .inr ⟨rfl,?_,fun i hi hti=>ht ?_⟩
    ·unfold dQ at hd;simp only[Zs]at hd;obtain⟨i,hi,hd⟩:=hd;unfold dM at hd;cases hoi:ops[i]? with
     |none=>grind
     |some o=>rw[hoi]at hd;exact hS.dst i o hoi t hd
    grind [eB,Di]
   ·rename_i hd;rw[T.get t hd];rcases H.get t with h|⟨h1,h2,h3⟩
    all_goals grind
 ·rw[hr.1,hr2.1,T.al];exact H.al g
 ·rw[hr.2.1,hr2.2.1,T.lb];exact H.lb B
 ·rw[hr.2.2,hr2.2.2]at hB;exact T.lf B (H.lf B hB)
theorem uX(l m:List Nat):∀e:Env,bp cx base ops (l++m) e=ar (bp cx base ops l e) (bp cx base ops m):=by
 induction l with
 |nil=>intro e;rfl
 |cons i l ih=>
  intro e;show ar (stepG cx base ops i e) (bp cx base ops (l++m))=ar (ar (stepG cx base ops i e) (bp cx base ops l)) (bp cx base ops m);rw[jo];congr 1
  grind
theorem JN{x:Ent}(h1:pn x=true)(h2:x.g=none):x=⟨.val x.av,none⟩:=by
 obtain⟨v,g⟩:=x;cases v with
 |val a=>simp only at h2;subst h2;rfl
 |loc B off=>cases h1
theorem lU{ρ:Type}(hS:Small ops):∀(gs:List (Option (Nat×Bool)×List Nat))(e2 e:Env)(k:Env->M ρ)(h:Hp),(∀g∈gs,∀i∈g.2,guardOf ops i=g.1)->Rel ops (jX gs) e2 e->fL cx base ops gs e2 k h≠.fail->
  (∃e2' e' h',fL cx base ops gs e2 k h=k e2' h'/\bp cx base ops (jX gs) e h= .ok e' h'/\Rel ops [] e2' e')\/∃v h',fL cx base ops gs e2 k h= .pan v h'/\bp cx base ops (jX gs) e h= .pan v h'
 |[],e2,e,k,h,_,H,_=>.inl ⟨e2,e,h,rfl,rfl,H⟩
 | (none,is):: gs,e2,e,k,h,hg,H,hr=>by
  have hg0:∀i∈is,guardOf ops i=none:=hg (none,is) Z8;have hfl:jX ((none,is):: gs)=is++jX gs:=rfl;rw[hfl]at H |-;rw[uX];simp only[fL]at hr |-;rw[A8 is e2 _ hg0]at hr |-;simp only[ar]at hr |-;have hr2:bp cx base ops is e2 h≠.fail:=fun hf=>Z7
  rcases H.run (base:=base) (cx:=cx) is (fun i hi=>by simp[hi]) h hr2 with⟨e2',e',h',h1,h2,H'⟩|⟨v,h',h1,h2⟩
  ·rw[h1]at hr |-;rw[h2];exact lU hS gs e2' e' k h' (fun g hgg=>hg g (by simp[hgg])) (H'.sub fun i hi=>by simp[hi]) hr
  grind
 | (some (j,want),is):: gs,e2,e,k,h,hg,H,hr=>by
  have hg0:∀i∈is,guardOf ops i=some (j,want):=hg (some (j,want),is) Z8;have hfl:jX ((some (j,want),is):: gs)=is++jX gs:=rfl;rw[hfl]at H |-;rw[uX];simp only[fL]at hr |-;cases hdj:dM ops j with
  |none=>rw[hdj]at hr;exact absurd rfl hr
  | some t=>
   rw[hdj]at hr;simp only at hr |-;revert hr;cases hc:((is.all fun i=>match ops[i]? with|some o=>gI cx o&&o.dst.isSome|none=>false)&&!(dT (dQ ops is) t))with
   |false=>intro hr;exact absurd rfl hr
   | true=>
    intro hr;simp only[XL]at hr |-;simp only[XJ,Yh,XY]at hc;have G:GroupOk cx ops j want t is:=by
     refine⟨hdj,fun i hi=>?_,fun ht=>?_⟩
     ·grind
     ·rw[(iI _ _).2 ht]at hc
      grind
    have htr:∀i∈is,t∈d4 ops i:=fun i hi=>by
     obtain⟨o,ho,hgi,_⟩:=G.each i hi;rw[jd ho];have:o.guard=some (j,want):=by simpa [guardOf,ho]using hgi
     have:t∈gG ops o:=by
      unfold gG;rw[this];simp only;rw[show (ops[j]?).bind (·.dst)=some t from hdj];simp
     simp[this]
    -- the guard says yes
    cases is with
    | nil=>
     have hrn:∀e,bp cx base ops [] e=ao e:=fun _=>rfl;rw[hrn,aj];have ho:eB ops [] gs=[]:=rfl;have hd:dQ ops []=[]:=rfl;rw[ho,hd]at hr |-;have hpure:∀ {q:AV} {m:M (List AV)},m h= .ok [] h->aO q want ([]:List Nat).length m h≠.fail->aO q want ([]:List Nat).length m h= .ok [] h:=by
      intro q m hm hne;cases q with
      |bool b=>
       simp only[aO];cases b== want with
       |true=>exact hm
       |false=>rfl
      |tup vs=>
       cases vs with
       |nil=>rfl
       |cons v vs=>exact absurd rfl hne
      |_=>exact absurd rfl hne
     simp only[ar]at hr |-;have hp:=hpure (q:=e2.av t) (m:=ll cx base ops true [] e2 fun e'=>bif ([]:List Nat).all (fun t=>pn (e'.get t))then ao (([]:List Nat).map e'.av)else gX) rfl (fun hf=>Z7);rw[hp]at hr |-;exact lU hS gs e2 e k h (fun g hgg=>hg g (by simp[hgg])) (H.sub fun i hi=>by simp[hi]) hr
    |cons i0 is0=>
    have hav:e.av t=e2.av t:=by
     have:=H.read (i:=i0) Z8 (htr i0 Z8)
     simp only[Env.av,this]
    generalize hiseq:i0:: is0=is at *;have hoff:Off (e2.av t) want->(aO (e2.av t) want (eB ops is gs).length (ll cx base ops true is e2 fun e'=>bif (eB ops is gs).all (fun t=>pn (e'.get t))then ao ((eB ops is gs).map e'.av)else gX))=ao (List.replicate (eB ops is gs).length (.tup [])):=by
     rintro (hq|⟨b,hq,hb⟩)
     ·rw[hq];rfl
     ·rw[hq];simp only[aO,hb,XT]
    have hcase:Off (e2.av t) want\/e2.av t= .bool want:=by
     cases hq:e2.av t with
     |bool b=>
      cases hb:(b== want)with
      |true=>grind
      |false=>exact .inl (.inr ⟨b,rfl,hb⟩)
     |tup vs=>
      cases vs with
      |nil=>exact .inl (.inl rfl)
      |cons v vs=>rw[hq]at hr;exact absurd rfl hr
     |_=>rw[hq]at hr;exact absurd rfl hr
    rcases hcase with ho|hy
    ·rw[hoff ho,aj]at hr |-;obtain⟨e',h1,T,h2⟩:=Ks (base:=base) is e h G Z7;simp only[ar];rw[h1];refine lU hS gs _ e' k h (fun g hgg=>hg g (by simp[hgg])) (H.close hS T (f:=fun _=>.tup []) ?_ fun s hs=>.inl ?_) hr
     all_goals grind [List.map_const',eB]
    ·rw[hy]at hr |-;simp only[aO,Yf,XL,ar]at hr |-;rw[xx is e2 _ h G hy]at hr |-;simp only[ar]at hr |-;have hr2:bp cx base ops is e2 h≠.fail:=fun hf=>Z7
     rcases H.run (base:=base) (cx:=cx) is (fun i hi=>by simp[hi]) h hr2 with⟨e2',e',h',h1,h2,H'⟩|⟨v,h',h1,h2⟩
     ·rw[h1]at hr |-;rw[h2];simp only at hr |-;have T2:=qy is e2 e2' h h' G hy h1;have T:=qy is e e' h h' G Z7 h2;cases hv:(eB ops is gs).all (fun t=>pn (e2'.get t))with
      |false=>rw[hv]at hr;exact absurd rfl hr
      |true=>
       rw[hv]at hr;simp only[XL,ao]at hr |-;refine lU hS gs _ e' k h' (fun g hgg=>hg g (by simp[hgg])) (H.close hS T (f:=e2'.av) rfl fun s hs=>?_) hr;have hsd:s∈dQ ops is:=by unfold eB at hs;exact (List.mem_filter.1 hs).1
       have hval:=JN (XY.1 hv s hs) (T2.ng s hsd);rcases H'.get s with h3|⟨h3,h4,h5⟩
       ·left;rw[<- h3];exact hval
       ·right;exact⟨by simp only[Env.av,h3];rfl,h4,fun i hi=>h5 i (by simp[hi])⟩
     grind
end
end
omit [Dr]in
theorem mP(acc:List Nat):∀(es:List Edge)(x:Nat),(lH acc es).testBit x=true↔∃e∈es,Region.binds .any e=true/\(e.on=x\/(acc.getD e.on 0).testBit x=true)
 |[],x=>by simp[lH]
 | e:: es,x=>by
  simp only[lH];cases hb:Region.binds .any e with
  |false=>
   simp only[XT,mP acc es x,Yn]
   grind
  |true=>
   simp only[XL,Nat.testBit_or,Yy,mP acc es x,Yn,Nat.testBit_two_pow,XI]
   grind
omit [Dr]in
theorem wy:∀(os:List Oper)(acc:List Nat),∃r:List Nat,BN os acc=acc++r/\r.length=os.length/\∀(k:Nat)(o:Oper),os[k]? = some o->r[k]? = some (lH (acc++r.take k) o.after.toList)
 |[],acc=>⟨[],by simp[BN],rfl,Z8⟩
 | o:: os,acc=>by
  obtain⟨r,h1,h2,h3⟩:=wy os (acc++[lH acc o.after.toList]);refine⟨lH acc o.after.toList:: r,by simp[BN,h1],by simp[h2],fun k o' ho=>?_⟩;cases k with
  |zero=>grind
  |succ k=>
   grind
section
variable {ops:Array Oper}
def oC(ops:Array Oper):List Nat:=BN ops.toList []
omit [Dr]in
theorem GE{j:Nat}{o:Oper}(ho:ops[j]? = some o):(oC ops).length=ops.size/\(oC ops).getD j 0=lH ((oC ops).take j) o.after.toList:=by
 obtain⟨r,h1,h2,h3⟩:=wy ops.toList []
 grind [oC]
omit [Dr]in
theorem ES{listed:Nat->Prop}(hcl:∀(j:Nat)(o:Oper),ops[j]? = some o->listed j->∀e∈o.after.toList,Region.binds .any e=true->listed e.on):
  ∀(j:Nat)(o:Oper),ops[j]? = some o->(∀e∈o.after.toList,Region.binds .any e=true->listed e.on)->∀x,((oC ops).getD j 0).testBit x=true->listed x:=by
 intro j
 induction j using Nat.strongRecOn with
 | _ j ih=>
  intro o ho hl x hx;obtain⟨hlen,hget⟩:=GE ho;rw[hget,mP]at hx;obtain⟨e,he,hb,hx|hx⟩:=hx
  ·grind
  ·by_cases hj:e.on<j
   ·have hjs:j<ops.size:=(YU.1 ho).1;have hos:ops[e.on]? = some ops[e.on]:=Zo Z5;have h1:((oC ops).take j).getD e.on 0=(oC ops).getD e.on 0:=by
     rw[YB,YB,Zd,XK hj]
    grind
   grind
def Gs(cx:Cx)(ops:Array Oper)(i j:Nat):Prop:=((oC ops).getD i 0).testBit j=false/\(((oC ops).getD j 0).testBit i=true\/pX cx ops i j=true)
omit [Dr]in
theorem sn{cx:Cx}:∀ {l:List Nat},mS cx ops (oC ops) l=true->l.Pairwise (Gs cx ops)/\∀i∈l,((oC ops).getD i 0).testBit i=false
 |[],_=>⟨.nil,Z8⟩
 |i:: l,h=>by
  simp only[mS,XJ,Yh,XY,Yy]at h;obtain⟨⟨h1,h2⟩,h3⟩:=h;obtain⟨h4,h5⟩:=sn h3;refine⟨.cons (fun j hj=>h2 j hj) h4,fun k hk=>?_⟩
  grind
omit [Dr]in
theorem nz:∀ {l:List Nat},distinct l=true->l.Nodup
 |[],_=>.nil
 |i:: l,h=>by
  simp only[distinct,XJ,Yh]at h;refine List.nodup_cons.2 ⟨fun hi=>?_,nz h.2⟩;rw[(iI _ _).2 hi]at h
  grind
variable {P:Program} {cx:Cx} {c:Entry} {N base:Nat}
theorem zO(hT:TOK P cx.T)(hC:dF P cx.own cx.call)(hI:IsoPure cx)(hO:OpsOk N cx ops)(hS:Small ops)(hbit:∀i x,((oC ops).getD i 0).testBit x=true->x<ops.size)(hself:∀i,i<ops.size->((oC ops).getD i 0).testBit i=false){Q:Exit->Act->World->Prop}:∀(n:Nat)(rest:List Nat)(listed:Array Bool)(D:List Nat)(e:Env)(h:Hp)(a:Act)(w:World),rest.length=n->listed.size=ops.size->rest.Nodup->
  (∀i,i∈rest↔i<ops.size/\listed.getD i true=false)->(∀i∈rest,i ∉ D)->(∀i∈D,i<ops.size)->
  (∀(j:Nat)(o:Oper),ops[j]? = some o->listed.getD j false=true->∀e∈o.after.toList,Region.binds .any e=true->listed.getD e.on false=true)->rest.Pairwise (Gs cx ops)->
  fS c N (UD base D) e h a w->bp cx base ops rest e h≠.fail->
  (∀e0 e' h' a' w',bp cx base ops rest e h= .ok e0 h'->EqE e0 e'->fS c N (UR base ops.size) e' h' a' w'->a'.defers=a.defers->Q .normal a' w')->
  (∀pv h' v w' a',bp cx base ops rest e h= .pan pv h'->oW c pv h' v w'->a'.defers=a.defers->Q (.panic [{ v,recovered:=false }]) a' w')->wpAny P .any ops Q n listed a w
 |0,rest,listed,D,e,h,a,w,hlen,hsz,hnd,hmem,hdis,hD,hcl,hpw,H,hr,hn,hp=>by
  have:rest=[]:=XV hlen;subst this;refine⟨?_,hn e e h a w rfl (.refl e) (H.wider (KW hD)) rfl⟩;refine List.eq_nil_iff_forall_not_mem.2 fun i hi=>?_
  grind [mem_ready]
 | n + 1,rest,listed,D,e,h,a,w,hlen,hsz,hnd,hmem,hdis,hD,hcl,hpw,H,hr,hn,hp=>by
  have hgd:∀i,i<ops.size->listed.getD i true=listed.getD i false:=fun i hi=>by
   grind
  refine⟨fun hemp=>?_,fun i hi=>?_⟩
  ·exfalso;cases rest with
   |nil=>simp at hlen
   | cons r0 tl=>
    have hr0:=(hmem r0).1 Z8;have hor:ops[r0]? = some ops[r0]:=Zo hr0.1;have:r0∈Region.ready .any ops listed:=by
     refine mem_ready.2 ⟨hr0.2,_,hor,fun ed hed hb=>?_⟩;have hbt:((oC ops).getD r0 0).testBit ed.on=true:=by
      rw[(GE hor).2,mP];exact⟨ed,by simpa using hed,hb,.inl rfl⟩
     have hlt:=hbit r0 ed.on hbt;cases hl:listed.getD ed.on false with
     |true=>rfl
     | false=>
      have hin:=(hmem ed.on).2 ⟨hlt,Z7⟩;simp only[Yn]at hin;rcases hin with hin|hin
      ·grind
      ·have:=(List.pairwise_cons.1 hpw).1 ed.on hin
       rw[this.1]at hbt;cases hbt
    grind
  ·obtain⟨h0,o,ho,hall⟩:=mem_ready.1 hi;have hlt:i<ops.size:=(YU.1 ho).1;have hin:=(hmem i).2 ⟨hlt,h0⟩;obtain⟨p,q,rfl⟩:=List.append_of_mem hin;have hnd':=hnd;rw[ZO]at hnd';have hni:i ∉ p++q:=by
    intro hm;rw[Yl]at hm;rcases hm with hm|hm
    ·grind
    ·grind
   have hclo:=ES (ops:=ops) (listed:=fun j=>listed.getD j false=true) (fun j o ho hj ed hed hb=>hcl j o ho hj ed hed hb) i o ho (fun ed hed hb=>hall ed (by simpa using hed) hb);have hfront:∀x∈p,pX cx ops x i=true/\x≠i:=by
    intro x hx;have hpr:=(List.pairwise_append.1 hpw).2.2 x hx i Z8;refine⟨?_,fun hxi=>hni Z7⟩;rcases hpr.2 with h1|h1
    ·grind
    ·exact h1
   have hRE:=Lh (base:=base) hI hS q p hfront e h;have hr':bp cx base ops (i:: (p++q)) e h≠.fail:=by
    intro hf;rw[hf]at hRE;cases hx:bp cx base ops (p++i:: q) e h with
    |fail=>exact hr hx
    |ok e0 h0=>rw[hx]at hRE;obtain⟨_,h1,_⟩:=hRE;cases h1
    |pan v h0=>rw[hx]at hRE;cases hRE
   simp only[bp,ar]at hr';have hstep:∀ {r:R Env},bp cx base ops (i:: (p++q)) e h=r->bp cx base ops (i:: (p++q)) e h=r:=fun h=>h;simp only[bp,ar]at hRE;refine vt hT hC hO (hdis i hin) H (fun hf=>Z7) (fun e1 h1 a1 w1 hst hs hdf=>?_) (fun pv h1 v w1 hst hps=>?_)
   ·rw [hst]at hr' hRE;simp only at hr' hRE;refine zO hT hC hI hO hS hbit hself n (p++q) (listed.setIfInBounds i true) (i:: D) e1 h1 a1 w1 ?_ (by simp[hsz]) ?_ (fun k=>?_) (fun k hk=>?_) (fun k hk=>?_) (fun k o' ho' hk ed hed hb=>?_) ?_ hs hr' (fun e0 e' h' a' w' hok heq hsat hdf'=>?_) (fun pv h' v w' a' hok hps hdf'=>?_)
    ·grind
    ·grind
    ·have hset:k≠i->(listed.setIfInBounds i true).getD k true=listed.getD k true:=fun hk=>by
      simp_all[Ne.symm]
     constructor
     ·grind
     ·rintro⟨h1,h2⟩;have hki:k≠i:=by
       rintro rfl;rw[YI,Array.getElem?_setIfInBounds_self]at h2;rw[XK Z5]at h2;simp at h2
      grind
    ·grind
    ·grind
    ·have hmono:∀x,listed.getD x false=true->(listed.setIfInBounds i true).getD x false=true:=fun x hx=>getD_set_true hx;by_cases hki:k=i
     ·grind
     ·refine hmono _ (hcl k o' ho' ?_ ed hed hb);simp_all[Ne.symm]
    ·grind
    ·rw[hok]at hRE;cases hx:bp cx base ops (p++i:: q) e h with
     |fail=>grind
     |ok ex hx'=>
      rw[hx]at hRE;obtain⟨e0',h2,h3⟩:=hRE;cases h2;exact hn ex e' _ a' w' hx (h3.trans heq) hsat (hdf'.trans hdf)
     |pan v h0=>rw[hx]at hRE;cases hRE
    ·rw[hok]at hRE;cases hx:bp cx base ops (p++i:: q) e h with
     |fail=>grind
     |ok ex hx'=>rw[hx]at hRE;obtain⟨_,h1,_⟩:=hRE;cases h1
     |pan v0 h0=>
      rw[hx]at hRE;cases hRE
      grind
   ·rw[hst]at hRE;cases hx:bp cx base ops (p++i:: q) e h with
    |fail=>grind
    |ok ex hx'=>rw[hx]at hRE;obtain⟨_,h1,_⟩:=hRE;cases h1
    |pan v0 h0=>
     rw[hx]at hRE;cases hRE
     grind
end
structure IsoCall (cx:Cx):Prop where
 iso:∀f args,cx.iso f=true->∃x:Option (Bool×AV),∀h,cx.call f args h=(match x with|none=>.fail|some (true,v)=>.ok v h|some (false,v)=>.pan v h)
 nw:∀f args,cx.nw f=true->ze (cx.call f args)
omit [Dr]in
theorem IsoCall.draw{cx:Cx}(h:IsoCall cx):IsoPure (gM cx):=by
 refine⟨?_,fun f args hf=>?_⟩
 case refine_2=>
  have hn:=h.nw f args hf;show ze (bif cx.iso f then dy (cx.call f args)else cx.call f args);cases cx.iso f with
  |false=>exact hn
  |true=>
   intro hp v h' hh;simp only[XL,dy]at hh;cases hq:cx.call f args hp with
   |ok a b=>rw[hq]at hh;cases hh;exact hn _ _ _ hq
   |pan a b=>grind
   |fail=>grind
 intro f args hf;have hf':cx.iso f=true:=hf;obtain⟨x,hx⟩:=h.iso f args hf';refine⟨match x with|some (true,v)=>some v|_=>none,?_⟩;show (bif cx.iso f then dy (cx.call f args)else cx.call f args)=_;rw[hf'];funext hp;simp only[XL,dy,hx];rcases x with _|⟨b,v⟩
 ·rfl
 ·cases b<;>rfl
theorem dF.draw{P:Program}{cx:Cx}(h:dF P cx.own cx.call):dF P (gM cx).own (gM cx).call:=by
 intro f args hp S β w vs hr hg hw hh hv;have hcall:(gM cx).call f args hp=(bif cx.iso f then dy (cx.call f args) hp else cx.call f args hp):=by
  show (bif cx.iso f then dy (cx.call f args)else cx.call f args) hp=_;cases cx.iso f<;>rfl
 rw[hcall]at hr |-
 have key:∀r,r=cx.call f args hp->r≠.fail->Calls P f vs.toArray w (fg ((gM cx).own f) S β hp w r)/\(P.funcs[f]?).any (fun fn=>fn.body.isSome&&!(fn.name== "runtime.NumGoroutine"))=true:=by
  intro r hr1 hr2;subst hr1;exact h f args hp S β w vs hr2 hg hw hh hv
 cases hi:cx.iso f with
 |false=>grind
 |true=>
  rw[hi]at hr;simp only[XL,dy]at hr |-
  grind
def na(c:Entry)(N:Nat)(e:Env)(h:Hp)(a:Act)(w:World):Prop:=fS c N (fun g=>g<e.nx*1000) e h a w
theorem fS.rel{c:Entry}{N:Nat}{U:Nat->Prop}{e2 e:Env}{h:Hp}{a:Act}{w:World}{ops:Array Oper}(H:fS c N U e h a w)(R:Rel ops [] e2 e):fS c N U e2 h a w:=by
 obtain⟨S,β,γ,lam,ω,F⟩:=H;refine⟨S,β,γ,lam,ω,F.weak (fun t=>?_) (fun t g hg=>?_) (fun g z hz=>by rw[R.al]at hz;exact hz) (fun B n hB=>by rw[R.lb]at hB;exact hB)⟩
 ·rcases R.get t with h|⟨h1,h2,_⟩
  ·grind
  ·exact .inr ⟨by rw[h1];rfl,h2⟩
 ·rcases R.get t with h|⟨h1,_⟩
  ·grind
  ·rw[h1]at hg;cases hg
theorem fS.eqE{c:Entry}{N:Nat}{U:Nat->Prop}{e2 e:Env}{h:Hp}{a:Act}{w:World}(H:fS c N U e h a w)(R:EqE e e2):fS c N U e2 h a w:=by
 obtain⟨S,β,γ,lam,ω,F⟩:=H;exact⟨S,β,γ,lam,ω,F.weak (fun t=>.inl (by rw[R.get])) (fun t g hg=>by rw[R.get]at hg;exact hg) (fun g z hz=>by rw[R.al]at hz;exact hz) (fun B n hB=>by rw[R.lb]at hB;exact hB)⟩
theorem fS.nx{c:Entry}{N:Nat}{U:Nat->Prop}{e:Env}{h:Hp}{a:Act}{w:World}(n:Nat)(H:fS c N U e h a w):fS c N U { e with nx:=n } h a w:=by
 obtain⟨S,β,γ,lam,ω,F⟩:=H;exact⟨S,β,γ,lam,ω,F.weak (fun t=>.inl rfl) (fun t g hg=>hg) (fun g z hz=>hz) (fun B n hB=>hB)⟩
section
variable {P:Program} {cx:Cx} {c:Entry} {e:Env} {h:Hp} {a:Act} {w:World} {ops:Array Oper} {id:Nat}
omit [Dr]in
theorem vP{n:Nat}(hn:n<=1000)(hd:lO n ops=true)(hk:∀p,FA (dp cx.ann.kinds p .L)=true->p<n):OpsOk n cx ops/\Small ops:=by
 unfold lO at hd;rw[Array.all_eq_true_iff_forall_mem]at hd;have h1:∀(i:Nat)(o:Oper),ops[i]? = some o->(∀t,o.dst=some t->t<n)/\∀t∈ig o,t<1000:=by
  intro i o ho
  have:=hd o (Array.mem_of_getElem? ho)
  simp only[XJ,XY,XI]at this;refine⟨fun t ht=>?_,this.2⟩;have h2:=this.1;rw[ht]at h2;simpa using h2
 refine⟨⟨fun i o ho=>(h1 i o ho).1,fun i o ho x hx t hxt=>(h1 i o ho).2 t ?_,hk⟩,⟨fun i o ho t ht=>Nat.lt_of_lt_of_le ((h1 i o ho).1 t ht) hn,fun i o ho=>(h1 i o ho).2⟩⟩;subst hxt;exact Zs.2 ⟨_,hx,rfl⟩
theorem FX{ρ:Type}(hT:TOK P cx.T)(hC:dF P cx.own cx.call)(hI:IsoCall cx)(hk:∀p,FA (dp cx.ann.kinds p .L)=true->p<cx.nt){draw:Bool}{k:Env->M ρ}(H:na c cx.nt e h a w)(hr:rR cx id ops draw e k h≠.fail){Q:Exit->Act->World->Prop}(hn:∀e' h' a' w',rR cx id ops draw e k h=k e' h'->na c cx.nt e' h' a' w'->a'.defers=a.defers->Q .normal a' w')(hp:∀pv h' v w' a',rR cx id ops draw e k h= .pan pv h'->oW c pv h' v w'->a'.defers=a.defers->Q (.panic [{ v,recovered:=false }]) a' w'):
  (Code.region id ops draw).wp P Q a w:=by
 have hN:cx.nt<=1000:=by obtain⟨S,β,γ,lam,ω,F⟩:=H;exact F.tsz.2
 have H0:fS c cx.nt (UD e.nx []) e h a w:=H.wider fun g hg=>.inl hg;unfold rR at hr hn hp;cases hds:lO cx.nt ops with
 |false=>rw[hds]at hr;exact absurd rfl hr
 | true=>
  obtain⟨hO,hS⟩:=vP (cx:=cx) hN hds hk;rw[hds]at hr hn hp;simp only[XL]at hr hn hp;cases draw with
  | false=>
   simp only[XT]at hr hn hp;obtain⟨hfl,hgs⟩:=lG ops (List.range ops.size);refine wp_region (xz hT hC hO (List.range ops.size) [] e h a w List.nodup_range Z8 H0 ?_ ?_ ?_)
   all_goals
    have hseq:=lU (cx:=cx) (base:=e.nx) hS (eP ops (List.range ops.size)) e e _ h hgs (.refl ops _ e) hr;rw[hfl]at hseq
   ·rcases hseq with⟨_,_,_,_,h2,_⟩|⟨_,_,_,h2⟩<;>rw[h2]<;>simp
   ·intro e' h' a' w' hok hsat hdf;rcases hseq with⟨e2',e'',h'',h1,h2,hR⟩|⟨_,_,_,h2⟩
    ·rw[h2]at hok;cases hok;refine hn _ _ a' w' h1 (fS.nx _ ((hsat.wider (KW ?_)).rel hR)) hdf;intro i hi;simpa using hi
    ·rw[h2]at hok;cases hok
   ·intro pv h' v w' a' hok hps hdf;rcases hseq with⟨e2',e'',h'',h1,h2,hR⟩|⟨_,_,h1,h2⟩
    ·rw[h2]at hok;cases hok
    ·rw[h2]at hok;cases hok;exact hp _ _ v w' a' h1 hps hdf
  | true=>
   simp only[XL]at hr hn hp;generalize xq cx id ops.size=ord at hr hn hp;cases hdo:pe cx ops ord with
   |false=>rw[hdo]at hr;exact absurd rfl hr
   | true=>
    rw[hdo]at hr hn hp;simp only[XL]at hr hn hp;simp only[pe,Ic,XJ,XY,XI]at hdo;obtain⟨⟨⟨⟨⟨hlen,hmem⟩,hdist⟩,hlt⟩,hbits⟩,hpairs⟩:=hdo;have hlen':ord.length=ops.size:=Nat.eq_of_beq_eq_true hlen;obtain⟨hpw,hself⟩:=sn (cx:=cx) (ops:=ops) hpairs;have hpw':ord.Pairwise (Gs (gM cx) ops):=hpw;have hO':OpsOk cx.nt (gM cx) ops:=⟨hO.dst,hO.src,hO.kin⟩;obtain⟨hfl,hgs⟩:=lG ops ord;have hseq:=lU (cx:=gM cx) (base:=e.nx) hS (eP ops ord) e e _ h hgs (.refl ops _ e) hr;rw[hfl]at hseq;refine wp_region_draw fun t=>?_;have hsch:Region.schedule (P.follows .mixedOrders) ops t=Region.linearise .any ops t:=by
     simp only[Region.schedule,hT.mix,Bool.true_or,XS]
    rw[hsch];have hmem':∀i,i∈ord↔i<ops.size:=fun i=>⟨fun hi=>hlt i hi,fun hi=>(iI _ _).1 (hmem i (by simpa using hi))⟩;refine wpAny_sound ops.size t _ a _ (zO (cx:=gM cx) (c:=c) (N:=cx.nt) (base:=e.nx) hT hC.draw hI.draw hO' hS ?_ ?_ ops.size ord (Array.replicate ops.size false) [] e h a w.drew hlen' Z8 (nz hdist) ?_ Z8 Z8 ?_ hpw' ?_ ?_ ?_ ?_)
    ·intro i x hx;rcases Ya x ops.size with h'|h'
     ·exact h'
     ·have hm:(oC ops).getD i 0<2 ^ ops.size:=by
       rw[YB];cases hi:(oC ops)[i]? with
       |none=>grind
       |some m=>exact hbits m (Ys hi)
      grind [Nat.testBit_lt_two_pow,Nat.lt_of_lt_of_le,Nat.pow_le_pow_right]
    ·grind
    ·simp_all
    ·intro j o ho hj;exfalso;rw[YI,Array.getElem?_replicate]at hj
     grind
    ·obtain⟨S,β,γ,lam,ω,F⟩:=H0;exact⟨S,β,γ,lam,ω,F.drew⟩
    ·grind
    ·intro e0 e' h' a' w' hok heq hsat hdf;rcases hseq with⟨e2',e'',h'',h1,h2,hR⟩|⟨_,_,_,h2⟩
     ·rw[h2]at hok;cases hok;exact hn _ _ a' w' h1 (fS.nx _ ((hsat.eqE heq.symm).rel hR)) hdf
     grind
    grind
end
section
variable {P:Program} {cx:Cx} {c:Entry} {e:Env} {h:Hp} {a:Act} {w:World} {ops:Array Oper} {id:Nat}
theorem FR.two{N:Nat}{U:Nat->Prop}{S:aD}{β:List cF}{γ:Nat->Value}{lam:Nat->Option Nat}{ω:Nat->Owner}(F:FR c N U e h a w S β γ lam ω){d q:Nat}(hd:d<N)(hq:q<N)(v:Value)(b:Bool):
  FR c N U ((e.set d Ent.none).set q ⟨.val (.bool b),none⟩) h ((a.put (some d) v).put (some q) (.bool b)) w S β γ lam ω:=by
 have F1:=F.setV (d:=some d) (r:=.any) (v:=v) (fun t ht=>Z7) (by simp[VR]);exact F1.setV (d:=some q) (r:=.bool b) (v:=.bool b) (fun t ht=>Z7) (by simp[VR])
theorem CZ{ρ:Type}(hT:TOK P cx.T)(hC:dF P cx.own cx.call)(hI:IsoCall cx)(hk:∀p,FA (dp cx.ann.kinds p .L)=true->p<cx.nt){draw:Bool}{k:Env->M ρ}(H:na c cx.nt e h a w)(hr:qQ cx id ops draw e k h≠.fail){Q:Exit->Act->World->Prop}(hn:∀e' h' a' w',qQ cx id ops draw e k h=k e' h'->na c cx.nt e' h' a' w'->a'.defers=a.defers->Q .normal a' w')(hp:∀pv h' v w' a',qQ cx id ops draw e k h= .pan pv h'->oW c pv h' v w'->a'.defers=a.defers->Q (.panic [{ v,recovered:=false }]) a' w'):
  (Code.region id ops draw).wp P Q a w:=FX hT hC hI hk H hr hn hp
end
section
omit [Dr]
theorem mR{e:Env}:∀(l:List (Nat×Option Nat))(used:List Nat)(vs:List AV),jz e l used=some vs->vs.length=l.length/\
  (∀(i:Nat)(t:Nat)(z:Option Nat),l[i]? = some (t,z)->∃a,vs[i]? = some a/\(e.get t).v= .val a/\∀sz,z=some sz->∃g z0,(e.get t).g=some g/\aQ e.al g=some z0/\(z0=none\/z0=some sz)/\g ∉ used)/\
  ∀(i j:Nat)(t t' sz sz':Nat),i<j->l[i]? = some (t,some sz)->l[j]? = some (t',some sz')->(e.get t).g≠(e.get t').g
 |[],used,vs,h=>by
  simp only[jz,XF]at h
  grind
 | (t,none):: r,used,vs,h=>by
  simp only[jz]at h;split at h
  ·rename_i a ha;split at h
   ·rename_i vs' hvs;simp only[XF]at h;subst h;obtain⟨h1,h2,h3⟩:=mR r used vs' hvs;refine⟨by simp[h1],fun i t' z hi=>?_,fun i j t1 t2 sz1 sz2 hij hi hj=>?_⟩
    ·grind
    ·cases i with
     |zero=>simp at hi
     |succ i=>
      cases j with
      |zero=>omega
      |succ j=>grind
   ·cases h
  ·cases h
 | (t, some sz):: r,used,vs,h=>by
  simp only[jz]at h;split at h
  ·rename_i a g ha hg;split at h
   ·cases h
   ·rename_i z0 hz0;have hcond:yX z0 (some sz)=true/\dT used g=false/\(match jz e r (g:: used)with|some vs=>some (a:: vs)|none=>none)=some vs:=by
     cases hm:dT used g with
     |true=>
      grind
     | false=>
      rw[hm]at h;cases z0 with
      |none=>exact⟨rfl,rfl,h⟩
      |some n=>
       simp only at h;cases hb:Nat.beq n sz with
       |true=>rw[hb]at h;exact⟨hb,rfl,h⟩
       |false=>grind
    obtain⟨hc1,hc2,h⟩:=hcond;have hc:=And.intro hc1 hc2
    ·split at h
     ·rename_i vs' hvs;simp only[XF]at h;subst h;have hgu:g ∉ used:=fun hm=>by
       rw[(iI _ _).2 hm]at hc
       grind
      have hz:z0=none\/z0=some sz:=by
       cases z0 with
       |none=>exact .inl rfl
       |some n=>grind [Nat.eq_of_beq_eq_true]
      obtain⟨h1,h2,h3⟩:=mR r (g:: used) vs' hvs;refine⟨by simp[h1],fun i t' z hi=>?_,fun i j t1 t2 sz1 sz2 hij hi hj=>?_⟩
      ·cases i with
       |zero=>
        grind
       |succ i=>
        obtain⟨a',k1,k2,k3⟩:=h2 i t' z (by simpa using hi);refine⟨a',by simpa using k1,k2,fun sz' hsz=>?_⟩;obtain⟨g',z',m1,m2,m3,m4⟩:=k3 sz' hsz
        grind
      ·cases i with
       | zero=>
        cases j with
        |zero=>omega
        |succ j=>
         simp only[List.getElem?_cons_zero,XF,YD]at hi
         grind
       |succ i=>
        cases j with
        |zero=>omega
        |succ j=>grind
     ·cases h
  ·cases h
theorem m9(vs:List AV)(r:List (Nat×Ent))(t:Nat):∀(l:List (Nat×Option Nat))(k:Nat),
  (∃(i:Nat)(z:Option Nat),l[i]? = some (t,z)/\cE (dN vs k l++r) t=⟨.val (ab vs (k+i)),z.map fun _=>k+i⟩)\/
  ((∀(i:Nat)(z:Option Nat),l[i]? ≠some (t,z))/\cE (dN vs k l++r) t=cE r t)
 |[],k=>.inr ⟨Z8,rfl⟩
 | (s,z):: l,k=>by
  have hh:dN vs k ((s,z):: l)=(s,⟨.val (ab vs k),z.map fun _=>k⟩):: dN vs (k+1) l:=by cases z<;>rfl
  rw[hh,Yx,dz];by_cases hs:s=t
  ·subst hs;rw[XK rfl];exact .inl ⟨0,z,rfl,rfl⟩
  ·rw[XG hs];rcases m9 vs r t l (k+1)with⟨i,z',h1,h2⟩|⟨h1,h2⟩
   ·refine .inl ⟨i+1,z',by simpa using h1,?_⟩
    grind
   grind
theorem jt:∀(l:List (Nat×Option Nat))(k g:Nat)(y:Option Nat),aQ (mg k l) g=some y->∃(i t sz:Nat),l[i]? = some (t,some sz)/\g=k+i/\y=some sz
 |[],k,g,y,h=>by simp[mg,aQ]at h
 |(s,none):: l,k,g,y,h=>by
  obtain⟨i,t,sz,h1,h2,h3⟩:=jt l (k+1) g y h;exact⟨i+1,t,sz,by simpa using h1,Z5,h3⟩
 | (s,some n):: l,k,g,y,h=>by
  simp only[mg,df]at h;split at h
  ·rename_i hk;simp only[XF]at h;exact⟨0,s,n,rfl,Z5,h.symm⟩
  ·obtain⟨i,t,sz,h1,h2,h3⟩:=jt l (k+1) g y h;exact⟨i+1,t,sz,by simpa using h1,Z5,h3⟩
theorem q6(t:Nat):∀(l:List (Nat×Nat×Nat)),(∃B off,(t,B,off)∈l/\cE (l.map fun x=>(x.1,(⟨.loc x.2.1 x.2.2,none⟩:Ent))) t=⟨.loc B off,none⟩)\/cE (l.map fun x=>(x.1,(⟨.loc x.2.1 x.2.2,none⟩:Ent))) t=Ent.none
 |[]=>.inr rfl
 | (s,B,off):: l=>by
  rw[YA,dz];by_cases hs:s=t
  ·grind
  ·rw[XG hs];rcases q6 t l with⟨B',off',h1,h2⟩|h
   all_goals grind
theorem uB{e:Env}:∀ {l:List (Nat×Nat×Nat)},uA e l=true->∀t B off,(t,B,off)∈l->(e.get t).v= .loc B off
 |[],_,t,B,off,h=>by simp at h
 | (s,B0,off0):: l,h,t,B,off,hm=>by
  simp only[uA,XJ]at h;simp only[Yn,YD]at hm;rcases hm with⟨rfl,rfl,rfl⟩|hm
  ·have h1:=h.1;split at h1
   all_goals simp_all
  ·exact uB h.2 t B off hm
theorem xa{e:Env}:∀ {l:List (Nat×Nat)},AE e l=true->∀B n,be l B=some n->be e.lb B=some n
 |[],_,B,n,h=>by simp[be]at h
 |(B0,n0):: l,h,B,n,hm=>by
  simp only[AE,XJ]at h;rw[eQ]at hm;split at hm
  ·grind [Nat.eq_of_beq_eq_true]
  ·exact xa h.2 B n hm
end
section
variable {c:Entry} {N:Nat} {e:Env} {h:Hp} {a:Act} {w:World}
open Classical in
theorem y8{ja:JA}{vs:List AV}(H:na c N e h a w)(hp:pack ja e=some vs):na c N (unpack ja vs) h a w:=by
 obtain⟨S,β,γ,lam,ω,F⟩:=H;unfold pack at hp;cases hlo:(uA e ja.locs&&AE e ja.lbs)with
 |false=>grind
 | true=>
  rw[hlo]at hp;simp only[XL]at hp;simp only[XJ]at hlo;obtain⟨hlen,hval,hdis⟩:=mR ja.vals [] vs hp
  -- the groups carried
  let gOf:Nat->Option Nat:=fun i=>match ja.vals[i]? with|some (t,some _)=>(e.get t).g|_=>none
  have hg1:∀i t sz,ja.vals[i]? = some (t,some sz)->∃g z0,gOf i=some g/\(e.get t).g=some g/\aQ e.al g=some z0/\(z0=none\/z0=some sz):=by
   intro i t sz hi;obtain⟨a',_,_,h3⟩:=hval i t (some sz) hi;obtain⟨g,z0,k1,k2,k3,_⟩:=h3 sz rfl;refine⟨g,z0,?_,k1,k2,k3⟩;show (match ja.vals[i]? with|some (t,some _)=>(e.get t).g|_=>none)=some g;rw[hi];exact k1
  have hg2:∀i j g,gOf i=some g->gOf j=some g->i=j:=by
   have hex:∀i g,gOf i=some g->∃t sz,ja.vals[i]? = some (t,some sz)/\(e.get t).g=some g:=by
    intro i g hi;have hi':(match ja.vals[i]? with|some (t,some _)=>(e.get t).g|_=>none)=some g:=hi;split at hi'
    ·grind
    ·cases hi'
   intro i j g hi hj;obtain⟨t,sz,k1,k2⟩:=hex i g hi;obtain⟨t',sz',m1,m2⟩:=hex j g hj;rcases Nat.lt_trichotomy i j with hlt|heq|hlt
   ·grind
   ·exact heq
   ·grind
  let γ':Nat->Value:=fun i=>match gOf i with|some g=>γ g|none=>undef
  let ω':Nat->Owner:=fun b=>match ω b with
   |.grp g=>if hx:∃i,gOf i=some g then .grp (Classical.choose hx)else .no
   |o=>o
  have hωg:∀b g i,ω b= .grp g->gOf i=some g->ω' b= .grp i:=by
   intro b g i hb hi;show (match ω b with|.grp g=>if hx:∃i,gOf i=some g then Owner.grp (Classical.choose hx)else .no|o=>o)= .grp i;rw[hb];simp only;have hx:∃i,gOf i=some g:=⟨i,hi⟩;rw[dif_pos hx,hg2 _ _ g (Classical.choose_spec hx) hi]
  have hωo:∀b,(∀g,ω b≠.grp g)->ω' b=ω b:=by
   intro b hb;show (match ω b with|.grp g=>if hx:∃i,gOf i=some g then Owner.grp (Classical.choose hx)else .no|o=>o)=ω b;cases ho:ω b with
   |grp g=>grind
   |_=>rfl
  have hωn:∀b,ω' b≠.no->ω b≠.no:=by
   intro b hb ho;refine hb ?_;rw[hωo b (fun g hg=>Z7),ho]
  have hωx:∀b g,ω' b= .grp g->∃g',ω b= .grp g':=by
   intro b g hg;cases ho:ω b with
   |grp g'=>grind
   |_=>grind
  -- the slots
  have hget:∀t,(∃(i:Nat)(z:Option Nat)(a':AV),ja.vals[i]? = some (t,z)/\(e.get t).v= .val a'/\(unpack ja vs).get t=⟨.val a',z.map fun _=>i⟩)\/(∃B off,(e.get t).v= .loc B off/\(unpack ja vs).get t=⟨.loc B off,none⟩)\/(unpack ja vs).get t=Ent.none:=by
   intro t;have hu:(unpack ja vs).get t=cE (dN vs 0 ja.vals++ja.locs.map fun x=>(x.1,(⟨.loc x.2.1 x.2.2,none⟩:Ent))) t:=rfl;rcases m9 vs (ja.locs.map fun x=>(x.1,(⟨.loc x.2.1 x.2.2,none⟩:Ent))) t ja.vals 0 with⟨i,z,h1,h2⟩|⟨h1,h2⟩
   ·obtain⟨a',k1,k2,_⟩:=hval i t z h1;refine .inl ⟨i,z,a',h1,k2,?_⟩;rw[hu,h2,XX]
    grind [ab]
   ·grind [q6,uB]
  have hgg:∀t g,((unpack ja vs).get t).g=some g->∃sz,ja.vals[g]? = some (t,some sz):=by
   intro t g hg;rcases hget t with⟨i,z,a',h1,_,h3⟩|⟨_,_,_,h3⟩|h3
   ·rw[h3]at hg;cases z with
    |none=>simp at hg
    |some sz=>grind
   ·grind
   ·rw[h3]at hg;cases hg
  have hγ:∀t g,((unpack ja vs).get t).g=some g->∃g0 z0,(e.get t).g=some g0/\aQ e.al g0=some z0/\γ' g=γ g0:=by
   intro t g hg;obtain⟨sz,h1⟩:=hgg t g hg;obtain⟨g0,z0,k1,k2,k3,_⟩:=hg1 g t sz h1;refine⟨g0,z0,k2,k3,?_⟩;show (match gOf g with|some g=>γ g|none=>undef)=γ g0;rw[k1]
  refine⟨S,β,γ',lam,ω',⟨F.wf,F.gro,F.keep,F.le,F.ext,F.hlen,fun l cs hl hcs=>?_,F.tsz,fun t ht=>?_,fun t g z ht hg hz=>?_,fun B n hB=>?_,fun g z hz=>?_,fun b hb=>⟨(F.mine b (hωn b hb)).1.imp (fun hE=>⟨hE.1,fun g hg=>Z7⟩) id,(F.mine b (hωn b hb)).2⟩,fun t g hg=>?_,fun g z hz=>?_⟩⟩
  ·rcases F.heap l cs hl hcs with⟨b,x,h1,h2,h3,h4⟩|⟨b,h1,h3,h4⟩
   all_goals grind
  ·have hs:=F.slots t ht
   grind [Ent.none,iu,VR]
  ·obtain⟨g0,z0,k1,k2,k3⟩:=hγ t g hg;rw[k3];exact F.grps t g0 z0 ht k1 k2
  ·obtain⟨k1,k2,k3,b,x,k4,k5,k6,k7,k8⟩:=F.lblk B n (xa hlo.2 B n hB);refine⟨k1,k2,k3,b,x,k4,k5,Z7,k7,fun i hi=>?_⟩;obtain⟨v,a',m1,m2,m3,m4⟩:=k8 i hi;have hgr:∀g z,((unpack ja vs).get (B+i)).g=some g->aQ (unpack ja vs).al g=some z->v=γ' g:=by
    intro g z hg _;obtain⟨g0,z0,p1,p2,p3⟩:=hγ _ g hg;rw[p3];exact m4 g0 z0 p1 p2
   rcases hget (B+i)with⟨j,z,a2,_,h2,h3⟩|⟨B',off,h2,h3⟩|h3
   ·grind
   ·grind
   ·exact⟨v,.any,m1,by rw[h3];rfl,by simp[VR],hgr⟩
  ·obtain⟨i,t,sz,h1,h2,h3⟩:=jt ja.vals 0 g z hz;rw[XX]at h2;subst h2;obtain⟨g0,z0,k1,k2,k3,k4⟩:=hg1 g t sz h1;have hγ':γ' g=γ g0:=by
    show (match gOf g with|some g=>γ g|none=>undef)=γ g0;rw[k1]
   rw[hγ'];obtain⟨ad,len,cap,m1,m2,m3,m4⟩:=F.free g0 z0 k3;refine⟨ad,len,cap,m1,m2,m3,m4.imp id ?_⟩
   grind
  ·obtain⟨sz,h1⟩:=hgg t g hg;have:g<ja.vals.length:=by
    rcases Ya g ja.vals.length with h|h
    ·exact h
    ·grind
   show g<ja.vals.length*1000;omega
  ·obtain⟨i,t,sz,h1,h2,h3⟩:=jt ja.vals 0 g z hz;have:i<ja.vals.length:=by
    rcases Ya i ja.vals.length with h|h
    ·exact h
    ·grind
   show g<ja.vals.length*1000;omega
omit [Dr]in
theorem JU(d:Nat)(h:Hp):frz d h .any= .any:=by cases d<;>rfl
omit [Dr]in
theorem Ek(g:AV->AV)(hg:g .any= .any)(vs:List AV)(i:Nat):ab (vs.map g) i=g (ab vs i):=by
 unfold ab
 grind
structure Reval (g:AV->AV) (x y:Ent):Prop where
 gr:y.g=x.g
 v:(∃a,x.v= .val a/\y.v= .val (g a))\/(∃B off,x.v= .loc B off/\y.v= .loc B off)
omit [Dr]in
theorem jk(g:AV->AV)(hg:g .any= .any)(vs:List AV)(r:List (Nat×Ent))(hr:∀t,Reval g (cE r t) (cE r t))(t:Nat):∀(l:List (Nat×Option Nat))(k:Nat),
  Reval g (cE (dN vs k l++r) t) (cE (dN (vs.map g) k l++r) t)
 |[],k=>by simpa [dN]using hr t
 |(s,none):: l,k=>by
  simp only[dN,Yx,cE];cases Nat.beq s t with
  |true=>exact⟨rfl,.inl ⟨_,rfl,by simp_all[Ek]⟩⟩
  |false=>exact jk g hg vs r hr t l (k+1)
 |(s,some z):: l,k=>by
  simp only[dN,Yx,cE];cases Nat.beq s t with
  |true=>exact⟨rfl,.inl ⟨_,rfl,by simp_all[Ek]⟩⟩
  |false=>exact jk g hg vs r hr t l (k+1)
omit [Dr]in
theorem y7(g:AV->AV)(hg:g .any= .any)(ja:JA)(vs:List AV)(t:Nat):Reval g ((unpack ja vs).get t) ((unpack ja (vs.map g)).get t):=by
 refine jk g hg vs _ (fun t=>?_) t ja.vals 0;rcases q6 t ja.locs with⟨B,off,_,k2⟩|k
 ·rw[k2];exact⟨rfl,.inr ⟨B,off,rfl,rfl⟩⟩
 ·rw[k];exact⟨rfl,.inl ⟨.any,rfl,by simp[Ent.none,hg]⟩⟩
theorem FR.reval{U:Nat->Prop}{S:aD}{β:List cF}{γ:Nat->Value}{lam:Nat->Option Nat}{ω:Nat->Owner}{e2:Env}{h2:Hp}{S2:aD}{ω2:Nat->Owner}{g:AV->AV}(F:FR c N U e h a w S β γ lam ω)(F2:FR c N U e h2 a w S2 β γ lam ω2)(hg:∀x v,VR S β x v->VR S2 β (g x) v)(hr:∀t,Reval g (e.get t) (e2.get t))(hal:e2.al=e.al)(hlb:e2.lb=e.lb):FR c N U e2 h2 a w S2 β γ lam ω2:=by
 refine⟨F2.wf,F2.gro,F2.keep,F2.le,F2.ext,F2.hlen,F2.heap,F2.tsz,fun t ht=>?_,fun t k z ht hk hz=>?_,fun B n hB=>?_,fun k z hz=>F2.free k z Z7,F2.mine,fun t k hk=>?_,fun k z hz=>F2.used.2 k z Z7⟩
 ·have h1:=F.slots t ht;rcases (hr t).v with⟨x,q1,q2⟩|⟨B,off,q1,q2⟩
  ·rw[q1]at h1;rw[q2];exact hg _ _ h1
  ·rw[q1]at h1;rw[q2];exact h1
 ·rw[(hr t).gr]at hk;rw[hal]at hz;exact F2.grps t k z ht hk hz
 ·rw[hlb]at hB;obtain⟨k1,k2,k3,b,x,k4,k5,k6,k7,k8⟩:=F2.lblk B n hB;obtain⟨_,_,_,b',x',j4,j5,j6,j7,j8⟩:=F.lblk B n hB;rw[k4]at j4;cases j4;cases k5.inj j5;refine⟨k1,k2,k3,b,x,k4,k5,k6,k7,fun i hi=>?_⟩;obtain⟨v,a',m1,m2,m3,m4⟩:=k8 i hi;obtain⟨v',a'',n1,n2,n3,_⟩:=j8 i hi;rw[m1]at n1;cases n1;rcases (hr (B+i)).v with⟨y,q1,q2⟩|⟨B',off,q1,q2⟩
  ·rw[n2]at q1;cases q1;refine⟨v,g a'',m1,q2,hg _ _ n3,fun k z hk hz=>?_⟩;rw[(hr (B+i)).gr]at hk
   grind
  grind
 ·rw[(hr t).gr]at hk;exact F2.used.1 t k hk
theorem vT{ja:JA}{vs:List AV}(H:na c N (unpack ja vs) h a w):na c N (unpack ja (vs.map (frz 6 h))) (h.map fun _=>[]) a w:=by
 obtain⟨S,β,γ,lam,ω,F⟩:=H;obtain⟨S2,ω2,F2,hf⟩:=F.freeze;have F3:=F.reval F2 (g:=frz 6 h) (fun x v hx=>hf _ _ hx) (y7 _ (JU 6 h) ja vs) (e2:=unpack ja (vs.map (frz 6 h))) rfl rfl;exact⟨S2,β,γ,lam,ω2,F3⟩
end
section
variable {P:Program} {Q:Exit->Act->World->Prop} {b:Code}
def ni(P:Program)(c:Code)(Q:Exit->Act->World->Prop)(a:Act)(w:World):Prop:=
 ∀(b:Frame)(k:List Item)(cs:List Frame),∃e a' w',Q e a' w'/\Arrives P (lone (b.at a (.code c:: .inLoop c:: k)) cs w) b k cs e a' w'
omit [Dr]in
theorem ni.loop{a:Act}{w:World}(h:ni P b Q a w):(Code.loop b).wp P Q a w:=
 fun f k cs=>let ⟨e,a',w',q,r⟩:=h f k cs;⟨e,a',w',q,.of_steps (.one step_loop) r⟩
omit [Dr]in
theorem XB{a:Act}{w:World}(h:b.wp P (Exit.then (ni P b Q) Q) a w):ni P b Q a w:=by
 intro f k cs;obtain⟨e,a₁,w₁,hq,harr⟩:=h f (.inLoop b:: k) cs;cases e with
 |normal=>
  obtain⟨e₂,a₂,w₂,hq₂,harr₂⟩:=hq f k cs;exact⟨e₂,a₂,w₂,hq₂,.of_steps (Steps.trans harr (.one step_inLoop)) harr₂⟩
 |exit id=>exact⟨_,a₁,w₁,hq,.pass (x:=.inLoop b) rfl (fun _ _=>.inl Z8) harr⟩
 |goto l=>exact⟨_,a₁,w₁,hq,.pass (x:=.inLoop b) rfl (fun _ _=>.inl Z8) harr⟩
 |ret=>exact⟨_,a₁,w₁,hq,.pass (x:=.inLoop b) rfl (fun _ _=>.inl Z8) harr⟩
 |panic ch=>exact⟨_,a₁,w₁,hq,.pass (x:=.inLoop b) rfl (fun _ _=>.inl Z8) harr⟩
 |outgrown=>exact⟨_,a₁,w₁,hq,.pass (x:=.inLoop b) rfl (fun _ _=>.inl Z8) harr⟩
end
section
variable {P:Program} {cx:Cx} {c:Entry} {ρ:Type}
omit [Dr]in
theorem G4{fx:bk ρ}{id:Nat}{code:Code}{e:Env}{kn kr:Env->M ρ}{kx:Nat->Env->M ρ}(hc:∀b,code≠.loop b):
  ev cx fx (.block id code) e kn kx kr=ev cx fx code e kn (fun i e'=>bif Nat.beq i id then kn e' else kx i e') kr:=by
 cases code<;>first|rfl|grind
def CB(cx:Cx)(x:Code):Option JA:=match sQ x with
 |some t=>tQ cx.ann.joins t
 |none=>none
omit [Dr]in
theorem NH{fx:bk ρ}{x y:Code}{e:Env}{kn kr:Env->M ρ}{kx:Nat->Env->M ρ}:ev cx fx (.seq x y) e kn kx kr=(match CB cx x with
  |some ja=>jn (fun vs=>ev cx fx y (unpack ja vs) kn kx kr) fun j=>ev cx fx x e (vz ja j) kx kr
  |none=>ev cx fx x e (fun e'=>ev cx fx y e' kn kx kr) kx kr):=by
 unfold CB;simp only[ev]
 grind
structure Posts (c:Entry) (N:Nat) (r:R ρ) (a:Act) (kn:Env->M ρ) (kx:Nat->Env->M ρ) (kr:Env->M ρ) (Q:Exit->Act->World->Prop):Prop where
 nrm:∀e' h' a' w',r=kn e' h'->na c N e' h' a' w'->a'.defers=a.defers->Q .normal a' w'
 ext:∀i e' h' a' w',r=kx i e' h'->na c N e' h' a' w'->a'.defers=a.defers->Q (.exit i) a' w'
 ret:∀e' h' a' w',r=kr e' h'->na c N e' h' a' w'->a'.defers=a.defers->Q .ret a' w'
 pan:∀pv h' v w' a',r= .pan pv h'->oW c pv h' v w'->a'.defers=a.defers->Q (.panic [{ v,recovered:=false }]) a' w'
theorem yY{ja:JA}{j:List AV->M ρ}{e:Env}{h:Hp}{N:Nat}{a:Act}{w:World}(H:na c N e h a w)(hr:vz ja j e h≠.fail):∃vs h',vz ja j e h=j vs h'/\na c N (unpack ja vs) h' a w:=by
 unfold vz at hr |-;cases hp:pack ja e with
 |none=>rw[hp]at hr;exact absurd rfl hr
 |some vs=>
  have hs:=y8 H hp;simp only;cases ja.fz with
  |false=>grind
  |true=>exact⟨_,_,rfl,vT hs⟩
theorem G6(hT:TOK P cx.T)(hC:dF P cx.own cx.call)(hI:IsoCall cx)(hk:∀p,FA (dp cx.ann.kinds p .L)=true->p<cx.nt)(m:Nat):∀(n:Nat)(code:Code),SizeOf.sizeOf code<n->
  ∀(e:Env)(h:Hp)(a:Act)(w:World)(kn:Env->M ρ)(kx:Nat->Env->M ρ)(kr:Env->M ρ)(Q:Exit->Act->World->Prop),na c cx.nt e h a w->ev cx (dl m) code e kn kx kr h≠.fail->
  Posts c cx.nt (ev cx (dl m) code e kn kx kr h) a kn kx kr Q->code.wp P Q a w:=by
 intro n
 induction n with
 |zero=>grind
 | succ n ih=>
  intro code hn e h a w kn kx kr Q H hr hp;cases code<;>(try exact absurd rfl hr)
  case skip=>exact wp_skip (hp.nrm e h a w rfl H rfl)
  case exit id=>exact wp_exit (hp.ext id e h a w rfl H rfl)
  case ret=>exact wp_ret (hp.ret e h a w rfl H rfl)
  case region id ops draw=>exact CZ hT hC hI hk H hr hp.nrm hp.pan
  case seq x y=>
   have hx:SizeOf.sizeOf x<n:=by simp at hn;omega
   have hy:SizeOf.sizeOf y<n:=by simp at hn;omega
   refine wp_seq ?_;rw[NH]at hr hp;generalize CB cx x=oj at hr hp;cases oj with
   |none=>
    simp only at hr hp;refine ih x hx e h a w _ kx kr _ H hr ⟨fun e' h' a' w' hok hs hd=>?_,fun i e' h' a' w' hok hs hd=>hp.ext i e' h' a' w' hok hs hd,fun e' h' a' w' hok hs hd=>hp.ret e' h' a' w' hok hs hd,fun pv h' v w' a' hok hs hd=>hp.pan pv h' v w' a' hok hs hd⟩;rw[hok]at hr hp;exact ih y hy e' h' a' w' kn kx kr Q hs hr ⟨fun e2 h2 a2 w2 k1 k2 k3=>hp.nrm e2 h2 a2 w2 k1 k2 (k3.trans hd),fun i e2 h2 a2 w2 k1 k2 k3=>hp.ext i e2 h2 a2 w2 k1 k2 (k3.trans hd),fun e2 h2 a2 w2 k1 k2 k3=>hp.ret e2 h2 a2 w2 k1 k2 (k3.trans hd),fun pv h2 v w2 a2 k1 k2 k3=>hp.pan pv h2 v w2 a2 k1 k2 (k3.trans hd)⟩
   |some ja=>
    simp only[jn]at hr hp;refine ih x hx e h a w _ kx kr _ H hr ⟨fun e' h' a' w' hok hs hd=>?_,fun i e' h' a' w' hok hs hd=>hp.ext i e' h' a' w' hok hs hd,fun e' h' a' w' hok hs hd=>hp.ret e' h' a' w' hok hs hd,fun pv h' v w' a' hok hs hd=>hp.pan pv h' v w' a' hok hs hd⟩;rw[hok]at hr hp;obtain⟨vs,h3,hj,hs3⟩:=yY hs hr;rw[hj]at hr hp;exact ih y hy (unpack ja vs) h3 a' w' kn kx kr Q hs3 hr ⟨fun e2 h2 a2 w2 k1 k2 k3=>hp.nrm e2 h2 a2 w2 k1 k2 (k3.trans hd),fun i e2 h2 a2 w2 k1 k2 k3=>hp.ext i e2 h2 a2 w2 k1 k2 (k3.trans hd),fun e2 h2 a2 w2 k1 k2 k3=>hp.ret e2 h2 a2 w2 k1 k2 (k3.trans hd),fun pv h2 v w2 a2 k1 k2 k3=>hp.pan pv h2 v w2 a2 k1 k2 (k3.trans hd)⟩
  case cond o x y=>
   have hx:SizeOf.sizeOf x<n:=by simp at hn;omega
   have hy:SizeOf.sizeOf y<n:=by simp at hn;omega
   cases o<;>(try exact absurd rfl hr)
   case const v=>
    simp only[ev]at hr hp
    have hav:∀b,cA v= .bool b->a.eval (.const v)= .bool b:=by
     intro b hb;show v= .bool b;cases v with
     |bool c=>grind [cA,DD]
     |tuple vs=>grind [cA]
     |pointer p=>grind [cA,DD]
     |map p=>grind [cA,DD]
     | slice p n m=>
      have hs:DD (.slice p n m)= .sl []\/DD (.slice p n m)= .any:=by
       cases p with
       |some q=>exact .inr rfl
       | none=>cases n with
        |succ n=>exact .inr rfl
        |zero=>cases m with
         |succ m=>exact .inr rfl
         |zero=>exact .inl rfl
      grind [cA]
     |_=>simp only[cA,DD]at hb;cases hb
    cases hq:cA v<;>rw[hq]at hr hp<;>(try exact absurd rfl hr);rename_i b;cases b with
    |true=>exact wp_cond (hav true hq) (ih x hx e h a w kn kx kr Q H hr hp)
    |false=>exact wp_cond (hav false hq) (ih y hy e h a w kn kx kr Q H hr hp)
   rename_i t;simp only[ev]at hr hp;cases ht:decide (t<1000)with
   |false=>rw[ht]at hr;exact absurd rfl hr
   | true=>
    rw[ht]at hr hp;simp only[XL]at hr hp;have htl:t<1000:=by simpa using ht
    have hav:∀b,e.av t= .bool b->a.eval (.tmp t)= .bool b:=by
     intro b hb;obtain⟨S,β,γ,lam,ω,F⟩:=H;have hs:=F.slots t htl;simp only[Env.av,Ent.av]at hb;cases hv:(e.get t).v with
     |val av=>
      rw[hv]at hs hb;simp only at hb;subst hb;simp only[iu,VR]at hs;exact hs
     |loc B off=>grind
    cases hq:e.av t<;>rw[hq]at hr hp<;>(try exact absurd rfl hr);rename_i b;cases b with
    |true=>exact wp_cond (hav true hq) (ih x hx e h a w kn kx kr Q H hr hp)
    |false=>exact wp_cond (hav false hq) (ih y hy e h a w kn kx kr Q H hr hp)
  case block id code=>
   refine wp_block ?_;by_cases hc:∃b,code= .loop b
   ·obtain⟨b,rfl⟩:=hc;have hb:SizeOf.sizeOf b<n:=by simp at hn;omega
    simp only[ev]at hr hp;cases hja:tQ cx.ann.loops id with
    |none=>rw[hja]at hr;exact absurd rfl hr
    | some ja=>
     rw[hja]at hr hp;simp only at hr hp;refine ni.loop ?_;obtain⟨vs,h3,hj,hs3⟩:=yY H hr;rw[hj]at hr hp;have key:∀(k:Nat)(vs:List AV)(h:Hp)(a1:Act)(w:World),na c cx.nt (unpack ja vs) h a1 w->a1.defers=a.defers->
       dl k (fun self vs=>ev cx (dl m) b (unpack ja vs) (vz ja self) (fun i e'=>bif Nat.beq i id then kn e' else kx i e') kr) vs h≠.fail->
       Posts c cx.nt (dl k (fun self vs=>ev cx (dl m) b (unpack ja vs) (vz ja self) (fun i e'=>bif Nat.beq i id then kn e' else kx i e') kr) vs h) a kn kx kr Q->ni P b (Exit.inBlock id Q) a1 w:=by
      intro k
      induction k with
      |zero=>intro vs h a1 w _ _ hr _;exact absurd rfl hr
      | succ k ihk=>
       intro vs h a1 w hs hd hr hp;simp only[dl]at hr hp;refine XB (ih b hb (unpack ja vs) h a1 w _ _ kr _ hs hr ⟨fun e' h' a' w' hok hs' hd'=>?_,fun i e' h' a' w' hok hs' hd'=>?_,fun e' h' a' w' hok hs' hd'=>hp.ret e' h' a' w' hok hs' (hd'.trans hd),fun pv h' v w' a' hok hs' hd'=>hp.pan pv h' v w' a' hok hs' (hd'.trans hd)⟩)
       ·rw[hok]at hr hp;obtain⟨vs',h4,hj',hs4⟩:=yY hs' hr;rw[hj']at hr hp;exact ihk vs' h4 a' w' hs4 (hd'.trans hd) hr hp
       ·cases hi:Nat.beq i id with
        |true=>
         rw[hi]at hok
         have:=Nat.eq_of_beq_eq_true hi
         subst this;show Exit.inBlock i Q (.exit i) a' w';simp only[Exit.inBlock,XS];exact hp.nrm e' h' a' w' hok hs' (hd'.trans hd)
        |false=>
         rw[hi]at hok;have hne:i≠id:=fun hh=>Z9
         show Exit.inBlock id Q (.exit i) a' w';simp only[Exit.inBlock,XG hne];exact hp.ext i e' h' a' w' hok hs' (hd'.trans hd)
     grind
   ·have hc':∀b,code≠.loop b:=fun b hb=>hc ⟨b,hb⟩;rw[G4 hc']at hr hp;have hs:SizeOf.sizeOf code<n:=by simp at hn;omega
    refine ih code hs e h a w kn _ kr _ H hr ⟨fun e' h' a' w' hok hs' hd'=>hp.nrm e' h' a' w' hok hs' hd',fun i e' h' a' w' hok hs' hd'=>?_,fun e' h' a' w' hok hs' hd'=>hp.ret e' h' a' w' hok hs' hd',fun pv h' v w' a' hok hs' hd'=>hp.pan pv h' v w' a' hok hs' hd'⟩;cases hi:Nat.beq i id with
    |true=>
     rw[hi]at hok
     have:=Nat.eq_of_beq_eq_true hi
     subst this;show Exit.inBlock i Q (.exit i) a' w';simp only[Exit.inBlock,XS];exact hp.nrm e' h' a' w' hok hs' hd'
    |false=>
     rw[hi]at hok;have hne:i≠id:=fun hh=>Z9
     show Exit.inBlock id Q (.exit i) a' w';simp only[Exit.inBlock,XG hne];exact hp.ext i e' h' a' w' hok hs' hd'
end
omit [Dr]in
theorem tr:∀(args:List AV)(i t:Nat),cE (zv i args) t=if i<=t/\t<i+args.length then⟨.val (ab args (t-i)),none⟩else Ent.none
 |[],i,t=>by
  simp_all[zv,cE,XG]
 | a:: as,i,t=>by
  simp only[zv,dz,Yb];by_cases h:i=t
  ·subst h;rw[XK rfl,XK Z5];simp[ab]
  ·rw[XG h,tr as (i+1) t];by_cases h2:i+1<=t/\t<i+1+as.length
   ·rw[XK h2,XK Z5]
    grind [ab]
   grind
section
variable {P:Program} {cx:Cx}
open Classical in
theorem OL{w:World}{S:aD}{β:List cF}{h:Hp}{args:List AV}{vs:List Value}{n:Nat}(hg:wi S β h w)(hw:Wf S w)(hh:dG S β w h)(hv:bF S β args vs)(hn:args.length<=n)(hn2:n<=1000):
  ∃γ lam ω,FR { w,S,β,E:=dk β h,gok:=hg } n (fun g=>g<(sM args).nx*1000) (sM args) h { tmps:=vs.toArray++Array.replicate (n-vs.toArray.size) undef,defers:=[] } w S β γ lam ω:=by
 obtain⟨hlen,ω0,hr⟩:=hh;have hvl:=hv.length;have hget:∀t,(sM args).get t=if t<args.length then⟨.val (ab args t),none⟩else Ent.none:=fun t=>by
  have:=tr args 0 t
  simp only[X2,true_and,XX,Zl]at this;exact this
 let ω:Nat->Owner:=fun b=>if dk β h b then ω0 b else .no;refine⟨fun _=>undef,fun _=>none,ω,⟨hw,Gro.refl _,fun b _ _=>⟨rfl,fun _=>rfl⟩,aD.le_refl S,io.refl β,hlen,fun l cs hl hcs=>?_,⟨?_,hn2⟩,fun t ht=>?_,fun t g z ht hg=>?_,fun B m hB=>?_,fun g z hz=>?_,fun b hb=>?_,fun t g hg=>?_,fun g z hz=>?_⟩⟩
 ·have hown:∀b n,β[l]? = some (b,n)->ω0 b= .heap l->ω b= .heap l:=fun b n h1 h3=>by
   show (if dk β h b then ω0 b else .no)=_;rw[XK ⟨l,cs,_,hl,hcs,h1⟩];exact h3
  rcases hr l cs hl hcs with⟨b,x,h1,h2,h3,h4⟩|⟨b,h1,h3,h4⟩
  all_goals grind
 ·simp;omega
 ·rw[hget];split
  ·rename_i hlt;have hx:args[t]? = some (ab args t):=by simp[ab,hlt]
   obtain⟨v,h1,h2⟩:=hv.get hx;have:(vs.toArray++Array.replicate (n-vs.toArray.size) undef).getD t undef=v:=by
    rw[YI,Array.getElem?_append_left WD];simp[h1]
   rw[this];exact h2
  ·simp[Ent.none,iu,VR]
 ·rw[hget]at hg;split at hg<;>cases hg
 ·cases hB
 ·cases hz
 ·have hb':dk β h b:=by
   by_cases ho:dk β h b
   ·exact ho
   ·grind
  obtain⟨l,cs,m,h1,h2,h3⟩:=hb';obtain⟨b',x,k1,k2,k3,_⟩:=hr.own h1 h2;rw[h3]at k1;cases k1;have hω:ω b= .heap l:=by
   show (if dk β h b then ω0 b else .no)=_;rw[XK ⟨l,cs,_,h1,h2,h3⟩];exact k3
  exact⟨.inl ⟨⟨l,cs,_,h1,h2,h3⟩,fun g=>by rw[hω];simp⟩,k2⟩
 ·rw[hget]at hg;split at hg<;>cases hg
 ·cases hz
theorem start{w:World}{S:aD}{β:List cF}{h:Hp}{args:List AV}{vs:List Value}{n:Nat}(hg:wi S β h w)(hw:Wf S w)(hh:dG S β w h)(hv:bF S β args vs)(hn:args.length<=n)(hn2:n<=1000):
  na { w,S,β,E:=dk β h,gok:=hg } n (sM args) h { tmps:=vs.toArray++Array.replicate (n-vs.toArray.size) undef,defers:=[] } w:=⟨S,β,OL hg hw hh hv hn hn2⟩
def ku(tmps:Array Value):ResultVar->Sem Value
 |.tmp t=>pure (tmps.getD t undef)
 |.cell p t=>do loadVar t (<- asAddr (tmps.getD p undef))
omit [Dr]in
theorem uU(fn:Func)(tmps:Array Value):results fn tmps=(do let vs <- fn.results.mapM (ku tmps);pure (if h:vs.size=1 then vs[0]else .tuple vs)):=by
 unfold results;congr 1
theorem OE{c:Entry}{N:Nat}{U:Nat->Prop}{e:Env}{h:Hp}{a:Act}{w:World}{S:aD}{β:List cF}{γ:Nat->Value}{lam:Nat->Option Nat}{ω:Nat->Owner}(hT:TOK P cx.T)(F:FR c N U e h a w S β γ lam ω){r:ResultVar}{v:AV}(hr:A6 cx.T e r=some v):∃u,(ku a.tmps r).run P w= .ok u w/\VR S β v u:=by
 cases r with
 | tmp t=>
  simp only[A6]at hr;cases ht:decide (t<1000)with
  |false=>grind
  | true=>
   rw[ht]at hr;simp only[XL]at hr;have hs:=F.slots t (by simpa using ht);cases hv:(e.get t).v with
   |loc B off=>grind
   |val av=>
    rw[hv]at hr hs;simp only[XF]at hr;subst hr;exact⟨_,by simp only[ku,Sem.run_pure],hs⟩
 | cell p t=>
  simp only[A6]at hr;cases hp:decide (p<1000)with
  |false=>grind
  | true=>
   rw[hp]at hr;simp only[XL]at hr;have hs:=F.slots p (by simpa using hp);cases hv:(e.get p).v with
   | loc B off=>
    rw[hv]at hr hs;cases ht:cx.T t with
    |none=>grind
    | some ti=>
     rw[ht]at hr;simp only at hr;cases hin:kW e B off ti.size with
     |false=>grind
     | true=>
      rw[hin]at hr;simp only[XL]at hr;simp only[iu]at hs;obtain⟨b,hlam,hpv⟩:=hs;obtain⟨b',x,m,hm,hle,hlam',hrow,hms,hcells⟩:=F.locals hin;rw[hlam]at hlam';cases hlam';let f:Nat->Value:=fun i=>(x[off+i]?).getD undef;have hf:∀i,i<ti.size->x[off+i]? = some (f i):=fun i hi=>by
       grind
      have hload:=sb hT ht hrow f hf;have hexec:∀v,(loadVar t ⟨b,off,none⟩).run P w= .ok v w->(ku a.tmps (.cell p t)).run P w= .ok v w:=fun v hv'=>by
       grind [ku,asAddr]
      cases hag:ti.agg with
      |true=>
       rw[hag]at hr;simp only[XL,XF]at hr;subst hr;refine⟨_,hexec _ (hload.1 hag),?_⟩;simp only[VR];refine⟨_,rfl,ue ti.size fun i hi=>?_⟩
       grind [Env.av,Ent.av]
      | false=>
       rw[hag]at hr;simp only[XT]at hr;cases hone:decide (ti.size=1)with
       |false=>grind
       |true=>
        rw[hone]at hr;simp only[XL,XF]at hr;subst hr;have hone':ti.size=1:=by simpa using hone
        obtain⟨v,a',g1,g2,g3,g4⟩:=hcells 0 Z5;simp_all[Env.av,Ent.av]
   | val av=>
    rw[hv]at hr hs;cases ht:cx.T t with
    |none=>grind
    |some ti=>
     rw[ht]at hr;simp only at hr;obtain⟨v,h1,h2⟩:=yy hT F.wf hr hs;refine⟨v,?_,h2⟩;unfold ax at hr
     grind [iu,VR,ku,Instr.loadAt,Instr.sureAddr,asAddr]
theorem C0{c:Entry}{N:Nat}{U:Nat->Prop}{e:Env}{h:Hp}{a:Act}{w:World}{S:aD}{β:List cF}{γ:Nat->Value}{lam:Nat->Option Nat}{ω:Nat->Owner}(hT:TOK P cx.T)(F:FR c N U e h a w S β γ lam ω){fn:Func}{vs:List AV}(hr:je cx.T e fn.results.toList=some vs):∃u,(results fn a.tmps).run P w= .ok u w/\VR S β (oS vs) u:=by
 have key:∀(l:List ResultVar)(vs:List AV),je cx.T e l=some vs->∃us:List Value,(l.mapM (ku a.tmps)).run P w= .ok us w/\bF S β vs us:=by
  intro l
  induction l with
  |nil=>simp_all[je,bF]
  | cons r rs ih=>
   intro vs h;simp only[je]at h;cases h1:A6 cx.T e r with
   |none=>grind
   | some v=>
    cases h2:je cx.T e rs with
    |none=>grind
    |some vs'=>
     rw[h1,h2]at h;simp only[XF]at h;subst h;obtain⟨u,k1,k2⟩:=OE hT F h1;obtain⟨us,m1,m2⟩:=ih vs' h2;refine⟨u:: us,?_,by simp only[bF];grind⟩;simp_all
 obtain⟨us,k1,k2⟩:=key _ _ hr;have hlen:=k2.length;have hrun:(fn.results.mapM (ku a.tmps)).run P w= .ok us.toArray w:=by
  rw[ZQ];rw[map_eq_pure_bind,Sem.run_bind,k1,Result.andThen_ok,Sem.run_pure]
 refine⟨if h:us.toArray.size=1 then us.toArray[0]else .tuple us.toArray,?_,?_⟩
 ·grind [uU,Sem.run_bind,Result.andThen_ok,Sem.run_pure]
 ·unfold oS;split
  ·grind [bF]
  ·rename_i hne;rw[dif_neg]
   ·simp only[VR];grind
   ·intro h1;have:vs.length=1:=by rw[<- hlen];simpa using h1
    match vs,this with
    |[v],_=>exact hne v rfl
end
omit [Dr]in
theorem AA{n:Nat}{ks:List (Nat×Kind)}(h:pY n ks=true):∀p,FA (dp ks p .L)=true->p<n:=by
 intro p hp
 induction ks with
 |nil=>simp[dp,FA]at hp
 | cons x ks ih=>
  obtain⟨k,y⟩:=x;unfold pY at h;simp only[X7,XJ]at h;simp only[dp]at hp;cases hk:Nat.beq k p with
  |true=>
   simp_all
  |false=>
   rw[hk]at hp;exact ih h.2 hp
section
variable {P:Program} {cx:Cx}
theorem Ov{c:Entry}{N:Nat}{U:Nat->Prop}{e:Env}{h:Hp}{a:Act}{w:World}{S:aD}{β:List cF}{γ:Nat->Value}{lam:Nat->Option Nat}{ω:Nat->Owner}(F:FR c N U e h a w S β γ lam ω){fn:Func}{sz:Nat}(ho:yG fn e sz=true){u:Value}(hu:(results fn a.tmps).run P w= .ok u w):xQ c.w.heap.size S β w h sz u:=by
 unfold yG at ho;split at ho
 ·rename_i t hres;cases ht:decide (t<1000)with
  |false=>grind
  | true=>
   rw[ht]at ho;simp only[YN]at ho;split at ho
   ·rename_i g hg;split at ho
    ·rename_i z hz;have hgr:=F.grps t g z (by simpa using ht) hg hz;obtain⟨ad,len,cap,h1,h2,h3,h4⟩:=F.free g z hz;have hue:u=a.tmps.getD t undef:=by
      have hr:fn.results= #[.tmp t]:=by apply ZD;simpa using hres
      rw[uU,hr]at hu;simp[ku]at hu;simpa using hu.symm
     rw[hue,hgr];refine⟨ad,len,cap,h1,h2,h3,h4.imp id ?_⟩;rintro⟨sz',b,off,x,k1,k2,k3,k4,k5,k6⟩;have hsz:sz'=sz:=by
      rw[k1]at ho;simp only[yX]at ho;exact Nat.eq_of_beq_eq_true ho
     subst hsz;refine⟨b,off,x,k2,k3,k4,(F.mine b (by rw[k5];simp)).1.grp k5,fun hb=>?_,k6⟩;obtain⟨l,_,hl,_⟩:=F.hown hb
     grind
    ·cases ho
   ·cases ho
 ·cases ho
omit [Dr]in
theorem Ip{fn:Func}{own:Option Nat}{e:Env}{h:Hp}(hr:mc cx fn own e h≠.fail):∃rs,je cx.T e fn.results.toList=some rs/\(mc cx fn own e h= .ok (oS rs) h\/(own=none/\mc cx fn own e h= .ok (frz 6 h (oS rs)) (h.map fun _=>[])))/\∀sz,own=some sz->yG fn e sz=true:=by
 have key:∀b z:Bool,(bif b then ar (bS ((je cx.T e fn.results.toList).map oS)) (bif z then(bif own.isSome then fun _=>gX else D2)else ao)else gX:M AV) h≠.fail->b=true/\∃rs,je cx.T e fn.results.toList=some rs/\
   ((bif b then ar (bS ((je cx.T e fn.results.toList).map oS)) (bif z then(bif own.isSome then fun _=>gX else D2)else ao)else gX:M AV) h= .ok (oS rs) h\/
    (own=none/\(bif b then ar (bS ((je cx.T e fn.results.toList).map oS)) (bif z then(bif own.isSome then fun _=>gX else D2)else ao)else gX:M AV) h= .ok (frz 6 h (oS rs)) (h.map fun _=>[]))):=by
  intro b z hr;cases b with
  |false=>exact absurd rfl hr
  | true=>
   refine⟨rfl,?_⟩;cases hres:je cx.T e fn.results.toList with
   |none=>rw[hres]at hr;exact absurd rfl hr
   | some rs=>
    rw[hres]at hr;cases z with
    |false=>exact⟨rs,rfl,.inl rfl⟩
    |true=>
     cases own with
     |none=>exact⟨rs,rfl,.inr ⟨rfl,rfl⟩⟩
     |some sz=>exact absurd rfl hr
 unfold mc at hr |-;cases own with
 |none=>
  obtain⟨_,rs,h1,h2⟩:=key true _ hr
  grind
 |some sz=>
  obtain⟨h0,rs,h1,h2⟩:=key _ _ hr
  grind
theorem fJ(hT:TOK P cx.T)(hC:dF P cx.own cx.call)(hI:IsoCall cx)(m:Nat){f:FuncId}{fn:Func}(hf:P.funcs[f]? = some fn)(hnt:cx.nt=fn.ntmps){own:Option Nat}{args:List AV}{h:Hp}{S:aD}{β:List cF}{w:World}{vs:List Value}(hr:cp cx (dl m) fn own args h≠.fail)(hg:wi S β h w)(hw:Wf S w)(hh:dG S β w h)(hv:bF S β args vs):Calls P f vs.toArray w (fg own S β h w (cp cx (dl m) fn own args h))/\fn.body.isSome=true:=by
 unfold cp at hr |-;cases hb:fn.body with
 |none=>rw[hb]at hr;exact absurd rfl hr
 | some code=>
  rw[hb]at hr;simp only at hr |-;refine⟨?_,rfl⟩;cases hc:(decide (args.length<=fn.ntmps)&&decide (fn.ntmps<=1000)&&pY cx.nt cx.ann.kinds)with
  |false=>rw[hc]at hr;exact absurd rfl hr
  | true=>
   rw[hc]at hr;simp only[XL]at hr |-;simp only[XJ,XI]at hc;obtain⟨⟨hc1,hc2⟩,hc3⟩:=hc;have H:na { w,S,β,E:=dk β h,gok:=hg } cx.nt (sM args) h { tmps:=vs.toArray++Array.replicate (fn.ntmps-vs.toArray.size) undef,defers:=[] } w:=by
    rw[hnt];exact start hg hw hh hv hc1 hc2
   have hret:∀(e':Env)(h':Hp)(a':Act)(w':World),ev cx (dl m) code (sM args) (mc cx fn own) (fun _ _=>gX) (mc cx fn own) h=mc cx fn own e' h'->
     na { w,S,β,E:=dk β h,gok:=hg } cx.nt e' h' a' w'->∃v,(results fn a'.tmps).run P w'= .ok v w'/\fg own S β h w (ev cx (dl m) code (sM args) (mc cx fn own) (fun _ _=>gX) (mc cx fn own) h) (.returned v) w':=by
    intro e' h' a' w' hok hs;rw[hok]at hr |-;obtain⟨rs,hres,hret,hown⟩:=Ip hr;obtain⟨S',β',γ,lam,ω,F⟩:=hs;obtain⟨u,hu1,hu2⟩:=C0 (P:=P) hT F hres;rcases hret with hret|⟨rfl,hret⟩
    ·rw[hret];exact⟨u,hu1,S',β',u,rfl,hu2,F.out,fun sz hsz=>Ov F (hown sz hsz) hu1⟩
    ·rw[hret];obtain⟨S2,ω2,F2,hf⟩:=F.freeze;exact⟨u,hu1,S2,β',u,rfl,hf _ _ hu2,F2.out,fun sz hsz=>by cases hsz⟩
   refine calls_of_wp hf hb (G6 hT hC hI (AA hc3) m _ code (Nat.lt_succ_self _) (sM args) h _ w _ _ _ _ H hr ⟨fun e' h' a' w' hok hs hd=>?_,fun i e' h' a' w' hok hs hd=>?_,fun e' h' a' w' hok hs hd=>?_,fun pv h' v w' a' hok hs hd=>?_⟩)
   ·exact⟨hd,hret e' h' a' w' hok hs⟩
   ·rw[hok]at hr;exact absurd rfl hr
   ·exact⟨hd,hret e' h' a' w' hok hs⟩
   ·refine⟨hd,?_⟩;rw[hok];obtain⟨S',β',hout,hvr⟩:=hs;exact⟨S',β',v,rfl,hvr,hout⟩
end
open Classical in
theorem yt{S:aD}{β:List cF}{w w':World}{h:Hp}(_hw:Wf S w)(hh:dG S β w h){β0:List cF}{h0:Hp}(hE:∀b,¬dk β0 h0 b){S':aD}{β':List cF}{h':Hp}(L:Left (dk β0 h0) S β0 w S' β' w' h'):∃S2,Left (dk β h) S β w S2 β w' h/\(∀a v,VR S' β' a v->VR S2 β (frz 6 h' a) v)/\∀sz v,xQ w.heap.size S' β' w' h' sz v->xQ w.heap.size S2 β w' h sz v:=by
 obtain⟨hlen,ω,hH⟩:=L.heap;have hnew:∀b,dk β' h' b->w.heap.size<=b:=fun b hb=>(L.owned b hb).resolve_left (hE b);let S2:aD:=fun b o=>if dk β' h' b then w'.cell? ⟨b,o,none⟩else S' b o;have hS2n:∀b,¬dk β' h' b->∀o,S2 b o=S' b o:=fun b hb o=>XG hb;have hS2y:∀b,dk β' h' b->∀o,S2 b o=w'.cell? ⟨b,o,none⟩:=fun b hb o=>XK hb;have hle:S'.le S2:=by
  intro b o v hv;by_cases hb:dk β' h' b
  ·obtain⟨l,cs,n,h1,h2,h3⟩:=hb;obtain⟨b',x,k1,k2,k3,k5⟩:=hH.own h1 h2
   grind
  ·grind
 have hrow:∀b,b<w.heap.size->w'.heap[b]? = w.heap[b]? /\∀o,S2 b o=S b o:=by
  intro b hb;have hk:=L.keep b hb (hE b);refine⟨hk.1,fun o=>?_⟩;rw[hS2n b (fun ho=>Z7)];exact hk.2 o
 have hwf:Wf S2 w':=by
  intro b o v hv;by_cases hb:dk β' h' b
  ·grind
  ·rw[hS2n b hb]at hv;exact L.wf b o v hv
 obtain⟨hlen0,ω0,hH0⟩:=hh;have hlt0:∀b,dk β h b->b<w.heap.size:=by
  rintro b ⟨l,cs,n,h1,h2,h3⟩;obtain⟨b',x,k1,k2,_⟩:=hH0.own h1 h2;rw[h3]at k1;cases k1;exact k2
 have hle0:S.le S2:=aD.le_trans L.le hle;refine⟨S2,⟨hle0,io.refl β,hwf,L.gro,fun b hb _=>hrow b hb,⟨hlen0,ω0,hH0.rows hle0 (io.refl β) hlen0 fun l cs hl _=>.inl ⟨hl,fun b hb ho=>⟨ho,(hrow b hb).1,fun o h=>Z7⟩⟩⟩,fun b hb=>.inl hb⟩,fun a v hv=>uc hH hle (fun b o x hb hr=>?_) 6 a v hv,fun sz v=>?_⟩
 ·rw[hS2y b hb,hr.cell]
 ·rintro⟨ad,len,cap,k1,k2,k3,k4⟩;refine⟨ad,len,cap,k1,k2,k3,k4.imp id ?_⟩
  grind
theorem Hy{S:aD}{β:List cF}{w w':World}{h:Hp}{own:Option Nat}{m:List AV->M AV}{args:List AV}{en:Ending}(hw:Wf S w)(hh:dG S β w h)(hp:fg own S [] [] w (m (fk aF args) []) en w'):fg own S β h w (vU m args h) en w':=by
 have key:=fun{S':aD} {β':List cF} {h':Hp} (L:Left (dk [] []) S [] w S' β' w' h')=>yt hw hh (by rintro b ⟨l,cs,n,h1,_⟩;simp at h1) L;unfold vU;cases hm:m (fk aF args) []with
 |fail=>rw[hm]at hp;exact hp.elim
 |ok r h'=>
  rw[hm]at hp;obtain⟨S',β',v,h1,h2,h3,h4⟩:=hp;obtain⟨S2,k1,k2,k3⟩:=key h3;exact⟨S2,β,v,h1,k2 r v h2,k1,fun sz hsz=>k3 sz v (h4 sz hsz)⟩
 |pan r h'=>
  rw[hm]at hp;obtain⟨S',β',v,h1,h2,h3⟩:=hp;obtain⟨S2,k1,k2,k3⟩:=key h3;exact⟨S2,β,v,h1,k2 r v h2,k1⟩
structure GoodPg (P:Program) (p:Pg):Prop where
 tok:TOK P p.T
 funcs:∀f fn a,p.funcs f=some (fn,a)->P.funcs[f]? = some fn/\(fn.name== "runtime.NumGoroutine")=false
 other:∀f E,p.other f=some E->∀call,dF P p.own call->∀(args:List AV)(h:Hp)(S:aD)(β:List cF)(w:World)(vs:List Value),E call args h≠.fail->wi S β h w->Wf S w->dG S β w h->bF S β args vs->
  Calls P f vs.toArray w (fg (p.own f) S β h w (E call args h))/\(P.funcs[f]?).any (fun fn=>fn.body.isSome&&!(fn.name== "runtime.NumGoroutine"))=true
 nw:∀f,p.nw f=true->∃E,p.other f=some E/\∀call args,ze (E call args)
omit [Dr]in
theorem dG.nil{S:aD}{w:World}:dG S [] w []:=⟨rfl,fun _=>.no,fun l cs hl=>by simp at hl⟩
theorem zU{P:Program}{p:Pg}(G:GoodPg P p)(m:Nat){call:FuncId->List AV->M AV}(hC:dF P p.own call)(hI:∀n a,IsoCall (p.cx call n a)):dF P p.own (lj p call (dl m)):=by
 intro f args h S β w vs hr hg hw hh hv;unfold lj at hr |-;cases ho:p.other f with
 |some E=>rw[ho]at hr;exact G.other f E ho call hC args h S β w vs hr hg hw hh hv
 | none=>
  rw[ho]at hr;simp only at hr |-;cases hf:p.funcs f with
  |none=>rw[hf]at hr;exact absurd rfl hr
  | some x=>
   obtain⟨fn,a⟩:=x;rw[hf]at hr;simp only at hr |-;obtain⟨hf1,hf2⟩:=G.funcs f fn a hf
   have hany:fn.body.isSome=true->(P.funcs[f]?).any (fun fn=>fn.body.isSome&&!(fn.name== "runtime.NumGoroutine"))=true:=by
    intro hb;rw[hf1];simp only[Option.any_some,hb,hf2,Yi,YL]
   cases hi:a.iso with
   |false=>
    rw[hi]at hr;simp only[XT]at hr |-;obtain⟨h1,h2⟩:=fJ (cx:=p.cx call fn.ntmps a) G.tok hC (hI _ _) m hf1 rfl hr hg hw hh hv
    grind
   | true=>
    rw[hi]at hr;simp only[XL]at hr |-;have hr':cp (p.cx call fn.ntmps a) (dl m) fn (p.own f) (fk aF args) []≠.fail:=by
     intro hf;unfold vU at hr;rw[hf]at hr;exact hr rfl
    obtain⟨h1,h2⟩:=fJ (cx:=p.cx call fn.ntmps a) G.tok hC (hI _ _) m hf1 rfl hr' ⟨hg.1,fun b _ hb=>by obtain⟨l,_,_,h1,_⟩:=hb;simp at h1,hg.2.2⟩ hw dG.nil (GN hv);exact⟨h1.mono fun en w' hp=>Hy hw hh hp,hany h2⟩
omit [Dr]in
theorem Cm(p:Pg)(hN:∀f,p.nw f=true->∃E,p.other f=some E/\∀call args,ze (E call args)):∀n k a,IsoCall (p.cx (ey p n) k a)
 |0,k,a=>⟨fun f args _=>⟨none,fun _=>rfl⟩,fun f args _ h v h' hh=>by cases hh⟩
 | n+1,k,a=>by
  refine⟨?_,fun f args hf=>?_⟩
  case refine_2=>
   obtain⟨E,hE,hn⟩:=hN f hf;have:(p.cx (ey p (n+1)) k a).call f args=E (ey p n) args:=by
    show lj p (ey p n) (dl n) f args=_;unfold lj;rw[hE]
   grind
  intro f args hi;have hi':p.iso f=true:=hi;unfold Pg.iso at hi';cases ho:p.other f with
  |some E=>grind
  | none=>
   rw[ho]at hi';simp only at hi';cases hf:p.funcs f with
   |none=>grind
   |some x=>
    obtain⟨fn,b⟩:=x;rw[hf]at hi';simp only at hi';refine⟨match cp (p.cx (ey p n) fn.ntmps b) (dl n) fn (p.own f) (fk aF args) []with|.ok r h'=>some (true,frz 6 h' r)|.pan v h'=>some (false,frz 6 h' v)|.fail=>none,fun h=>?_⟩;show lj p (ey p n) (dl n) f args h=_;unfold lj;rw[ho];simp only;rw[hf];simp only[hi',XL,vU]
    grind
theorem pN{P:Program}{p:Pg}(G:GoodPg P p):∀n,dF P p.own (ey p n)
 |0=>fun _f _args _h _S _β _w _vs hr=>absurd rfl hr
 |n+1=>zU G n (pN G n) fun k a=>Cm p G.nw n k a
end Go.Av
namespace Go.Av
def tb{α:Type}(a:R α)(b:Nat->R α):Prop:=(a≠.fail->∃N,∀n,N<=n->b n=a)/\∀n,b n≠.fail->b n=a
def d9{α:Type}(m:M α)(ms:Nat->M α):Prop:=∀h,tb (m h) fun n=>ms n h
def cM{α β:Type}(f:β->M α)(fs:Nat->β->M α):Prop:=∀x,d9 (f x) fun n=>fs n x
def tb.const{α:Type}(a:R α):tb a fun _=>a:=⟨fun _=>⟨0,fun _ _=>rfl⟩,fun _ _=>rfl⟩
def gp{α:Type}(m:M α):d9 m fun _=>m:=fun _=>.const _
def cM.const{α β:Type}(f:β->M α):cM f fun _=>f:=fun _=>gp _
def d9.bnd{α β:Type}{m:M α}{ms:Nat->M α}{f:α->M β}{fs:Nat->α->M β}(hm:d9 m ms)(hf:cM f fs):d9 (ar m f) fun n=>ar (ms n) (fs n):=by
 intro h;obtain⟨h1,h2⟩:=hm h
 (try dsimp only at h1 h2)
 refine⟨fun hne=>?_,fun n hne=>?_⟩
 ·have hne':m h≠.fail:=fun hf=>by simp only[Av.ar]at hne;grind
  obtain⟨N,hN⟩:=h1 hne';cases hmh:m h with
  |fail=>grind
  |pan v x=>
   refine⟨N,fun n hn=>?_⟩
   grind [Av.ar]
  |ok a x=>
   have hne2:f a x≠.fail:=fun hf=>by grind [Av.ar]
   obtain⟨N2,hN2⟩:=(hf a x).1 hne2;refine⟨max N N2,fun n hn=>?_⟩
   grind [Av.ar]
 ·(try dsimp only at hne |-)
  simp only[Av.ar]at hne |-;have hne':ms n h≠.fail:=fun hf=>Z7
  rw[<- h2 n hne'];cases hmh:ms n h with
  |fail=>grind
  |pan v x=>rfl
  |ok a x=>
   rw[hmh]at hne;exact (hf a x).2 n hne
def BC{α:Type}(m m':M α):Prop:=∀h,m h≠.fail->m h=m' h
def BC.lim{α:Type}{m m':M α}(h:BC m m'):d9 m' fun n=>if n=0 then m else m':=by
 intro x;refine⟨fun _=>⟨1,fun n hn=>Z7⟩,fun n hne=>?_⟩
 (try dsimp only at hne |-)
 by_cases h0:n=0
 ·rw[XK h0]at hne |-;exact h x hne
 grind
def d9.le{α:Type}{m:M α}{ms:Nat->M α}(h:d9 m ms)(n:Nat):BC (ms n) m:=fun x hne=>(h x).2 n hne
section
variable {ρ:Type}
def zh(F:(List AV->M ρ)->List AV->M ρ)(Fs:Nat->(List AV->M ρ)->List AV->M ρ):Prop:=∀self selfs,cM self selfs->cM (F self) fun n=>Fs n (selfs n)
def oI(F:(List AV->M ρ)->List AV->M ρ):Prop:=zh F fun _=>F
def qD(fx:bk ρ)(fxs:Nat->bk ρ):Prop:=∀F Fs,zh F Fs->oI F->(∀n,oI (Fs n))->cM (fx F) fun n=>fxs n (Fs n)
def zi(fx:bk ρ):Prop:=qD fx fun _=>fx
theorem oI.mono{F:(List AV->M ρ)->List AV->M ρ}(hF:oI F){s s':List AV->M ρ}(h:∀vs,BC (s vs) (s' vs)):∀vs,BC (F s vs) (F s' vs):=by
 intro vs x hne;have hl:cM s' (fun n=>if n=0 then s else s'):=by
  intro vs x;refine⟨fun _=>⟨1,fun n hn=>?_⟩,fun n hne=>?_⟩
  ·grind
  ·(try dsimp only at hne |-)
   by_cases h0:n=0
   ·rw[XK h0]at hne |-;exact h vs x hne
   grind
 have h0:=(hF s' _ hl vs x).2 0
 grind
theorem qT{F:(List AV->M ρ)->List AV->M ρ}(hF:oI F):∀n vs,BC (dl n F vs) (dl (n+1) F vs)
 |0,_vs=>fun _x hne=>absurd rfl hne
 |n+1,vs=>hF.mono (qT hF n) vs
theorem BC.trans{α:Type}{a b c:M α}(h:BC a b)(g:BC b c):BC a c:=fun x hne=>by
 have:=h x hne
 rw[this];exact g x (this▸hne)
theorem BC.refl{α:Type}(a:M α):BC a a:=fun _ _=>rfl
theorem tT{F:(List AV->M ρ)->List AV->M ρ}(hF:oI F){n m:Nat}(h:n<=m)(vs:List AV):BC (dl n F vs) (dl m F vs):=by
 induction m with
 | zero => have:n=0:=Z5
           subst this;exact .refl _
 |succ m ih=>
  by_cases hn:n=m+1
  ·subst hn;exact .refl _
  ·exact (ih Z5).trans (qT hF m vs)
open Classical in
noncomputable def ak(F:(List AV->M ρ)->List AV->M ρ)(vs:List AV):M ρ:=fun h=>if hx:∃n,dl n F vs h≠.fail then dl (Classical.choose hx) F vs h else .fail
theorem wG{b:Nat->R ρ}(hmono:∀n m,n<=m->b n≠.fail->b n=b m){a:R ρ}(ha:(∃n,b n≠.fail/\a=b n)\/(∀n,b n= .fail)/\a= .fail):tb a b:=by
 rcases ha with⟨n,hn,rfl⟩|⟨hn,rfl⟩
 ·refine⟨fun _=>⟨n,fun m hm=>(hmono n m hm hn).symm⟩,fun m hm=>?_⟩
  grind
 ·exact⟨fun h=>absurd rfl h,fun n h=>absurd (hn n) h⟩
theorem jv{F:(List AV->M ρ)->List AV->M ρ}(hF:oI F):cM (ak F) fun n=>dl n F:=by
 intro vs h;refine wG (fun n m hnm hne=>tT hF hnm vs h hne) ?_;unfold ak;by_cases hx:∃n,dl n F vs h≠.fail
 all_goals grind
theorem pR{F:(List AV->M ρ)->List AV->M ρ}{Fs:Nat->(List AV->M ρ)->List AV->M ρ}(h1:zh F Fs)(n:Nat):∀k vs,BC (dl k (Fs n) vs) (dl k F vs)
 |0,vs=>.refl _
 | k+1,vs=>by
  have ih:=pR h1 n k;have hl:cM (dl k F) fun m=>if m=n then dl k (Fs n)else dl k F:=by
   intro vs h;refine⟨fun _=>⟨n+1,fun m hm=>Z7⟩,fun m hne=>?_⟩
   (try dsimp only at hne |-)
   by_cases hm:m=n
   ·rw[XK hm]at hne |-;exact ih vs h hne
   ·rw[XG hm]
  intro x hne
  have:=(h1 _ _ hl vs x).2 n
  (try dsimp only at this)
  rw[XK rfl]at this;exact this hne
theorem nB{F:(List AV->M ρ)->List AV->M ρ}{Fs:Nat->(List AV->M ρ)->List AV->M ρ}(h1:zh F Fs):∀k,cM (dl k F) fun n=>dl k (Fs n)
 |0=>fun _ _=>.const _
 |k+1=>h1 _ _ (nB h1 k)
theorem zZ:qD (ak (ρ:=ρ)) fun n=>dl n:=by
 intro F Fs h1 hF hFs vs h;refine⟨fun hne=>?_,fun n hne=>?_⟩
 ·obtain⟨N,hN⟩:=(jv hF vs h).1 hne;have hN':=hN N (XM _)
  (try dsimp only at hN')
  obtain⟨N2,hN2⟩:=(nB h1 N vs h).1 Z7;refine⟨max N N2,fun n hn=>?_⟩;have h3:=hN2 n Z5
  (try dsimp only at h3 |-)
  rw[<- tT (hFs n) (show N<=n by omega) vs h Z7,h3,hN']
 ·(try dsimp only at hne |-)
  have h2:=pR h1 n n vs h hne;rw[h2];exact (jv hF vs h).2 n Z7
theorem Hg:zi (ak (ρ:=ρ)):=by
 intro F Fs h1 hF hFs vs h;refine⟨fun hne=>?_,fun n hne=>?_⟩
 ·obtain⟨N,hN⟩:=(jv hF vs h).1 hne;have hN':=hN N (XM _)
  (try dsimp only at hN')
  obtain⟨N2,hN2⟩:=(nB h1 N vs h).1 Z7;refine⟨N2,fun n hn=>?_⟩;have h3:=hN2 n hn
  (try dsimp only at h3 |-)
  have:=(jv (hFs n) vs h).2 N Z7
  grind
 ·(try dsimp only at hne |-)
  obtain⟨N,hN⟩:=(jv (hFs n) vs h).1 hne;have hN':=hN N (XM _)
  (try dsimp only at hN')
  have h2:=pR h1 n N vs h Z7;rw[<- hN',h2];exact (jv hF vs h).2 N Z7
theorem Cs(m:Nat):zi (dl (α:=ρ) m):=fun _F _Fs h1 _hF _hFs=>nB h1 m
theorem Aa(m:Nat):qD (dl (α:=ρ) (m+1)) fun n=>if n=0 then dl m else dl (m+1):=by
 intro F Fs h1 hF hFs vs h;refine⟨fun hne=>?_,fun n hne=>?_⟩
 ·obtain⟨N,hN⟩:=(nB h1 (m+1) vs h).1 hne;refine⟨max N 1,fun n hn=>?_⟩
  grind
 ·(try dsimp only at hne |-)
  by_cases h0:n=0
  ·rw[XK h0]at hne |-;exact ((pR h1 n m vs).trans (qT hF m vs)) h hne
  ·rw[XG h0]at hne |-;exact pR h1 n (m+1) vs h hne
end
def Cx.wc(cx:Cx)(call:FuncId->List AV->M AV):Cx:={ cx with call }
def jK(A:Act1)(As:Nat->Act1):Prop:=
 (∀n,As n=A)\/∃m ms sh,A= .dyn m sh/\(∀n,As n= .dyn (ms n) sh)/\d9 m ms
section
variable {ρ:Type} {cx:Cx} {call:FuncId->List AV->M AV} {calls:Nat->FuncId->List AV->M AV}
theorem CU(hc:∀f,cM (call f) fun n=>calls n f)(e:Env)(gid:Nat)(o:Oper)(c:Call):jK (ie (cx.wc call) e gid o c) fun n=>ie (cx.wc (calls n)) e gid o c:=by
 unfold ie;cases c.callee with
 |invoke r m=>exact .inl fun n=>rfl
 |builtin b=>cases b<;>exact .inl fun n=>rfl
 | value x=>
  have hv:jK (.dyn (cV call (opnd e x) (c.args.toList.map (opnd e))) .ofV) fun n=>.dyn (cV (calls n) (opnd e x) (c.args.toList.map (opnd e))) .ofV:=by
   refine .inr ⟨_,_,_,rfl,fun n=>rfl,?_⟩;unfold cV;split
   ·exact hc _ _
   ·exact gp _
  cases x with
  | func f=>
   have h0:jK (.dyn (call f (c.args.toList.map (oO (bR cx.ann.hb o.dst) e))) fun v=>match cx.own f with|some sz=>.own v gid (some sz)|none=>.ofV v) fun n=>.dyn (calls n f (c.args.toList.map (oO (bR cx.ann.hb o.dst) e))) fun v=>match cx.own f with|some sz=>.own v gid (some sz)|none=>.ofV v:=
    .inr ⟨_,_,_,rfl,fun n=>rfl,hc _ _⟩
   have key2:∀(b:Bool)(A B:Act1)(As Bs:Nat->Act1),jK A As->jK B Bs->jK (bif b then A else B) fun n=>bif b then As n else Bs n:=by
    intro b A B As Bs hA hB;cases b with
    |true=>exact hA
    |false=>exact hB
   have key:∀b:Bool,jK (bif b then .dyn (ar (call f (c.args.toList.map (opnd e))) (bif bR cx.ann.hl o.dst then lE else D2)) .ofV else .bad) fun n=>bif b then .dyn (ar (calls n f (c.args.toList.map (opnd e))) (bif bR cx.ann.hl o.dst then lE else D2)) .ofV else .bad:=by
    intro b;cases b with
    |false=>exact .inl fun n=>rfl
    |true=>exact .inr ⟨_,_,_,rfl,fun n=>rfl,(hc _ _).bnd (cM.const _)⟩
   have h1:jK (match ju cx.ann.cm o.dst with
     |some (m,r)=>bif !(cx.iso f)&&(cx.own f).isNone then .dyn (iy m r (call f (c.args.toList.map (opnd e)))) .ofV else .bad
     |none=>.dyn (call f (c.args.toList.map (oO (bR cx.ann.hb o.dst) e))) fun v=>match cx.own f with|some sz=>.own v gid (some sz)|none=>.ofV v) fun n=>match ju cx.ann.cm o.dst with
     |some (m,r)=>bif !(cx.iso f)&&(cx.own f).isNone then .dyn (iy m r (calls n f (c.args.toList.map (opnd e)))) .ofV else .bad
     |none=>.dyn (calls n f (c.args.toList.map (oO (bR cx.ann.hb o.dst) e))) fun v=>match cx.own f with|some sz=>.own v gid (some sz)|none=>.ofV v:=by
    cases ju cx.ann.cm o.dst with
    |none=>exact h0
    | some x=>
     obtain⟨m,r⟩:=x;refine key2 _ _ _ _ _ (.inr ⟨_,_,_,rfl,fun n=>rfl,?_⟩) (.inl fun n=>rfl);intro x;obtain⟨k1,k2⟩:=hc f (c.args.toList.map (opnd e)) x;refine⟨fun hne=>?_,fun n hne=>?_⟩
     ·obtain⟨N,hN⟩:=k1 (fun hh=>hne (by unfold iy;rw[hh]));refine⟨N,fun n hn=>?_⟩
      grind [iy]
     grind [iy]
   exact key2 (bR cx.ann.fz o.dst) _ _ _ _ (key (!(cx.iso f)&&(cx.own f).isNone)) h1
  |tmp t=>exact hv
  |const t=>exact hv
  |global t=>exact hv
theorem En(hc:∀f,cM (call f) fun n=>calls n f)(e:Env)(gid:Nat)(o:Oper):jK (gR (cx.wc call) e gid o) fun n=>gR (cx.wc (calls n)) e gid o:=by
 unfold gR;cases o.op<;>first|exact .inl fun n=>rfl|exact CU hc e gid o _
theorem Dd{A:Act1}{As:Nat->Act1}(h:jK A As):jK (jU A) fun n=>jU (As n):=by
 rcases h with h|⟨m,ms,sh,rfl,h2,h3⟩
 ·exact .inl fun n=>Z7
 ·exact .inr ⟨m,ms,_,rfl,fun n=>by(try dsimp only);rw[h2];rfl,h3⟩
theorem Ff{A:Act1}{As:Nat->Act1}(h:jK A As){k:Env->M ρ}{ks:Nat->Env->M ρ}(hk:cM k ks)(e:Env)(d:Option Tmp):d9 (pM e d A k) fun n=>pM e d (As n) (ks n):=by
 rcases h with h|⟨m,ms,sh,rfl,h2,h3⟩
 ·have:(fun n=>pM e d (As n) (ks n))=fun n=>pM e d A (ks n):=by funext n;rw[h]
  rw[this];cases A with
  |bad=>exact gp _
  |stat u=>exact hk _
  |dyn m sh=>exact (gp m).bnd fun v=>hk _
  |thr v=>exact gp _
 ·have:(fun n=>pM e d (As n) (ks n))=fun n=>pM e d (.dyn (ms n) sh) (ks n):=by funext n;rw[h2]
  rw[this];exact h3.bnd fun v=>hk _
theorem qR(hc:∀f,cM (call f) fun n=>calls n f)(base:Nat)(ops:Array Oper)(st:Bool):∀(is:List Nat)(e:Env)(k:Env->M ρ)(ks:Nat->Env->M ρ),cM k ks->
  d9 (ll (cx.wc call) base ops st is e k) fun n=>ll (cx.wc (calls n)) base ops st is e (ks n)
 |[],e,k,ks,hk=>hk e
 | i:: is,e,k,ks,hk=>by
  simp only[ll];cases ops[i]? with
  |none=>exact gp _
  |some o=>
   simp only;refine Ff ?_ (fun e'=>qR hc base ops st is e' k ks hk) e o.dst;cases st with
   |true=>exact Dd (En hc e _ o)
   |false=>exact En hc e _ o
theorem ug{c:AV}{want:Bool}{k:Nat}{m:M (List AV)}{ms:Nat->M (List AV)}(h:d9 m ms):d9 (aO c want k m) fun n=>aO c want k (ms n):=by
 unfold aO;cases c with
 |bool b=>
  simp only;cases b== want with
  |true=>exact h
  |false=>exact gp _
 |tup vs=>cases vs<;>exact gp _
 |_=>exact gp _
theorem mD(hc:∀f,cM (call f) fun n=>calls n f)(base:Nat)(ops:Array Oper):∀(gs:List (Option (Nat×Bool)×List Nat))(e:Env)(k:Env->M ρ)(ks:Nat->Env->M ρ),cM k ks->
  d9 (fL (cx.wc call) base ops gs e k) fun n=>fL (cx.wc (calls n)) base ops gs e (ks n)
 |[],e,k,ks,hk=>hk e
 |(none,is):: gs,e,k,ks,hk=>by
  simp only[fL];exact qR hc base ops false is e _ _ fun e'=>mD hc base ops gs e' k ks hk
 | (some (j,want),is):: gs,e,k,ks,hk=>by
  simp only[fL];cases dM ops j with
  |none=>exact gp _
  | some t=>
   simp only;have hp:∀c,(is.all fun i=>match ops[i]? with|some o=>gI (cx.wc c) o&&o.dst.isSome|none=>false)=(is.all fun i=>match ops[i]? with|some o=>gI cx o&&o.dst.isSome|none=>false):=fun c=>rfl;have key:∀b:Bool,d9 (bif b then ar (aO (e.av t) want (eB ops is gs).length (ll (cx.wc call) base ops true is e fun e'=>bif (eB ops is gs).all (fun t=>pn (e'.get t))then ao ((eB ops is gs).map e'.av)else gX)) fun vs=>
     fL (cx.wc call) base ops gs (iM (forget e (dQ ops is)) vs 0 (eB ops is gs)) k else gX) fun n=>(bif b then ar (aO (e.av t) want (eB ops is gs).length (ll (cx.wc (calls n)) base ops true is e fun e'=>bif (eB ops is gs).all (fun t=>pn (e'.get t))then ao ((eB ops is gs).map e'.av)else gX)) fun vs=>
     fL (cx.wc (calls n)) base ops gs (iM (forget e (dQ ops is)) vs 0 (eB ops is gs)) (ks n)else gX):=by
    intro b;cases b with
    |false=>exact gp _
    |true=>exact (ug (qR hc base ops true is e _ _ (cM.const _))).bnd fun vs=>mD hc base ops gs _ k ks hk
   exact key _
theorem xk{α:Type}{m:M α}{ms:Nat->M α}(h:d9 m ms):d9 (dy m) fun n=>dy (ms n):=by
 intro x;obtain⟨h1,h2⟩:=h x;refine⟨fun hne=>?_,fun n hne=>?_⟩
 ·have hne':m x≠.fail:=fun hf=>hne (by simp only[dy,hf]);obtain⟨N,hN⟩:=h1 hne';exact⟨N,fun n hn=>by grind [dy]⟩
 grind [dy]
theorem Cc(hc:∀f,cM (call f) fun n=>calls n f):∀f,cM ((gM (cx.wc call)).call f) fun n=>(gM (cx.wc (calls n))).call f:=by
 intro f args;show d9 (bif cx.iso f then dy (call f args)else call f args) fun n=>(bif cx.iso f then dy (calls n f args)else calls n f args);cases cx.iso f with
 |true=>exact xk (hc f args)
 |false=>exact hc f args
theorem Hw(c:FuncId->List AV->M AV)(ops:Array Oper)(i j:Nat):pX (cx.wc c) ops i j=pX cx ops i j:=rfl
theorem uP(c:FuncId->List AV->M AV)(ops:Array Oper)(bf:List Nat):∀l,mS (cx.wc c) ops bf l=mS cx ops bf l
 |[]=>rfl
 |i:: is=>by simp only[mS,uP c ops bf is,Hw]
theorem Fc(c:FuncId->List AV->M AV)(ops:Array Oper)(ord:List Nat):pe (cx.wc c) ops ord=pe cx ops ord:=by
 unfold pe;rw[uP]
theorem Fg(hc:∀f,cM (call f) fun n=>calls n f)(id:Nat)(ops:Array Oper)(draw:Bool)(e:Env){k:Env->M ρ}{ks:Nat->Env->M ρ}(hk:cM k ks):
  d9 (rR (cx.wc call) id ops draw e k) fun n=>rR (cx.wc (calls n)) id ops draw e (ks n):=by
 unfold rR;simp only[Fc];have hk':cM (fun e':Env=>k { e' with nx:=e.nx+ops.size }) fun n e'=>ks n { e' with nx:=e.nx+ops.size }:=fun e'=>hk _;have key:∀b1 b2:Bool,d9 (bif b1 then(bif draw then(bif b2 then fL (gM (cx.wc call)) e.nx ops (eP ops (xq cx id ops.size)) e fun e'=>k { e' with nx:=e.nx+ops.size }else gX)
   else fL (cx.wc call) e.nx ops (eP ops (List.range ops.size)) e fun e'=>k { e' with nx:=e.nx+ops.size })else gX) fun n=>(bif b1 then(bif draw then(bif b2 then fL (gM (cx.wc (calls n))) e.nx ops (eP ops (xq cx id ops.size)) e fun e'=>ks n { e' with nx:=e.nx+ops.size }else gX)
   else fL (cx.wc (calls n)) e.nx ops (eP ops (List.range ops.size)) e fun e'=>ks n { e' with nx:=e.nx+ops.size })else gX):=by
  intro b1 b2;cases b1 with
  |false=>exact gp _
  | true=>
   cases draw with
   |false=>exact mD hc _ _ _ _ _ _ hk'
   |true=>
    cases b2 with
    |false=>exact gp _
    |true=>exact mD (cx:=cx) (call:=(gM (cx.wc call)).call) (calls:=fun n=>(gM (cx.wc (calls n))).call) (Cc hc) _ _ _ _ _ _ hk'
 exact key (lO cx.nt ops) (pe cx ops (xq cx id ops.size))
theorem Cn(hc:∀f,cM (call f) fun n=>calls n f)(id:Nat)(ops:Array Oper)(draw:Bool)(e:Env){k:Env->M ρ}{ks:Nat->Env->M ρ}(hk:cM k ks):
  d9 (qQ (cx.wc call) id ops draw e k) fun n=>qQ (cx.wc (calls n)) id ops draw e (ks n):=Fg hc id ops draw e hk
theorem qz{ja:JA}{j:List AV->M ρ}{js:Nat->List AV->M ρ}(h:cM j js)(e:Env):d9 (vz ja j e) fun n=>vz ja (js n) e:=by
 unfold vz;cases pack ja e with
 |none=>exact gp _
 |some vs=>
  simp only;cases ja.fz with
  |true=>simp only[XL];exact (gp (Wv vs)).bnd h
  |false=>exact h vs
theorem NG:∀(n:Nat)(code:Code),SizeOf.sizeOf code<n->∀(call:FuncId->List AV->M AV)(calls:Nat->FuncId->List AV->M AV)(fx:bk ρ)(fxs:Nat->bk ρ),(∀f,cM (call f) fun n=>calls n f)->qD fx fxs->zi fx->(∀n,zi (fxs n))->
  ∀(e:Env)(kn:Env->M ρ)(kns:Nat->Env->M ρ)(kx:Nat->Env->M ρ)(kxs:Nat->Nat->Env->M ρ)(kr:Env->M ρ)(krs:Nat->Env->M ρ),cM kn kns->(∀i,cM (kx i) fun n=>kxs n i)->cM kr krs->
  d9 (ev (cx.wc call) fx code e kn kx kr) fun n=>ev (cx.wc (calls n)) (fxs n) code e (kns n) (kxs n) (krs n):=by
 intro n
 induction n with
 |zero=>grind
 | succ n ih=>
  intro code hn call calls fx fxs hc hfx hfc hfcs e kn kns kx kxs kr krs hkn hkx hkr;cases code<;>(try exact gp _)
  case skip=>exact hkn e
  case exit id=>exact hkx id e
  case ret=>exact hkr e
  case region id ops draw=>exact Cn hc id ops draw e hkn
  case seq x y=>
   have hx:SizeOf.sizeOf x<n:=by simp at hn;omega
   have hy:SizeOf.sizeOf y<n:=by simp at hn;omega
   simp only[ev];have hya:∀e,d9 (ev (cx.wc call) fx y e kn kx kr) fun n=>ev (cx.wc (calls n)) (fxs n) y e (kns n) (kxs n) (krs n):=fun e=>ih y hy call calls fx fxs hc hfx hfc hfcs e kn kns kx kxs kr krs hkn hkx hkr;have key:∀oj:Option JA,d9 (match oj with|some ja=>jn (fun vs=>ev (cx.wc call) fx y (unpack ja vs) kn kx kr) fun j=>ev (cx.wc call) fx x e (vz ja j) kx kr|none=>ev (cx.wc call) fx x e (fun e'=>ev (cx.wc call) fx y e' kn kx kr) kx kr)
     fun n=>(match oj with|some ja=>jn (fun vs=>ev (cx.wc (calls n)) (fxs n) y (unpack ja vs) (kns n) (kxs n) (krs n)) fun j=>ev (cx.wc (calls n)) (fxs n) x e (vz ja j) (kxs n) (krs n)|none=>ev (cx.wc (calls n)) (fxs n) x e (fun e'=>ev (cx.wc (calls n)) (fxs n) y e' (kns n) (kxs n) (krs n)) (kxs n) (krs n)):=by
    intro oj;cases oj with
    |none=>exact ih x hx call calls fx fxs hc hfx hfc hfcs e _ (fun n e'=>ev (cx.wc (calls n)) (fxs n) y e' (kns n) (kxs n) (krs n)) kx kxs kr krs hya hkx hkr
    |some ja=>exact ih x hx call calls fx fxs hc hfx hfc hfcs e _ (fun n=>vz ja fun vs=>ev (cx.wc (calls n)) (fxs n) y (unpack ja vs) (kns n) (kxs n) (krs n)) kx kxs kr krs (fun e'=>qz (fun vs=>hya _) e') hkx hkr
   have h:=key (match sQ x with|some t=>tQ cx.ann.joins t|none=>none);exact h
  case cond o x y=>
   have hx:SizeOf.sizeOf x<n:=by simp at hn;omega
   have hy:SizeOf.sizeOf y<n:=by simp at hn;omega
   cases o<;>(try exact gp _)
   case const v=>
    simp only[ev];cases cA v with
    |bool b=>
     cases b with
     |true=>exact ih x hx call calls fx fxs hc hfx hfc hfcs e kn kns kx kxs kr krs hkn hkx hkr
     |false=>exact ih y hy call calls fx fxs hc hfx hfc hfcs e kn kns kx kxs kr krs hkn hkx hkr
    |_=>exact gp _
   rename_i t;simp only[ev];cases decide (t<1000)with
   |false=>exact gp _
   | true=>
    simp only[XL];cases e.av t with
    |bool b=>
     cases b with
     |true=>exact ih x hx call calls fx fxs hc hfx hfc hfcs e kn kns kx kxs kr krs hkn hkx hkr
     |false=>exact ih y hy call calls fx fxs hc hfx hfc hfcs e kn kns kx kxs kr krs hkn hkx hkr
    |_=>exact gp _
  case block id code=>
   have hbx:∀(kx:Nat->Env->M ρ)(kxs:Nat->Nat->Env->M ρ)(kn:Env->M ρ)(kns:Nat->Env->M ρ),(∀i,cM (kx i) fun n=>kxs n i)->cM kn kns->∀i,cM (fun e'=>bif Nat.beq i id then kn e' else kx i e') fun n e'=>bif Nat.beq i id then kns n e' else kxs n i e':=by
    intro kx kxs kn kns hkx hkn i e'
    (try dsimp only)
    cases Nat.beq i id with
    |true=>exact hkn e'
    |false=>exact hkx i e'
   by_cases hcl:∃b,code= .loop b
   ·obtain⟨b,rfl⟩:=hcl;have hb:SizeOf.sizeOf b<n:=by simp at hn;omega
    have key:∀oj:Option JA,d9 (match oj with|none=>gX|some ja=>vz ja (fx fun self vs=>ev (cx.wc call) fx b (unpack ja vs) (vz ja self) (fun i e'=>bif Nat.beq i id then kn e' else kx i e') kr) e)
      fun n=>(match oj with|none=>gX|some ja=>vz ja (fxs n fun self vs=>ev (cx.wc (calls n)) (fxs n) b (unpack ja vs) (vz ja self) (fun i e'=>bif Nat.beq i id then kns n e' else kxs n i e') (krs n)) e):=by
     intro oj;cases oj with
     |none=>exact gp _
     | some ja=>
      refine qz (hfx _ (fun n self vs=>ev (cx.wc (calls n)) (fxs n) b (unpack ja vs) (vz ja self) (fun i e'=>bif Nat.beq i id then kns n e' else kxs n i e') (krs n)) ?_ ?_ ?_) e
      ·intro self selfs hs vs;exact ih b hb call calls fx fxs hc hfx hfc hfcs (unpack ja vs) _ (fun n=>vz ja (selfs n)) _ (fun n i e'=>bif Nat.beq i id then kns n e' else kxs n i e') kr krs (fun e'=>qz hs e') (hbx kx kxs kn kns hkx hkn) hkr
      ·intro self selfs hs vs;exact ih b hb call (fun _=>call) fx (fun _=>fx) (fun f=>cM.const _) hfc hfc (fun _=>hfc) (unpack ja vs) _ (fun n=>vz ja (selfs n)) _ (fun n i e'=>bif Nat.beq i id then kn e' else kx i e') kr (fun _=>kr) (fun e'=>qz hs e') (fun i=>cM.const _) (cM.const _)
      ·intro m self selfs hs vs;exact ih b hb (calls m) (fun _=>calls m) (fxs m) (fun _=>fxs m) (fun f=>cM.const _) (hfcs m) (hfcs m) (fun _=>hfcs m) (unpack ja vs) _ (fun n=>vz ja (selfs n)) _ (fun n i e'=>bif Nat.beq i id then kns m e' else kxs m i e') (krs m) (fun _=>krs m) (fun e'=>qz hs e') (fun i=>cM.const _) (cM.const _)
    exact key (tQ cx.ann.loops id)
   ·have hs:SizeOf.sizeOf code<n:=by simp at hn;omega
    have hev:∀(cx:Cx)(fx:bk ρ)(kn:Env->M ρ)(kx:Nat->Env->M ρ)(kr:Env->M ρ),ev cx fx (.block id code) e kn kx kr=ev cx fx code e kn (fun i e'=>bif Nat.beq i id then kn e' else kx i e') kr:=by
     intro cx fx kn kx kr;cases code<;>first|rfl|grind
    simp_all
end
def Hx{m:List AV->M AV}{ms:Nat->List AV->M AV}(h:cM m ms)(args:List AV):d9 (vU m args) fun n=>vU (ms n) args:=by
 intro x;obtain⟨h1,h2⟩:=h (fk aF args) []
 (try dsimp only at h1 h2)
 refine⟨fun hne=>?_,fun n hne=>?_⟩
 ·have hne':m (fk aF args) []≠.fail:=fun hf=>hne (by simp only[vU,hf]);obtain⟨N,hN⟩:=h1 hne';refine⟨N,fun n hn=>?_⟩
  grind [vU]
 grind [vU]
def fR(p:Pg):Prop:=∀f E,p.other f=some E->∀(call:FuncId->List AV->M AV)(calls:Nat->FuncId->List AV->M AV),(∀f,cM (call f) fun n=>calls n f)->cM (E call) fun n=>E (calls n)
section
variable {cx:Cx} {call:FuncId->List AV->M AV} {calls:Nat->FuncId->List AV->M AV} {fx:bk AV} {fxs:Nat->bk AV}
theorem Cl(hc:∀f,cM (call f) fun n=>calls n f)(hfx:qD fx fxs)(hfc:zi fx)(hfcs:∀n,zi (fxs n))(fn:Func)(own:Option Nat):
  cM (cp (cx.wc call) fx fn own) fun n=>cp (cx.wc (calls n)) (fxs n) fn own:=by
 intro args;unfold cp;cases fn.body with
 |none=>exact gp _
 | some c=>
  have key:∀b:Bool,d9 (bif b then ev (cx.wc call) fx c (sM args) (mc (cx.wc call) fn own) (fun _ _=>gX) (mc (cx.wc call) fn own)else gX) fun n=>(bif b then ev (cx.wc (calls n)) (fxs n) c (sM args) (mc (cx.wc (calls n)) fn own) (fun _ _=>gX) (mc (cx.wc (calls n)) fn own)else gX):=by
   intro b;cases b with
   |false=>exact gp _
   |true=>
    have hr:cM (mc (cx.wc call) fn own) fun n=>mc (cx.wc (calls n)) fn own:=cM.const (mc cx fn own);exact NG _ c (Nat.lt_succ_self _) call calls fx fxs hc hfx hfc hfcs (sM args) _ (fun n=>mc (cx.wc (calls n)) fn own) _ (fun _ _ _=>gX) _ (fun n=>mc (cx.wc (calls n)) fn own) hr (fun i=>cM.const _) hr
  exact key (decide (args.length<=fn.ntmps)&&decide (fn.ntmps<=1000)&&pY cx.nt cx.ann.kinds)
theorem wN{p:Pg}(hO:fR p)(hc:∀f,cM (call f) fun n=>calls n f)(hfx:qD fx fxs)(hfc:zi fx)(hfcs:∀n,zi (fxs n))(f:FuncId):cM (lj p call fx f) fun n=>lj p (calls n) (fxs n) f:=by
 intro args;unfold lj;cases ho:p.other f with
 |some E=>exact hO f E ho call calls hc args
 | none=>
  simp only;cases p.funcs f with
  |none=>exact gp _
  |some x=>
   obtain⟨fn,a⟩:=x;simp only;have hb:=Cl (cx:=p.cx call fn.ntmps a) hc hfx hfc hfcs fn (p.own f);cases a.iso with
   |true=>exact Hx hb args
   |false=>exact hb args
end
theorem rQ{p:Pg}(hO:fR p):∀n f args,BC (ey p n f args) (ey p (n+1) f args)
 |0,f,args=>fun x hne=>absurd rfl hne
 | n+1,f,args=>by
  have hc:∀f,cM (ey p (n+1) f) fun m=>(if m=0 then ey p n else ey p (n+1)) f:=by
   intro f args x;refine⟨fun _=>⟨1,fun m hm=>?_⟩,fun m hne=>?_⟩
   ·grind
   ·(try dsimp only at hne |-)
    by_cases h0:m=0
    ·rw[XK h0]at hne |-;exact rQ hO n f args x hne
    grind
  have h:=wN hO hc (Aa n) (Cs (n+1)) (fun m=>by
   by_cases h0:m=0
   all_goals simp_all[Cs]) f args
  intro x hne
  have:=(h x).2 0
  (try dsimp only at this)
  rw[XK rfl,XK rfl]at this;exact this hne
def yk{p:Pg}(hO:fR p){n m:Nat}(h:n<=m)(f:FuncId)(args:List AV):BC (ey p n f args) (ey p m f args):=by
 induction m with
 | zero => have:n=0:=Z5
           subst this;exact .refl _
 |succ m ih=>
  by_cases hn:n=m+1
  ·subst hn;exact .refl _
  ·exact (ih Z5).trans (rQ hO m f args)
open Classical in
noncomputable def af(p:Pg)(f:FuncId)(args:List AV):M AV:=fun h=>if hx:∃n,ey p n f args h≠.fail then ey p (Classical.choose hx) f args h else .fail
def nW{p:Pg}(hO:fR p)(f:FuncId):cM (af p f) fun n=>ey p n f:=by
 intro args h;refine wG (fun n m hnm hne=>yk hO hnm f args h hne) ?_;unfold af;by_cases hx:∃n,ey p n f args h≠.fail
 all_goals grind
def tb.uniq{α:Type}{a a':R α}{b:Nat->R α}(h:tb a b)(g:tb a' fun n=>b (n+1)):a=a':=by
 by_cases ha:a= .fail
 ·by_cases ha':a'= .fail
  ·rw[ha,ha']
  ·obtain⟨N,hN⟩:=g.1 ha';have h1:=hN N (XM _)
   (try dsimp only at h1)
   exact (h.2 (N+1) Z7).symm.trans h1
 ·obtain⟨N,hN⟩:=h.1 ha;have h1:=hN (N+1) Z5;have h2:=g.2 N
  grind
theorem tv{p:Pg}(hO:fR p)(f:FuncId)(args:List AV):af p f args=lj p (af p) ak f args:=by
 funext h;have h1:=nW hO f args h;have h2:=wN hO (fun f=>nW hO f) zZ Hg (fun n=>Cs n) f args h;exact h1.uniq h2
def zE[Dr]{P:Program}{p:Pg}(G:GoodPg P p)(hO:fR p):dF P p.own (af p):=by
 intro f args h S β w vs hr hg hw hh hv;obtain⟨N,hN⟩:=(nW hO f args h).1 hr;have h1:=hN N (XM _)
 (try dsimp only at h1)
 rw[<- h1]at hr |-;exact pN G N f args h S β w vs hr hg hw hh hv
def zD{p:Pg}(hO:fR p){n:Nat}{f:FuncId}{args:List AV}{h:Hp}{r:R AV}(hr:ey p n f args h=r)(hne:r≠.fail):af p f args h=r:=by
 have:=(nW hO f args h).2 n Z7
 grind
section
variable {ρ:Type}
theorem JS{F:(List AV->M ρ)->List AV->M ρ}(hF:oI F)(vs:List AV):ak F vs=F (ak F) vs:=by
 funext h;exact (jv hF vs h).uniq (hF _ _ (jv hF) vs h)
theorem wK{c:AV}{x y:M ρ}{xs ys:Nat->M ρ}(hx:d9 x xs)(hy:d9 y ys):d9 (aC c x y) fun n=>aC c (xs n) (ys n):=by
 unfold aC;cases c with
 |bool b=>cases b<;>first|exact hx|exact hy
 |_=>exact gp _
theorem VK{k:List AV->M ρ}{ks:Nat->List AV->M ρ}{m:(List AV->M ρ)->M ρ}{ms:Nat->(List AV->M ρ)->M ρ}(hk:cM k ks)(hm:∀j js,cM j js->d9 (m j) fun n=>ms n (js n)):d9 (jn k m) fun n=>jn (ks n) (ms n):=
 hm k ks hk
theorem Fp{F:(List AV->M ρ)->List AV->M ρ}{Fs:Nat->(List AV->M ρ)->List AV->M ρ}(h1:zh F Fs)(h2:oI F)(h3:∀n,oI (Fs n)):cM (ak F) fun n=>ak (Fs n):=Hg F Fs h1 h2 h3
end
def bj(m:M AV):M AV:=fun h=>match m []with
 |.ok r h'=>.ok (frz 6 h' r) h
 |.pan v h'=>.pan (frz 6 h' v) h
 |.fail=>.fail
def E7{p:Pg}(hO:fR p){f:FuncId}{fn:Func}{a:Ann}(h1:p.other f=none)(h2:p.funcs f=some (fn,a))(h3:a.iso=true)(args:List AV):
  af p f args=bj (cp (p.cx (af p) fn.ntmps a) ak fn (p.own f) (fk aF args)):=by
 rw[tv hO];unfold lj;rw[h1];simp only;rw[h2];simp only[h3,XL];rfl
def BX{p:Pg}(hO:fR p){f:FuncId}{fn:Func}{a:Ann}(h1:p.other f=none)(h2:p.funcs f=some (fn,a))(h3:a.iso=false)(args:List AV):
  af p f args=cp (p.cx (af p) fn.ntmps a) ak fn (p.own f) args:=by
 simp_all[tv,lj]
def d7{p:Pg}(hO:fR p){f:FuncId}{E:(FuncId->List AV->M AV)->List AV->M AV}(h1:p.other f=some E)(args:List AV):af p f args=E (af p) args:=by
 grind [tv,lj]
def ew(T:TT)(t:TypeId):(FuncId->List AV->M AV)->List AV->M AV:=fun _ args=>match args with
 |[.sl es]=>bS (dH T t (.sl []) (.sl es))
 |_=>gX
def Bu(t:TypeId)(k:IntKind)(zero:AV):R AV->R AV
 |.ok v h'=>bif bY 4 v then .ok (.tup [.agg (aa v),.int k 0]) h' else .fail
 |.pan (.iface t' (.int k' n)) h'=>bif Nat.beq t' t&&decide (k'=k)then .ok (.tup [zero,.int k n]) h' else .fail
 |_=>.fail
def Bt(t:TypeId)(k:IntKind)(zero:AV):(FuncId->List AV->M AV)->List AV->M AV:=fun call args=>match args with
 |[f]=>fun h=>Bu t k zero (cV call f [] h)
 |_=>gX
def A0{m:M AV}{ms:Nat->M AV}(p:R AV->R AV)(hp:p .fail= .fail)(h:d9 m ms):d9 (fun x=>p (m x)) fun n=>fun x=>p (ms n x):=by
 intro x;obtain⟨h1,h2⟩:=h x;constructor
 ·intro hne;obtain⟨N,hN⟩:=h1 (fun hh=>hne Z7);exact⟨N,fun n hn=>Ym p (hN n hn)⟩
 ·intro n hne;exact Ym p (h2 n (fun hh=>hne Z7))
def o7(T:TT)(t:TypeId)(call:FuncId->List AV->M AV)(calls:Nat->FuncId->List AV->M AV):cM (ew T t call) fun n=>ew T t (calls n):=cM.const _
def I1(t:TypeId)(k:IntKind)(zero:AV)(call:FuncId->List AV->M AV)(calls:Nat->FuncId->List AV->M AV)(hc:∀f,cM (call f) fun n=>calls n f):cM (Bt t k zero call) fun n=>Bt t k zero (calls n):=by
 have hv:∀f,d9 (cV call f []) fun n=>cV (calls n) f []:=by
  intro f;unfold cV;split
  ·exact hc _ _
  ·exact gp _
 intro args;cases args with
 |nil=>exact gp _
 |cons f r=>
  cases r with
  |nil=>exact A0 (Bu t k zero) rfl (hv f)
  |cons _ _=>exact gp _
def fB{α:Type}{b:Bool}{x:α}{o:Option α}{y:α}(h:(bif b then some x else o)=some y):x=y\/o=some y:=by
 grind
end Go.Av
namespace Go.Av.Ap
abbrev ba:=List UInt8
inductive Val where
 |mk (kind n:Int) (names:List ba) (values:List Val)
instance:Inhabited Val:=⟨.mk 0 0 [] []⟩
inductive Exp where
 |mk (op n:Int) (s m:ba) (names:List ba) (args:List Exp)
instance:Inhabited Exp:=⟨.mk 0 0 [] [] [] []⟩
inductive Ty where
 |mk (kind:Int) (fields:List (ba×Ty))
instance:Inhabited Ty:=⟨.mk 0 []⟩
abbrev fu:=ba×Ty
structure Fun where
 name:ba
 pub:Bool
 params:List fu
 result:Ty
 effects:Int
 body:Exp
 deriving Inhabited
structure Mod where
 name:ba
 uses:List ba
 vars:List fu
 init:List Exp
 funcs:List Fun
 moves:Bool
 old:List fu
 forward:List Exp
 back:List Exp
 deriving Inhabited
def Val.kind:Val->Int|.mk k _ _ _=>k
def Val.n:Val->Int|.mk _ n _ _=>n
def Val.names:Val->List ba|.mk _ _ ns _=>ns
def Val.values:Val->List Val|.mk _ _ _ vs=>vs
def Exp.op:Exp->Int|.mk o _ _ _ _ _=>o
def Exp.n:Exp->Int|.mk _ n _ _ _ _=>n
def Exp.s:Exp->ba|.mk _ _ s _ _ _=>s
def Exp.m:Exp->ba|.mk _ _ _ m _ _=>m
def Exp.names:Exp->List ba|.mk _ _ _ _ ns _=>ns
def Exp.args:Exp->List Exp|.mk _ _ _ _ _ es=>es
def Ty.kind:Ty->Int|.mk k _=>k
def Ty.fields:Ty->List fu|.mk _ fs=>fs
@[simp] theorem XA(a b c d):(Val.mk a b c d).kind=a:=rfl
@[simp] theorem XC(a b c d):(Val.mk a b c d).n=b:=rfl
@[simp] theorem Xv(a b c d):(Val.mk a b c d).names=c:=rfl
@[simp] theorem Xt(a b c d):(Val.mk a b c d).values=d:=rfl
def strs(l:List ba):AV:=.sl (l.map .str)
mutual
def Val.av:Val->AV
 |.mk k n ns vs=>.agg [.int .i64 k,.int .i64 n,strs ns,.sl (d5 vs)]
def d5:List Val->List AV
 |[]=>[]
 |v:: vs=>v.av:: d5 vs
end
mutual
def Exp.cells:Exp->List AV
 |.mk o n s m ns es=>[.int .i64 o,.int .i64 n,.str s,.str m,strs ns,.sl (jN es)]
def jN:List Exp->List AV
 |[]=>[]
 |e:: es=>.agg e.cells:: jN es
end
def Exp.av(e:Exp):AV:=.agg e.cells
mutual
def Ty.cells:Ty->List AV
 |.mk k fs=>[.int .i64 k,.sl (jO fs)]
def jO:List (ba×Ty)->List AV
 |[]=>[]
 |f:: fs=>dZ f:: jO fs
def dZ:ba×Ty->AV
 |(n,t)=>.agg (.str n:: t.cells)
end
def Ty.av(t:Ty):AV:=.agg t.cells
def Fun.av(f:Fun):AV:=.agg ([.str f.name,.bool f.pub,.sl (jO f.params)]++f.result.cells++[.int .i64 f.effects]++f.body.cells)
def iP(l:List Fun):AV:=.sl (l.map Fun.av)
def Mod.av(m:Mod):AV:=.agg [.str m.name,strs m.uses,.sl (jO m.vars),.sl (jN m.init),iP m.funcs,.bool m.moves,.sl (jO m.old),.sl (jN m.forward),.sl (jN m.back)]
def vals(l:List Val):AV:=.sl (d5 l)
def dn(l:List Exp):AV:=.sl (jN l)
def ca(l:List fu):AV:=.sl (jO l)
def mods(l:List Mod):AV:=.sl (l.map Mod.av)
def ints(l:List Int):AV:=.sl (l.map (.int .i64))
structure Vars where
 module:ba
 values:List Val
 deriving Inhabited
structure Deed where
 effect:Int
 arg:Int
 answer:Int
 deriving DecidableEq,Inhabited
structure Call where
 module:ba
 func:ba
 args:List Val
 deriving Inhabited
def Vars.av(v:Vars):AV:=.agg [.str v.module,vals v.values]
def Deed.av(d:Deed):AV:=.agg [.int .i64 d.effect,.int .i64 d.arg,.int .i64 d.answer]
def Call.av(c:Call):AV:=.agg [.str c.module,.str c.func,vals c.args]
def bn(l:List Vars):AV:=.sl (l.map Vars.av)
def deeds(l:List Deed):AV:=.sl (l.map Deed.av)
def calls(l:List Call):AV:=.sl (l.map Call.av)
structure Out where
 err:Int
 value:Val
 deeds:List Deed
 calls:List Call
 state:List Vars
def Out.av(o:Out):AV:=.agg [.int .i64 o.err,.int .i64 o.value.kind,.int .i64 o.value.n,strs o.value.names,vals o.value.values,Ap.deeds o.deeds,Ap.calls o.calls,bn o.state]
theorem dX:(l:List Val)->d5 l=l.map Val.av
 |[]=>rfl
 |v:: l=>by simp[d5,dX l]
theorem kH:(l:List Exp)->jN l=l.map Exp.av
 |[]=>rfl
 |v:: l=>by simp[jN,kH l,Exp.av]
theorem kJ:(l:List fu)->jO l=l.map dZ
 |[]=>rfl
 |v:: l=>by simp[jO,kJ l]
def Val.av_eq(v:Val):v.av= .agg [.int .i64 v.kind,.int .i64 v.n,strs v.names,vals v.values]:=by cases v;rfl
theorem Exp.cells_eq(e:Exp):e.cells=[.int .i64 e.op,.int .i64 e.n,.str e.s,.str e.m,strs e.names,dn e.args]:=by cases e;rfl
theorem Ty.cells_eq(t:Ty):t.cells=[.int .i64 t.kind,ca t.fields]:=by cases t;simp[Ty.cells,ca,Ty.kind,Ty.fields]
def tV(f:fu):dZ f= .agg [.str f.1,.int .i64 f.2.kind,ca f.2.fields]:=by grind [dZ,Ty.cells_eq]
@[simp] theorem bQ(v:Val):aa v.av=[.int .i64 v.kind,.int .i64 v.n,strs v.names,vals v.values]:=by rw[v.av_eq];rfl
@[simp] theorem cr(e:Exp):aa e.av=[.int .i64 e.op,.int .i64 e.n,.str e.s,.str e.m,strs e.names,dn e.args]:=by rw[Exp.av,e.cells_eq];rfl
@[simp] theorem kC(f:fu):aa (dZ f)=[.str f.1,.int .i64 f.2.kind,ca f.2.fields]:=by rw[tV];rfl
@[simp] theorem EJ(t:Ty):aa t.av=[.int .i64 t.kind,ca t.fields]:=by rw[Ty.av,t.cells_eq];rfl
@[simp] theorem kD(f:Fun):aa f.av=[.str f.name,.bool f.pub,ca f.params,.int .i64 f.result.kind,ca f.result.fields,.int .i64 f.effects,.int .i64 f.body.op,.int .i64 f.body.n,.str f.body.s,.str f.body.m,strs f.body.names,dn f.body.args]:=by
 grind [Fun.av,aa,Ty.cells_eq,Exp.cells_eq,ca]
@[simp] theorem eY(m:Mod):aa m.av=[.str m.name,strs m.uses,ca m.vars,dn m.init,iP m.funcs,.bool m.moves,ca m.old,dn m.forward,dn m.back]:=rfl
@[simp] theorem Hj(v:Val):AV.agg [.int .i64 v.kind,.int .i64 v.n,strs v.names,vals v.values]=v.av:=(v.av_eq).symm
@[simp] theorem kL(e:Exp):AV.agg [.int .i64 e.op,.int .i64 e.n,.str e.s,.str e.m,strs e.names,dn e.args]=e.av:=by rw[Exp.av,e.cells_eq]
@[simp] theorem yp(t:Ty):AV.agg [.int .i64 t.kind,ca t.fields]=t.av:=by rw[Ty.av,t.cells_eq]
@[simp] theorem Ab(f:fu):AV.agg [.str f.1,.int .i64 f.2.kind,ca f.2.fields]=dZ f:=(tV f).symm
@[simp] theorem Ac(f:Fun):AV.agg [.str f.name,.bool f.pub,ca f.params,.int .i64 f.result.kind,ca f.result.fields,.int .i64 f.effects,.int .i64 f.body.op,.int .i64 f.body.n,.str f.body.s,.str f.body.m,strs f.body.names,dn f.body.args]=f.av:=by
 simp[Fun.av,Ty.cells_eq,Exp.cells_eq,ca]
@[simp] theorem Rt(m:Mod):AV.agg [.str m.name,strs m.uses,ca m.vars,dn m.init,iP m.funcs,.bool m.moves,ca m.old,dn m.forward,dn m.back]=m.av:=rfl
theorem gE{α:Type}(g:Nat->Nat->Nat->Nat->Bool->AV)(f:α->AV)(h:∀x,cl g (f x)=f x):(l:List α)->fk g (l.map f)=l.map f
 |[]=>rfl
 |x:: l=>by simp[fk,h x,gE g f h l]
@[simp] theorem my(g:Nat->Nat->Nat->Nat->Bool->AV)(l:List ba):cl g (strs l)=strs l:=by
 simp[strs,cl,gE g AV.str (fun _=>rfl) l]
@[simp] theorem nX(g:Nat->Nat->Nat->Nat->Bool->AV)(l:List Int):cl g (ints l)=ints l:=by
 simp[ints,cl,gE g (AV.int .i64) (fun _=>rfl) l]
mutual
theorem Val.cl_av(g:Nat->Nat->Nat->Nat->Bool->AV):(v:Val)->cl g v.av=v.av
 |.mk k n ns vs=>by simp[Val.av,cl,fk,y9 g vs]
theorem y9(g:Nat->Nat->Nat->Nat->Bool->AV):(l:List Val)->fk g (d5 l)=d5 l
 |[]=>rfl
 |v:: l=>by simp[d5,fk,Val.cl_av g v,y9 g l]
end
mutual
theorem Exp.cl_cells(g:Nat->Nat->Nat->Nat->Bool->AV):(e:Exp)->fk g e.cells=e.cells
 |.mk o n s m ns es=>by simp[Exp.cells,cl,fk,sR g es]
theorem sR(g:Nat->Nat->Nat->Nat->Bool->AV):(l:List Exp)->fk g (jN l)=jN l
 |[]=>rfl
 |e:: l=>by simp[jN,fk,cl,Exp.cl_cells g e,sR g l]
end
mutual
theorem Ty.cl_cells(g:Nat->Nat->Nat->Nat->Bool->AV):(t:Ty)->fk g t.cells=t.cells
 |.mk k fs=>by simp[Ty.cells,cl,fk,pT g fs]
theorem pT(g:Nat->Nat->Nat->Nat->Bool->AV):(l:List (ba×Ty))->fk g (jO l)=jO l
 |[]=>rfl
 |f:: l=>by simp[jO,fk,Hh g f,pT g l]
theorem Hh(g:Nat->Nat->Nat->Nat->Bool->AV):(f:ba×Ty)->cl g (dZ f)=dZ f
 |(n,t)=>by simp[dZ,cl,fk,Ty.cl_cells g t]
end
@[simp] theorem yb(g:Nat->Nat->Nat->Nat->Bool->AV)(v:Val):cl g v.av=v.av:=v.cl_av g
@[simp] theorem ke(g:Nat->Nat->Nat->Nat->Bool->AV)(l:List Val):cl g (vals l)=vals l:=by simp[vals,cl,y9]
@[simp] theorem tz(g:Nat->Nat->Nat->Nat->Bool->AV)(e:Exp):cl g e.av=e.av:=by simp[Exp.av,cl,Exp.cl_cells]
@[simp] theorem JG(g:Nat->Nat->Nat->Nat->Bool->AV)(l:List Exp):cl g (dn l)=dn l:=by simp[dn,cl,sR]
@[simp] theorem DG(g:Nat->Nat->Nat->Nat->Bool->AV)(t:Ty):cl g t.av=t.av:=by simp[Ty.av,cl,Ty.cl_cells]
@[simp] theorem UA(g:Nat->Nat->Nat->Nat->Bool->AV)(f:fu):cl g (dZ f)=dZ f:=Hh g f
@[simp] theorem xX(g:Nat->Nat->Nat->Nat->Bool->AV)(l:List fu):cl g (ca l)=ca l:=by simp[ca,cl,pT]
theorem tD(g:Nat->Nat->Nat->Nat->Bool->AV):(a b:List AV)->fk g (a++b)=fk g a++fk g b
 |[],b=>rfl
 |x:: a,b=>by simp[fk,tD g a b]
@[simp] theorem GL(g:Nat->Nat->Nat->Nat->Bool->AV)(f:Fun):cl g f.av=f.av:=by
 simp[Fun.av,cl,fk,tD,pT,Ty.cl_cells,Exp.cl_cells]
@[simp] theorem Tp(g:Nat->Nat->Nat->Nat->Bool->AV)(l:List Fun):cl g (iP l)=iP l:=by grind [iP,cl,gE,GL]
@[simp] theorem xZ(g:Nat->Nat->Nat->Nat->Bool->AV)(m:Mod):cl g m.av=m.av:=by
 simp_all[Mod.av,cl,fk,pT,sR]
@[simp] theorem lh(g:Nat->Nat->Nat->Nat->Bool->AV)(l:List Mod):cl g (mods l)=mods l:=by grind [mods,cl,gE,xZ]
@[simp] theorem xY(g:Nat->Nat->Nat->Nat->Bool->AV)(k:IntKind)(n:Int):cl g (.int k n)= .int k n:=rfl
@[simp] theorem To(g:Nat->Nat->Nat->Nat->Bool->AV)(b:Bool):cl g (.bool b)= .bool b:=rfl
@[simp] theorem Nu(g:Nat->Nat->Nat->Nat->Bool->AV)(s:ba):cl g (.str s)= .str s:=rfl
@[simp] theorem JJ(g:Nat->Nat->Nat->Nat->Bool->AV)(v:Vars):cl g v.av=v.av:=by simp[Vars.av,cl,fk]
@[simp] theorem JF(g:Nat->Nat->Nat->Nat->Bool->AV)(v:Deed):cl g v.av=v.av:=by simp[Deed.av,cl,fk]
@[simp] theorem JE(g:Nat->Nat->Nat->Nat->Bool->AV)(v:Call):cl g v.av=v.av:=by simp[Call.av,cl,fk]
@[simp] theorem tA(g:Nat->Nat->Nat->Nat->Bool->AV)(l:List Vars):cl g (bn l)=bn l:=by grind [bn,cl,gE,JJ]
@[simp] theorem zH(g:Nat->Nat->Nat->Nat->Bool->AV)(l:List Deed):cl g (deeds l)=deeds l:=by grind [deeds,cl,gE,JF]
@[simp] theorem zG(g:Nat->Nat->Nat->Nat->Bool->AV)(l:List Call):cl g (calls l)=calls l:=by grind [calls,cl,gE,JE]
@[simp] theorem UB(g:Nat->Nat->Nat->Nat->Bool->AV)(o:Out):cl g o.av=o.av:=by simp[Out.av,cl,fk]
@[simp] theorem K7(v:Vars):aa v.av=[.str v.module,vals v.values]:=rfl
@[simp] theorem KY(v:Deed):aa v.av=[.int .i64 v.effect,.int .i64 v.arg,.int .i64 v.answer]:=rfl
@[simp] theorem KX(v:Call):aa v.av=[.str v.module,.str v.func,vals v.args]:=rfl
@[simp] theorem LA(o:Out):aa o.av=[.int .i64 o.err,.int .i64 o.value.kind,.int .i64 o.value.n,strs o.value.names,vals o.value.values,deeds o.deeds,calls o.calls,bn o.state]:=rfl
@[simp] theorem OU(v:Vars):AV.agg [.str v.module,vals v.values]=v.av:=rfl
@[simp] theorem OS(v:Deed):AV.agg [.int .i64 v.effect,.int .i64 v.arg,.int .i64 v.answer]=v.av:=rfl
@[simp] theorem OR(v:Call):AV.agg [.str v.module,.str v.func,vals v.args]=v.av:=rfl
@[simp] theorem Ru(o:Out):AV.agg [.int .i64 o.err,.int .i64 o.value.kind,.int .i64 o.value.n,strs o.value.names,vals o.value.values,deeds o.deeds,calls o.calls,bn o.state]=o.av:=rfl
@[simp] theorem Pi(v:Vars):dC v.av=some 2:=rfl
@[simp] theorem Pf(v:Deed):dC v.av=some 3:=rfl
@[simp] theorem Pb(v:Call):dC v.av=some 3:=rfl
@[simp] theorem S0(v:Out):dC v.av=some 8:=rfl
@[simp] theorem O4(v:Vars):bY 2 v.av=true:=by simp[bY,ay,vals]
@[simp] theorem FP(v:Deed):bY 3 v.av=true:=by simp[bY,ay]
@[simp] theorem O3(v:Call):bY 3 v.av=true:=by simp[bY,ay,vals]
@[simp] theorem Su(v:Out):bY 8 v.av=true:=by simp[bY,ay,vals,strs,deeds,calls,bn]
def Clean(a:AV):Prop:=∀g,cl g a=a
theorem Clean.frz{a:AV}(h:Clean a)(d:Nat)(hp:Hp):frz d hp a=a:=by
 cases d with
 |zero=>exact h _
 |succ d=>exact h _
def dB{a:AV}(h:Clean a):bj (ao a)=ao a:=by
 funext hp;simp only[bj,ao,h.frz]
@[simp] theorem ec(b:Bool):bj (ao (.bool b))=ao (.bool b):=dB fun _=>rfl
@[simp] theorem nG(k:IntKind)(n:Int):bj (ao (.int k n))=ao (.int k n):=dB fun _=>rfl
@[simp] theorem RO(s:ba):bj (ao (.str s))=ao (.str s):=dB fun _=>rfl
@[simp] theorem RP(v:Val):bj (ao v.av)=ao v.av:=dB fun g=>yb g v
@[simp] theorem OZ(v:List Val):bj (ao (vals v))=ao (vals v):=dB fun g=>ke g v
@[simp] theorem RH(v:Exp):bj (ao v.av)=ao v.av:=dB fun g=>tz g v
@[simp] theorem RJ(v:Fun):bj (ao v.av)=ao v.av:=dB fun g=>GL g v
@[simp] theorem Tb(v:Val):dC v.av=some 4:=by rw[v.av_eq];rfl
@[simp] theorem SU(e:Exp):dC e.av=some 6:=by rw[Exp.av,e.cells_eq];rfl
@[simp] theorem SX(f:fu):dC (dZ f)=some 3:=by rw[tV];rfl
@[simp] theorem Tw(t:Ty):dC t.av=some 2:=by rw[Ty.av,t.cells_eq];rfl
@[simp] theorem SY(f:Fun):dC f.av=some 12:=by simp[Fun.av,dC,Ty.cells_eq,Exp.cells_eq]
@[simp] theorem SZ(m:Mod):dC m.av=some 9:=rfl
@[simp] theorem d3(v:Val):bY 4 v.av=true:=by simp[bY,ay,strs,vals]
@[simp] theorem qe(e:Exp):bY 6 e.av=true:=by simp[bY,ay,strs,dn]
@[simp] theorem uM(f:fu):bY 3 (dZ f)=true:=by simp[bY,ay,ca]
@[simp] theorem qf(f:Fun):bY 12 f.av=true:=by simp[bY,ay,ca,strs,dn]
@[simp] theorem qg(m:Mod):bY 9 m.av=true:=by simp[bY,ay,ca,strs,dn,iP]
@[simp] theorem HY(s:ba):bY 1 (.str s)=true:=rfl
@[simp] theorem HW(k:IntKind)(n:Int):bY 1 (.int k n)=true:=rfl
theorem eU{α:Type}{sz:Nat}{f:α->AV}(h:∀x,bY sz (f x)=true)(l:List α):db sz (l.map f)=true:=by simp[db,h]
@[simp] theorem Pa(l:List ba):db 1 (l.map AV.str)=true:=eU HY l
@[simp] theorem rk(l:List Int):db 1 (l.map (AV.int .i64))=true:=eU (HW .i64) l
@[simp] theorem xo(l:List Val):db 4 (d5 l)=true:=by grind [dX,eU,d3]
@[simp] theorem O5(l:List Exp):db 6 (jN l)=true:=by grind [kH,eU,qe]
@[simp] theorem O6(l:List fu):db 3 (jO l)=true:=by grind [kJ,eU,uM]
@[simp] theorem O7(l:List Fun):db 12 (l.map Fun.av)=true:=eU qf l
@[simp] theorem O8(l:List Mod):db 9 (l.map Mod.av)=true:=eU qg l
theorem uo{T:TT}{t e:Nat}{ti ei:TI}(ht:T t=some ti)(hk:ti.kind= .slice e)(he:T e=some ei){α:Type}{f:α->AV}(hs:∀x,dC (f x)=some ei.size){l:List α}{i:Nat}{x:α}(h:l[i]? = some x):
  aA T t (.sl (l.map f)) (.int .i64 (i:Int))=some (.ip (aa (f x))):=by
 simp_all[aA]
def bv{T:TT}{t e:Nat}{ti ei:TI}(ht:T t=some ti)(hk:ti.kind= .slice e)(he:T e=some ei){α:Type}[Inhabited α]{f:α->AV}(hs:∀x,dC (f x)=some ei.size){l:List α}{n:Int}(h0:0<=n)(h:n<(l.length:Int)):
  aA T t (.sl (l.map f)) (.int .i64 n)=some (.ip (aa (f l[n.toNat]!))):=by
 grind [uo]
def lL{T:TT}{t e:Nat}{ti ei:TI}(ht:T t=some ti)(hk:ti.kind= .slice e)(he:T e=some ei){α:Type}{f:α->AV}(hs:∀x,bY ei.size (f x)=true){a b:List α}(h:(a.length+b.length)*ei.bytes<=140737488355328)(h0:0<ei.bytes):
  dH T t (.sl (a.map f)) (.sl (b.map f))=some (.sl ((a++b).map f)):=by
 grind [dH,fY,eU,gU]
end Go.Av.Ap
namespace Go.Av
attribute [simp] aj ae GH EU
@[simp] theorem ai{α:Type}(b:Bool)(x y:M α):aC (.bool b) x y=if b=true then x else y:=by cases b<;>rfl
def gv(b w:Bool)(y:AV):AV:=bif b== w then y else .tup []
@[simp] theorem Ww(y:AV):gv false false y=y:=rfl
@[simp] theorem Wz(y:AV):gv true true y=y:=rfl
@[simp] theorem Wx(y:AV):gv false true y= .tup []:=rfl
@[simp] theorem Wy(y:AV):gv true false y= .tup []:=rfl
@[simp high] theorem aE(b w:Bool)(y:AV):aO (.bool b) w 1 (ao [y])=ao [gv b w y]:=by cases b<;>cases w<;>rfl
@[simp high] theorem OV(b w c w2:Bool)(y:AV):aO (gv b w (.bool c)) w2 1 (ao [y])=ao [gv b w (gv c w2 y)]:=by cases b<;>cases w<;>cases c<;>cases w2<;>rfl
@[simp high] theorem OW(b w c e:Bool):aO (.bool b) w 1 (ar (bS (gx (gv b w (.bool c)) (.bool true) (gv b w (gv c false (.bool e))))) fun v=>ao [v])=ao [gv b w (.bool (c||e))]:=by
 cases b<;>cases w<;>cases c<;>rfl
@[simp high] theorem NX(b w c e:Bool):aO (.bool b) w 1 (ar (bS (gx (gv b w (.bool c)) (gv b w (gv c true (.bool e))) (.bool false))) fun v=>ao [v])=ao [gv b w (.bool (c&&e))]:=by
 cases b<;>cases w<;>cases c<;>rfl
@[simp high] theorem br(b c:Bool):gx (.bool b) (gv b true (.bool c)) (.bool false)=some (.bool (b&&c)):=by cases b<;>rfl
@[simp high] theorem eD(b c:Bool):gx (.bool b) (.bool true) (gv b false (.bool c))=some (.bool (b||c)):=by cases b<;>rfl
@[simp] theorem JV(w:Bool)(n:Nat)(m:M (List AV)):aO (.bool !w) w n m=ao (List.replicate n (.tup [])):=by cases w<;>rfl
@[simp] theorem aS(w:Bool)(n:Nat)(m:M (List AV)):aO (.bool w) w n m=m:=by cases w<;>rfl
@[simp] theorem wY(n:Nat)(m:M (List AV)):aO (.bool false) true n m=ao (List.replicate n (.tup [])):=rfl
@[simp] theorem fy(n:Nat)(m:M (List AV)):aO (.bool true) false n m=ao (List.replicate n (.tup [])):=rfl
@[simp] theorem uh(w:Bool)(n:Nat)(m:M (List AV)):aO (.tup []) w n m=ao (List.replicate n (.tup [])):=rfl
@[simp] theorem bC(x y:AV):gx (.bool true) x y=some x:=rfl
@[simp] theorem bD(x y:AV):gx (.bool false) x y=some y:=rfl
@[simp] theorem am(x:AV)(l:List AV):ab (x:: l) 0=x:=rfl
@[simp] theorem au(x:AV)(l:List AV)(n:Nat):ab (x:: l) (n+1)=ab l n:=rfl
@[simp] theorem uv{α:Type}(k:List AV->M α)(m:(List AV->M α)->M α):jn k m=m k:=rfl
@[simp] theorem da{α:Type}(a:α):dy (ao a)=ao a:=rfl
@[simp] theorem aT(b:Bool):Jh .not (.bool b)=some (.bool !b):=rfl
@[simp] theorem eN(l:List AV)(i:Nat):dA (.tup l) i=l[i]?:=rfl
@[simp] theorem Lo:True:=trivial
@[simp] theorem aJ(l k:Nat):ko (.hp l k)=some (.hp l k):=rfl
@[simp] theorem Om(cs:List AV):ko (.ip cs)=some (.ip cs):=rfl
@[simp] theorem mj(s:List UInt8):aa (.str s)=[.str s]:=rfl
@[simp] theorem Lz(k:IntKind)(n:Int):aa (.int k n)=[.int k n]:=rfl
@[simp] theorem aK(cs:List AV):aa (.agg cs)=cs:=rfl
@[simp] theorem bm(T:TT)(t:Nat)(a b:Int):cB T .add t (.int .i64 a) (.int .i64 b)=some (.int .i64 (IntKind.i64.wrap (a+b))):=rfl
@[simp] theorem fI(T:TT)(t:Nat)(a b:Int):cB T .sub t (.int .i64 a) (.int .i64 b)=some (.int .i64 (IntKind.i64.wrap (a-b))):=rfl
@[simp] theorem Dz(T:TT)(t:Nat)(a b:Int):cB T .mul t (.int .i64 a) (.int .i64 b)=some (.int .i64 (IntKind.i64.wrap (a*b))):=rfl
@[simp] theorem aB(T:TT)(t:Nat)(a b:Int):cB T .lss t (.int .i64 a) (.int .i64 b)=some (.bool (decide (a<b))):=rfl
@[simp] theorem dh(T:TT)(t:Nat)(a b:Int):cB T .leq t (.int .i64 a) (.int .i64 b)=some (.bool (decide (a<=b))):=rfl
@[simp] theorem dO(T:TT)(t:Nat)(a b:Int):cB T .gtr t (.int .i64 a) (.int .i64 b)=some (.bool (decide (b<a))):=rfl
@[simp] theorem jm(T:TT)(t:Nat)(a b:Int):cB T .geq t (.int .i64 a) (.int .i64 b)=some (.bool (decide (b<=a))):=rfl
@[simp] theorem aI(T:TT)(t:Nat)(a b:Int):cB T .eql t (.int .i64 a) (.int .i64 b)=some (.bool (a== b)):=rfl
@[simp] theorem gC(T:TT)(t:Nat)(a b:Int):cB T .neq t (.int .i64 a) (.int .i64 b)=some (.bool (a != b)):=rfl
@[simp] theorem yU(T:TT)(t:Nat)(a b:List UInt8):cB T .eql t (.str a) (.str b)=some (.bool (a== b)):=rfl
@[simp] theorem ou(T:TT)(t:Nat)(a b:List UInt8):cB T .neq t (.str a) (.str b)=some (.bool !(a== b)):=rfl
@[simp] theorem TB(T:TT)(t:Nat)(a b:List UInt8):cB T .lss t (.str a) (.str b)=some (.bool (ck a b)):=rfl
@[simp] theorem Tz(T:TT)(t:Nat)(a b:List UInt8):cB T .geq t (.str a) (.str b)=some (.bool !(ck a b)):=rfl
@[simp] theorem bc{n:Nat}{x:AV}(h:bY n x=true):ct n x=ao (.agg (aa x)):=by
 unfold ct mq;rw[h];rfl
@[simp] theorem gh{n:Nat}{x:AV}(h:bY n x=true):bH n [] x=ao (.agg (aa x)):=by
 unfold bH mq;rw[h];rfl
@[simp] theorem O1(b:Bool)(x:AV):jY b [x]=some x:=by simp[jY]
@[simp] theorem O2(b:Bool)(a c:Int):jY b [.int .i64 a,.int .i64 c]=some (.int .i64 (if b=true then max a c else min a c)):=by
 cases b
 ·simp only[jY,HR,XT]
  grind
 ·simp only[jY,HR,XL]
  grind
theorem aW{x:Int}(h1:-9223372036854775808<=x)(h2:x<=9223372036854775807):IntKind.i64.wrap x=x:=IntWalk.i64_in _ ⟨h1,h2⟩
def I7{n:Nat}(h:n<=4611686018427387904):IntKind.i64.wrap (n:Int)=(n:Int):=IntWalk.i64_in _ Z5
def aR{n:Nat}(h:n<=4611686018427387904):IntKind.i64.wrap ((n:Int)+1)=((n+1:Nat):Int):=by
 rw[IntWalk.i64_in _ Z5];omega
def xL{n:Nat}(h:n<=4611686018427387904):IntKind.i64.wrap (((n+1:Nat):Int)-1)=(n:Int):=by
 rw[IntWalk.i64_in _ Z5];omega
namespace Ap
mutual
def Val.sz:Val->Nat
 |.mk _ _ ns vs=>1+ns.length+de vs
def de:List Val->Nat
 |[]=>0
 |v:: vs=>v.sz+de vs
end
theorem kT:{l:List Val} ->{v:Val} ->v∈l->v.sz<=de l
 |w:: l,v,h=>by
  simp only[de];rcases Yn.1 h with rfl|h
  ·omega
  ·have:=kT h;omega
def Val.sz_pos(v:Val):1<=v.sz:=by cases v;simp[Val.sz];omega
theorem pF:(l:List Val)->l.length<=de l
 |[]=>Z8
 |v:: l=>by have:=pF l;have:=v.sz_pos;grind [de]
def Val.sz_names(v:Val):v.names.length<=v.sz:=by cases v;simp[Val.sz,Val.names];omega
def Val.sz_values(v:Val):de v.values<v.sz:=by cases v;simp[Val.sz,Val.values];omega
def Val.sz_len(v:Val):v.values.length<v.sz:=Zu (pF _) v.sz_values
def Xs{v x:Val}(h:x∈v.values):x.sz<v.sz:=Zu (kT h) v.sz_values
end Ap
end Go.Av
namespace Go.Av
def bb{α:Type}(F:α->Bool):List α->Int->Int
 |[],_=>-1
 |x:: l,i=>if F x=true then i else bb F l (i+1)
theorem ui{α:Type}(F:α->Bool):(l:List α)->(i:Int)->0<=i->(0<=bb F l i↔l.any F=true)
 |[],i,_=>by simp[bb]
 |x:: l,i,h=>by
  simp only[bb];split
  ·grind
  ·rename_i hx;rw[ui F l (i+1) Z5];simp[hx]
def wZ{α:Type}(F:α->Bool)(l:List α):decide (0<=bb F l 0)=l.any F:=by
 have:=ui F l 0 Z5
 grind
@[simp] theorem Lp(a b:Nat):((a:Int)== (b:Int))=(a== b):=Z7
@[simp] theorem Kk(a:Nat):((a:Int)== 0)=(a== 0):=Z7
@[simp] theorem Lq(a b:Nat):((a:Int) != (b:Int))=(a != b):=Z7
def iW{α β:Type}(F:α->β->Bool):List α->List β->Bool
 |x:: l,y:: r=>F x y&&iW F l r
 |[],[]=>true
 |_,_=>false
theorem np{α β:Type}(F:α->β->Bool):(a:List α)->(b:List β)->a.length≠b.length->iW F a b=false
 |[],[],h=>absurd rfl h
 |[],_:: _,_=>rfl
 |_:: _,[],_=>rfl
 |x:: a,y:: b,h=>by
  have:=np F a b (by simpa using h)
  simp[iW,this]
end Go.Av
namespace Go.Av
open Ap
@[simp high] theorem Nt(x:Val):ct 4 (Val.av x)=ao (Val.av x):=Z9
@[simp high] theorem JC(x:Val):bH 4 [] (Val.av x)=ao (Val.av x):=Z9
@[simp high] theorem B5(x:Exp):ct 6 (Exp.av x)=ao (Exp.av x):=Z9
@[simp high] theorem Jv(x:Exp):bH 6 [] (Exp.av x)=ao (Exp.av x):=Z9
@[simp high] theorem B6(x:fu):ct 3 (dZ x)=ao (dZ x):=Z9
@[simp high] theorem Jw(x:fu):bH 3 [] (dZ x)=ao (dZ x):=Z9
@[simp high] theorem mo(x:Fun):ct 12 (Fun.av x)=ao (Fun.av x):=Z9
@[simp high] theorem Jx(x:Fun):bH 12 [] (Fun.av x)=ao (Fun.av x):=Z9
@[simp high] theorem Nq(x:Mod):ct 9 (Mod.av x)=ao (Mod.av x):=Z9
@[simp high] theorem Jy(x:Mod):bH 9 [] (Mod.av x)=ao (Mod.av x):=Z9
@[simp high] theorem Lc(x:Vars):ct 2 (Vars.av x)=ao (Vars.av x):=Z9
@[simp high] theorem Jd(x:Vars):bH 2 [] (Vars.av x)=ao (Vars.av x):=Z9
@[simp high] theorem Lb(x:Deed):ct 3 (Deed.av x)=ao (Deed.av x):=Z9
@[simp high] theorem Jc(x:Deed):bH 3 [] (Deed.av x)=ao (Deed.av x):=Z9
@[simp high] theorem La(x:Ap.Call):ct 3 (Ap.Call.av x)=ao (Ap.Call.av x):=Z9
@[simp high] theorem Jb(x:Ap.Call):bH 3 [] (Ap.Call.av x)=ao (Ap.Call.av x):=Z9
@[simp high] theorem Nr(x:Ap.Out):ct 8 (Ap.Out.av x)=ao (Ap.Out.av x):=Z9
@[simp high] theorem Jz(x:Ap.Out):bH 8 [] (Ap.Out.av x)=ao (Ap.Out.av x):=Z9
@[simp] theorem El(t:Ty):bY 2 t.av=true:=by simp[bY,ay,ca]
@[simp high] theorem OQ(x:Ty):ct 2 (Ty.av x)=ao (Ty.av x):=Z9
@[simp high] theorem Ld(x:Ty):bH 2 [] (Ty.av x)=ao (Ty.av x):=Z9
end Go.Av
namespace Go.Av
@[simp] theorem Je(c:Prop)[Decidable c](a b:Bool):(if c then(ao (.bool a):M AV)else ao (.bool b))=ao (.bool (if c then a else b)):=by split<;>rfl
@[simp] theorem JY(c:Prop)[Decidable c](a b:Int):(if c then(ao (.int .i64 a):M AV)else ao (.int .i64 b))=ao (.int .i64 (if c then a else b)):=by split<;>rfl
def pS{F:(List AV->M AV)->List AV->M AV}(hF:∀vs,ak F vs=F (ak F) vs)(st:Nat->List AV)(n:Nat)(G:Nat->Bool)(hend:F (ak F) (st n)=ao (.bool true))(hstep:∀k,k<n->F (ak F) (st k)=if G k=true then ak F (st (k+1))else ao (.bool false)):
  ∀k,k<=n->ak F (st k)=ao (.bool ((List.range' k (n-k)).all G)):=by
 have key:∀r k,n-k=r->k<=n->ak F (st k)=ao (.bool ((List.range' k r).all G)):=by
  intro r
  induction r with
  |zero=>
   grind
  |succ r ih=>
   grind [List.range'_succ]
 grind
def BH{α:Type}[Inhabited α](P:α->Bool)(l:List α):(List.range' 0 l.length).all (fun k=>P l[k]!)=l.all P:=by
 rw[YT];simp only[XY,List.mem_range'_1];constructor
 ·intro h x hx;obtain⟨i,hi,rfl⟩:=Y1 hx
  grind
 grind
theorem pI{α:Type}[BEq α]:(a b:List α)->(a== b)=iW (fun x y=>x== y) a b
 |[],[]=>rfl
 |[],_:: _=>rfl
 |_:: _,[]=>rfl
 |x:: a,y:: b=>by
  show (x== y&&(a== b))=_;rw[pI a b];rfl
def F7{T:TT}{t e:Nat}{ti ei:TI}(ht:T t=some ti)(hk:ti.kind= .slice e)(he:T e=some ei)(es:List AV){n:Int}(h0:0<=n)(h1:n<=es.length):dc T t (.sl es) none (some (.int .i64 n)) none=some (.sl (es.take n.toNat)):=by
 simp_all[dc,cy]
def sD{T:TT}{t e:Nat}{ti ei:TI}(ht:T t=some ti)(hk:ti.kind= .slice e)(he:T e=some ei)(es:List AV):dc T t (.sl es) none (some (.int .i64 es.length)) (some (.int .i64 es.length))=some (.sl es):=by
 simp_all[dc,cy]
def ot{T:TT}{t e:Nat}{ti ei:TI}(ht:T t=some ti)(hk:ti.kind= .slice e)(he:T e=some ei)(es:List AV)(hok:db ei.size es=true){n:Int}(h0:0<=n)(h1:n<=es.length):dc T t (.sl es) (some (.int .i64 n)) none none=some (.sl (es.drop n.toNat)):=by
 simp_all[dc,cy]
end Go.Av
namespace Go.Av
variable [Dr]
theorem ny{P:Program}{cx:Cx}{own:Option Nat}(hT:TOK P cx.T)(hC:dF P cx.own cx.call)(hI:IsoCall cx){f:FuncId}{fn:Func}(hf:P.funcs[f]? = some fn)(hnt:cx.nt=fn.ntmps){E:List AV->Hp->R AV}(h0:∀h,E [] h= .ok (.sl []) h)(h1:∀e es h,cp cx (dl 0) fn own [.sl (e:: es)] h=E (e:: es) h)(h2:∀h,cp cx (dl 0) fn own [.hn] h= .ok (.sl []) h)(h3:∀l off h,cp cx (dl 0) fn own [.hs l off 0 1 false] h= .ok (.sl []) h){es:List AV}{h:Hp}{S:aD}{β:List cF}{w:World}{vs:List Value}(hr:E es h≠.fail)(hg:wi S β h w)(hw:Wf S w)(hh:dG S β w h)(hv:bF S β [.sl es] vs):Calls P f vs.toArray w (fg own S β h w (E es h))/\fn.body.isSome=true:=by
 cases es with
 |cons e es=>
  grind [fJ]
 | nil=>
  rw[h0];simp only[bF]at hv;obtain⟨v,_,rfl,hv,rfl⟩:=hv;have hv0:=hv;simp only[VR]at hv;obtain⟨a,cap,rfl,hc,hn,hq⟩:=hv;cases a with
  |none=>
   have hcap:=hn rfl;subst hcap;have hv2:bF S β [.hn] [.slice none ([]:List AV).length 0]:=by simp[bF,VR]
   grind [fJ]
  | some q=>
   obtain⟨hs,_⟩:=hq q rfl;have hX:dG S [(q.block,q.off+cap)] w [[]]:=⟨rfl,fun _=>.no,fun l cs hl hne=>by
    grind⟩
   have hE:∀b,¬dk [(q.block,q.off+cap)] [[]] b:=by
    rintro b ⟨l,cs,n,k1,k2,_⟩;cases l with
    |zero=>grind
    |succ l=>simp at k1
   have hv2:bF S [(q.block,q.off+cap)] [.hs 0 q.off 0 1 false] [.slice (some q) ([]:List AV).length cap]:=by
    simp only[bF,VR];rcases Yw cap with h0|h0
    ·grind
    ·have hq':q=⟨q.block,q.off,none⟩:=by
      have:=hs h0
      cases q;simp_all
     exact⟨_,_,rfl,.inl ⟨(q.block,q.off+cap),cap,rfl,Z7,Z7,X2 _,Z8⟩,rfl⟩
   have:=fJ (own:=own) hT hC hI 0 hf hnt (args:=[.hs 0 q.off 0 1 false]) (h:=[[]]) (by rw[h3];simp) ⟨hg.1,fun b _=>hE b,hg.2.2⟩ hw hX hv2
   rw[h3]at this;refine⟨this.1.mono fun en w' hp=>?_,this.2⟩;obtain⟨S',β',v,k1,k2,k3,k4⟩:=hp;obtain⟨S2,j1,j2,j3⟩:=yt hw hh hE k3;exact⟨S2,β,v,k1,j2 (.sl []) v k2,j1,fun sz hsz=>j3 sz v (k4 sz hsz)⟩
def cz(T:TT)(t:TypeId):(FuncId->List AV->M AV)->List AV->M AV:=fun _ args=>match args with
 |[x]=>gf T t false .he x
 |_=>gX
section
omit [Dr]
theorem mz(T:TT)(t:TypeId)(call:FuncId->List AV->M AV)(calls:Nat->FuncId->List AV->M AV):cM (cz T t call) fun n=>cz T t (calls n):=cM.const _
theorem zq(T:TT)(t:TypeId)(z:Bool)(y:AV):ze (gf T t z .he y):=by
 intro h v h' hh;unfold gf at hh;split at hh
 ·unfold appH at hh;split at hh
  ·cases hh
  ·split at hh
   ·split at hh
    ·cases hh
    ·split at hh
     ·cases hh
     ·rename_i bs _;revert hh;generalize (_&&_:Bool)=b1;cases b1 with
      |false=>grind
      | true=>
       simp only[XL];cases bs.isEmpty with
       |true=>simp_all
       |false=>
        grind
   ·cases hh
 ·cases hh
theorem E9(T:TT)(t:TypeId)(call:FuncId->List AV->M AV)(args:List AV):ze (cz T t call args):=by
 unfold cz;split
 ·exact zq _ _ _ _
 ·intro h v h' hh;cases hh
end
theorem kg{P:Program}{cx:Cx}(hT:TOK P cx.T)(hC:dF P cx.own cx.call)(hI:IsoCall cx){f:FuncId}{fn:Func}(hf:P.funcs[f]? = some fn)(hnt:cx.nt=fn.ntmps){t:TypeId}(h0:∀h,appH cx.T t false .he (.sl []) h= .ok .he h)(h1:∀e es h,cp cx (dl 0) fn none [.sl (e:: es)] h=gf cx.T t false .he (.sl (e:: es)) h)(h2:∀h,cp cx (dl 0) fn none [.hn] h= .ok .hn h)(h3:∀l off len sz ag h,cp cx (dl 0) fn none [.hs l off len sz ag] h=gf cx.T t false .he (.hs l off len sz ag) h){x:AV}{h:Hp}{S:aD}{β:List cF}{w:World}{vs:List Value}(hr:gf cx.T t false .he x h≠.fail)(hg:wi S β h w)(hw:Wf S w)(hh:dG S β w h)(hv:bF S β [x] vs):Calls P f vs.toArray w (fg none S β h w (gf cx.T t false .he x h)):=by
 -- an empty slice, nil or not
 have nil:∀a cap,vs=[.slice a 0 cap]->(a=none->cap=0)->(∀q,a=some q->0<cap->q.spot=none)->Calls P f vs.toArray w (fg none S β h w (.ok .he h)):=by
  rintro a cap rfl hn hs;cases a with
  |none=>
   have hcap:=hn rfl;subst hcap;have hv2:bF S β [.hn] [.slice none 0 0]:=by simp[bF,VR]
   have:=(fJ (own:=none) hT hC hI 0 hf hnt (args:=[.hn]) (h:=h) (by rw[h2];simp) hg hw hh hv2).1
   rw[h2]at this;refine this.mono fun en w' hp=>?_;obtain⟨S',β',v,k1,k2,k3,k4⟩:=hp;simp only[VR]at k2;exact⟨S',β',v,k1,by simp only[VR];grind,k3,k4⟩
  | some q=>
   have hX:dG S [(q.block,q.off+cap)] w [[]]:=⟨rfl,fun _=>.no,fun l cs hl hne=>by
    grind⟩
   have hE:∀b,¬dk [(q.block,q.off+cap)] [[]] b:=by
    rintro b ⟨l,cs,n,k1,k2,_⟩;cases l with
    |zero=>grind
    |succ l=>simp at k1
   have hv2:bF S [(q.block,q.off+cap)] [.hs 0 q.off 0 1 false] [.slice (some q) 0 cap]:=by
    simp only[bF,VR];rcases Yw cap with h0|h0
    ·grind
    ·have hq':q=⟨q.block,q.off,none⟩:=by
      have:=hs q rfl h0
      cases q;simp_all
     exact⟨_,_,rfl,.inl ⟨(q.block,q.off+cap),cap,rfl,Z7,by rw[<- hq'],X2 _,Z8⟩,rfl⟩
   have e3:cp cx (dl 0) fn none [.hs 0 q.off 0 1 false] [[]]= .ok .he [[]]:=by rw[h3];exact h0 _
   have:=(fJ (own:=none) hT hC hI 0 hf hnt (args:=[.hs 0 q.off 0 1 false]) (h:=[[]]) (by rw[e3];simp) ⟨hg.1,fun b _=>hE b,hg.2.2⟩ hw hX hv2).1
   rw[e3]at this;refine this.mono fun en w' hp=>?_;obtain⟨S',β',v,k1,k2,k3,k4⟩:=hp;obtain⟨S2,j1,j2,j3⟩:=yt hw hh hE k3;simp only[VR]at k2;exact⟨S2,β,v,k1,by simp only[VR];exact k2,j1,fun sz hsz=>by cases hsz⟩
 have hv0:=hv;simp only[bF]at hv;obtain⟨v,_,rfl,hv,rfl⟩:=hv;cases x with
 | sl es=>
  cases es with
  |cons e es=>
   grind [fJ]
  |nil=>
   simp only[VR]at hv;obtain⟨a,cap,rfl,_,hn,hq⟩:=hv;rw[show gf cx.T t false .he (.sl []) h= .ok .he h from h0 h]
   grind
 |hs l off len sz ag=>
  grind [fJ]
 |he=>
  simp only[VR]at hv;obtain⟨a,rfl⟩:=hv;rw[show gf cx.T t false .he .he h= .ok .he h from h0 h]
  grind
 |hn=>
  simp only[VR]at hv;subst hv;rw[show gf cx.T t false .he .hn h= .ok .he h from h0 h]
  grind
 |_=>exact absurd rfl hr
end Go.Av
namespace Go.Av
variable [Dr]
open Go.RowKit
section
variable {S:aD} {β:List cF} {h:Hp} {w w':World}
omit [Dr]in
theorem dG.below(hh:dG S β w h){S':aD}(hb:∀b,b<w.heap.size->w'.heap[b]? = w.heap[b]? /\∀o,S' b o=S b o)(hle:S.le S'):dG S' β w' h:=by
 obtain⟨hlen,ω,hr⟩:=hh;exact⟨hlen,ω,hr.rows hle (io.refl β) hlen fun l cs hl _=>.inl ⟨hl,fun b hlt ho=>⟨ho,(hb b hlt).1,fun o h=>Z7⟩⟩⟩
theorem uy(hw:Wf S w)(hh:dG S β w h)(hb:Below w.heap.size w w')(hd:Dr.on->w.drawn<=w'.drawn){S':aD}(hS:∀b,b<w.heap.size->∀o,S' b o=S b o)(hnew:∀b o v,w.heap.size<=b->S' b o=some v->w'.cell? ⟨b,o,none⟩=some v):
  Left (dk β h) S β w S' β w' h:=by
 have hle:S.le S':=fun b o v hv=>by rw[hS b (hw.lt hv)];exact hv
 refine⟨hle,io.refl β,fun b o v hv=>?_,⟨hb.size,hb.os,hb.output,hb.tape,hd⟩,fun b hlt _=>⟨hb.block b hlt,hS b hlt⟩,hh.below (fun b hlt=>⟨hb.block b hlt,hS b hlt⟩) hle,fun b hb=>.inl hb⟩;rcases Ya b w.heap.size with hlt|hge
 ·rw[hS b hlt]at hv;rw[cell_of_heap (hb.block b hlt)];exact hw b o v hv
 grind
theorem zK(hw:Wf S w)(hh:dG S β w h)(hb:Below w.heap.size w w')(hd:Dr.on->w.drawn<=w'.drawn){r:AV}{v:Value}(hv:VR S β r v):fg none S β h w (.ok r h) (.returned v) w':=
 ⟨S,β,v,rfl,hv,uy hw hh hb hd (fun _ _ _=>rfl) (fun b o v hge hv=>by have:=hw.lt hv;omega),fun sz hsz=>by cases hsz⟩
theorem Fb(hw:Wf S w)(hh:dG S β w h)(hb:Below w.heap.size w w')(hd:Dr.on->w.drawn<=w'.drawn){n:Nat}{x:Array Value}(hr:Row w' n x)(hn:w.heap.size<=n){r:AV}{v:Value}(hv:VR (S.withRowTo n x.size x) β r v):fg none S β h w (.ok r h) (.returned v) w':=
 ⟨_,β,v,rfl,hv,uy hw hh hb hd (fun b hlt o=>by unfold aD.withRowTo;grind) (fun b o v hge hv=>by
  by_cases hbn:b=n
  ·subst hbn;unfold aD.withRowTo at hv;rw[XK rfl]at hv;split at hv
   ·rw[hr.cell];exact hv
   ·cases hv
  ·unfold aD.withRowTo at hv;rw[XG hbn]at hv
   have:=hw.lt hv;omega),fun sz hsz=>by cases hsz⟩
omit [Dr]in
theorem IU(S:aD)(β:List cF)(n:Nat)(l:List ByteArray)(ls:List (List UInt8))(hl:l.map (·.data.toList)=ls):VR (S.withRowTo n (l.map Value.string).toArray.size (l.map Value.string).toArray) β (.sl (ls.map .str)) (.slice (some ⟨n,0,none⟩) l.length l.length):=by
 subst hl;simp only[VR,YM];refine⟨some ⟨n,0,none⟩,l.length,rfl,XM _,(fun h=>by cases h),fun q hq=>?_⟩;simp only[XF]at hq;subst hq;refine⟨fun _=>rfl,1,.of_get fun i e he=>?_⟩;simp only[ZT,YX,YG,Function.comp]at he;obtain⟨s,hs,rfl⟩:=he;refine⟨.string s,by simp only[VR];grind,rfl,fun j v hj=>?_⟩;have hlt:i<l.length:=by
  rcases Ya i l.length with h|h
  ·exact h
  ·grind
 rw[show (Value.string s).cells.toList=[Value.string s]from rfl]at hj
 grind [aD.withRowTo]
end
end Go.Av
namespace Go.Av
variable [Dr]
def lN:(FuncId->List AV->M AV)->List AV->M AV:=fun _ args=>match args with
 |[.str s,.str t]=>bS (bif decide (s.length<4294967281)then some (.bool (Lib.contains s t))else none)
 |_=>gX
def sS:(FuncId->List AV->M AV)->List AV->M AV:=fun _ args=>match args with
 |[.str s]=>bS (bif decide (s.length<4294967281)&&s.all (fun b=>decide (b.toNat<128))then some (.sl ((Lib.fields s).map .str))else none)
 |_=>gX
def HI{α:Type}(p:α->Bool):List α->Option α
 |[]=>none
 |z:: r=>match HI p r with
  |some y=>some y
  |none=>bif p z then some z else none
end Go.Av
namespace Go.Av.Ap
def OP(l:List Ty):AV:=.sl (l.map Ty.av)
structure Sig where
 name:ba
 params:List Ty
 result:Ty
 effects:Int
 deriving Inhabited
structure Face where
 module:ba
 funcs:List Sig
 deriving Inhabited
structure Vsn where
 major:Int
 minor:Int
 patch:Int
 deriving Inhabited,DecidableEq
def Sig.cells(s:Sig):List AV:=[.str s.name,OP s.params,.int .i64 s.result.kind,ca s.result.fields,.int .i64 s.effects]
def Sig.av(s:Sig):AV:=.agg s.cells
def sigs(l:List Sig):AV:=.sl (l.map Sig.av)
def Face.cells(f:Face):List AV:=[.str f.module,sigs f.funcs]
def Face.av(f:Face):AV:=.agg f.cells
def Hc(l:List Face):AV:=.sl (l.map Face.av)
def Vsn.av(v:Vsn):AV:=.agg [.int .i64 v.major,.int .i64 v.minor,.int .i64 v.patch]
@[simp] theorem LC(s:Sig):aa s.av=[.str s.name,OP s.params,.int .i64 s.result.kind,ca s.result.fields,.int .i64 s.effects]:=rfl
@[simp] theorem KZ(f:Face):aa f.av=[.str f.module,sigs f.funcs]:=rfl
@[simp] theorem LD(v:Vsn):aa v.av=[.int .i64 v.major,.int .i64 v.minor,.int .i64 v.patch]:=rfl
@[simp] theorem Rw(s:Sig):AV.agg [.str s.name,OP s.params,.int .i64 s.result.kind,ca s.result.fields,.int .i64 s.effects]=s.av:=rfl
@[simp] theorem OT(f:Face):AV.agg [.str f.module,sigs f.funcs]=f.av:=rfl
@[simp] theorem Rx(v:Vsn):AV.agg [.int .i64 v.major,.int .i64 v.minor,.int .i64 v.patch]=v.av:=rfl
@[simp] theorem El(t:Ty):bY 2 t.av=true:=by simp[bY,ay,ca]
@[simp] theorem Sx(l:List Ty):db 2 (l.map Ty.av)=true:=eU El l
@[simp] theorem Ta(s:Sig):dC s.av=some 5:=rfl
@[simp] theorem Ph(s:Face):dC s.av=some 2:=rfl
@[simp] theorem Tc(s:Vsn):dC s.av=some 3:=rfl
@[simp] theorem HX(s:Sig):bY 5 s.av=true:=by simp[bY,ay,ca,OP]
@[simp] theorem FQ(s:Face):bY 2 s.av=true:=by simp[bY,ay,sigs]
@[simp] theorem Sv(s:Vsn):bY 3 s.av=true:=rfl
@[simp] theorem O9(l:List Sig):db 5 (l.map Sig.av)=true:=eU HX l
@[simp] theorem Oo(l:List Face):db 2 (l.map Face.av)=true:=eU FQ l
@[simp] theorem Nv(g:Nat->Nat->Nat->Nat->Bool->AV)(l:List Ty):cl g (OP l)=OP l:=by grind [OP,cl,gE,DG]
@[simp] theorem GM(g:Nat->Nat->Nat->Nat->Bool->AV)(s:Sig):cl g s.av=s.av:=by unfold Sig.av Sig.cells;simp only[cl,fk,Nv,xX]
@[simp] theorem JI(g:Nat->Nat->Nat->Nat->Bool->AV)(l:List Sig):cl g (sigs l)=sigs l:=by grind [sigs,cl,gE,GM]
@[simp] theorem DF(g:Nat->Nat->Nat->Nat->Bool->AV)(s:Face):cl g s.av=s.av:=by grind [Face.av,Face.cells,cl,fk,JI]
@[simp] theorem Q7(g:Nat->Nat->Nat->Nat->Bool->AV)(l:List Face):cl g (Hc l)=Hc l:=by grind [Hc,cl,gE,DF]
@[simp] theorem UC(g:Nat->Nat->Nat->Nat->Bool->AV)(s:Vsn):cl g s.av=s.av:=by unfold Vsn.av;simp only[cl,fk]
@[simp] theorem Tr(v:Ty):bj (ao v.av)=ao v.av:=dB fun g=>DG g v
@[simp] theorem RN(v:Sig):bj (ao v.av)=ao v.av:=dB fun g=>GM g v
@[simp] theorem OY(v:Face):bj (ao v.av)=ao v.av:=dB fun g=>DF g v
end Go.Av.Ap
namespace Go.Av
open Go
def jG:R AV->R AV:=fun r=>match r with
 |.ok _ h'=>.ok (.tup [.int .i64 0,.int .i64 0]) h'
 |_=>.fail
def qn:(FuncId->List AV->M AV)->List AV->M AV:=fun call args=>match args with
 |[_,f]=>fun h=>jG (cV call f [] h)
 |_=>gX
def Ir(call:FuncId->List AV->M AV)(calls:Nat->FuncId->List AV->M AV)(hc:∀f,cM (call f) fun n=>calls n f):cM (qn call) fun n=>qn (calls n):=by
 have hv:∀f,d9 (cV call f []) fun n=>cV (calls n) f []:=by
  intro f;unfold cV;split
  ·exact hc _ _
  ·exact gp _
 intro args
 match args with
 |[]=>exact gp _
 |[_]=>exact gp _
 |[_,f]=>exact A0 jG rfl (hv f)
 |_:: _:: _:: _=>exact gp _
end Go.Av
namespace Go.Av
variable [Dr]
open Go.RowKit Go.WideShapes Go.ChangeShapes
theorem Left.below{S S':aD}{β β':List cF}{w w':World}{h':Hp}(L:Left (dk [] []) S β w S' β' w' h'):Below w.heap.size w w':=
 ⟨L.gro.os,L.gro.tape,L.gro.out,L.gro.size,fun k hk=>(L.keep k hk (by rintro⟨l,_,_,h1,_⟩;simp at h1)).1⟩
def oB(W:World):aD:=fun b o=>W.cell? ⟨b,o,none⟩
omit [Dr]in
theorem Jm(W:World):Wf (oB W) W:=fun _ _ _ h=>h
omit [Dr]in
theorem Fx{W:World}(h:GOKw W):wi (oB W) [] [] W:=⟨h,fun b _ ho=>by obtain⟨l,_,_,h1,_⟩:=ho;simp at h1,KQ h⟩
theorem FG{P:Program}{p:Pg}(G:GoodPg P p)(hO:fR p){f:FuncId}{args:List AV}{vs:List Value}{W:World}(hg:GOKw W)(hv:bF (oB W) [] args vs)(ht:af p f args []= .ok (.bool true) []):Calls P f vs.toArray W fun e W'=>e= .returned (.bool true)/\Below W.heap.size W W':=by
 have h:=(zE G hO f args [] (oB W) [] W vs (by rw[ht];simp) (Fx hg) (Jm W) ⟨rfl,fun _=>.no,fun l cs hl=>by simp at hl⟩ hv).1;rw[ht]at h;refine h.mono fun e W' hp=>?_;obtain⟨S',β',v,rfl,hv,L,_⟩:=hp;simp only[VR]at hv;subst hv;exact⟨rfl,L.below⟩
section
variable {H:Type} {enc:TypeId×Value->H} {P:Program}
omit [Dr]in
theorem vZ{f:Func}{s:ChangeSpec}{apart fresh handsOn again:Bool}{W W':World}{args:Array Value}{v:Value}{ds gs:List (DataW H)}{before pa pv:List MemPlace}(hW:DataW.Whole enc P f.params.toList s.vars apart W args.toList ds gs before)(hres:∀(b:Nat)(sp:Nat->Bool)(hd:Bool),DataW.TrodAll enc P W' b sp hd f.resultTypes.toList (v.resultList f.resultTypes.size) (s.fn H (ds++gs)).results [])(hargs:∀sp:Nat->Bool,(∀p∈before,sp p.block=true)->DataW.TrodAll enc P W' 0 sp true f.params.toList args.toList (s.fn H (ds++gs)).args pa)(hvars:∀sp:Nat->Bool,(∀p∈before,sp p.block=true)->DataW.TrodVars enc P W' sp s.vars (s.fn H (ds++gs)).vars pv)(hps:before=pa++pv)(hb:Below W.heap.size W W')(hok:∀(j:Nat)(t:TypeId)(r:Value),f.resultTypes[j]? = some t->(v.resultList f.resultTypes.size)[j]? = some r->Value.okWide P W' .any 0 t r):
  s.post enc P f apart fresh handsOn again W args v W':=by
 have hlt:∀p∈before,p.block<W.heap.size:=fun p hp=>hW.lt p hp;have hold:∀p∈before,(fun b=>decide (b<W.heap.size)) p.block=true:=fun p hp=>Z7
 refine⟨ds,gs,before,[],pa,pv,hW,hres _ _ _,hargs _ hold,hvars _ hold,World.keptBut_mono (fun p hp=>⟨hp,?_⟩) (hb.frame (· ∈before)),fun _=>?_⟩
 ·grind
 ·obtain⟨_,_,_,_,_,hz,hn⟩:=hW;refine⟨hok,_,_,([]++pa)++pv,⟨[]++pa,pv,trodAll_append (hargs _ (fun _ _=>rfl)) (hres _ _ _),hvars _ (fun _ _=>rfl),rfl,?_,?_⟩,?_⟩
  ·intro b off hp;have hin:MemPlace.cell b off∈before:=by rw[hps];simpa using hp
   rw[hb.frozen (hlt _ hin)];exact hz b off hin
  all_goals grind
end
end Go.Av
namespace Go.Av
open Go.RowKit
section
variable {H:Type} {enc:TypeId×Value->H} {P:Program} {w w':World}
theorem oR{base:Nat}{spare:Nat->Bool}{held:Bool}:∀ {ts:List TypeId} {vs:List Value} {ds:List (DataW H)} {ps:List MemPlace},DataW.TrodAll enc P w base spare held ts vs ds ps->(∀p∈ps,w.sameAt w' p)->DataW.TrodAll enc P w' base spare held ts vs ds ps
 |[],[],[],_,h,_=>h
 |_:: _,_:: _,_:: _,_,⟨p,q,⟨n,h1⟩,h2,e⟩,hs=>⟨p,q,⟨n,DataW.trod_carry n _ _ _ h1 (fun x hx=>hs x Z7)⟩,oR h2 (fun x hx=>hs x Z7),e⟩
theorem yR(hb:Below w.heap.size w w'){p:MemPlace}(hp:p.block<w.heap.size):w.sameAt w' p:=by
 cases p with
 |cell b off=>
  have:=hb.block b hp
  show w'.cell? ⟨b,off,none⟩=w.cell? ⟨b,off,none⟩;simp only[World.cell?,this]
 |map b=>exact hb.block b hp
theorem BM{T:TypeId->Prop}(K:Kids P T)(hz:∀t e,T t->P.underlying t=some (.slice e)->0<P.cellsOf e){ts:List TypeId}{vs:List Value}{ds:List (DataW H)}{ps:List MemPlace}(hT:∀t∈ts,T t)(h:DataW.TrodAll enc P w 0 (fun _=>true) true ts vs ds ps)(hlt:∀p∈ps,p.block<w.heap.size)(hb:Below w.heap.size w w')(sp:Nat->Bool)(hsp:∀p∈ps,sp p.block=true):DataW.TrodAll enc P w' 0 sp true ts vs ds ps:=
 (oR h fun p hp=>yR hb (hlt p hp)).respare K hz hT hsp
end
theorem Ec{α:Type}(Q:Nat->α->Prop):∀n,(∀i,i<n->∃x,Q i x)->∃l:List α,l.length=n/\∀i x,l[i]? = some x->Q i x
 |0,_=>⟨[],rfl,fun i x h=>by simp at h⟩
 |n+1,h=>by
  obtain⟨l,h1,h2⟩:=Ec Q n fun i hi=>h i Z5;obtain⟨y,hy⟩:=h n Z5;refine⟨l++[y],by simp[h1],fun i x hx=>?_⟩
  grind
end Go.Av
namespace Go.Av
open Go.RowKit Go.WideShapes Go.ChangeShapes
section
variable {H:Type} (enc:TypeId×Value->H) (P:Program) (W:World)
def Rd{α:Type}(N:Nat)(t:TypeId)(cells:α->List AV)(Ok:α->Prop):Prop:=∀(base:Nat)(held:Bool)(n:Nat),n<N->∀(cs:List Value)(x:DataW H×List MemPlace),DataW.trod enc P W base (fun _=>true) held n t cs=some x->(∀k∈x.1.weights P t,k<=reachBytes)->∃a:α,bF (oB W) [] (cells a) cs/\Ok a
def Jk{α:Type}(N:Nat)(tot:Nat)(o:Nat)(fs:List Field)(cells:α->List AV)(Ok:α->Prop):Prop:=∀(base:Nat)(held:Bool)(n:Nat),n<N->∀(cs:List Value)(xs:List (DataW H×List MemPlace)),cs.length=tot->
 xs.length=fs.length->(∀(i:Nat)(f:Field),fs[i]? = some f->DataW.trod enc P W base (fun _=>true) held n f.type ((cs.drop f.offset).take (P.cellsOf f.type))=xs[i]?)->(∀k∈DataW.weightsEach P (fs.map (·.type)) (xs.map (·.1)),k<=reachBytes)->∃a:α,bF (oB W) [] (cells a) (cs.drop o)/\Ok a
variable {enc P W} {α β:Type} {N:Nat} {t:TypeId}
theorem Rd.zero{cells:α->List AV}{Ok:α->Prop}:Rd enc P W 0 t cells Ok:=fun _ _ n hn=>absurd hn Z5
theorem Rd.le{cells:α->List AV}{Ok:α->Prop}(h:Rd enc P W N t cells Ok){M:Nat}(hm:M<=N):Rd enc P W M t cells Ok:=fun b hd n hn=>h b hd n Z5
theorem Rd.map{cells:α->List AV}{Ok:α->Prop}(h:Rd enc P W N t cells Ok)(g:α->β){cells':β->List AV}{Ok':β->Prop}(hc:∀a,cells' (g a)=cells a)(ho:∀a,Ok a->Ok' (g a)):Rd enc P W N t cells' Ok':=by
 intro b hd n hn cs x hx hw;obtain⟨a,h1,h2⟩:=h b hd n hn cs x hx hw
 grind
theorem yK(ht:P.underlying t=some .bool):Rd enc P W N t (fun b:Bool=>[.bool b]) (fun _=>True):=by
 intro b hd n hn cs x hx hw;obtain⟨b,rfl,_⟩:=DataW.trod_bool ht hx;simp_all[bF,VR]
theorem jc{k:IntKind}(ht:P.underlying t=some (.int k)):Rd enc P W N t (fun n:Int=>[.int k n]) (fun n=>(Lit.int k n).wf=true):=by
 intro b hd n hn cs x hx hw;obtain⟨b,rfl,_,hwf⟩:=DataW.trod_int ht hx;exact⟨b,by simp[bF,VR],hwf⟩
theorem kQ(ht:P.underlying t=some .string):Rd enc P W N t (fun s:List UInt8=>[.str s]) (fun s=>s.length<=reachBytes):=by
 intro b hd n hn cs x hx hw;obtain⟨s,rfl,rfl,_⟩:=DataW.trod_string ht hx;simp_all[bF,VR,DataW.weights]
def Lw(cells:α->List AV)(ev:α->AV)(sz:Nat):Prop:=∀(a:α)(S:aD)(β:List cF)(vs:List Value),bF S β (cells a) vs->vs.length=sz->∃v,VR S β (ev a) v/\v.cells.toList=vs
theorem gF{cells:α->List AV}{ev:α->AV}{sz:Nat}(he:∀a,ev a= .agg (cells a)):Lw cells ev sz:=fun a S β vs h hl=>⟨.agg vs.toArray,by rw[he];simp only[VR];grind,by simp[Value.cells]⟩
theorem zQ{ev:α->AV}(ho:∀a,ay (ev a)=true):Lw (fun a=>[ev a]) ev 1:=fun a S β vs h hl=>by
 simp only[bF]at h;obtain⟨v,_,rfl,h,rfl⟩:=h
 grind [ky]
theorem nU{e:TypeId}:∀ {l:List (DataW H)} {d:DataW H},d∈l->∀k∈d.weights P e,k∈DataW.weightsAll P e l
 |x:: l,d,hd,k,hk=>by
  simp only[DataW.weightsAll,Yl];rcases Yn.1 hd with rfl|hd
  ·exact .inl hk
  ·exact .inr (nU hd k hk)
theorem gz{e:TypeId}{cells:α->List AV}{Ok:α->Prop}(h:Rd enc P W N e cells Ok)(ht:P.underlying t=some (.slice e)){sz by_:Nat}(hsz:P.cellsOf e=sz)(h0:0<sz)(hby:P.bytesOf e=by_){ev:α->AV}(hev:Lw cells ev sz):
  Rd enc P W N t (fun l:List α=>[.sl (l.map ev)]) (fun l=>l.length*by_<=reachBytes/\∀a∈l,Ok a):=by
 intro base hd n hn cs x hx hw;rcases DataW.trod_slice ht hx with⟨rfl,rfl⟩|⟨a,len,cap,elems,rest,m,rfl,rfl,rfl,hb,hle,hm,hlen,hel,hsp,_⟩
 ·exact⟨[],by simp only[bF,ZU,VR];grind,Z8,fun a ha=>by cases ha⟩
 obtain⟨hrl,hre⟩:=hsp rfl;rw[hsz]at hel hre;simp only[DataW.weights,ht,Yn,Yl,hby]at hw;have hspot:0<cap->a.spot=none:=by
  intro hc;have:∃y,(W.cells? base (a.add 0) sz).bind (DataW.trod enc P W base (fun _=>true) hd m e)=some y:=by
   by_cases h1:0<len
   ·grind
   ·have:=hre 0 Z5
    grind
  obtain⟨y,hy⟩:=this;obtain⟨cs,hcs,_⟩:=Z1.1 hy;obtain⟨_,hl,hc⟩:=World.cells?_some hcs;have h2:=hc 0 h0;rw[XW Z5]at h2;have h3:=World.cell?_spot h2;have e:(a.add 0).add 0=a:=by unfold Addr.add;simp
  rwa [e]at h3
 have hx:∀i,i<len->∃y:α,(∃v,VR (oB W) [] (ev y) v/\v.cells.size=sz/\gD (oB W) a.block (a.off+i*sz) v.cells.toList)/\Ok y:=by
  intro i hi;have h1:=hel i hi;rw[XW Z5]at h1;obtain⟨cs,hcs,htr⟩:=Z1.1 h1;obtain⟨y,hy,hok⟩:=h base hd m Z5 cs _ htr (fun k hk=>hw k (.inr (.inl (nU (Y5.2 ⟨_,XU _,rfl⟩) k hk))));obtain⟨_,hl,hc⟩:=World.cells?_some hcs;obtain⟨v,hv,hvc⟩:=hev y _ _ cs hy hl;refine⟨y,⟨v,hv,Z7,fun j u hj=>?_⟩,hok⟩;rw[hvc]at hj;have hjl:j<sz:=by
   rcases Ya j cs.length with h|h
   ·omega
   ·grind
  have h2:=hc j hjl;rw[hj]at h2;unfold oB;have hs:=hspot Z5;have e:(a.add (i*sz)).add j=⟨a.block,a.off+i*sz+j,none⟩:=by
   obtain⟨b,o,s⟩:=a;simp only at hs;subst hs;rw[add_plain,add_plain]
  rw[<- e];exact h2
 obtain⟨l,hl1,hl2⟩:=Ec (fun i y=>(∃v,VR (oB W) [] (ev y) v/\v.cells.size=sz/\gD (oB W) a.block (a.off+i*sz) v.cells.toList)/\Ok y) len hx;refine⟨l,?_,?_,fun y hy=>?_⟩
 ·simp only[bF,VR,YM];refine⟨_,_,rfl,⟨some a,cap,by rw[hl1],Z5,(fun e=>by cases e),fun q hq=>?_⟩,rfl⟩;cases hq;refine⟨hspot,sz,.of_get fun i e he=>?_⟩
  grind
 ·have:=hw _ (.inl rfl)
  grind
 ·obtain⟨i,hi,e⟩:=Y1 hy;exact (hl2 i y Z7).2
theorem fC{tot:Nat}:Jk enc P W N tot tot [] (fun _:Unit=>[]) (fun _=>True):=fun base hd n hn cs xs hl _ _ _=>⟨(),by simp[bF,<- hl],trivial⟩
theorem aH{tot o k:Nat}{f:Field}{fs:List Field}{c1:α->List AV}{Ok1:α->Prop}{c2:β->List AV}{Ok2:β->Prop}(h1:Rd enc P W N f.type c1 Ok1)(ho:f.offset=o)(hk:P.cellsOf f.type=k)(h2:Jk enc P W N tot (o+k) fs c2 Ok2):
  Jk enc P W N tot o (f:: fs) (fun x:α×β=>c1 x.1++c2 x.2) (fun x=>Ok1 x.1/\Ok2 x.2):=by
 intro base hd n hn cs xs hl hx hf hw
 match xs,hx with
 |x:: xs,hx=>
  have hf0:=hf 0 f rfl;rw[ho,hk]at hf0;simp only[YA,DataW.weightsEach,Yl]at hw;obtain⟨a,ha,oa⟩:=h1 base hd n hn _ x hf0 fun k hk=>hw k (.inl hk);obtain⟨b,hb,ob⟩:=h2 base hd n hn cs xs hl (by simpa using hx) (fun i g hg=>by simpa using hf (i+1) g (by simpa using hg)) fun k hk=>hw k (.inr hk);refine⟨(a,b),?_,oa,ob⟩
  have:=ha.append hb
  grind [List.drop_drop,List.take_append_drop]
theorem ee{fs:Array Field}{tot:Nat}{cells:α->List AV}{Ok:α->Prop}(ht:P.underlying t=some (.struct fs))(hc:P.cellsOf t=tot)(h:Jk enc P W N tot 0 fs.toList cells Ok):Rd enc P W (N+1) t cells Ok:=by
 intro base hd n hn cs x hx hw;obtain⟨xs,m,rfl,rfl,hl,hxs,hf⟩:=DataW.trod_struct ht hx;simp only[DataW.weights,ht]at hw;obtain⟨a,h1,h2⟩:=h base hd m Z5 cs xs (by rw[hl,hc]) (by simpa using hxs) (fun i f hi=>hf i f (by simpa using hi)) hw
 grind
theorem Ij{cells:α->List AV}{Ok:α->Prop}(h:∀N,Rd enc P W N t cells Ok){base:Nat}{held:Bool}{v:Value}{d:DataW H}{p:List MemPlace}(hd:DataW.Trod enc P W base (fun _=>true) held t v d p)(hw:∀k∈d.weights P t,k<=reachBytes):
  ∃a:α,bF (oB W) [] (cells a) v.cells.toList/\Ok a:=by
 obtain⟨n,hn⟩:=hd;exact h (n+1) base held n Z5 _ _ hn hw
theorem Ky{f:α->AV}{Ok:α->Prop}(h:∀N,Rd enc P W N t (fun a=>[f a]) Ok){base:Nat}{held:Bool}{v:Value}{d:DataW H}{p:List MemPlace}(hv:v.cells.toList=[v])(hd:DataW.Trod enc P W base (fun _=>true) held t v d p)(hw:∀k∈d.weights P t,k<=reachBytes):
  ∃a:α,VR (oB W) [] (f a) v/\Ok a:=by
 obtain⟨a,h1,h2⟩:=Ij h hd hw;rw[hv]at h1;simp only[bF]at h1
 grind
theorem Jr{k:IntKind}{r:Reach}{b0:Nat}{f:α->AV}{Ok:α->Prop}(h:∀N,Rd enc P W N t (fun a=>[f a]) Ok)(ht:P.underlying t=some (.int k)){base:Nat}{held:Bool}{v:Value}{d:DataW H}{p:List MemPlace}(hok:Value.okWide P W r b0 t v)(hd:DataW.Trod enc P W base (fun _=>true) held t v d p)(hw:∀k∈d.weights P t,k<=reachBytes):∃a:α,VR (oB W) [] (f a) v/\Ok a:=by
 obtain⟨a,rfl⟩:=okWide_int ht hok;exact Ky h rfl hd hw
theorem BL{fs:Array Field}{r:Reach}{b0:Nat}{f:α->AV}{Ok:α->Prop}{cells:α->List AV}(h:∀N,Rd enc P W N t cells Ok)(hf:∀a,f a= .agg (cells a))(ht:P.underlying t=some (.struct fs)){base:Nat}{held:Bool}{v:Value}{d:DataW H}{p:List MemPlace}(hok:Value.okWide P W r b0 t v)(hd:DataW.Trod enc P W base (fun _=>true) held t v d p)(hw:∀k∈d.weights P t,k<=reachBytes):∃a:α,VR (oB W) [] (f a) v/\Ok a:=by
 obtain⟨cs,rfl,_⟩:=okWide_struct ht hok;obtain⟨a,h1,h2⟩:=Ij h hd hw;refine⟨a,?_,h2⟩;rw[hf];simp only[VR];exact⟨cs.toList,Z8,h1⟩
theorem tK{ts:List TypeId}{ds:List (DataW H)}(h:(DataW.weightsEach P ts ds).all (· <=reachBytes)=true){j:Nat}{u:TypeId}{d:DataW H}(ht:ts[j]? = some u)(hd:ds[j]? = some d):∀k∈d.weights P u,k<=reachBytes:=fun k hk=>by
 have:=XY.1 h _ (DataW.weights_mem_each ht hd k hk)
 grind
end
end Go.Av
namespace Go.Av
variable [Dr]
section
omit [Dr]
theorem dG.grow{S:aD}{β:List cF}{w w':World}{h:Hp}(hh:dG S β w h)(hb:∀b,b<w.heap.size->w'.heap[b]? = w.heap[b]?):dG S β w' h:=by
 obtain⟨hlen,ω,hr⟩:=hh;exact⟨hlen,ω,hr.rows (aD.le_refl S) (io.refl β) hlen fun l cs hl _=>.inl ⟨hl,fun b hb' ho=>⟨ho,hb b hb',fun o h=>h⟩⟩⟩
theorem dG.low{S:aD}{β:List cF}{w:World}{h:Hp}(hh:dG S β w h){b:Nat}(hb:dk β h b):b<w.heap.size:=by
 obtain⟨_,ω,hr⟩:=hh;obtain⟨l,cs,n,h1,h2,h3⟩:=hb;obtain⟨b',x,k1,k2,_⟩:=hr.own h1 h2
 grind
theorem Wf.grow{S:aD}{w w':World}(hw:Wf S w)(hb:∀b,b<w.heap.size->w'.heap[b]? = w.heap[b]?):Wf S w':=
 fun b o v hv=>by rw[cell_of_heap (hb b (hw.lt hv))];exact hw b o v hv
end
theorem qZ{S S':aD}{β β':List cF}{w w2 w' w'':World}{h h':Hp}(hg:Gro w w2)(hold:∀b,b<w.heap.size->w2.heap[b]? = w.heap[b]?)(L:Left (dk β h) S β w2 S' β' w' h')(hg':Gro w' w'')(hsame:∀b,¬(w.heap.size<=b/\b<w2.heap.size)->w''.heap[b]? = w'.heap[b]?)(hw:Wf S w)(hh:dG S β w h):Left (dk β h) S β w S' β' w'' h':=by
 have hs:=hg.size;refine⟨L.le,L.ext,fun b o v hv=>?_,(hg.trans L.gro).trans hg',fun b hb hE=>?_,?_,fun b hb=>?_⟩
 ·by_cases hb:w.heap.size<=b/\b<w2.heap.size
  ·have hE:¬dk β h b:=fun ho=>by have:=hh.low ho;omega
   have:=(L.keep b hb.2 hE).2 o
   rw[this,hw.none hb.1]at hv;cases hv
  ·rw[cell_of_heap (hsame b hb)];exact L.wf b o v hv
 ·have h1:=L.keep b Z5 hE
  grind
 ·obtain⟨hlen,ω,hr⟩:=L.heap;refine⟨hlen,ω,hr.rowsA (aD.le_refl S') (io.refl β') hlen fun l cs hl hne=>.inl ⟨hl,fun b _ ⟨n,h1⟩ h3=>⟨h3,hsame b fun hb=>?_,fun o h=>h⟩⟩⟩;rcases L.owned b ⟨l,cs,_,hl,hne,h1⟩with ho|ho
  ·have:=hh.low ho;omega
  ·omega
 ·rcases L.owned b hb with ho|ho
  all_goals grind
theorem Gro.setCell(w:World)(a:Addr)(v:Value):Gro w (w.setCell a v):=⟨Z8,rfl,rfl,rfl,fun _=>XM _⟩
omit [Dr]in
theorem gK{w:World}{a:Addr}{v:Value}{b:Nat}(h:b≠a.block):(w.setCell a v).heap[b]? = w.heap[b]?:=by
 simp only[World.setCell,Array.getElem?_modify]
 grind
end Go.Av
namespace Go.Av.Ap
open Go Go.Av
def Val.limN:Nat->Val->Prop
 |0,_=>True
 |n+1,v=>v.names.length<=140737488355328/\v.values.length<=140737488355328/\∀x∈v.values,x.limN n
def Val.Lim(v:Val):Prop:=∀n,v.limN n
def Exp.limN:Nat->Exp->Prop
 |0,_=>True
 |n+1,v=>v.names.length<=8796093022208/\v.args.length<=140737488355328/\∀x∈v.args,x.limN n
def Exp.Lim(v:Exp):Prop:=∀n,v.limN n
def Ty.limN:Nat->Ty->Prop
 |0,_=>True
 |n+1,v=>v.fields.length<=140737488355328/\∀x∈v.fields,x.2.limN n
def Ty.Lim(v:Ty):Prop:=∀n,v.limN n
theorem Val.Lim.names{v:Val}(h:v.Lim):v.names.length<=140737488355328:=(h 1).1
def Val.Lim.len{v:Val}(h:v.Lim):v.values.length<=140737488355328:=(h 1).2.1
def Val.Lim.kid{v:Val}(h:v.Lim){x:Val}(hx:x∈v.values):x.Lim:=fun n=>(h (n+1)).2.2 x hx
theorem Exp.Lim.names{v:Exp}(h:v.Lim):v.names.length<=8796093022208:=(h 1).1
def Exp.Lim.len{v:Exp}(h:v.Lim):v.args.length<=140737488355328:=(h 1).2.1
def Exp.Lim.kid{v:Exp}(h:v.Lim){x:Exp}(hx:x∈v.args):x.Lim:=fun n=>(h (n+1)).2.2 x hx
def Ty.Lim.len{v:Ty}(h:v.Lim):v.fields.length<=140737488355328:=(h 1).1
def Ty.Lim.kid{v:Ty}(h:v.Lim){x:fu}(hx:x∈v.fields):x.2.Lim:=fun n=>(h (n+1)).2 x hx
structure Fun.Lim (f:Fun):Prop where
 params:f.params.length<=140737488355328
 pty:∀x∈f.params,x.2.Lim
 result:f.result.Lim
 body:f.body.Lim
structure Mod.Lim (m:Mod):Prop where
 uses:m.uses.length<=140737488355328
 vars:m.vars.length<=140737488355328
 vty:∀x∈m.vars,x.2.Lim
 init:m.init.length<=140737488355328
 ies:∀e∈m.init,e.Lim
 funcs:m.funcs.length<=140737488355328
 fns:∀f∈m.funcs,f.Lim
 old:m.old.length<=140737488355328
 oty:∀x∈m.old,x.2.Lim
 forward:m.forward.length<=140737488355328
 fes:∀e∈m.forward,e.Lim
 back:m.back.length<=140737488355328
 bes:∀e∈m.back,e.Lim
structure Ins where
 op:Int
 a:Int
 s:ba
 m:ba
 names:List ba
 deriving Inhabited
def Ins.cells(i:Ins):List AV:=[.int .i64 i.op,.int .i64 i.a,.str i.s,.str i.m,strs i.names]
def Ins.av(i:Ins):AV:=.agg i.cells
structure Cod where
 func:ba
 params:Int
 locals:Int
 code:List Ins
 deriving Inhabited
def nF(l:List Ins):AV:=.sl (l.map Ins.av)
def Cod.av(c:Cod):AV:=.agg [.str c.func,.int .i64 c.params,.int .i64 c.locals,nF c.code]
def yd(l:List Cod):AV:=.sl (l.map Cod.av)
def cD(op a:Int):Ins:=⟨op,a,[],[],[]⟩
def uw(names:List ba)(s:ba):Nat->Int
 |0=>-1
 |n+1=>if names[n]? = some s then(n:Int)else uw names s n
def D9(names:List ba)(s:ba):Int:=uw names s names.length
def KU(vars:List fu)(s:ba):Int:=bb (fun f=>f.1== s) vars 0
def rB(c:List Ins)(k:Nat)(n:Int):List Ins:=c.set k { c[k]! with a:=n }
def lJ(n:Int):Exp:=.mk 1 n [] [] [] []
abbrev jW:=List Ins×Int
def gJ(i:Ins)(c:jW):jW:=(c.1++[i],c.2)
def rn(vars:List fu)(e:Exp):Ins:=
 if e.op=3 then cD 4 0 else if e.op=4 then cD 5 0 else if e.op=5 then cD 6 0 else if e.op=6 then cD 7 0 else if e.op=7 then cD 8 0 else if e.op=10 then cD 9 0
 else if e.op=13 then⟨12,0,[],[],e.names⟩else if e.op=14 then⟨13,0,e.s,[],[]⟩else if e.op=15 then⟨14,e.args.length,e.s,e.m,[]⟩else if e.op=16 then cD 15 e.n else cD 17 (KU vars e.s)
def iF(em:Exp->jW->jW)(yes no:Exp)(c:jW):jW:=
 let c1:=gJ (cD 11 0) c;let c2:=em yes c1;let c3:=gJ (cD 10 0) c2;let c4:jW:=(rB c3.1 c.1.length c3.1.length,c3.2);let c5:=em no c4
 (rB c5.1 c2.1.length c5.1.length,c5.2)
def bK(vars:List fu):Nat->Exp->List ba->jW->jW
 |0,_,_,c=>c
 | n+1,e,names,c=>
  if e.op=0 then gJ (cD 0 e.n) c
  else if e.op=1 then gJ (cD 1 e.n) c
  else if e.op=2 then gJ (cD 2 (D9 names e.s)) c
  else if e.op=17 then gJ (cD 16 (KU vars e.s)) c
  else if e.op=8 then iF (fun x=>bK vars n x names) e.args[1]! (lJ 0) (bK vars n e.args[0]! names c)
  else if e.op=9 then iF (fun x=>bK vars n x names) (lJ 1) e.args[1]! (bK vars n e.args[0]! names c)
  else if e.op=11 then iF (fun x=>bK vars n x names) e.args[1]! e.args[2]! (bK vars n e.args[0]! names c)
  else if e.op=12 then
   let c1:=gJ (cD 3 names.length) (bK vars n e.args[0]! names c)
   bK vars n e.args[1]! (names++[e.s]) (c1.1,max c1.2 (names.length+1))
  else gJ (rn vars e) (e.args.foldl (fun c x=>bK vars n x names c) c)
def dx(vars:List fu)(f:Fun):Cod:=
 let c:=gJ (cD 18 0) (bK vars 12 f.body (f.params.map (·.1)) ([],f.params.length))
 ⟨f.name,f.params.length,c.2,c.1⟩
def sV(b:UInt8):Bool:=decide (97<=b.toNat)&&decide (b.toNat<=122)
def Cd(b:UInt8):Bool:=decide (48<=b.toNat)&&decide (b.toNat<=57)
def tp(b:UInt8):Bool:=sV b||Cd b
def sH(s:ba):Bool:=!(s== [])&&sV (s.headD 0)&&decide (s.length<=20)&&((s.takeWhile tp).length== s.length)
def om:ba:=[32,97,110,100,32,98,97,99,107,32,98,111,111,108,32,99,108,111,99,107,32,101,108,115,101,32,102,97,108,115,101,32,102,105,108,101,115,32,102,110,32,102,111,114,119,97,114,100,32,103,101,116,32,105,102,32,105,110,32,105,110,116,32,108,101,116,32,109,111,100,117,108,101,32,109,111,118,101,32,110,101,116,32,110,111,116,32,111,114,32,112,117,98,32,115,101,99,114,101,116,115,32,115,101,116,32,116,104,101,110,32,116,114,117,101,32,117,115,101,32,118,97,114,32]
def cw(s:ba):Bool:=sH s&&!(Lib.contains om ([32]++s++[32]))
def Gi{s:ba}(h:sH s=true):s.length<=20:=by
 simp_all[sH]
def eG(p f:ba):Bool:=!(ck f p||f== p)
def oX{α:Type}(Q:α->α->Bool):List α->Bool
 |x:: y:: r=>Q x y&&oX Q (y:: r)
 |_=>true
theorem zw{α:Type}[Inhabited α](Q:α->α->Bool):(l:List α)->(oX Q l=true↔∀k,k+1<l.length->Q l[k]! l[k+1]! = true)
 |[]=>by simp[oX]
 |[x]=>by simp[oX]
 | x:: y:: r=>by
  simp only[oX,XJ,zw Q (y:: r)];constructor
  ·rintro⟨h1,h2⟩ k hk;cases k with
   |zero=>simpa using h1
   |succ k=>grind
  ·intro h;refine⟨by simpa using h 0 Z8,fun k hk=>?_⟩;simpa using h (k+1) (by simpa using hk)
def xV{α:Type}[Inhabited α](P:α->Bool)(Q:α->α->Bool)(l:List α):(List.range' 0 l.length).all (fun k=>P l[k]! && (decide (k=0)||Q l[k-1]! l[k]!))=(l.all P&&oX Q l):=by
 rw[YT,XJ,<- BH P l,zw]
 grind
def gQ:Nat->Ty->Bool
 |0,_=>false
 |d+1,t=>decide (0<=t.kind)&&decide (t.kind<3)&&decide (t.fields.length<=8)&&(t.kind== 2||t.fields.length== 0)&&(t.fields.all (fun f=>cw f.1&&gQ d f.2)&&oX (fun a b=>eG a.1 b.1) t.fields)
theorem A7(d:Nat)(t:Ty):gQ (d+1) t=(decide (0<=t.kind)&&decide (t.kind<3)&&decide (t.fields.length<=8)&&(t.kind== 2||t.fields.length== 0)&&(t.fields.all (fun f=>cw f.1&&gQ d f.2)&&oX (fun a b=>eG a.1 b.1) t.fields)):=rfl
abbrev jS(t:Ty):Bool:=gQ 4 t
mutual
def Ni:Ty->Ty->Bool
 |.mk k fs,a=>a.kind== k&&Dy fs a.fields
def Dy:List (ba×Ty)->List fu->Bool
 |[],_=>true
 |f:: fs,l=>Nj f l&&Dy fs l
def Nj:ba×Ty->List fu->Bool
 |(n,t),l=>match HI (fun z=>z.1== n) l with
  |some z=>Ni t z.2
  |none=>false
end
def mE(a b:Int):Int:=IntKind.i64.wrap (BitVec.ofInt 64 a &&& ~~~ BitVec.ofInt 64 b).toNat
structure Sig.Lim (s:Sig):Prop where
 plen:s.params.length<=140737488355328
 ptys:∀t∈s.params,t.Lim
 result:s.result.Lim
structure Face.Lim (f:Face):Prop where
 len:f.funcs.length<=140737488355328
 sigs:∀s∈f.funcs,s.Lim
@[simp] theorem Ns(x:Sig):ct 5 x.av=ao x.av:=Z9
@[simp] theorem JB(x:Sig):bH 5 [] x.av=ao x.av:=Z9
def iY(e:Exp):Exp×Int:=
 if e.op=0\/e.op=1 then(.mk e.op e.n [] [] [] e.args,0)
 else if e.op=2\/e.op=17 then(.mk e.op 0 e.s [] [] e.args,0)
 else if e.op=18\/e.op=14 then(.mk e.op 0 e.s [] [] e.args,1)
 else if e.op=16 then(.mk e.op e.n [] [] [] e.args,1)
 else if e.op=10 then(.mk e.op 0 [] [] [] e.args,1)
 else if e.op=12 then(.mk e.op 0 e.s [] [] e.args,2)
 else if e.op=11 then(.mk e.op 0 [] [] [] e.args,3)
 else if e.op=13 then(.mk e.op 0 [] [] e.names e.args,e.names.length)
 else if e.op=15 then(.mk e.op 0 e.s e.m [] e.args,-1)
 else(.mk e.op 0 [] [] [] e.args,2)
def jQ(l:List ba):Bool:=(l.all cw&&oX eG l)&&decide (l.length<=8)
def iH(e:Exp):Bool:=
 if e.op=0 then decide (0<=e.n)&&decide (e.n<=1099511627776)
 else if e.op=1 then e.n== 0||e.n== 1
 else if e.op=16 then((e.n== 1||e.n== 2)||e.n== 4)||e.n== 8
 else if e.op=2\/e.op=17\/e.op=18\/e.op=14\/e.op=12 then cw e.s
 else if e.op=15 then cw e.s&&(e.m== []||cw e.m)&&decide (e.args.length<=6)
 else if e.op=13 then jQ e.names
 else true
def im(e:Exp):Bool:=
 decide (0<=e.op)&&decide (e.op<19)&&(decide ((iY e).2<0)||((iY e).2== (e.args.length:Int)))&&((iY e).1.n== e.n)&&((iY e).1.s== e.s)&&((iY e).1.m== e.m)&&(((iY e).1.names.length:Int)== (e.names.length:Int))&&iH e
def cS:Nat->Exp->Bool
 |0,_=>false
 |d+1,e=>im e&&e.args.all (cS d)
theorem fG(d:Nat)(e:Exp):cS (d+1) e=(im e&&e.args.all (cS d)):=rfl
mutual
def Xn:Ty->Ty->Option Ty
 |.mk k fs,b=>if k=b.kind then some (.mk k (Tj fs b.fields))else none
def Tj:List (ba×Ty)->List fu->List fu
 |[],_=>[]
 |f:: fs,l=>(match Xm f l with|some x=>[x]|none=>[])++Tj fs l
def Xm:ba×Ty->List fu->Option fu
 |(n,t),l=>match HI (fun z=>z.1== n) l with
  |some z=>(match Xn t z.2 with|some u=>some (n,u)|none=>none)
  |none=>none
end
def Sw(f:Fun)(rf:List fu->Int->Bool):Bool:=cw f.name&&rf f.params 6&&jS f.result&&cS 12 f.body&&(mE f.effects 15== 0)
def wx(op:Int):Bool:=decide (op=4)||decide (op=5)||decide (op=6)||decide (op=7)||decide (op=8)||decide (op=9)||decide (op=18)||decide (op=19)
def bP(len locals:Int)(i:Ins):Bool:=
 if i.op=0 then i.s== []&&i.m== []&&i.names== []
 else if i.op=1 then(i.a== 0||i.a== 1)&&i.s== []&&i.m== []&&i.names== []
 else if i.op=2\/i.op=3 then(decide (0<=i.a)&&decide (i.a<locals))&&i.s== []&&i.m== []&&i.names== []
 else if i.op=10\/i.op=11 then(decide (0<=i.a)&&decide (i.a<len))&&i.s== []&&i.m== []&&i.names== []
 else if i.op=16\/i.op=17 then(decide (0<=i.a)&&decide (i.a<8))&&i.s== []&&i.m== []&&i.names== []
 else if i.op=15 then(i.a== 1||i.a== 2||i.a== 4||i.a== 8)&&i.s== []&&i.m== []&&i.names== []
 else if i.op=13 then cw i.s&&i.a== 0&&i.m== []&&i.names== []
 else if i.op=14 then(decide (0<=i.a)&&decide (i.a<=6))&&cw i.s&&(i.m== []||cw i.m)&&i.names== []
 else if i.op=12 then jQ i.names&&i.a== 0&&i.s== []&&i.m== []
 else wx i.op&&i.a== 0&&i.s== []&&i.m== []&&i.names== []
def aG(i:Ins):Int×Int:=
 if i.op=0\/i.op=1\/i.op=2\/i.op=16 then(0,1)
 else if i.op=4\/i.op=5\/i.op=6\/i.op=7\/i.op=8 then(2,1)
 else if i.op=9\/i.op=13\/i.op=15\/i.op=17 then(1,1)
 else if i.op=12 then(i.names.length,1)
 else if i.op=14 then(i.a,1)
 else if i.op=10 then(0,0)
 else(1,0)
def gu(i:Ins)(k:Int):List Int:=
 if i.op=18 then[]else if i.op=10 then[i.a]else if i.op=11 then[k+1,i.a]else[k+1]
def gt{len locals:Int}{i:Ins}(h:bP len locals i=true):0<=(aG i).1/\(aG i).1<=8/\0<=(aG i).2/\(aG i).2<=1:=by
 unfold aG;split
 ·simp
 split
 ·simp
 split
 ·simp
 split
 ·rename_i ho;have hn:jQ i.names=true:=by
   simp[bP,ho]at h;exact h.1.1.1
  simp only[jQ,XJ,XI]at hn
  grind
 grind [bP]
def kj(n:Nat)(k:Nat)(nd gv:Int):List Int->List Int->List Int->Option (List Int×List Int)
 |[],hl,td=>some (hl,td)
 |v:: r,hl,td=>
  if v=n then none
  else if hl[v.toNat]! < 0 then kj n k nd gv r (hl.set v.toNat (hl[k]! - nd+gv)) (td++[v])
  else if hl[v.toNat]! ≠hl[k]! - nd+gv then none
  else kj n k nd gv r hl td
def rp(c:List Ins):Nat->List Int->List Int->Option (List Int)
 |0,_,_=>none
 |_+1,hl,[]=>some hl
 | f+1,hl,k:: td=>
  let i:=c[k.toNat]!
  if hl[k.toNat]! < (aG i).1\/(i.op=18/\hl[k.toNat]! ≠1)then none
  else match kj c.length k.toNat (aG i).1 (aG i).2 (gu i k) hl td with
   |none=>none
   |some (hl',td')=>rp c f hl' td'
def pm(c:Cod):Bool:=cw c.func&&decide (0<=c.params)&&decide (c.params<=6)&&decide (c.params<=c.locals)&&decide (c.code≠[])
def dq(c:Cod):Option (List Int):=
 if pm c=true/\c.code.all (bP c.code.length c.locals)=true then rp c.code (2*c.code.length+2) (0:: List.replicate (c.code.length-1) (-1)) [0]else none
def q9(hl:List Int):Nat:=hl.countP fun x=>decide (x<0)
structure HInv (n:Nat) (hl:List Int):Prop where
 len:hl.length=n
 lo:∀j,j<n->-1<=hl[j]!
 hi:∀j,j<n->hl[j]! + q9 hl<=n
def AU{hl:List Int}{v:Nat}(hv:v<hl.length)(h:hl[v]! < 0){x:Int}(hx:0<=x):q9 (hl.set v x)+1=q9 hl:=by
 unfold q9
 grind
def lT{hl:List Int}{v j:Nat}(hv:v<hl.length)(hj:j<hl.length)(x:Int):(hl.set v x)[j]! = if v=j then x else hl[j]!:=by
 grind
def HInv.set{n:Nat}{hl:List Int}(H:HInv n hl){v:Nat}(hv:v<n)(h:hl[v]! < 0){x:Int}(h0:0<=x)(h1:x+q9 hl<=n+1):HInv n (hl.set v x):=by
 have hv':v<hl.length:=by rw[H.len];exact hv
 have hn:=AU hv' h h0;refine⟨by simpa using H.len,fun j hj=>?_,fun j hj=>?_⟩
 ·rw[lT hv' (by rw[H.len];exact hj)];split
  ·omega
  ·exact H.lo j hj
 ·rw[lT hv' (by rw[H.len];exact hj)]
  have:=H.hi j hj
  split<;>omega
theorem qw{n k:Nat}{nd gv:Int}(hk:k<n)(h0:0<=nd)(g0:0<=gv)(g1:gv<=1):∀(nx hl td:List Int){hl' td':List Int},HInv n hl->nd<=hl[k]! ->(∀v∈nx,0<=v/\v<=n)->(∀v∈td,0<=v/\v<n)->kj n k nd gv nx hl td=some (hl',td')->
  HInv n hl'/\td'.length+2*q9 hl'<=td.length+2*q9 hl/\∀v∈td',0<=v/\v<n
 |[],hl,td,hl',td',H,_,_,ht,e=>by
  simp only[kj,XF,YD]at e
  grind
 | v :: nx,hl,td,hl',td',H,hd,hx,ht,e=>by
  have hv:=hx v Z8;simp only[kj]at e;split at e
  ·cases e
  ·rename_i hne;have hvn:v.toNat<n:=Z5
   have hvl:v.toNat<hl.length:=by rw[H.len];exact hvn
   have hkl:k<hl.length:=by rw[H.len];exact hk
   split at e
   ·rename_i hneg;have hkk:=H.hi k hk;have hI:=H.set hvn hneg (x:=hl[k]! - nd+gv) Z5 Z5;have hns:=AU hvl hneg (x:=hl[k]! - nd+gv) Z5;have hkv:¬v.toNat=k:=fun e=>Z7
    have ih:=qw hk h0 g0 g1 nx _ _ hI Z7 (fun x h=>hx x (by simp[h])) (fun x h=>by
     grind) e
    grind
   ·split at e
    ·cases e
    ·exact qw hk h0 g0 g1 nx hl td H hd (fun x h=>hx x (by simp[h])) ht e
end Go.Av.Ap
namespace Go.Av.Ap
def asc:List ba->Bool
 |[]=>true
 |[_]=>true
 |x:: y:: l=>ck x y&&asc (y:: l)
def cQ:Nat->Val->Bool
 |0,_=>false
 |d+1,v=>if(v.kind== 0||v.kind== 1)=true then v.names.length== 0&&v.values.length== 0&&(v.kind== 0||v.n== 0||v.n== 1)
  else v.kind== 2&&v.n== 0&&v.names.length== v.values.length&&decide (v.names.length<=8)&&asc v.names&&v.values.all (cQ d)
def dW(b:Bool):Val:=.mk 1 (if b then 1 else 0) [] []
def cg(n:Int):Val:=.mk 0 n [] []
def dI(p:List Mod)(s:ba):Int:=bb (fun m=>m.name== s) p 0
def mZ(l:List Fun)(s:ba):Int:=bb (fun f=>f.name== s) l 0
def lQ(l:List fu)(s:ba):Int:=bb (fun f=>f.1== s) l 0
structure Ms where
 fuel:Int
 frames:Int
 world:List Int
 deeds:List Deed
 calls:List Call
 state:List (List Val)
inductive Rs (α:Type) where
 |ok (a:α) (m:Ms)
 |er (e:Int) (m:Ms)
def X(α:Type):=Ms->Rs α
def X.ok{α:Type}(a:α):X α:=fun m=>.ok a m
def X.er{α:Type}(e:Int):X α:=fun m=>.er e m
def X.bind{α β:Type}(x:X α)(f:α->X β):X β:=fun m=>match x m with
 |.ok a m'=>f a m'
 |.er e m'=>.er e m'
def X.upd{α:Type}(f:Ms->Ms)(x:X α):X α:=fun m=>x (f m)
def X.get{α:Type}(f:Ms->X α):X α:=fun m=>f m m
def bO(op:Int):Int:=
 if op=0\/op=1\/op=2\/op=17 then 0
 else if op=10\/op=14\/op=16\/op=18 then 1
 else if op=3\/op=4\/op=5\/op=6\/op=7\/op=8\/op=9\/op=12 then 2
 else if op=11 then 3
 else if op=13\/op=15 then -1
 else -2
def lr:List ba->List Val->ba->Option Val
 |n:: ns,v:: vs,s=>match lr ns vs s with
  |some x=>some x
  |none=>if n=s then some v else none
 |_,_,_=>none
def gO:List ba->List Val->ba->Option Val
 |n:: ns,v:: vs,s=>if n=s then some v else gO ns vs s
 |_,_,_=>none
def wr(n:Int):Int:=IntKind.i64.wrap n
def oY(op:Int)(a b:Val):X Val:=
 if op=7 then(if a.kind=b.kind/\a.kind≠2 then .ok (dW (a.n== b.n))else .er 13)
 else if a.kind=0/\b.kind=0 then
  (if op=3 then .ok (cg (wr (a.n+b.n)))else if op=4 then .ok (cg (wr (a.n-b.n)))else if op=5 then .ok (cg (wr (a.n*b.n)))else .ok (dW (decide (a.n<b.n))))
 else .er 13
mutual
def dS:Val->Nat
 |.mk _ _ _ vs=>dP vs+1
def dP:List Val->Nat
 |[]=>0
 |v:: vs=>max (dS v) (dP vs)
end
abbrev Ev:=Int->List ba->List Val->Exp->X Val
def boolX(r:X Val):X Bool:=r.bind fun v=>if v.kind=1 then .ok (v.n== 1)else .er 13
def listX(r:Exp->X Val):List Exp->X (List Val)
 |[]=>.ok []
 |e:: es=>(r e).bind fun v=>(listX r es).bind fun vs=>.ok (v:: vs)
def mT(r:Exp->X Val)(e:Exp):X Val:=
 if e.names.length=e.args.length/\asc e.names=true then
  (if e.names.length<=8 then(listX r e.args).bind fun vs=>if dS (.mk 2 0 e.names vs)<=4 then .ok (.mk 2 0 e.names vs)else .er 6 else .er 6)
 else .er 13
def lS(p:List Mod)(at_:Int)(s:ba):Option Fun:=
 if at_<0 then none else(let l:=(p[at_.toNat]?.getD default).funcs;let i:=mZ l s;if i<0 then none else l[i.toNat]?)
def jM(p:List Mod)(r:Ev)(at_:Int)(f:Fun)(l:List Val):X Val:=
 .get fun m=>if m.frames<60 then
  .upd (fun m=>{ m with calls:=if f.pub=true then m.calls++[⟨(p[at_.toNat]?.getD default).name,f.name,l⟩]else m.calls,frames:=m.frames+1 })
   ((r at_ (f.params.map (·.1)) l f.body).bind fun v=>.upd (fun m=>{ m with frames:=m.frames-1 }) (.ok v))
 else .er 6
def tw(p:List Mod)(r:Ev)(own:Int)(ns:List ba)(vs:List Val)(e:Exp):X Val:=
 let at_:=if e.m=[]then own else dI p e.m
 match lS p at_ e.s with
 |none=>.er 12
 | some f=>if e.m=[]\/f.pub=true then
   (if e.args.length=f.params.length then(listX (r own ns vs) e.args).bind fun l=>jM p r at_ f l else .er 13)
  else .er 12
def BG(r:X Val)(e:Exp):X Val:=
 r.bind fun v=>if v.kind=0 then
  (if e.n=1\/e.n=2\/e.n=4\/e.n=8 then
   .get fun m=>.upd (fun m=>{ m with world:=m.world.tail,deeds:=m.deeds++[⟨e.n,v.n,m.world.headD 0⟩] }) (.ok (cg (m.world.headD 0)))
  else .er 14)
 else .er 13
def setSt(st:List (List Val))(i k:Nat)(v:Val):List (List Val):=st.modify i fun l=>l.set k v
def uf(st:List (List Val))(i k:Nat):Val:=(st.getD i []).getD k default
def Dj(p:List Mod)(r:Exp->X Val)(own:Int)(e:Exp):X Val:=
 if own<0 then .er 12 else
 let i:=lQ (p[own.toNat]?.getD default).vars e.s
 if i<0 then .er 12 else
 if e.op=18 then(r e.args[0]!).bind fun v=>.upd (fun m=>{ m with state:=setSt m.state own.toNat i.toNat v }) (.ok v)
 else .get fun m=>.ok (uf m.state own.toNat i.toNat)
def qv(p:List Mod)(r:Ev):Ev:=fun own ns vs e=>.get fun m=>
 if m.fuel<=0 then .er 16 else .upd (fun m=>{ m with fuel:=m.fuel-1 }) <|
 let n:=bO e.op
 if n= -2\/(n≠-1/\n≠e.args.length)then .er 13
 else if e.op=0 then .ok (cg e.n)
 else if e.op=1 then(if e.n=0\/e.n=1 then .ok (dW (e.n== 1))else .er 13)
 else if e.op=2 then(match lr ns vs e.s with|some v=>.ok v|none=>.er 12)
 else if e.op=3\/e.op=4\/e.op=5\/e.op=6\/e.op=7 then(r own ns vs e.args[0]!).bind fun a=>(r own ns vs e.args[1]!).bind fun b=>oY e.op a b
 else if e.op=8\/e.op=9 then(boolX (r own ns vs e.args[0]!)).bind fun x=>if x=(e.op== 9)then .ok (dW (e.op== 9))else(boolX (r own ns vs e.args[1]!)).bind fun y=>.ok (dW y)
 else if e.op=10 then(boolX (r own ns vs e.args[0]!)).bind fun x=>.ok (dW !x)
 else if e.op=11 then(boolX (r own ns vs e.args[0]!)).bind fun x=>if x=true then r own ns vs e.args[1]! else r own ns vs e.args[2]!
 else if e.op=12 then(r own ns vs e.args[0]!).bind fun v=>r own (ns++[e.s]) (vs++[v]) e.args[1]!
 else if e.op=13 then mT (r own ns vs) e
 else if e.op=14 then(r own ns vs e.args[0]!).bind fun v=>(match gO v.names v.values e.s with|some x=>if v.kind=2 then .ok x else .er 13|none=>.er 13)
 else if e.op=15 then tw p r own ns vs e
 else if e.op=16 then BG (r own ns vs e.args[0]!) e
 else Dj p (r own ns vs) own e
def cP(p:List Mod):Nat->Ev
 |0=>fun _ _ _ _=>.er 16
 |n+1=>qv p (cP p n)
def Rs.st{α:Type}:Rs α->Ms
 |.ok _ m=>m
 |.er _ m=>m
def Rs.on{α:Type}(f:Ms->Ms):Rs α->Rs α
 |.ok a m=>.ok a (f m)
 |.er e m=>.er e (f m)
def xE{α:Type}(y:X α):X α:=.get fun m=>if m.fuel<=0 then .er 16 else .upd (fun m=>{ m with fuel:=m.fuel-1 }) y
def Uo(n a:Int):X Val:=.get fun m=>.upd (fun m=>{ m with world:=m.world.tail,deeds:=m.deeds++[⟨n,a,m.world.headD 0⟩] }) (.ok (cg (m.world.headD 0)))
structure Closed (p:List Mod) (Q:Int->(α:Type)->X α->Prop):Prop where
 ok:∀(o:Int)(α:Type)(a:α),Q o α (.ok a)
 er:∀(o:Int)(α:Type)(e:Int),e≠0->Q o α (.er e)
 bind:∀(o:Int)(α β:Type)(x:X α)(f:α->X β),Q o α x->(∀a,Q o β (f a))->Q o β (x.bind f)
 tick:∀(o:Int)(α:Type)(y:X α),Q o α y->Q o α (xE y)
 act:∀(o n a:Int),Q o Val (Uo n a)
 set:∀(o:Int)(k:Nat)(v:Val),¬o<0->Q o Val (.upd (fun m=>{ m with state:=setSt m.state o.toNat k v }) (.ok v))
 get:∀(o:Int)(k:Nat),Q o Val (.get fun m=>.ok (uf m.state o.toNat k))
 enter:∀(o a:Int)(r:Ev)(f:Fun)(l:List Val),¬a<0->a.toNat<p.length->f∈(p[a.toNat]?.getD default).funcs->(∀o ns vs e,Q o Val (r o ns vs e))->Q o Val (jM p r a f l)
def pk{p:List Mod}{a:Int}{s:ba}{f:Fun}(h:lS p a s=some f):¬a<0/\a.toNat<p.length/\f∈(p[a.toNat]?.getD default).funcs:=by
 unfold lS at h;by_cases h1:a<0
 ·simp[h1]at h
 ·rw[XG h1]at h;simp only at h;split at h
  ·cases h
  ·have hm:=Ys h;refine⟨h1,?_,hm⟩;rcases Ya a.toNat p.length with k|k
   ·exact k
   ·rw[List.getElem?_eq_none k]at hm;cases hm
def RS{Q:Int->(α:Type)->X α->Prop}{o:Int}{α:Type}{c:Prop}[Decidable c](x y:X α)(h1:Q o α x)(h2:Q o α y):Q o α (if c then x else y):=by
 grind
section
variable {p:List Mod} {Q:Int->(α:Type)->X α->Prop} (C:Closed p Q)
include C
theorem Closed.boolX{o:Int}{r:X Val}(h:Q o Val r):Q o Bool (boolX r):=by
 refine C.bind _ _ _ _ _ h fun v=>?_;split
 ·exact C.ok _ _ _
 ·exact C.er _ _ _ Z6
theorem Closed.listX{o:Int}{r:Exp->X Val}(h:∀e,Q o Val (r e)):∀l,Q o (List Val) (listX r l)
 |[]=>C.ok _ _ _
 |e:: l=>C.bind _ _ _ _ _ (h e) fun _=>C.bind _ _ _ _ _ (Closed.listX h l) fun _=>C.ok _ _ _
theorem Closed.step{r:Ev}(h:∀o ns vs e,Q o Val (r o ns vs e))(o:Int)(ns:List ba)(vs:List Val)(e:Exp):Q o Val (qv p r o ns vs e):=by
 unfold qv;refine C.tick _ _ _ ?_;have B:=fun{α β:Type} {x:X α} {f:α->X β}=>C.bind o α β x f;have I:=@RS Q o;have er:=fun(α:Type) n (h:n≠0)=>C.er o α n h;have ok:=fun(α:Type) (a:α)=>C.ok o α a;refine I _ _ (er _ _ Z6) (I _ _ (ok _ _) (I _ _ (I _ _ (ok _ _) (er _ _ Z6)) (I _ _ ?_ (I _ _ ?_ (I _ _ ?_ (I _ _ ?_ (I _ _ ?_ (I _ _ ?_ (I _ _ ?_ (I _ _ ?_ (I _ _ ?_ (I _ _ ?_ ?_))))))))))))
 ·grind
 ·refine B (h _ _ _ _) fun a=>B (h _ _ _ _) fun b=>?_;unfold oY
  grind
 ·exact B (C.boolX (h _ _ _ _)) fun a=>I _ _ (ok _ _) (B (C.boolX (h _ _ _ _)) fun b=>ok _ _)
 ·exact B (C.boolX (h _ _ _ _)) fun a=>ok _ _
 ·exact B (C.boolX (h _ _ _ _)) fun a=>I _ _ (h _ _ _ _) (h _ _ _ _)
 ·grind
 ·unfold mT;exact I _ _ (I _ _ (B (C.listX (fun e=>h _ _ _ e) _) fun vs=>I _ _ (ok _ _) (er _ _ Z6)) (er _ _ Z6)) (er _ _ Z6)
 ·grind
 ·unfold tw;simp only;split
  ·grind
  ·rename_i f hf;obtain⟨h1,h2,h3⟩:=pk hf;exact I _ _ (I _ _ (B (C.listX (fun e=>h _ _ _ e) _) fun l=>C.enter _ _ _ _ _ h1 h2 h3 h) (er _ _ Z6)) (er _ _ Z6)
 ·unfold BG;exact B (h _ _ _ _) fun v=>I _ _ (I _ _ (C.act _ _ _) (er _ _ Z6)) (er _ _ Z6)
 ·unfold Dj;split
  ·grind
  ·rename_i ho;exact I _ _ (er _ _ Z6) (I _ _ (B (h _ _ _ _) fun v=>C.set _ _ _ ho) (C.get _ _))
theorem Closed.eval:∀(n:Nat)(o:Int)(ns:List ba)(vs:List Val)(e:Exp),Q o Val (cP p n o ns vs e)
 |0,_,_,_,_=>C.er _ _ _ Z6
 |n+1,o,ns,vs,e=>C.step (fun o ns vs e=>Closed.eval n o ns vs e) o ns vs e
end
def TG(α:Type)(x:X α):Prop:=∀m e s,x m= .er e s->e≠0
def qM(p:List Mod)(a:Int)(f:Fun)(l:List Val)(m:Ms):Ms:={ m with calls:=if f.pub=true then m.calls++[⟨(p[a.toNat]?.getD default).name,f.name,l⟩]else m.calls,frames:=m.frames+1 }
def Ck(p:List Mod):Closed p fun _=>TG where
 ok:=fun _ _ a m e s h=>by cases h
 er:=fun _ _ a h m e s h2=>by cases h2;exact h
 bind:=fun _ _ _ x f hx hf m e s h=>by
  unfold X.bind at h;cases hr:x m with
  |er c t=>rw[hr]at h;cases h;exact hx m _ _ hr
  |ok a t=>rw[hr]at h;exact hf a t e s h
 tick:=fun _ _ y hy m e s h=>by
  unfold xE X.get at h;by_cases hf:m.fuel<=0
  ·simp only[hf,XS]at h;cases h;decide
  ·simp only[hf,XO]at h;exact hy _ e s h
 act:=fun _ n a m e s h=>by cases h
 set:=fun _ k v _ m e s h=>by cases h
 get:=fun _ k m e s h=>by cases h
 enter:=fun _ a r f l _ _ _ hr m e s h=>by
  unfold jM X.get at h;by_cases hf:m.frames<60
  ·simp only[hf,XS,X.upd,X.bind]at h;cases hq:r a (f.params.map (·.1)) l f.body { m with calls:=if f.pub=true then m.calls++[⟨(p[a.toNat]?.getD default).name,f.name,l⟩]else m.calls,frames:=m.frames+1 }with
   |ok b t=>rw[hq]at h;cases h
   |er c t=>rw[hq]at h;cases h;exact hr _ _ _ _ _ _ _ hq
  ·simp only[hf,XO]at h;cases h;decide
theorem zV{p:List Mod}{n:Nat}{o:Int}{ns:List ba}{vs:List Val}{e:Exp}{m s:Ms}{c:Int}(h:cP p n o ns vs e m= .er c s):c≠0:=(Ck p).eval n o ns vs e m c s h
def xR(m:Ms):Prop:=(∀l∈m.state,∀v∈l,cQ 4 v=true)/\(∀c∈m.calls,∀v∈c.args,cQ 4 v=true)
def nT(m:Ms):List Nat:=m.state.map List.length
def RQ{α:Type}(x:X α)(Q:α->Prop):Prop:=∀m,xR m->xR (x m).st/\nT (x m).st=nT m/\∀a s,x m= .ok a s->Q a
theorem jZ{α:Type}{a:α}{Q:α->Prop}(h:Q a):RQ (.ok a) Q:=fun m hm=>⟨hm,rfl,fun b s e=>by cases e;exact h⟩
def iL{α:Type}{e:Int}{Q:α->Prop}:RQ (.er e) Q:=fun m hm=>⟨hm,rfl,fun b s e=>by cases e⟩
theorem fq{α β:Type}{x:X α}{f:α->X β}{Q:α->Prop}{R:β->Prop}(hx:RQ x Q)(hf:∀a,Q a->RQ (f a) R):RQ (x.bind f) R:=by
 intro m hm;obtain⟨h1,h2,h3⟩:=hx m hm;cases hr:x m with
 |er e s=>
  rw[hr]at h1 h2;simp only[X.bind,hr];exact⟨h1,h2,fun b s e=>by cases e⟩
 |ok a s=>
  rw[hr]at h1 h2;obtain⟨g1,g2,g3⟩:=hf a (h3 a s hr) s h1;simp only[X.bind,hr];exact⟨g1,g2.trans h2,g3⟩
def cT{α:Type}{c:Prop}[Decidable c]{x y:X α}{Q:α->Prop}(h1:c->RQ x Q)(h2:¬c->RQ y Q):RQ (if c then x else y) Q:=by
 grind
abbrev Rv(v:Val):Prop:=cQ 4 v=true
theorem fD(n:Int):Rv (cg n):=by simp_all[Rv,cg,cQ]
theorem dK(b:Bool):Rv (dW b):=by cases b<;>rfl
theorem ib:(l:List Val)->(d:Nat)->(dP l<=d↔∀v∈l,dS v<=d)
 |[],d=>by simp[dP]
 |v:: l,d=>by
  simp only[dP,Yn,forall_eq_or_imp];rw[<- ib l d];omega
def jb(v:Val):dS v=dP v.values+1:=by cases v;rfl
theorem wU:∀(d:Nat)(v:Val),cQ (d+1) v=true->dS v<=d->cQ d v=true
 |0,v,_,hl=>by rw[jb]at hl;omega
 | d+1,v,h,hl=>by
  rw[jb]at hl;unfold cQ at h|-;split at h
  ·grind
  ·rename_i hk;rw[XG hk];simp only[XJ,XY]at h|-;exact⟨h.1,fun x hx=>wU d x (h.2 x hx) ((ib v.values d).1 Z5 x hx)⟩
theorem xw{ns:List ba}{vs:List Val}(hl:ns.length=vs.length)(ha:asc ns=true)(h8:ns.length<=8)(hv:∀v∈vs,Rv v)(h4:dS (.mk 2 0 ns vs)<=4):Rv (.mk 2 0 ns vs):=by
 have h3:dP vs<=3:=by
  rw[jb]at h4;have:(Val.mk 2 0 ns vs).values=vs:=rfl;rw[this]at h4;omega
 have h5:=(ib vs 3).1 h3;unfold Rv cQ;simp_all[wU]
theorem DX:∀(d:Nat)(v:Val),cQ d v=true->cQ (d+1) v=true
 |0,v,h=>by simp[cQ]at h
 | d+1,v,h=>by
  unfold cQ at h|-;split at h
  ·grind
  ·rename_i hk;rw[XG hk];simp only[XJ,XY]at h|-;exact⟨h.1,fun x hx=>DX d x (h.2 x hx)⟩
def sr{v x:Val}(h:Rv v)(hx:x∈v.values):Rv x:=by
 unfold Rv cQ at h;split at h
 ·grind
 ·simp only[XJ,XY]at h;exact DX 3 x (h.2 x hx)
def C1{v:Val}(h:Rv v):v.names.length=v.values.length:=by
 unfold Rv cQ at h
 grind
theorem AK:∀(ns:List ba)(vs:List Val)(s:ba)(v:Val),lr ns vs s=some v->v∈vs
 | n:: ns,w:: vs,s,v,h=>by
  unfold lr at h;split at h
  ·rename_i x hx;cases h;exact Y9 _ (AK ns vs s v hx)
  grind
 |[],_,_,_,h=>by simp[lr]at h
 |_:: _,[],_,_,h=>by simp[lr]at h
theorem pj:∀(ns:List ba)(vs:List Val)(s:ba)(v:Val),gO ns vs s=some v->v∈vs
 |n:: ns,w:: vs,s,v,h=>by
  unfold gO at h;split at h
  ·grind
  ·exact Y9 _ (pj ns vs s v h)
 |[],_,_,_,h=>by simp[gO]at h
 |_:: _,[],_,_,h=>by simp[gO]at h
def nj(ns:List ba)(vs:List Val):Prop:=ns.length=vs.length/\∀v∈vs,Rv v
theorem sZ{r:X Val}(h:RQ r Rv):RQ (boolX r) fun _=>True:=fq h fun _ _=>cT (fun _=>jZ trivial) (fun _=>iL)
theorem yP{r:Exp->X Val}(h:∀e,RQ (r e) Rv):∀l,RQ (listX r l) fun vs=>vs.length=l.length/\∀v∈vs,Rv v
 |[]=>jZ ⟨rfl,fun v hv=>by cases hv⟩
 |e:: l=>fq (h e) fun v hv=>fq (yP h l) fun vs hvs=>jZ ⟨by simp[hvs.1],fun w hw=>by
  grind⟩
def Aj{st:List (List Val)}(h:∀l∈st,∀v∈l,Rv v)(i k:Nat)(hd:Rv default):Rv (uf st i k):=by
 unfold uf;rw[YB,YB];cases h1:st[i]? with
 |none=>simpa using hd
 |some l=>
  simp only[Y2];cases h2:l[k]? with
  |none=>simpa using hd
  |some v=>exact h l (Ys h1) v (Ys h2)
def Iq{p:List Mod}{r:Ev}{a:Int}{f:Fun}{l:List Val}(hr:∀o ns vs e,nj ns vs->RQ (r o ns vs e) Rv)(hl:l.length=f.params.length)(hv:∀v∈l,Rv v):RQ (jM p r a f l) Rv:=by
 have e0:∀m,jM p r a f l m=if m.frames<60 then((r a (f.params.map (·.1)) l f.body).bind fun v=>.upd (fun m=>{ m with frames:=m.frames-1 }) (.ok v)) (qM p a f l m)else .er 6 m:=fun m=>by
  unfold jM X.get;by_cases h:m.frames<60
  ·simp only[h,XS];rfl
  ·simp only[h,XO];rfl
 intro m hm;rw[e0];split
 ·have hb:RQ ((r a (f.params.map (·.1)) l f.body).bind fun v=>.upd (fun m=>{ m with frames:=m.frames-1 }) (.ok v)) Rv:=
   fq (hr _ _ _ _ ⟨by simp[hl],hv⟩) fun _ hv m hm=>⟨hm,rfl,fun a s e=>by cases e;exact hv⟩
  have hm':xR (qM p a f l m):=by
   refine⟨hm.1,fun c hc=>?_⟩;simp only[qM]at hc;split at hc
   ·rcases Yl.1 hc with h|h
    ·exact hm.2 c h
    grind
   ·exact hm.2 c hc
  exact hb _ hm'
 ·exact⟨hm,rfl,fun _ _ e=>by cases e⟩
def right_step{p:List Mod}{r:Ev}(hr:∀o ns vs e,nj ns vs->RQ (r o ns vs e) Rv)(o:Int)(ns:List ba)(vs:List Val)(e:Exp)(hs:nj ns vs):RQ (qv p r o ns vs e) Rv:=by
 have tick:∀y:X Val,RQ y Rv->RQ (xE y) Rv:=fun y hy m hm=>by
  unfold xE X.get;by_cases h:m.fuel<=0
  ·simp only[h,XS];exact⟨hm,rfl,fun _ _ e=>by cases e⟩
  ·simp only[h,XO];exact hy { m with fuel:=m.fuel-1 } hm
 have H:=fun e=>hr o ns vs e hs;refine tick _ ?_;refine cT (fun _=>iL) fun _=>cT (fun _=>jZ (fD _)) fun _=>cT (fun _=>cT (fun _=>jZ (dK _)) fun _=>iL) fun _=>cT (fun _=>?_) fun _=>
  cT (fun _=>?_) fun _=>cT (fun _=>?_) fun _=>cT (fun _=>?_) fun _=>cT (fun _=>?_) fun _=>cT (fun _=>?_) fun _=>cT (fun _=>?_) fun _=>cT (fun _=>?_) fun _=>
  cT (fun _=>?_) fun _=>cT (fun _=>?_) fun _=>?_
 ·split
  ·rename_i v hv;exact jZ (hs.2 v (AK _ _ _ _ hv))
  ·exact iL
 ·refine fq (H _) fun a ha=>fq (H _) fun b hb=>?_;unfold oY;exact cT (fun _=>cT (fun _=>jZ (dK _)) fun _=>iL) fun _=>cT (fun _=>cT (fun _=>jZ (fD _)) fun _=>cT (fun _=>jZ (fD _)) fun _=>cT (fun _=>jZ (fD _)) fun _=>jZ (dK _)) fun _=>iL
 ·exact fq (sZ (H _)) fun a _=>cT (fun _=>jZ (dK _)) fun _=>fq (sZ (H _)) fun b _=>jZ (dK _)
 ·grind [fq,sZ,jZ,dK]
 ·exact fq (sZ (H _)) fun a _=>cT (fun _=>H _) fun _=>H _
 ·exact fq (H _) fun v hv=>hr _ _ _ _ ⟨by simp[hs.1],fun w hw=>by
   rcases Yl.1 hw with h|h
   ·exact hs.2 w h
   grind⟩
 ·unfold mT;exact cT (fun h1=>cT (fun h2=>fq (yP H _) fun vs hvs=>cT (fun h3=>jZ (xw Z7 h1.2 h2 hvs.2 h3)) fun _=>iL) fun _=>iL) fun _=>iL
 ·refine fq (H _) fun v hv=>?_;split
  ·rename_i x hx;exact cT (fun _=>jZ (sr hv (pj _ _ _ _ hx))) fun _=>iL
  ·exact iL
 ·unfold tw;simp only;split
  ·exact iL
  ·rename_i f hf;exact cT (fun _=>cT (fun h2=>fq (yP H _) fun l hl=>Iq hr (by rw[hl.1,h2]) hl.2) fun _=>iL) fun _=>iL
 ·unfold BG;exact fq (H _) fun v hv=>cT (fun _=>cT (fun _ m hm=>⟨hm,rfl,fun a s e=>by cases e;exact fD _⟩) fun _=>iL) fun _=>iL
 ·unfold Dj;refine cT (fun _=>iL) fun ho=>?_;simp only;refine cT (fun _=>iL) fun hi=>cT (fun _=>fq (H _) fun v hv m hm=>⟨⟨?_,hm.2⟩,?_,fun a s e=>by cases e;exact hv⟩) fun _ m hm=>⟨hm,rfl,fun a s e=>by cases e;exact Aj hm.1 _ _ (fD 0)⟩
  ·intro l hl w hw;simp only[X.upd,X.ok,Rs.st,setSt]at hl;obtain⟨j,hj⟩:=ZC.1 hl;rw[ZG]at hj;cases h1:m.state[j]? with
   |none=>simp[h1]at hj
   |some l0=>
    rw[h1]at hj;simp only[Option.map_eq_map,YS,XF]at hj;have hold:=hm.1 l0 (Ys h1)
    grind
  ·simp only[X.upd,X.ok,Rs.st,nT,setSt];apply YY
   grind
theorem py{p:List Mod}:∀(n:Nat)(o:Int)(ns:List ba)(vs:List Val)(e:Exp),nj ns vs->RQ (cP p n o ns vs e) Rv
 |0,_,_,_,_,_=>iL
 |n+1,o,ns,vs,e,hs=>right_step (fun o ns vs e h=>py n o ns vs e h) o ns vs e hs
end Go.Av.Ap
