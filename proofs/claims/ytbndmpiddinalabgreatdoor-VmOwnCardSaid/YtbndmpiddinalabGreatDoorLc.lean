/- The abstract evaluator and plain laws, part 3. Condition: the table of types is the program's. -/
import Derived.Test.YtbndmpiddinalabGreatDoorLb
import Derived.KernelRfl
import Derived.IntWalk
import Derived.Below
import Derived.Lib.IndexMore
import Derived.Lib.Fields
import Derived.ChangeSame
import Derived.OpenShut
import Derived.ChangeReads
import Derived.ReadAgain
import Derived.Deep.Slices
import Derived.WideShapes
import Derived.SizedLaws
set_option linter.defProp false
set_option linter.unusedSimpArgs false
set_option linter.unusedVariables false
namespace Go.Av
variable [Dr]
section
variable {cx:Cx} {ops:Array Oper} {base:Nat}
structure Ind (cx:Cx) (ops:Array Oper) (i j:Nat) (a b:Oper):Prop where
 ha:ops[i]? = some a
 hb:ops[j]? = some b
 piv:(az cx a).piv=false
 l1:(az cx a).wl=true->(az cx b).rl=false/\(az cx b).wl=false
 l2:(az cx a).rl=true->(az cx b).wl=false\/((∃t p,a.op= .load t (.tmp p))/\(∃t,b.op= .alloc t)/\b.guard=none)
 h1:(az cx a).wh=true->(az cx b).rh=false/\(az cx b).wh=false
 h2:(az cx a).rh=true->(az cx b).wh=false\/(az cx b).nw=true
 g1:(az cx a).dr=true->(az cx b).dr=false/\(az cx b).ad=false
 g2:(az cx a).ad=true->(az cx b).dr=false
 g3:(az cx a).ad=true->(az cx b).ad=true->(az cx a).wl=false/\(az cx b).wl=false
 r1:∀t∈dZ ops j,a.dst≠some t
 r2:∀t∈dZ ops i,b.dst≠some t
 s1:∀t∈dZ ops j,cT a≠some t
 s2:∀t∈dZ ops i,cT b≠some t
 c1:∀t,cT a=some t->b.dst≠some t
 c2:∀t,a.dst=some t->cT b≠some t
 c3:∀t,a.dst=some t->b.dst≠some t
section
omit [Dr]
theorem Fg{i j:Nat}(h:p8 cx ops i j=true):(∃a b,Ind cx ops i j a b)\/∃a b,ops[i]? = some a/\ops[j]? = some b/\(Bc cx a b=true\/Bv cx a b=true\/uA cx a b=true):=by
 unfold p8 at h;split at h
 ·rename_i a b ha hb;cases hs:Bc cx a b with
  |true=>grind
  |false=>
  cases ht:Bv cx a b with
  |true=>grind
  |false=>
  cases hl:uA cx a b with
  |true=>grind
  |false=>
  refine .inl ⟨a,b,?_⟩;rw[hs,ht,hl]at h;simp only[Bool.false_or,Xu,XW]at h;obtain⟨⟨⟨⟨⟨⟨⟨⟨⟨⟨⟨⟨⟨⟨k1,k2⟩,k3⟩,k4⟩,k5⟩,k6⟩,k7⟩,k8⟩,k9⟩,k10⟩,k11⟩,k12⟩,k13⟩,k14⟩,k15⟩:=h;refine⟨ha,hb,k1,fun q=>?_,fun q=>?_,fun q=>?_,fun q=>?_,fun q=>?_,fun q=>?_,fun q q'=>?_,qg k9,qg k10,qg k11,qg k12,rp k13,rp k14,rp k15⟩
  ·grind
  ·rw[q]at k3;cases hw:(az cx b).wl with
   |false=>exact .inl rfl
   | true=>
    rw[hw]at k3;simp only[Yw,Xu,XW,Zu]at k3;refine .inr ⟨?_,?_⟩
    ·grind [Rx]
    ·have h1:=k3.2;unfold Rw at h1;split at h1
     all_goals simp_all
  all_goals grind
 ·cases h
theorem vA{T:TT}{t l o:Nat}{v r:AV}{h h':Hp}(hh:bS T t (.hp l o) v h= .ok r h'):r= .tup []/\∃ti cs,T t=some ti/\h[l]? = some cs/\(bR ti.size v&&decide (o+ti.size<=cs.length)&&decide (0<ti.size))=true/\h'=h.set l (setCells cs o (aa v)):=by
 unfold bS at hh
 grind
theorem xD{T:TT}{t l o:Nat}{v:AV}{h:Hp}{ti:TI}{cs:List AV}(ht:T t=some ti)(hl:h[l]? = some cs)(hc:(bR ti.size v&&decide (o+ti.size<=cs.length)&&decide (0<ti.size))=true):bS T t (.hp l o) v h= .ok (.tup []) (h.set l (setCells cs o (aa v))):=by
 simp_all[bS]
theorem Bb{T:TT}{b:Bool}{t:Nat}{a v r:AV}{h h':Hp}(hh:mc T b t a v h= .ok r h'):∃l o,a= .hp l o/\(Nat.beq (l+1) h.length== b)=true/\bS T t (.hp l o) v h= .ok r h':=by
 unfold mc at hh
 grind
theorem qA{i:Nat}{a:Oper}(ha:ops[i]? = some a){t p:Nat}{y:Operand}(ho:a.op= .store t (.tmp p) y)(hd:a.dst=none)(hg:a.guard=none)(hp:vg cx p=true)(e:Env)(h:Hp):
  stepG cx base ops i e h=match (e.get p).v with
   |.loc _ _=>.fail
   |.val A=>match mc cx.T (dP cx.ann.sl1 p) t A (opnd e y) h with
    |.ok _ h'=>.ok e h'
    |.pan v h'=>.pan v h'
    |.fail=>.fail:=by
 have hdo:dI ops i=none:=by simp[dI,ha,hd]
 unfold stepG fX;rw[ha,hdo];simp only[hg];unfold gS;rw[ho,hd];simp only[hp,Xw];unfold xt;cases (e.get p).v with
 |loc B off=>rfl
 |val A=>
  simp only[d8,au];cases mc cx.T (dP cx.ann.sl1 p) t A (opnd e y) h with
  |ok v h'=>rfl
  |pan v h'=>rfl
  |fail=>rfl
theorem IF{i j:Nat}{a b:Oper}(ha:ops[i]? = some a)(hb:ops[j]? = some b)(hs:Bc cx a b=true)(e:Env)(h:Hp):
  RE (au (stepG cx base ops i e) (stepG cx base ops j) h) (au (stepG cx base ops j e) (stepG cx base ops i) h):=by
 unfold Bc at hs;split at hs
 ·rename_i t p y t' q z ho ho' hd hd' hg hg';have hpq:vg cx p=true/\vg cx q=true/\dP cx.ann.sl1 p≠dP cx.ann.sl1 q:=by
   unfold vg;simp only[Yj,Xu,XW]at hs;rcases hs with⟨⟨h1,h2⟩,h3⟩|⟨⟨h1,h2⟩,h3⟩
   ·grind
   ·grind
  obtain⟨k1,k2,k3⟩:=hpq;simp only[au];rw[qA ha ho hd hg k1 e h,qA hb ho' hd' hg' k2 e h];cases hA:(e.get p).v with
  |loc B off=>trivial
  | val A=>
   simp only;cases hx:mc cx.T (dP cx.ann.sl1 p) t A (opnd e y) h with
   |fail=>trivial
   |pan v h'=>exact absurd hx (rD _ _ _ _ _ _ _ _)
   | ok r h1=>
    simp only;rw[qA hb ho' hd' hg' k2 e h1];cases hB:(e.get q).v with
    |loc B off=>trivial
    | val B=>
     simp only;cases hy:mc cx.T (dP cx.ann.sl1 q) t' B (opnd e z) h1 with
     |fail=>trivial
     |pan v h'=>exact absurd hy (rD _ _ _ _ _ _ _ _)
     | ok r2 h2=>
      obtain⟨l,o,rfl,c1,s1⟩:=Bb hx;obtain⟨l',o',rfl,c2,s2⟩:=Bb hy;obtain⟨_,ti,cs,t1,g1,w1,rfl⟩:=vA s1;obtain⟨_,ti',cs',t2,g2,w2,rfl⟩:=vA s2;rw[YR]at c2;have hne:l≠l':=fun hll=>by
       grind
      rw[List.getElem?_set_ne hne]at g2;have e1:mc cx.T (dP cx.ann.sl1 q) t' (.hp l' o') (opnd e z) h= .ok (.tup []) (h.set l' (setCells cs' o' (aa (opnd e z)))):=by
       unfold mc;simp only[c2,Xw];exact xD t2 g2 w2
      simp only[e1];rw[qA ha ho hd hg k1 e _,hA];have e2:mc cx.T (dP cx.ann.sl1 p) t (.hp l o) (opnd e y) (h.set l' (setCells cs' o' (aa (opnd e z))))= .ok (.tup []) ((h.set l' (setCells cs' o' (aa (opnd e z)))).set l (setCells cs o (aa (opnd e y)))):=by
       unfold mc;simp only[YR,c1,Xw];exact xD t1 ZU w1
      simp only[e2];refine⟨e,?_,.refl e⟩;rw[List.set_comm _ _ (fun h=>hne h)]
 ·cases hs
end
def pJ(s:Nat)(zs:List AV)(n:Nat):Upd:={ ent:=⟨.loc (aL s) 0,none⟩,ls:=kp (aL s) zs [] 0 n,add:=[],lb:=some (aL s,n) }
section
omit [Dr]
theorem Em{i:Nat}{a:Oper}(ha:ops[i]? = some a){t s:Nat}(ho:a.op= .alloc t)(hd:a.dst=some s)(hg:a.guard=none)(hw:(az cx a).wl=true)(hn:(fW cx.ann.nils s).isEmpty=true):
  ∃(c:Bool)(zs:List AV)(n:Nat),(c=true->n<1000)/\∀e h,stepG cx base ops i e h=bif c&&aT e.sl (aL s)then .ok (e.upd (some s) (pJ s zs n)) h else .fail:=by
 have hdo:dI ops i=some s:=by simp[dI,ha,hd]
 have hnn:fW cx.ann.nils s=[]:=by simpa using hn
 have hstep:∀e h,stepG cx base ops i e h=au (d8 (fR cx e ((base+i)*1000) s t)) (fun u=>ao (e.upd (some s) u)) h:=fun e h=>by
  simp_all[stepG,fX,gS]
 cases ht:cx.T t with
 |none=>
  refine⟨false,[],0,(fun h=>by cases h),fun e h=>?_⟩;rw[hstep];unfold fR;rw[ht];rfl
 | some ti=>
  have hk:dl cx.ann.kinds s .L≠.F/\dl cx.ann.kinds s .L≠.H/\dl cx.ann.kinds s .L≠.B:=by
   unfold az at hw;rw[ho,hd]at hw;simp only at hw;refine⟨fun h=>?_,fun h=>?_,fun h=>?_⟩<;>rw[h]at hw<;>cases hw
  refine⟨decide (ti.size<1000)&&iI (dC true ti) [] ti.size,dC (dP cx.ann.hb s) ti,ti.size,fun h=>ZU,fun e h=>?_⟩;rw[hstep];unfold fR;rw[ht];simp only[hnn];have key:∀b:Bool,(au (d8 (bif decide (ti.size<1000)&&b&&iI (dC true ti) [] ti.size then Act1.stat { ent:=⟨.loc (aL s) 0,none⟩,ls:=kp (aL s) (dC (dP cx.ann.hb s) ti) [] ((base+i)*1000) ti.size,add:=qX [] ((base+i)*1000),lb:=some (aL s,ti.size) }else .bad)) (fun u=>ao (e.upd (some s) u)) h:R Env)=bif decide (ti.size<1000)&&iI (dC true ti) [] ti.size&&b then .ok (e.upd (some s) (pJ s (dC (dP cx.ann.hb s) ti) ti.size)) h else .fail:=by
   intro b;cases decide (ti.size<1000)<;>cases b<;>cases iI (dC true ti) [] ti.size<;>rfl
  cases hkk:dl cx.ann.kinds s .L with
  |F=>grind
  |H=>grind
  |B=>grind
  |L=>exact key _
  |S=>exact key _
theorem AB{s t:Nat}(h:s≠t):aL s≠aL t:=by unfold aL;omega
theorem uC{e:Env}{s t:Nat}(h:s≠t)(zs:List AV)(n:Nat):aT (e.upd (some s) (pJ s zs n)).sl (aL t)=aT e.sl (aL t):=by
 have h1:Nat.beq (aL s) (aL t)=false:=by
  rw[YA];exact fun hh=>AB h (Nat.eq_of_beq_eq_true hh)
 have h2:aT (kp (aL s) zs [] 0 n) (aL t)=true:=by
  unfold aT kp;rw[XJ];intro x hx;simp only[YP]at hx;obtain⟨k,_,rfl⟩:=hx;rfl
 show aT (qw (some s) (pJ s zs n).ent ((pJ s zs n).ls++e.sl)) (aL t)=_;rw[eT,gq];show ((false||od ⟨.loc (aL s) 0,none⟩ (aL t))&&(aT (kp (aL s) zs [] 0 n) (aL t)&&aT e.sl (aL t)))=_;rw[h2];show ((false||!(Nat.beq (aL s) (aL t)))&&(true&&aT e.sl (aL t)))=_;rw[h1];rfl
theorem Jb{e:Env}{s t:Nat}(h:s≠t)(hs:s<1000)(ht:t<1000)(zs ys:List AV){n m:Nat}(hn:n<1000)(hm:m<1000):EqE ((e.upd (some s) (pJ s zs n)).upd (some t) (pJ t ys m)) ((e.upd (some t) (pJ t ys m)).upd (some s) (pJ s zs n)):=by
 have rs:∀x∈(pJ s zs n).ls,aL s<=x.1/\x.1<aL s+n:=py;have rt:∀x∈(pJ t ys m).ls,aL t<=x.1/\x.1<aL t+m:=py;have hb:aL s=1000*(s+1):=rfl;have hb':aL t=1000*(t+1):=rfl;refine⟨fun k=>?_,fun g=>rfl,fun B=>?_,fun B=>?_⟩
 ·rw [cL,cL];show (if some s=some k then(pJ s zs n).ent else cD ((pJ s zs n).ls++qw (some t) (pJ t ys m).ent ((pJ t ys m).ls++e.sl)) k)=if some t=some k then(pJ t ys m).ent else cD ((pJ t ys m).ls++qw (some s) (pJ s zs n).ent ((pJ s zs n).ls++e.sl)) k;by_cases h1:s=k
  ·subst h1;rw[Xv rfl,Xr (fun hh=>h (X9 hh).symm),fQ _ (fun x hx=>ZU),fB,Xv rfl]
  ·rw[Xr (fun hh=>h1 (X9 hh))];by_cases h2:t=k
   ·subst h2;rw[Xv rfl,fQ _ (fun x hx=>ZU),fB,Xv rfl]
   ·rw[Xr (fun hh=>h2 (X9 hh))];by_cases h3:aL s<=k/\k<aL s+n
    ·have e1:∀x∈(pJ t ys m).ls,x.1≠k:=fun x hx=>ZU
     rw[fQ _ e1,fB,Xr (fun hh=>h1 (X9 hh))];exact lz (by rw[fB,Xr (fun hh=>h2 (X9 hh)),fQ _ e1])
    ·have e1:∀x∈(pJ s zs n).ls,x.1≠k:=fun x hx=>ZU
     rw[fQ _ e1,fB,Xr (fun hh=>h2 (X9 hh))];exact (lz (by rw[fB,Xr (fun hh=>h1 (X9 hh)),fQ _ e1])).symm
 ·show ba ((aL s,n):: (aL t,m):: e.lb) B=ba ((aL t,m):: (aL s,n):: e.lb) B;have hne:=AB h;simp only[ba];cases h1:Nat.beq (aL s) B with
  |false=>rfl
  | true=>
   have:=Nat.eq_of_beq_eq_true h1
   subst this;have h2:Nat.beq (aL t) (aL s)=false:=by
    rw[YA];exact fun hh=>hne (Nat.eq_of_beq_eq_true hh).symm
   rw[h2];rfl
 ·show aT (qw (some s) (pJ s zs n).ent ((pJ s zs n).ls++qw (some t) (pJ t ys m).ent ((pJ t ys m).ls++e.sl))) B=aT (qw (some t) (pJ t ys m).ent ((pJ t ys m).ls++qw (some s) (pJ s zs n).ent ((pJ s zs n).ls++e.sl))) B
  grind [eT,gq]
theorem Kv{i j:Nat}{a b:Oper}(ha:ops[i]? = some a)(hb:ops[j]? = some b)(hs:Bv cx a b=true)(e:Env)(h:Hp):
  RE (au (stepG cx base ops i e) (stepG cx base ops j) h) (au (stepG cx base ops j e) (stepG cx base ops i) h):=by
 unfold Bv at hs;split at hs
 ·rename_i t t' s s' ho ho' hd hd' hg hg';simp only[Xu,XW,Xt]at hs;obtain⟨⟨⟨⟨⟨⟨h0,h1⟩,h2⟩,h3⟩,h4⟩,h5⟩,h6⟩:=hs;have hne:s≠s':=fun hh=>ZW
  obtain⟨c,zs,n,hn,f1⟩:=Em (base:=base) ha ho hd hg h3 h5;obtain⟨c',ys,m,hm,f2⟩:=Em (base:=base) hb ho' hd' hg' h4 h6;simp only[au];rw[f1,f2];cases hc:c&&aT e.sl (aL s)with
  |false=>trivial
  | true=>
   simp only[Xw];rw[f2,uC hne];cases hc':c'&&aT e.sl (aL s')with
   |false=>trivial
   |true=>
    simp only[Xw];rw[f1,uC (fun hh=>hne hh.symm),hc];simp only[Xu]at hc hc';exact⟨_,rfl,Jb hne h1 h2 zs ys (hn hc.1) (hm hc'.1)⟩
 ·cases hs
end
omit [Dr]in
mutual
theorem Cd:(a b:AV)->nD a b=true->a=b
 |.agg a,.agg b,h=>by simp only[nD]at h;rw[mB a b h]
 |.tup a,.tup b,h=>by simp only[nD]at h;rw[mB a b h]
 |.sl a,.sl b,h=>by simp only[nD]at h;rw[mB a b h]
 |.ip a,.ip b,h=>by simp only[nD]at h;rw[mB a b h]
 |.fn f a c,.fn f' a' c',h=>by
  simp only[nD,Xu,Xt]at h;rw[h.1.1,mB a a' h.1.2,mB c c' h.2]
 |.iface t a,.iface t' b,h=>by
  simp only[nD,Xu]at h;rw[Nat.eq_of_beq_eq_true h.1,Cd a b h.2]
 |.hp l o,.hp l' o',h=>by
  simp_all[nD]
 |.hs l o n s g,.hs l' o' n' s' g',h=>by
  simp_all[nD]
 |.any,b,h=>by cases b<;>first|rfl|cases h
 |.bool a,b,h=>by cases b<;>first|simp_all[nD]|cases h
 |.int k a,b,h=>by cases b<;>first|simp_all[nD]|cases h
 |.str a,b,h=>by cases b<;>first|simp_all[nD]|cases h
 |.nilp,b,h=>by cases b<;>first|rfl|cases h
 |.nilf,b,h=>by cases b<;>first|rfl|cases h
 |.nili,b,h=>by cases b<;>first|rfl|cases h
 |.hn,b,h=>by cases b<;>first|rfl|cases h
 |.nilm,b,h=>by cases b<;>first|rfl|cases h
 |.he,b,h=>by cases b<;>first|rfl|cases h
 |.mp l,b,h=>by cases b<;>first|(simp only[nD]at h;rw[Nat.eq_of_beq_eq_true h];done)|cases h
 |.nilb l,b,h=>by cases b<;>first|(simp only[nD]at h;rw[Nat.eq_of_beq_eq_true h];done)|cases h
 |.it l,b,h=>by cases b<;>first|(simp only[nD]at h;rw[Nat.eq_of_beq_eq_true h];done)|cases h
 |.byt t n,b,h=>by cases b<;>first|simp_all[nD]|cases h
theorem mB:(a b:List AV)->qS a b=true->a=b
 |[],[],_=>rfl
 |a:: l,b:: r,h=>by
  simp only[qS,Xu]at h;rw[Cd a b h.1,mB l r h.2]
 |[],_:: _,h=>by simp[qS]at h
 |_:: _,[],h=>by simp[qS]at h
end
section
omit [Dr]
theorem Ed{m r:Nat}:∀ {cs ds:List AV} {b o:Nat} {v:AV},vd m r b cs ds=true->Nat.beq ((b+o) % m) r=true->cs[o]? = some v->ds[o]? = some v
 |[],_,_,_,_,_,_,h=>by simp at h
 |_:: _,[],_,_,_,h,_,_=>by simp[vd]at h
 |c:: cs,d:: ds,b,0,v,h,hm,hv=>by
  simp only[vd,Xu]at h;simp only[Y2]at hm
  grind [Cd]
 |c:: cs,d:: ds,b,o+1,v,h,hm,hv=>by
  simp only[vd,Xu]at h;simp only[Yb]at hv |-;exact Ed h.2 ZU hv
theorem Ax{m r:Nat}:∀ {h h':Hp} {l:Nat} {cs:List AV},ly m r h h'=true->h[l]? = some cs->∃ds,h'[l]? = some ds/\vd m r 0 cs ds=true
 |[],_,_,_,_,h=>by simp at h
 |_:: _,[],_,_,h,_=>by simp[ly]at h
 |c:: t,d:: t',0,cs,h,hl=>by
  simp only[ly,Xu]at h
  grind
 |c:: t,d:: t',l+1,cs,h,hl=>by
  simp only[ly,Xu]at h;exact Ax (l:=l) h.2 (by simpa using hl)
theorem yD{T:TT}{m r:Nat}{t:TypeId}{x v:AV}{h h1 h':Hp}(hh:fP T m r t x h= .ok v h1)(hk:ly m r h h'=true):h1=h/\fP T m r t x h'= .ok v h':=by
 unfold fP at hh |-;split at hh
 ·rename_i l off ti ht;cases hb:Nat.beq (off % m) r&&!ti.agg with
  |false=>grind
  | true=>
   rw[hb]at hh;simp only[Xw]at hh |-;simp only[Xu,XW]at hb;unfold bb at hh |-;simp only[ht]at hh |-;cases hl:h[l]? with
   |none=>grind
   | some cs=>
    rw[hl]at hh;simp only[hb.2,XD]at hh;cases hc:cs[off]? with
    |none=>grind
    |some w=>
     rw[hc]at hh;simp only at hh;cases hh;obtain⟨ds,g1,g2⟩:=Ax hk hl;have g3:=Ed (b:=0) g2 ZU hc
     grind
 ·cases hh
theorem Kw(hS:Small ops){i j:Nat}{a b:Oper}(ha:ops[i]? = some a)(hb:ops[j]? = some b)(hs:uA cx a b=true)(e:Env)(h:Hp):
  RE (au (stepG cx base ops i e) (stepG cx base ops j) h) (au (stepG cx base ops j e) (stepG cx base ops i) h):=by
 unfold uA at hs;split at hs
 ·rename_i t p c s u ho ho' hd hd' hg hg';split at hs
  ·rename_i f hcal;simp only[Xu,XW,Xt]at hs;obtain⟨⟨⟨⟨⟨⟨h0,h1⟩,h2⟩,h3⟩,h4⟩,h5⟩,h6⟩:=hs;have hsu:s≠u:=fun hh=>ZW
   have hup:u≠p:=fun hh=>ZW
   have hsb:∀x∈ic b,x≠s:=fun x hx hh=>by
    grind [iH]
   obtain⟨m,r,hlm,hcm⟩:∃m r,jy cx.ann.lm a.dst=some (m,r)/\jy cx.ann.cm b.dst=some (m,r):=by
    split at h6
    all_goals simp_all
   rw[hd]at hlm;rw[hd']at hcm h5;have hdi:dI ops i=some s:=by simp[dI,ha,hd]
   have hdj:dI ops j=some u:=by simp[dI,hb,hd']
   -- the load
   have fa:∀(e:Env)(h:Hp),stepG cx base ops i e h=match (e.get p).v with
     |.loc _ _=>.fail
     |.val A=>match fP cx.T m r t A h with
      |.ok v h'=>.ok (e.upd (some s) (.ofV v)) h'
      |.pan v h'=>.pan v h'
      |.fail=>.fail:=fun e h=>by
    unfold stepG fX;rw[ha,hdi];simp only[hg];unfold gS;rw[ho,hd];simp only[hlm];cases (e.get p).v with
    |loc B off=>rfl
    |val A=>
     simp only[d8,au];cases fP cx.T m r t A h<;>rfl
   -- the call
   have fb:∀(e:Env)(h:Hp),stepG cx base ops j e h=bif !(cx.iso f)&&(cx.own f).isNone then(match iu m r (cx.call f (c.args.toList.map (opnd e))) h with
      |.ok v h'=>.ok (e.upd (some u) (.ofV v)) h'
      |.pan v h'=>.pan v h'
      |.fail=>.fail)else .fail:=fun e h=>by
    unfold stepG fX;rw[hb,hdj];simp only[hg'];unfold gS;rw[ho',hd'];simp only;unfold ib;rw[hcal,hd'];simp only[h5,XD,hcm];cases !(cx.iso f)&&(cx.own f).isNone with
    |false=>rfl
    |true=>
     simp only[Xw,d8,au];cases iu m r (cx.call f (c.args.toList.map (opnd e))) h<;>rfl
   have hargs:∀v,c.args.toList.map (opnd (e.upd (some s) (.ofV v)))=c.args.toList.map (opnd e):=fun v=>by
    refine YL fun x hx=>?_;cases x with
    | tmp k=>
     have hk:k∈ic b:=by
      unfold ic;rw[ho',Za];exact⟨.tmp k,by grind [Op.operands,Call.operands],rfl⟩
     have hks:=hsb k hk;simp only[opnd];have:(e.upd (some s) (.ofV v)).get k=e.get k:=by
      rw[cL,Xr (fun hh=>hks (X9 hh).symm)];rfl
     unfold Env.av;rw[this]
    |_=>rfl
   simp only[au];rw[fa];cases hA:(e.get p).v with
   |loc B off=>trivial
   | val A=>
    simp only;cases hx:fP cx.T m r t A h with
    |fail=>trivial
    |pan v h'=>exact absurd hx ((mM _ _ _ _ _).stay _ _ _)
    | ok v h1=>
     simp only;rw[fb,hargs,fb];cases hi:!(cx.iso f)&&(cx.own f).isNone with
     |false=>trivial
     | true=>
      simp only[Xw];have hh1:h1=h:=by
       rcases mM cx.T m r t A h with k|⟨w,k⟩<;>rw[hx]at k<;>cases k;rfl
      subst hh1;unfold iu;cases hy:cx.call f (c.args.toList.map (opnd e)) h1 with
      |fail=>trivial
      |pan v' h'=>exact rfl
      | ok v' h'=>
       simp only;cases hk:ly m r h1 h' with
       |false=>trivial
       | true=>
        simp only[Xw];rw[fa];have hp:((e.upd (some u) (.ofV v')).get p).v= .val A:=by
         rw[cL,Xr (fun hh=>hup (X9 hh))];exact hA
        rw[hp];simp only[(yD hx hk).2];refine⟨_,rfl,?_⟩;exact vG (gi:=0) (gj:=1) (x:={}) (y:={}) (si:=none) (sj:=none) (Shape.ofV e 0 {} none v) (Shape.ofV e 1 {} none v') rfl (fun t ht=>ZU) (fun t ht hh=>ZU) (fun t ht=>by cases ht) ZT (fun h=>by cases h) (fun h=>by cases h) (fun h=>by cases h)
  ·cases hs
 ·cases hs
theorem swap(hI:IsoPure cx)(hS:Small ops){i j:Nat}(hij:p8 cx ops i j=true)(hne:i≠j)(e:Env)(h:Hp):
  RE (au (stepG cx base ops i e) (stepG cx base ops j) h) (au (stepG cx base ops j e) (stepG cx base ops i) h):=by
 rcases Fg hij with⟨a,b,I⟩|⟨a,b,ha,hb,hs|hs|hs⟩
 case inr.inl=>exact IF ha hb hs e h
 case inr.inr.inl=>exact Kv ha hb hs e h
 case inr.inr.inr=>exact Kw hS ha hb hs e h
 have hda:dI ops i=a.dst:=by simp[dI,I.ha]
 have hdb:dI ops j=b.dst:=by simp[dI,I.hb]
 unfold stepG;rw[hda,hdb];simp only[au,ao];cases hri:fX cx base ops i e h with
 |fail=>trivial
 |pan v h'=>exact absurd hri (mj (p:=@fy) (fun _ g=>g.read.stay) (fun _ f g=>g.bnd f) I.ha ((gH hI e _ a).stay I.piv) h v h')
 | ok u h1=>
  simp only;have shu:=tt I.ha hri;have hra:=jg (ops:=ops) I.ha;have hrb:=jg (ops:=ops) I.hb;have hbo:∀t∈ic b,a.dst≠some t/\cT a≠some t/\t<1000:=fun t ht=>⟨I.r1 t ZU,I.s1 t ZU,hS.src j b I.hb t ht⟩;have hao:∀t∈ic a,b.dst≠some t/\cT b≠some t/\t<1000:=fun t ht=>⟨I.r2 t ZU,I.s2 t ZU,hS.src i a I.ha t ht⟩;have Abwd:Agree cx b (e.upd a.dst u) e:=Ey shu (hS.dst i a I.ha) hbo (fun q=>by
   cases hw:(az cx a).wl with
   |false=>rfl
   |true=>obtain⟨q1,q2⟩:=I.l1 hw;grind) (fun q=>by
   constructor
   ·cases hw:(az cx a).ad with
    |false=>rfl
    |true=>have:=I.g2 hw;grind
   ·cases hw:(az cx a).dr with
    |false=>rfl
    |true=>have:=(I.g1 hw).1;grind)
  have hgb:∀t∈gF ops b,e.get t=(e.upd a.dst u).get t:=fun t ht=>by
   have htr:t∈dZ ops j:=by rw[hrb];simp[ht]
   exact (oh shu (I.r1 t htr) (I.s1 t htr) (hS.reads I.hb t htr)).symm
  -- the second, after the first
  cases hrj:fX cx base ops j (e.upd a.dst u) h1 with
  |fail=>trivial
  | pan v h2=>
   have hj:=iU (base:=base) I.hb hgb Abwd (h:=h1) (by rw[hrj];simp);rw[hrj]at hj
   -- j leaves: so it may write, and i did not touch the heap
   have hwb:(az cx b).wh=true:=by
    cases hw:(az cx b).wh with
    |true=>rfl
    |false=>exact absurd hj ((mj (p:=@eK) (fun _ g=>g.read) (fun _ f g=>g.bnd f) I.hb ((gH hI e _ b).read hw)).stay _ _ _)
   have hwa:(az cx a).wh=false:=by
    cases hw:(az cx a).wh with
    |false=>rfl
    |true=>have:=(I.h1 hw).2;grind
   have hh:h1=h:=by
    have hR:eK (fX cx base ops i e):=mj (p:=@eK) (fun _ g=>g.read) (fun _ f g=>g.bnd f) I.ha ((gH hI e _ a).read hwa);rcases hR h with hx|⟨u',hx⟩<;>rw[hri]at hx<;>cases hx;rfl
   subst hh;rw[hj];exact rfl
  | ok v h2=>
   have hj:=iU (base:=base) I.hb hgb Abwd (h:=h1) (by rw[hrj];simp);rw[hrj]at hj;have shv:=tt I.hb hj
   have Afwd:Agree cx a e (e.upd b.dst v):=by
     by_cases hla:(az cx b).wl=true/\(az cx a).rl=true
     ·rcases I.l2 hla.2 with hw|⟨⟨t,p,ho⟩,⟨t',ho'⟩,hgd⟩
      ·grind
      ·have hr':d8 (gS cx e ((base+j)*1000) b) h1= .ok v h2:=by
        have:=hj
        unfold fX at this;rw[I.hb]at this;simp only[hgd]at this;exact this
       exact zo shv ho ho' (hS.dst j b I.hb) hao hr'
     exact wq shv (hS.dst j b I.hb) hao (fun q=>by
    cases hw:(az cx b).wl with
    |false=>rfl
    | true=>
     exfalso;cases hrl:(az cx a).rl with
     |true=>grind
     |false=>
      rw[hrl]at q;have hwl:(az cx a).wl=true:=by simpa using q
      have:=(I.l1 hwl).2
      grind) (fun q=>⟨(I.g1 q).2,(I.g1 q).1⟩)
   have hga:∀t∈gF ops a,(e.upd b.dst v).get t=e.get t:=fun t ht=>by
    have htr:t∈dZ ops i:=by rw[hra];simp[ht]
    exact oh shv (I.r2 t htr) (I.s2 t htr) (hS.reads I.ha t htr)
   have hcomm:EqE ((e.upd a.dst u).upd b.dst v) ((e.upd b.dst v).upd a.dst u):=by
    have hgij:(base+i)*1000≠(base+j)*1000:=ZS
    cases hwb:(az cx b).wl with
    |false=>
     exact vG shu shv hwb (hS.dst j b I.hb) I.c3 I.c1 hgij I.g1 I.g2 (fun q q'=>(I.g3 q q').1)
    | true=>
     have hwa:(az cx a).wl=false:=by
      cases hw:(az cx a).wl with
      |false=>rfl
      |true=>have:=(I.l1 hw).2;grind
     refine (vG shv shu hwa (hS.dst i a I.ha) (fun t ht hh=>I.c3 t hh ht) (fun t ht hh=>I.c2 t hh ht) (Ne.symm hgij) (fun q=>⟨?_,?_⟩) (fun q=>?_) (fun q q'=>?_)).symm
     ·cases hw:(az cx a).dr with
      |false=>rfl
      |true=>have:=(I.g1 hw).1;grind
     ·cases hw:(az cx a).ad with
      |false=>rfl
      |true=>have:=I.g2 hw;grind
     ·cases hw:(az cx a).dr with
      |false=>rfl
      |true=>have:=(I.g1 hw).2;grind
     ·have:=(I.g3 q' q).2;grind
   cases hwa:(az cx a).wh with
   | false=>
    have hR:eK (fX cx base ops i e):=mj (p:=@eK) (fun _ g=>g.read) (fun _ f g=>g.bnd f) I.ha ((gH hI e _ a).read hwa);have hh:h1=h:=by
     rcases hR h with hx|⟨u',hx⟩<;>rw[hri]at hx<;>cases hx;rfl
    subst hh;rw[hj];simp only;have hi2:fX cx base ops i e h2= .ok u h2:=by
     cases hra':(az cx a).rh with
     |false=>
      obtain⟨q,hq⟩:bA (fX cx base ops i e):=mj (p:=@bA) (fun _ g=>g) (fun _ f g=>g.bnd f) I.ha ((gH hI e _ a).pure hwa hra');rw[hq]at hri |-;cases q with
      |none=>cases hri
      |some u'=>cases hri;rfl
     | true=>
      rcases I.h2 hra' with hwb|hnw
      case inr=>
       have hNw:zh (fX cx base ops j e):=mj (p:=@zh) (fun _ g=>g.nw) (fun _ f g=>g.bnd f) I.hb ((gH hI e _ b).nw hnw);have hAp:nc (fX cx base ops i e)/\eK (fX cx base ops i e):=mj (p:=fun m=>nc m/\eK m) (fun _ g=>⟨g.app,g.read⟩) (fun _ f g=>nc.bnd g f) I.ha ((gH hI e _ a).app hwa);obtain⟨t,rfl⟩:=hNw _ _ _ hj;exact hAp.1 _ t _ hri
      have hRb:eK (fX cx base ops j e):=mj (p:=@eK) (fun _ g=>g.read) (fun _ f g=>g.bnd f) I.hb ((gH hI e _ b).read hwb);rcases hRb h1 with hx|⟨u',hx⟩<;>rw[hj]at hx<;>cases hx;exact hri
    rw[iU I.ha hga Afwd (by rw[hi2];simp),hi2];exact⟨_,rfl,hcomm⟩
   | true=>
    obtain⟨hrb',hwb⟩:=I.h1 hwa;obtain⟨q,hq⟩:bA (fX cx base ops j e):=mj (p:=@bA) (fun _ g=>g) (fun _ f g=>g.bnd f) I.hb ((gH hI e _ b).pure hwb hrb');rw[hq]at hj |-;cases q with
    |none=>cases hj
    |some u'=>
     cases hj;simp only[bP];rw[iU I.ha hga Afwd (by rw[hri];simp),hri];exact⟨_,rfl,hcomm⟩
theorem KS(hI:IsoPure cx)(hS:Small ops){i:Nat}(q:List Nat):∀(p:List Nat),(∀x∈p,p8 cx ops x i=true/\x≠i)->∀(e:Env)(h:Hp),RE (bj cx base ops (p++i:: q) e h) (bj cx base ops (i:: (p++q)) e h)
 |[],_,e,h=>RE.refl _
 | x:: p,hp,e,h=>by
  have ih:=fun e h=>KS hI hS q p (fun y hy=>hp y (by simp[hy])) e h;have h1:RE (bj cx base ops (x:: (p++i:: q)) e h) (bj cx base ops (x:: i:: (p++q)) e h):=by
   simp only[bj,au]at ih |-;cases stepG cx base ops x e h with
   |ok e' h'=>exact ih e' h'
   |pan v h'=>exact rfl
   |fail=>trivial
  refine h1.trans ?_;have e1:bj cx base ops (x:: i:: (p++q)) e=au (au (stepG cx base ops x e) (stepG cx base ops i)) (bj cx base ops (p++q)):=by rw[jr];rfl
  have e2:bj cx base ops (i:: x:: (p++q)) e=au (au (stepG cx base ops i e) (stepG cx base ops x)) (bj cx base ops (p++q)):=by rw[jr];rfl
  show RE (bj cx base ops (x:: i:: (p++q)) e h) (bj cx base ops (i:: x:: (p++q)) e h);simp_all[RE.bind,swap,qq]
end
end
omit [Dr]in
theorem Ir{a b:Option (Nat×Bool)}(h:Eh a b=true):a=b:=by
 unfold Eh at h;split at h
 all_goals simp_all
def j9(gs:List (Option (Nat×Bool)×List Nat)):List Nat:=gs.flatMap (·.2)
section
omit [Dr]
theorem lG(ops:Array Oper):∀l:List Nat,j9 (eP ops l)=l/\∀g∈eP ops l,∀i∈g.2,guardOf ops i=g.1
 |[]=>⟨rfl,by simp[eP]⟩
 | i :: is=>by
  obtain⟨h1,h2⟩:=lG ops is;simp only[eP];cases hg:eP ops is with
  |nil=>
   rw[hg]at h1;have:is=[]:=by simpa [j9]using h1.symm
   subst this;exact⟨rfl,ZV⟩
  | cons x r=>
   obtain⟨g,js⟩:=x;rw[hg]at h1 h2;simp only;cases hs:Eh (guardOf ops i) g with
   | true=>
    refine⟨?_,fun y hy=>?_⟩
    ·simp_all[j9]
    ·simp only[Xw,X7]at hy;rcases hy with rfl|hy
     ·intro k hk;simp only[X7]at hk;rcases hk with rfl|hk
      ·exact Ir hs
      simp_all
     grind
   |false=>
    refine⟨?_,fun y hy=>?_⟩
    ·simp_all[j9]
    grind
theorem zV{ρ:Type}(e:Env)(d:Option Tmp)(A:Act1)(k:Env->M ρ):pP e d A k=au (d8 A) fun u=>k (e.upd d u):=by
 cases A with
 |bad=>rfl
 |stat u=>rfl
 |dyn m sh=>grind [pP,d8,jr,aj]
 |thr v=>rfl
theorem EF{α β:Type}{m:M α}{f g:α->M β}{h:Hp}(hfg:∀u h',m h= .ok u h'->f u h'=g u h'):au m f h=au m g h:=by
 grind [au]
end
section
variable {cx:Cx} {ops:Array Oper} {base:Nat}
section
omit [Dr]
theorem Ex{i:Nat}{o:Oper}(ho:ops[i]? = some o)(hg:guardOf ops i=none)(e:Env):fX cx base ops i e=d8 (gS cx e ((base+i)*1000) o):=by
 simp_all[guardOf,fX]
theorem qI{i j t:Nat}{want:Bool}{o:Oper}(ho:ops[i]? = some o)(hg:guardOf ops i=some (j,want))(hj:dI ops j=some t)(hp:gI cx o=true)(e:Env):
  fX cx base ops i e=mZ (e.av t) want (d8 (jX (gS cx e ((base+i)*1000) o))):=by
 simp_all[guardOf,fX]
theorem A6{ρ:Type}:∀(is:List Nat)(e:Env)(k:Env->M ρ)(_:∀i∈is,guardOf ops i=none),lr cx base ops false is e k=au (bj cx base ops is e) k
 |[],e,k,_=>rfl
 | i:: is,e,k,hg=>by
  simp only[lr,bj];unfold stepG;cases ho:ops[i]? with
  |none=>unfold fX;rw[ho];rfl
  |some o=>
   simp only;rw[zV,Ex ho (hg i ZV),jr,jr];have hd:dI ops i=o.dst:=by simp[dI,ho]
   rw[hd];congr 1;funext u;simp only[aj];exact A6 is _ k fun j hj=>hg j (by simp[hj])
end
structure Turned (ds:List Nat) (e e':Env):Prop where
 get:∀t,t ∉ ds->e'.get t=e.get t
 al:e'.al=e.al
 lb:e'.lb=e.lb
 lf:∀B,aT e.sl B=true->aT e'.sl B=true
 ng:∀t∈ds,(e'.get t).g=none
section
omit [Dr]
theorem Turned.step{ds:List Nat}{e e':Env}(H:Turned ds e e'){u:Upd}{d:Option Nat}(hls:u.ls=[])(hadd:u.add=[])(hdrop:u.drop=none)(hlb:u.lb=none)(hunlb:u.unlb=none)(hg:u.ent.g=none)(hloc:∀C off,u.ent.v= .loc C off->∃t off',(e'.get t).v= .loc C off'):Turned (d.toList++ds) e (e'.upd d u):=by
 have hget:∀t,(e'.upd d u).get t=if d=some t then u.ent else e'.get t:=fun t=>by rw[cL,hls];rfl
 refine⟨fun t ht=>?_,?_,?_,fun B hB=>?_,fun t ht=>?_⟩
 ·simp only[Ya,not_or,Option.mem_toList]at ht;rw[hget,Xr ht.1];exact H.get t ht.2
 ·show u.add++fZ e'.al u.drop=e.al;rw[hadd,hdrop];exact H.al
 ·show nn (eZ e'.lb u.unlb) u.lb=e.lb;rw[hlb,hunlb];exact H.lb
 ·have h1:=H.lf B hB;show aT (qw d u.ent (u.ls++e'.sl)) B=true;rw[hls,eT,X1,h1,Yz];have:od u.ent B=true:=by
   unfold od;split
   ·rename_i C off hv;obtain⟨t,off',ht⟩:=hloc C off hv
    have:=mN h1 ht
    simp_all[YA]
   ·rfl
  grind
 ·rw[hget];split
  ·exact hg
  ·rename_i hd;simp only[Ya,Option.mem_toList]at ht;rcases ht with ht|ht
   ·grind
   ·exact H.ng t ht
theorem Turned.refl(e:Env):Turned [] e e:=⟨fun _ _=>rfl,rfl,rfl,fun _ h=>h,fun t h=>by simp at h⟩
theorem Turned.sub{ds ds':List Nat}{e e':Env}(H:Turned ds e e')(h:∀t,t∈ds↔t∈ds'):Turned ds' e e':=
 ⟨fun t ht=>H.get t fun hh=>ht ((h t).1 hh),H.al,H.lb,H.lf,fun t ht=>H.ng t ((h t).2 ht)⟩
end
structure GroupOk (cx:Cx) (ops:Array Oper) (j:Nat) (want:Bool) (t:Nat) (is:List Nat):Prop where
 hj:dI ops j=some t
 each:∀i∈is,∃o,ops[i]? = some o/\guardOf ops i=some (j,want)/\gI cx o=true
 nt:t ∉ dM ops is
section
omit [Dr]
theorem lp(i:Nat)(is:List Nat):∀t,t∈dM ops (i:: is)↔dI ops i=some t\/t∈dM ops is:=by
 simp_all[dM]
theorem GroupOk.tail{j:Nat}{want:Bool}{t i:Nat}{is:List Nat}(G:GroupOk cx ops j want t (i:: is)):GroupOk cx ops j want t is:=
 ⟨G.hj,fun k hk=>G.each k (by simp[hk]),fun h=>G.nt ((lp i is t).2 (.inr h))⟩
theorem GroupOk.ne{j:Nat}{want:Bool}{t i:Nat}{is:List Nat}(G:GroupOk cx ops j want t (i:: is)):dI ops i≠some t:=fun h=>G.nt ((lp i is t).2 (.inl h))
theorem mV{A:Act1}{h h':Hp}{u:Upd}(hr:d8 (jX A) h= .ok u h'):∃u0,d8 A h= .ok u0 h'/\u=jl u0:=by
 grind [rN]
theorem xz{ρ:Type}{j:Nat}{want:Bool}{t:Nat}:∀(is:List Nat)(e:Env)(k:Env->M ρ)(h:Hp),GroupOk cx ops j want t is->e.av t= .bool want->lr cx base ops true is e k h=au (bj cx base ops is e) k h
 |[],e,k,h,_,_=>rfl
 |i:: is,e,k,h,G,hc=>by
  obtain⟨o,ho,hg,hp⟩:=G.each i ZV;have hd:dI ops i=o.dst:=by simp[dI,ho]
  simp only[lr,bj,ho,Xw];rw[zV];unfold stepG;rw[qI ho hg G.hj hp,hc,jr,jr];simp only[mZ,X0,Xw,aj,hd];refine EF fun u h' hu=>?_;obtain⟨u0,hu0,rfl⟩:=mV hu;refine xz is _ k h' G.tail ?_;have:(e.upd o.dst (jl u0)).get t=e.get t:=by rw[cL,Xr (by rw[<- hd];exact G.ne)];rfl
  simp only[Env.av,this];exact hc
theorem qB{j:Nat}{want:Bool}{t:Nat}:∀(is:List Nat)(e e':Env)(h h':Hp),GroupOk cx ops j want t is->e.av t= .bool want->bj cx base ops is e h= .ok e' h'->Turned (dM ops is) e e':=by
 have key:∀(is:List Nat)(e0 e e':Env)(ds:List Nat)(h h':Hp),GroupOk cx ops j want t is->e.av t= .bool want->Turned ds e0 e->bj cx base ops is e h= .ok e' h'->Turned (dM ops is++ds) e0 e':=by
  intro is
  induction is with
  |nil=>
   intro e0 e e' ds h h' _ _ H hr;cases hr;exact H
  | cons i is ih=>
   intro e0 e e' ds h h' G hc H hr;obtain⟨o,ho,hg,hp⟩:=G.each i ZV;have hd:dI ops i=o.dst:=by simp[dI,ho]
   simp only[bj]at hr;unfold stepG at hr;rw[qI ho hg G.hj hp,hc,jr]at hr;simp only[mZ,X0,Xw,hd,au]at hr;cases hx:d8 (jX (gS cx e ((base+i)*1000) o)) h with
   |fail=>grind
   |pan v hh=>grind
   | ok u hh=>
    rw[hx]at hr;simp only at hr;obtain⟨u0,hu0,rfl⟩:=mV hx;have hsh:=nY (om cx e ((base+i)*1000) o) hu0;simp only[gI,Xu,XW]at hp;have H2:=H.step (u:=jl u0) (d:=o.dst) rfl rfl rfl rfl rfl rfl (hsh.loc hp.1);refine (ih e0 _ e' _ hh h' G.tail ?_ H2 hr).sub fun s=>?_
    ·have:(e.upd o.dst (jl u0)).get t=e.get t:=by rw[cL,Xr (by rw[<- hd];exact G.ne)];rfl
     grind [Env.av]
    grind [lp]
 intro is e e' h h' G hc hr;exact (key is e e e' [] h h' G hc (.refl e) hr).sub ZV
end
def Off(c:AV)(want:Bool):Prop:=c= .tup []\/∃b,c= .bool b/\(b== want)=false
omit [Dr]in
theorem Off.look{c:AV}{want:Bool}(h:Off c want)(m:M Upd):mZ c want m=ao (.ofV (.tup [])):=by
 rcases h with rfl|⟨b,rfl,hb⟩
 ·rfl
 ·simp only[mZ,hb,XD]
omit [Dr]in
theorem Ke{j:Nat}{want:Bool}{t:Nat}:∀(is:List Nat)(e:Env)(h:Hp),GroupOk cx ops j want t is->Off (e.av t) want->∃e',bj cx base ops is e h= .ok e' h/\Turned (dM ops is) e e'/\∀s∈dM ops is,e'.get s=⟨.val (.tup []),none⟩:=by
 have key:∀(is:List Nat)(e0 e:Env)(ds:List Nat)(h:Hp),GroupOk cx ops j want t is->Off (e.av t) want->Turned ds e0 e->(∀s∈ds,e.get s=⟨.val (.tup []),none⟩)->
   ∃e',bj cx base ops is e h= .ok e' h/\Turned (dM ops is++ds) e0 e'/\∀s∈dM ops is++ds,e'.get s=⟨.val (.tup []),none⟩:=by
  intro is
  induction is with
  |nil=>exact fun e0 e ds h _ _ H hds=>⟨e,rfl,H,hds⟩
  | cons i is ih=>
   intro e0 e ds h G hc H hds;obtain⟨o,ho,hg,hp⟩:=G.each i ZV;have hd:dI ops i=o.dst:=by simp[dI,ho]
   have hget:∀s,(e.upd o.dst (.ofV (.tup []))).get s=if o.dst=some s then⟨.val (.tup []),none⟩else e.get s:=fun s=>by rw[cL];rfl
   have H2:=H.step (u:=.ofV (.tup [])) (d:=o.dst) rfl rfl rfl rfl rfl rfl (fun C off hh=>by cases hh);have hav:(e.upd o.dst (.ofV (.tup []))).av t=e.av t:=by
    have:(e.upd o.dst (.ofV (.tup []))).get t=e.get t:=by rw[hget,Xr (by rw[<- hd];exact G.ne)]
    simp only[Env.av,this]
   obtain⟨e',h1,h2,h3⟩:=ih e0 (e.upd o.dst (.ofV (.tup []))) (o.dst.toList++ds) h G.tail ZU H2 (fun s hs=>by
    grind)
   have hiff:∀s,s∈dM ops is++(o.dst.toList++ds)↔s∈dM ops (i:: is)++ds:=fun s=>by
    grind [lp]
   refine⟨e',?_,h2.sub hiff,fun s hs=>h3 s ((hiff s).2 hs)⟩;simp only[bj];unfold stepG;rw[qI ho hg G.hj hp,hc.look,hd];exact h1
 intro is e h G hc;obtain⟨e',h1,h2,h3⟩:=key is e e [] h G hc (.refl e) ZV
 grind
end
section
variable {cx:Cx} {ops:Array Oper} {base:Nat}
structure Rel (ops:Array Oper) (L:List Nat) (e2 e:Env):Prop where
 get:∀t,e2.get t=e.get t\/(e2.get t=Ent.none/\t<1000/\∀i∈L,t ∉ dZ ops i)
 al:∀g,aP e2.al g=aP e.al g
 lb:∀B,ba e2.lb B=ba e.lb B
 lf:∀B,aT e2.sl B=true->aT e.sl B=true
section
omit [Dr]
theorem Rel.refl(ops:Array Oper)(L:List Nat)(e:Env):Rel ops L e e:=⟨fun _=>.inl rfl,fun _=>rfl,fun _=>rfl,fun _ h=>h⟩
theorem Rel.sub{L L':List Nat}{e2 e:Env}(H:Rel ops L e2 e)(h:∀i∈L',i∈L):Rel ops L' e2 e:=
 ⟨fun t=>(H.get t).imp id fun⟨h1,h2,h3⟩=>⟨h1,h2,fun i hi=>h3 i (h i hi)⟩,H.al,H.lb,H.lf⟩
theorem Rel.read{L:List Nat}{e2 e:Env}(H:Rel ops L e2 e){i t:Nat}(hi:i∈L)(ht:t∈dZ ops i):e.get t=e2.get t:=by
 rcases H.get t with h|⟨_,_,h⟩
 all_goals grind
theorem Rel.agree{L:List Nat}{e2 e:Env}(H:Rel ops L e2 e){i:Nat}{o:Oper}(hi:i∈L)(ho:ops[i]? = some o):Agree cx o e2 e:=by
 refine⟨fun t ht=>H.read hi (by rw[jg ho];simp[ht]),fun _=>.inl ⟨fun t ht=>?_,fun B=>(H.lb B).symm⟩,fun _ g=>(H.al g).symm,fun _ s _ hl=>H.lf _ hl⟩;rcases H.get t with h|⟨_,h,_⟩
 all_goals grind
theorem Rel.upd{L:List Nat}{e2 e:Env}(H:Rel ops L e2 e)(d:Option Tmp)(u:Upd):Rel ops L (e2.upd d u) (e.upd d u):=by
 refine⟨fun t=>?_,fun g=>?_,fun B=>?_,fun B hB=>?_⟩
 ·rw[cL,cL];split
  ·exact .inl rfl
  ·rw[l5,l5];split
   ·exact .inl rfl
   ·exact H.get t
 ·show aP (u.add++fZ e2.al u.drop) g=aP (u.add++fZ e.al u.drop) g;have:aP (fZ e2.al u.drop) g=aP (fZ e.al u.drop) g:=by
   cases u.drop with
   |none=>exact H.al g
   |some k=>simp only[fZ,np,H.al g]
  rw[gd,gd,this]
 ·show ba (nn (eZ e2.lb u.unlb) u.lb) B=ba (nn (eZ e.lb u.unlb) u.lb) B;have:ba (eZ e2.lb u.unlb) B=ba (eZ e.lb u.unlb) B:=by
   cases u.unlb with
   |none=>exact H.lb B
   |some k=>simp only[eZ,qa,H.lb B]
  cases u.lb with
  |none=>exact this
  |some x=>
   grind [nn,eQ]
 ·have hB':aT (qw d u.ent (u.ls++e2.sl)) B=true:=hB;show aT (qw d u.ent (u.ls++e.sl)) B=true;rw[eT,gq]at hB' |-;simp only[Xu]at hB' |-;exact⟨hB'.1,hB'.2.1,H.lf B hB'.2.2⟩
theorem Rel.run:∀(is:List Nat){L:List Nat}{e2 e:Env}(_:Rel ops L e2 e)(_:∀i∈is,i∈L)(h:Hp),bj cx base ops is e2 h≠.fail->
  (∃e2' e' h',bj cx base ops is e2 h= .ok e2' h'/\bj cx base ops is e h= .ok e' h'/\Rel ops L e2' e')\/∃v h',bj cx base ops is e2 h= .pan v h'/\bj cx base ops is e h= .pan v h'
 |[],L,e2,e,H,_,h,_=>.inl ⟨e2,e,h,rfl,rfl,H⟩
 | i:: is,L,e2,e,H,hL,h,hr=>by
  simp only[bj]at hr |-;unfold stepG at hr |-;simp only[au,ao]at hr |-;cases hx:fX cx base ops i e2 h with
  |fail=>grind
  | _ =>
   have ho:∃o,ops[i]? = some o:=by
    cases ho:ops[i]? with
    |none=>unfold fX at hx;rw[ho]at hx;cases hx
    |some o=>grind
   obtain⟨o,ho⟩:=ho;have hi:=hL i ZV;have hy:fX cx base ops i e h=fX cx base ops i e2 h:=iU ho (fun t ht=>H.read hi (by rw[jg ho];simp[ht])) (H.agree hi ho) (by rw[hx];simp);rw[hy,hx]
   first
    | rw[hx]at hr
      exact Rel.run is (H.upd _ _) (fun k hk=>hL k (by simp[hk])) _ hr
    |exact .inr ⟨_,_,rfl,rfl⟩
theorem ub(e:Env):∀(ds:List Nat)(t:Nat),(forget e ds).get t=if t∈ds then Ent.none else e.get t
 |[],t=>by simp[forget]
 | d:: ds,t=>by
  show cD ((d,Ent.none):: (forget e ds).sl) t=_;rw[dx];by_cases hd:d=t
  ·subst hd;simp
  ·rw[Xr hd]
   have:=ub e ds t
   grind [Env.get]
theorem r7(e:Env):∀(ds:List Nat),(forget e ds).al=e.al/\(forget e ds).lb=e.lb/\∀B,aT (forget e ds).sl B=aT e.sl B
 |[]=>⟨rfl,rfl,fun _=>rfl⟩
 |_d:: ds=>r7 e ds
theorem sG(e:Env)(f:Nat->AV):∀(outs:List Nat)(pre:List AV)(t:Nat),(iL e (pre++outs.map f) pre.length outs).get t=if t∈outs then⟨.val (f t),none⟩else e.get t
 |[],pre,t=>by simp[iL]
 | d:: ds,pre,t=>by
  show cD ((d,⟨.val (ab (pre++(d:: ds).map f) pre.length),none⟩):: (iL e (pre++(d:: ds).map f) (pre.length+1) ds).sl) t=_;rw[dx];have hn:ab (pre++(d:: ds).map f) pre.length=f d:=by simp[ab]
  by_cases hd:d=t
  ·grind
  ·rw[Xr hd]
   have:=sG e f ds (pre++[f d]) t
   grind [Env.get]
theorem qv(e:Env)(vs:List AV):∀(outs:List Nat)(i:Nat),(iL e vs i outs).al=e.al/\(iL e vs i outs).lb=e.lb/\∀B,aT (iL e vs i outs).sl B=aT e.sl B
 |[],_i=>⟨rfl,rfl,fun _=>rfl⟩
 |_d:: ds,i=>qv e vs ds (i+1)
theorem C0(gs:List (Option (Nat×Bool)×List Nat))(t:Nat):CZ ops gs t=true↔∃i∈j9 gs,t∈dZ ops i:=by
 grind [CZ,j9,iH]
theorem Rel.close{is:List Nat}{gs:List (Option (Nat×Bool)×List Nat)}{e2 e e':Env}(H:Rel ops (is++j9 gs) e2 e)(hS:Small ops)(T:Turned (dM ops is) e e'){vs:List AV}{f:Nat->AV}(hvs:vs=(ez ops is gs).map f)(hf:∀t∈ez ops is gs,e'.get t=⟨.val (f t),none⟩\/(f t= .any/\t<1000/\∀i∈j9 gs,t ∉ dZ ops i)):Rel ops (j9 gs) (iL (forget e2 (dM ops is)) vs 0 (ez ops is gs)) e':=by
 have hr:=qv (forget e2 (dM ops is)) vs (ez ops is gs) 0;have hr2:=r7 e2 (dM ops is);refine⟨fun t=>?_,fun g=>?_,fun B=>?_,fun B hB=>?_⟩
 ·have hg:=sG (forget e2 (dM ops is)) f (ez ops is gs) [] t;simp only[X1,Yi]at hg;rw[hvs,hg];split
  ·rename_i ht;rcases hf t ht with h|⟨h1,h2,h3⟩
   ·grind
   ·exact .inr ⟨by rw[h1];rfl,h2,h3⟩
  ·rename_i ht;rw[ub];split
   ·rename_i hd;refine .inr ⟨rfl,?_,fun i hi hti=>ht ?_⟩
    ·unfold dM at hd;simp only[Za]at hd;obtain⟨i,hi,hd⟩:=hd;unfold dI at hd;cases hoi:ops[i]? with
     |none=>grind
     |some o=>rw[hoi]at hd;exact hS.dst i o hoi t hd
    grind [ez,C0]
   ·rename_i hd;rw[T.get t hd];rcases H.get t with h|⟨h1,h2,h3⟩
    all_goals grind
 ·rw[hr.1,hr2.1,T.al];exact H.al g
 ·rw[hr.2.1,hr2.2.1,T.lb];exact H.lb B
 ·rw[hr.2.2,hr2.2.2]at hB;exact T.lf B (H.lf B hB)
theorem ve(l m:List Nat):∀e:Env,bj cx base ops (l++m) e=au (bj cx base ops l e) (bj cx base ops m):=by
 induction l with
 |nil=>intro e;rfl
 |cons i l ih=>
  intro e;show au (stepG cx base ops i e) (bj cx base ops (l++m))=au (au (stepG cx base ops i e) (bj cx base ops l)) (bj cx base ops m);rw[jr];congr 1
  grind
theorem JE{x:Ent}(h1:po x=true)(h2:x.g=none):x=⟨.val x.av,none⟩:=by
 obtain⟨v,g⟩:=x;cases v with
 |val a=>simp only at h2;subst h2;rfl
 |loc B off=>cases h1
theorem lX{ρ:Type}(hS:Small ops):∀(gs:List (Option (Nat×Bool)×List Nat))(e2 e:Env)(k:Env->M ρ)(h:Hp),(∀g∈gs,∀i∈g.2,guardOf ops i=g.1)->Rel ops (j9 gs) e2 e->fN cx base ops gs e2 k h≠.fail->
  (∃e2' e' h',fN cx base ops gs e2 k h=k e2' h'/\bj cx base ops (j9 gs) e h= .ok e' h'/\Rel ops [] e2' e')\/∃v h',fN cx base ops gs e2 k h= .pan v h'/\bj cx base ops (j9 gs) e h= .pan v h'
 |[],e2,e,k,h,_,H,_=>.inl ⟨e2,e,h,rfl,rfl,H⟩
 | (none,is):: gs,e2,e,k,h,hg,H,hr=>by
  have hg0:∀i∈is,guardOf ops i=none:=hg (none,is) ZV;have hfl:j9 ((none,is):: gs)=is++j9 gs:=rfl;rw[hfl]at H |-;rw[ve];simp only[fN]at hr |-;rw[A6 is e2 _ hg0]at hr |-;simp only[au]at hr |-;have hr2:bj cx base ops is e2 h≠.fail:=fun hf=>ZU
  rcases H.run (base:=base) (cx:=cx) is (fun i hi=>by simp[hi]) h hr2 with⟨e2',e',h',h1,h2,H'⟩|⟨v,h',h1,h2⟩
  ·rw[h1]at hr |-;rw[h2];exact lX hS gs e2' e' k h' (fun g hgg=>hg g (by simp[hgg])) (H'.sub fun i hi=>by simp[hi]) hr
  grind
 | (some (j,want),is):: gs,e2,e,k,h,hg,H,hr=>by
  have hg0:∀i∈is,guardOf ops i=some (j,want):=hg (some (j,want),is) ZV;have hfl:j9 ((some (j,want),is):: gs)=is++j9 gs:=rfl;rw[hfl]at H |-;rw[ve];simp only[fN]at hr |-;cases hdj:dI ops j with
  |none=>rw[hdj]at hr;exact absurd rfl hr
  | some t=>
   rw[hdj]at hr;simp only at hr |-;revert hr;cases hc:((is.all fun i=>match ops[i]? with|some o=>gI cx o&&o.dst.isSome|none=>false)&&!(dP (dM ops is) t))with
   |false=>intro hr;exact absurd rfl hr
   | true=>
    intro hr;simp only[Xw]at hr |-;simp only[Xu,XW,XJ]at hc;have G:GroupOk cx ops j want t is:=by
     refine⟨hdj,fun i hi=>?_,fun ht=>?_⟩
     ·grind
     ·rw[(iH _ _).2 ht]at hc
      grind
    have htr:∀i∈is,t∈dZ ops i:=fun i hi=>by
     obtain⟨o,ho,hgi,_⟩:=G.each i hi;rw[jg ho];have:o.guard=some (j,want):=by simpa [guardOf,ho]using hgi
     have:t∈gF ops o:=by
      unfold gF;rw[this];simp only;rw[show (ops[j]?).bind (·.dst)=some t from hdj];simp
     simp[this]
    -- the guard says yes
    cases is with
    | nil=>
     have hrn:∀e,bj cx base ops [] e=ao e:=fun _=>rfl;rw[hrn,aj];have ho:ez ops [] gs=[]:=rfl;have hd:dM ops []=[]:=rfl;rw[ho,hd]at hr |-;have hpure:∀ {q:AV} {m:M (List AV)},m h= .ok [] h->aK q want ([]:List Nat).length m h≠.fail->aK q want ([]:List Nat).length m h= .ok [] h:=by
      intro q m hm hne;cases q with
      |bool b=>
       simp only[aK];cases b== want with
       |true=>exact hm
       |false=>rfl
      |tup vs=>
       cases vs with
       |nil=>rfl
       |cons v vs=>exact absurd rfl hne
      |_=>exact absurd rfl hne
     simp only[au]at hr |-;have hp:=hpure (q:=e2.av t) (m:=lr cx base ops true [] e2 fun e'=>bif ([]:List Nat).all (fun t=>po (e'.get t))then ao (([]:List Nat).map e'.av)else gU) rfl (fun hf=>ZU);rw[hp]at hr |-;exact lX hS gs e2 e k h (fun g hgg=>hg g (by simp[hgg])) (H.sub fun i hi=>by simp[hi]) hr
    |cons i0 is0=>
    have hav:e.av t=e2.av t:=by
     have:=H.read (i:=i0) ZV (htr i0 ZV)
     simp only[Env.av,this]
    generalize hiseq:i0:: is0=is at *;have hoff:Off (e2.av t) want->(aK (e2.av t) want (ez ops is gs).length (lr cx base ops true is e2 fun e'=>bif (ez ops is gs).all (fun t=>po (e'.get t))then ao ((ez ops is gs).map e'.av)else gU))=ao (List.replicate (ez ops is gs).length (.tup [])):=by
     rintro (hq|⟨b,hq,hb⟩)
     ·rw[hq];rfl
     ·rw[hq];simp only[aK,hb,XD]
    have hcase:Off (e2.av t) want\/e2.av t= .bool want:=by
     cases hq:e2.av t with
     |bool b=>
      cases hb:(b== want)with
      |true=>grind
      |false=>exact .inl (.inr ⟨b,rfl,hb⟩)
     |tup vs=>
      cases vs with
      |nil=>exact .inl (.inl rfl)
      |cons v vs=>rw[hq]at hr;exact absurd rfl hr
     |_=>rw[hq]at hr;exact absurd rfl hr
    rcases hcase with ho|hy
    ·rw[hoff ho,aj]at hr |-;obtain⟨e',h1,T,h2⟩:=Ke (base:=base) is e h G ZU;simp only[au];rw[h1];refine lX hS gs _ e' k h (fun g hgg=>hg g (by simp[hgg])) (H.close hS T (f:=fun _=>.tup []) ?_ fun s hs=>.inl ?_) hr
     all_goals grind [List.map_const',ez]
    ·rw[hy]at hr |-;simp only[aK,X0,Xw,au]at hr |-;rw[xz is e2 _ h G hy]at hr |-;simp only[au]at hr |-;have hr2:bj cx base ops is e2 h≠.fail:=fun hf=>ZU
     rcases H.run (base:=base) (cx:=cx) is (fun i hi=>by simp[hi]) h hr2 with⟨e2',e',h',h1,h2,H'⟩|⟨v,h',h1,h2⟩
     ·rw[h1]at hr |-;rw[h2];simp only at hr |-;have T2:=qB is e2 e2' h h' G hy h1;have T:=qB is e e' h h' G ZU h2;cases hv:(ez ops is gs).all (fun t=>po (e2'.get t))with
      |false=>rw[hv]at hr;exact absurd rfl hr
      |true=>
       rw[hv]at hr;simp only[Xw,ao]at hr |-;refine lX hS gs _ e' k h' (fun g hgg=>hg g (by simp[hgg])) (H.close hS T (f:=e2'.av) rfl fun s hs=>?_) hr;have hsd:s∈dM ops is:=by unfold ez at hs;exact (List.mem_filter.1 hs).1
       have hval:=JE (XJ.1 hv s hs) (T2.ng s hsd);rcases H'.get s with h3|⟨h3,h4,h5⟩
       ·left;rw[<- h3];exact hval
       ·right;exact⟨by simp only[Env.av,h3];rfl,h4,fun i hi=>h5 i (by simp[hi])⟩
     grind
end
end
omit [Dr]in
theorem mO(acc:List Nat):∀(es:List Edge)(x:Nat),(lH acc es).testBit x=true↔∃e∈es,Region.binds .any e=true/\(e.on=x\/(acc.getD e.on 0).testBit x=true)
 |[],x=>by simp[lH]
 | e:: es,x=>by
  simp only[lH];cases hb:Region.binds .any e with
  |false=>
   simp only[XD,mO acc es x,X7]
   grind
  |true=>
   simp only[Xw,Nat.testBit_or,Yj,mO acc es x,X7,Nat.testBit_two_pow,Xt]
   grind
omit [Dr]in
theorem wA:∀(os:List Oper)(acc:List Nat),∃r:List Nat,BH os acc=acc++r/\r.length=os.length/\∀(k:Nat)(o:Oper),os[k]? = some o->r[k]? = some (lH (acc++r.take k) o.after.toList)
 |[],acc=>⟨[],by simp[BH],rfl,ZV⟩
 | o:: os,acc=>by
  obtain⟨r,h1,h2,h3⟩:=wA os (acc++[lH acc o.after.toList]);refine⟨lH acc o.after.toList:: r,by simp[BH,h1],by simp[h2],fun k o' ho=>?_⟩;cases k with
  |zero=>grind
  |succ k=>
   grind
section
variable {ops:Array Oper}
def oD(ops:Array Oper):List Nat:=BH ops.toList []
omit [Dr]in
theorem Gs{j:Nat}{o:Oper}(ho:ops[j]? = some o):(oD ops).length=ops.size/\(oD ops).getD j 0=lH ((oD ops).take j) o.after.toList:=by
 obtain⟨r,h1,h2,h3⟩:=wA ops.toList []
 grind [oD]
omit [Dr]in
theorem EE{listed:Nat->Prop}(hcl:∀(j:Nat)(o:Oper),ops[j]? = some o->listed j->∀e∈o.after.toList,Region.binds .any e=true->listed e.on):
  ∀(j:Nat)(o:Oper),ops[j]? = some o->(∀e∈o.after.toList,Region.binds .any e=true->listed e.on)->∀x,((oD ops).getD j 0).testBit x=true->listed x:=by
 intro j
 induction j using Nat.strongRecOn with
 | _ j ih=>
  intro o ho hl x hx;obtain⟨hlen,hget⟩:=Gs ho;rw[hget,mO]at hx;obtain⟨e,he,hb,hx|hx⟩:=hx
  ·grind
  ·by_cases hj:e.on<j
   ·have hjs:j<ops.size:=(YF.1 ho).1;have hos:ops[e.on]? = some ops[e.on]:=Y7 ZS;have h1:((oD ops).take j).getD e.on 0=(oD ops).getD e.on 0:=by
     rw[Yg,Yg,YX,Xv hj]
    grind
   grind
def Gh(cx:Cx)(ops:Array Oper)(i j:Nat):Prop:=((oD ops).getD i 0).testBit j=false/\(((oD ops).getD j 0).testBit i=true\/p8 cx ops i j=true)
omit [Dr]in
theorem sx{cx:Cx}:∀ {l:List Nat},mR cx ops (oD ops) l=true->l.Pairwise (Gh cx ops)/\∀i∈l,((oD ops).getD i 0).testBit i=false
 |[],_=>⟨.nil,ZV⟩
 |i:: l,h=>by
  simp only[mR,Xu,XW,XJ,Yj]at h;obtain⟨⟨h1,h2⟩,h3⟩:=h;obtain⟨h4,h5⟩:=sx h3;refine⟨.cons (fun j hj=>h2 j hj) h4,fun k hk=>?_⟩
  grind
omit [Dr]in
theorem nC:∀ {l:List Nat},distinct l=true->l.Nodup
 |[],_=>.nil
 |i:: l,h=>by
  simp only[distinct,Xu,XW]at h;refine List.nodup_cons.2 ⟨fun hi=>?_,nC h.2⟩;rw[(iH _ _).2 hi]at h
  grind
variable {P:Program} {cx:Cx} {c:Entry} {N base:Nat}
theorem zQ(hT:TOK P cx.T)(hC:dD P cx.own cx.call)(hI:IsoPure cx)(hO:OpsOk N cx ops)(hS:Small ops)(hbit:∀i x,((oD ops).getD i 0).testBit x=true->x<ops.size)(hself:∀i,i<ops.size->((oD ops).getD i 0).testBit i=false){Q:Exit->Act->World->Prop}:∀(n:Nat)(rest:List Nat)(listed:Array Bool)(D:List Nat)(e:Env)(h:Hp)(a:Act)(w:World),rest.length=n->listed.size=ops.size->rest.Nodup->
  (∀i,i∈rest↔i<ops.size/\listed.getD i true=false)->(∀i∈rest,i ∉ D)->(∀i∈D,i<ops.size)->
  (∀(j:Nat)(o:Oper),ops[j]? = some o->listed.getD j false=true->∀e∈o.after.toList,Region.binds .any e=true->listed.getD e.on false=true)->rest.Pairwise (Gh cx ops)->
  fU c N (UD base D) e h a w->bj cx base ops rest e h≠.fail->
  (∀e0 e' h' a' w',bj cx base ops rest e h= .ok e0 h'->EqE e0 e'->fU c N (UR base ops.size) e' h' a' w'->a'.defers=a.defers->Q .normal a' w')->
  (∀pv h' v w' a',bj cx base ops rest e h= .pan pv h'->oW c pv h' v w'->a'.defers=a.defers->Q (.panic [{ v,recovered:=false }]) a' w')->wpAny P .any ops Q n listed a w
 |0,rest,listed,D,e,h,a,w,hlen,hsz,hnd,hmem,hdis,hD,hcl,hpw,H,hr,hn,hp=>by
  have:rest=[]:=XH hlen;subst this;refine⟨?_,hn e e h a w rfl (.refl e) (H.wider (KF hD)) rfl⟩;refine List.eq_nil_iff_forall_not_mem.2 fun i hi=>?_
  grind [mem_ready]
 | n + 1,rest,listed,D,e,h,a,w,hlen,hsz,hnd,hmem,hdis,hD,hcl,hpw,H,hr,hn,hp=>by
  have hgd:∀i,i<ops.size->listed.getD i true=listed.getD i false:=fun i hi=>by
   grind
  refine⟨fun hemp=>?_,fun i hi=>?_⟩
  ·exfalso;cases rest with
   |nil=>simp at hlen
   | cons r0 tl=>
    have hr0:=(hmem r0).1 ZV;have hor:ops[r0]? = some ops[r0]:=Y7 hr0.1;have:r0∈Region.ready .any ops listed:=by
     refine mem_ready.2 ⟨hr0.2,_,hor,fun ed hed hb=>?_⟩;have hbt:((oD ops).getD r0 0).testBit ed.on=true:=by
      rw[(Gs hor).2,mO];exact⟨ed,by simpa using hed,hb,.inl rfl⟩
     have hlt:=hbit r0 ed.on hbt;cases hl:listed.getD ed.on false with
     |true=>rfl
     | false=>
      have hin:=(hmem ed.on).2 ⟨hlt,ZU⟩;simp only[X7]at hin;rcases hin with hin|hin
      ·grind
      ·have:=(List.pairwise_cons.1 hpw).1 ed.on hin
       rw[this.1]at hbt;cases hbt
    grind
  ·obtain⟨h0,o,ho,hall⟩:=mem_ready.1 hi;have hlt:i<ops.size:=(YF.1 ho).1;have hin:=(hmem i).2 ⟨hlt,h0⟩;obtain⟨p,q,rfl⟩:=List.append_of_mem hin;have hnd':=hnd;rw[ZA]at hnd';have hni:i ∉ p++q:=by
    intro hm;rw[Ya]at hm;rcases hm with hm|hm
    ·grind
    ·grind
   have hclo:=EE (ops:=ops) (listed:=fun j=>listed.getD j false=true) (fun j o ho hj ed hed hb=>hcl j o ho hj ed hed hb) i o ho (fun ed hed hb=>hall ed (by simpa using hed) hb);have hfront:∀x∈p,p8 cx ops x i=true/\x≠i:=by
    intro x hx;have hpr:=(List.pairwise_append.1 hpw).2.2 x hx i ZV;refine⟨?_,fun hxi=>hni ZU⟩;rcases hpr.2 with h1|h1
    ·grind
    ·exact h1
   have hRE:=KS (base:=base) hI hS q p hfront e h;have hr':bj cx base ops (i:: (p++q)) e h≠.fail:=by
    intro hf;rw[hf]at hRE;cases hx:bj cx base ops (p++i:: q) e h with
    |fail=>exact hr hx
    |ok e0 h0=>rw[hx]at hRE;obtain⟨_,h1,_⟩:=hRE;cases h1
    |pan v h0=>rw[hx]at hRE;cases hRE
   simp only[bj,au]at hr';have hstep:∀ {r:R Env},bj cx base ops (i:: (p++q)) e h=r->bj cx base ops (i:: (p++q)) e h=r:=fun h=>h;simp only[bj,au]at hRE;refine vz hT hC hO (hdis i hin) H (fun hf=>ZU) (fun e1 h1 a1 w1 hst hs hdf=>?_) (fun pv h1 v w1 hst hps=>?_)
   ·rw [hst]at hr' hRE;simp only at hr' hRE;refine zQ hT hC hI hO hS hbit hself n (p++q) (listed.setIfInBounds i true) (i:: D) e1 h1 a1 w1 ?_ (by simp[hsz]) ?_ (fun k=>?_) (fun k hk=>?_) (fun k hk=>?_) (fun k o' ho' hk ed hed hb=>?_) ?_ hs hr' (fun e0 e' h' a' w' hok heq hsat hdf'=>?_) (fun pv h' v w' a' hok hps hdf'=>?_)
    ·grind
    ·grind
    ·have hset:k≠i->(listed.setIfInBounds i true).getD k true=listed.getD k true:=fun hk=>by
      simp_all[Ne.symm]
     constructor
     ·grind
     ·rintro⟨h1,h2⟩;have hki:k≠i:=by
       rintro rfl;rw[Yt,Array.getElem?_setIfInBounds_self]at h2;rw[Xv ZS]at h2;simp at h2
      grind
    ·grind
    ·grind
    ·have hmono:∀x,listed.getD x false=true->(listed.setIfInBounds i true).getD x false=true:=fun x hx=>getD_set_true hx;by_cases hki:k=i
     ·grind
     ·refine hmono _ (hcl k o' ho' ?_ ed hed hb);simp_all[Ne.symm]
    ·grind
    ·rw[hok]at hRE;cases hx:bj cx base ops (p++i:: q) e h with
     |fail=>grind
     |ok ex hx'=>
      rw[hx]at hRE;obtain⟨e0',h2,h3⟩:=hRE;cases h2;exact hn ex e' _ a' w' hx (h3.trans heq) hsat (hdf'.trans hdf)
     |pan v h0=>rw[hx]at hRE;cases hRE
    ·rw[hok]at hRE;cases hx:bj cx base ops (p++i:: q) e h with
     |fail=>grind
     |ok ex hx'=>rw[hx]at hRE;obtain⟨_,h1,_⟩:=hRE;cases h1
     |pan v0 h0=>
      rw[hx]at hRE;cases hRE
      grind
   ·rw[hst]at hRE;cases hx:bj cx base ops (p++i:: q) e h with
    |fail=>grind
    |ok ex hx'=>rw[hx]at hRE;obtain⟨_,h1,_⟩:=hRE;cases h1
    |pan v0 h0=>
     rw[hx]at hRE;cases hRE
     grind
end
structure IsoCall (cx:Cx):Prop where
 iso:∀f args,cx.iso f=true->∃x:Option (Bool×AV),∀h,cx.call f args h=(match x with|none=>.fail|some (true,v)=>.ok v h|some (false,v)=>.pan v h)
 nw:∀f args,cx.nw f=true->zh (cx.call f args)
omit [Dr]in
theorem IsoCall.draw{cx:Cx}(h:IsoCall cx):IsoPure (gM cx):=by
 refine⟨?_,fun f args hf=>?_⟩
 case refine_2=>
  have hn:=h.nw f args hf;show zh (bif cx.iso f then dz (cx.call f args)else cx.call f args);cases cx.iso f with
  |false=>exact hn
  |true=>
   intro hp v h' hh;simp only[Xw,dz]at hh;cases hq:cx.call f args hp with
   |ok a b=>rw[hq]at hh;cases hh;exact hn _ _ _ hq
   |pan a b=>grind
   |fail=>grind
 intro f args hf;have hf':cx.iso f=true:=hf;obtain⟨x,hx⟩:=h.iso f args hf';refine⟨match x with|some (true,v)=>some v|_=>none,?_⟩;show (bif cx.iso f then dz (cx.call f args)else cx.call f args)=_;rw[hf'];funext hp;simp only[Xw,dz,hx];rcases x with _|⟨b,v⟩
 ·rfl
 ·cases b<;>rfl
theorem dD.draw{P:Program}{cx:Cx}(h:dD P cx.own cx.call):dD P (gM cx).own (gM cx).call:=by
 intro f args hp S β w vs hr hg hw hh hv;have hcall:(gM cx).call f args hp=(bif cx.iso f then dz (cx.call f args) hp else cx.call f args hp):=by
  show (bif cx.iso f then dz (cx.call f args)else cx.call f args) hp=_;cases cx.iso f<;>rfl
 rw[hcall]at hr |-
 have key:∀r,r=cx.call f args hp->r≠.fail->Calls P f vs.toArray w (fg ((gM cx).own f) S β hp w r)/\(P.funcs[f]?).any (fun fn=>fn.body.isSome&&!(fn.name== "runtime.NumGoroutine"))=true:=by
  intro r hr1 hr2;subst hr1;exact h f args hp S β w vs hr2 hg hw hh hv
 cases hi:cx.iso f with
 |false=>grind
 |true=>
  rw[hi]at hr;simp only[Xw,dz]at hr |-
  grind
def m8(c:Entry)(N:Nat)(e:Env)(h:Hp)(a:Act)(w:World):Prop:=fU c N (fun g=>g<e.nx*1000) e h a w
theorem fU.rel{c:Entry}{N:Nat}{U:Nat->Prop}{e2 e:Env}{h:Hp}{a:Act}{w:World}{ops:Array Oper}(H:fU c N U e h a w)(R:Rel ops [] e2 e):fU c N U e2 h a w:=by
 obtain⟨S,β,γ,lam,ω,F⟩:=H;refine⟨S,β,γ,lam,ω,F.weak (fun t=>?_) (fun t g hg=>?_) (fun g z hz=>by rw[R.al]at hz;exact hz) (fun B n hB=>by rw[R.lb]at hB;exact hB)⟩
 ·rcases R.get t with h|⟨h1,h2,_⟩
  ·grind
  ·exact .inr ⟨by rw[h1];rfl,h2⟩
 ·rcases R.get t with h|⟨h1,_⟩
  ·grind
  ·rw[h1]at hg;cases hg
theorem fU.eqE{c:Entry}{N:Nat}{U:Nat->Prop}{e2 e:Env}{h:Hp}{a:Act}{w:World}(H:fU c N U e h a w)(R:EqE e e2):fU c N U e2 h a w:=by
 obtain⟨S,β,γ,lam,ω,F⟩:=H;exact⟨S,β,γ,lam,ω,F.weak (fun t=>.inl (by rw[R.get])) (fun t g hg=>by rw[R.get]at hg;exact hg) (fun g z hz=>by rw[R.al]at hz;exact hz) (fun B n hB=>by rw[R.lb]at hB;exact hB)⟩
theorem fU.nx{c:Entry}{N:Nat}{U:Nat->Prop}{e:Env}{h:Hp}{a:Act}{w:World}(n:Nat)(H:fU c N U e h a w):fU c N U { e with nx:=n } h a w:=by
 obtain⟨S,β,γ,lam,ω,F⟩:=H;exact⟨S,β,γ,lam,ω,F.weak (fun t=>.inl rfl) (fun t g hg=>hg) (fun g z hz=>hz) (fun B n hB=>hB)⟩
section
variable {P:Program} {cx:Cx} {c:Entry} {e:Env} {h:Hp} {a:Act} {w:World} {ops:Array Oper} {id:Nat}
omit [Dr]in
theorem vU{n:Nat}(hn:n<=1000)(hd:lO n ops=true)(hk:∀p,Fh (dl cx.ann.kinds p .L)=true->p<n):OpsOk n cx ops/\Small ops:=by
 unfold lO at hd;rw[Array.all_eq_true_iff_forall_mem]at hd;have h1:∀(i:Nat)(o:Oper),ops[i]? = some o->(∀t,o.dst=some t->t<n)/\∀t∈ic o,t<1000:=by
  intro i o ho
  have:=hd o (Array.mem_of_getElem? ho)
  simp only[Xu,XJ,Xt]at this;refine⟨fun t ht=>?_,this.2⟩;have h2:=this.1;rw[ht]at h2;simpa using h2
 refine⟨⟨fun i o ho=>(h1 i o ho).1,fun i o ho x hx t hxt=>(h1 i o ho).2 t ?_,hk⟩,⟨fun i o ho t ht=>Nat.lt_of_lt_of_le ((h1 i o ho).1 t ht) hn,fun i o ho=>(h1 i o ho).2⟩⟩;subst hxt;exact Za.2 ⟨_,hx,rfl⟩
theorem FF{ρ:Type}(hT:TOK P cx.T)(hC:dD P cx.own cx.call)(hI:IsoCall cx)(hk:∀p,Fh (dl cx.ann.kinds p .L)=true->p<cx.nt){draw:Bool}{k:Env->M ρ}(H:m8 c cx.nt e h a w)(hr:rU cx id ops draw e k h≠.fail){Q:Exit->Act->World->Prop}(hn:∀e' h' a' w',rU cx id ops draw e k h=k e' h'->m8 c cx.nt e' h' a' w'->a'.defers=a.defers->Q .normal a' w')(hp:∀pv h' v w' a',rU cx id ops draw e k h= .pan pv h'->oW c pv h' v w'->a'.defers=a.defers->Q (.panic [{ v,recovered:=false }]) a' w'):
  (Code.region id ops draw).wp P Q a w:=by
 have hN:cx.nt<=1000:=by obtain⟨S,β,γ,lam,ω,F⟩:=H;exact F.tsz.2
 have H0:fU c cx.nt (UD e.nx []) e h a w:=H.wider fun g hg=>.inl hg;unfold rU at hr hn hp;cases hds:lO cx.nt ops with
 |false=>rw[hds]at hr;exact absurd rfl hr
 | true=>
  obtain⟨hO,hS⟩:=vU (cx:=cx) hN hds hk;rw[hds]at hr hn hp;simp only[Xw]at hr hn hp;cases draw with
  | false=>
   simp only[XD]at hr hn hp;obtain⟨hfl,hgs⟩:=lG ops (List.range ops.size);refine wp_region (xB hT hC hO (List.range ops.size) [] e h a w List.nodup_range ZV H0 ?_ ?_ ?_)
   all_goals
    have hseq:=lX (cx:=cx) (base:=e.nx) hS (eP ops (List.range ops.size)) e e _ h hgs (.refl ops _ e) hr;rw[hfl]at hseq
   ·rcases hseq with⟨_,_,_,_,h2,_⟩|⟨_,_,_,h2⟩<;>rw[h2]<;>simp
   ·intro e' h' a' w' hok hsat hdf;rcases hseq with⟨e2',e'',h'',h1,h2,hR⟩|⟨_,_,_,h2⟩
    ·rw[h2]at hok;cases hok;refine hn _ _ a' w' h1 (fU.nx _ ((hsat.wider (KF ?_)).rel hR)) hdf;intro i hi;simpa using hi
    ·rw[h2]at hok;cases hok
   ·intro pv h' v w' a' hok hps hdf;rcases hseq with⟨e2',e'',h'',h1,h2,hR⟩|⟨_,_,h1,h2⟩
    ·rw[h2]at hok;cases hok
    ·rw[h2]at hok;cases hok;exact hp _ _ v w' a' h1 hps hdf
  | true=>
   simp only[Xw]at hr hn hp;generalize xu cx id ops.size=ord at hr hn hp;cases hdo:pf cx ops ord with
   |false=>rw[hdo]at hr;exact absurd rfl hr
   | true=>
    rw[hdo]at hr hn hp;simp only[Xw]at hr hn hp;simp only[pf,HY,Xu,XJ,Xt]at hdo;obtain⟨⟨⟨⟨⟨hlen,hmem⟩,hdist⟩,hlt⟩,hbits⟩,hpairs⟩:=hdo;have hlen':ord.length=ops.size:=Nat.eq_of_beq_eq_true hlen;obtain⟨hpw,hself⟩:=sx (cx:=cx) (ops:=ops) hpairs;have hpw':ord.Pairwise (Gh (gM cx) ops):=hpw;have hO':OpsOk cx.nt (gM cx) ops:=⟨hO.dst,hO.src,hO.kin⟩;obtain⟨hfl,hgs⟩:=lG ops ord;have hseq:=lX (cx:=gM cx) (base:=e.nx) hS (eP ops ord) e e _ h hgs (.refl ops _ e) hr;rw[hfl]at hseq;refine wp_region_draw fun t=>?_;have hsch:Region.schedule (P.follows .mixedOrders) ops t=Region.linearise .any ops t:=by
     simp only[Region.schedule,hT.mix,ZI,XF]
    rw[hsch];have hmem':∀i,i∈ord↔i<ops.size:=fun i=>⟨fun hi=>hlt i hi,fun hi=>(iH _ _).1 (hmem i (by simpa using hi))⟩;refine wpAny_sound ops.size t _ a _ (zQ (cx:=gM cx) (c:=c) (N:=cx.nt) (base:=e.nx) hT hC.draw hI.draw hO' hS ?_ ?_ ops.size ord (Array.replicate ops.size false) [] e h a w.drew hlen' ZV (nC hdist) ?_ ZV ZV ?_ hpw' ?_ ?_ ?_ ?_)
    ·intro i x hx;rcases XT x ops.size with h'|h'
     ·exact h'
     ·have hm:(oD ops).getD i 0<2 ^ ops.size:=by
       rw[Yg];cases hi:(oD ops)[i]? with
       |none=>grind
       |some m=>exact hbits m (X8 hi)
      grind [Nat.testBit_lt_two_pow,Nat.lt_of_lt_of_le,Nat.pow_le_pow_right]
    ·grind
    ·simp_all
    ·intro j o ho hj;exfalso;rw[Yt,Array.getElem?_replicate]at hj
     grind
    ·obtain⟨S,β,γ,lam,ω,F⟩:=H0;exact⟨S,β,γ,lam,ω,F.drew⟩
    ·grind
    ·intro e0 e' h' a' w' hok heq hsat hdf;rcases hseq with⟨e2',e'',h'',h1,h2,hR⟩|⟨_,_,_,h2⟩
     ·rw[h2]at hok;cases hok;exact hn _ _ a' w' h1 (fU.nx _ ((hsat.eqE heq.symm).rel hR)) hdf
     grind
    grind
end
section
variable {P:Program} {cx:Cx} {c:Entry} {e:Env} {h:Hp} {a:Act} {w:World} {ops:Array Oper} {id:Nat}
theorem FR.two{N:Nat}{U:Nat->Prop}{S:aD}{β:List cE}{γ:Nat->Value}{lam:Nat->Option Nat}{ω:Nat->Owner}(F:FR c N U e h a w S β γ lam ω){d q:Nat}(hd:d<N)(hq:q<N)(v:Value)(b:Bool):
  FR c N U ((e.set d Ent.none).set q ⟨.val (.bool b),none⟩) h ((a.put (some d) v).put (some q) (.bool b)) w S β γ lam ω:=by
 have F1:=F.setV (d:=some d) (r:=.any) (v:=v) (fun t ht=>ZU) (by simp[VR]);exact F1.setV (d:=some q) (r:=.bool b) (v:=.bool b) (fun t ht=>ZU) (by simp[VR])
theorem CN{ρ:Type}(hT:TOK P cx.T)(hC:dD P cx.own cx.call)(hI:IsoCall cx)(hk:∀p,Fh (dl cx.ann.kinds p .L)=true->p<cx.nt){draw:Bool}{k:Env->M ρ}(H:m8 c cx.nt e h a w)(hr:qT cx id ops draw e k h≠.fail){Q:Exit->Act->World->Prop}(hn:∀e' h' a' w',qT cx id ops draw e k h=k e' h'->m8 c cx.nt e' h' a' w'->a'.defers=a.defers->Q .normal a' w')(hp:∀pv h' v w' a',qT cx id ops draw e k h= .pan pv h'->oW c pv h' v w'->a'.defers=a.defers->Q (.panic [{ v,recovered:=false }]) a' w'):
  (Code.region id ops draw).wp P Q a w:=FF hT hC hI hk H hr hn hp
end
section
omit [Dr]
theorem mQ{e:Env}:∀(l:List (Nat×Option Nat))(used:List Nat)(vs:List AV),jH e l used=some vs->vs.length=l.length/\
  (∀(i:Nat)(t:Nat)(z:Option Nat),l[i]? = some (t,z)->∃a,vs[i]? = some a/\(e.get t).v= .val a/\∀sz,z=some sz->∃g z0,(e.get t).g=some g/\aP e.al g=some z0/\(z0=none\/z0=some sz)/\g ∉ used)/\
  ∀(i j:Nat)(t t' sz sz':Nat),i<j->l[i]? = some (t,some sz)->l[j]? = some (t',some sz')->(e.get t).g≠(e.get t').g
 |[],used,vs,h=>by
  simp only[jH,Xq]at h
  grind
 | (t,none):: r,used,vs,h=>by
  simp only[jH]at h;split at h
  ·rename_i a ha;split at h
   ·rename_i vs' hvs;simp only[Xq]at h;subst h;obtain⟨h1,h2,h3⟩:=mQ r used vs' hvs;refine⟨by simp[h1],fun i t' z hi=>?_,fun i j t1 t2 sz1 sz2 hij hi hj=>?_⟩
    ·grind
    ·cases i with
     |zero=>simp at hi
     |succ i=>
      cases j with
      |zero=>omega
      |succ j=>grind
   ·cases h
  ·cases h
 | (t, some sz):: r,used,vs,h=>by
  simp only[jH]at h;split at h
  ·rename_i a g ha hg;split at h
   ·cases h
   ·rename_i z0 hz0;have hcond:y9 z0 (some sz)=true/\dP used g=false/\(match jH e r (g:: used)with|some vs=>some (a:: vs)|none=>none)=some vs:=by
     cases hm:dP used g with
     |true=>
      grind
     | false=>
      rw[hm]at h;cases z0 with
      |none=>exact⟨rfl,rfl,h⟩
      |some n=>
       simp only at h;cases hb:Nat.beq n sz with
       |true=>rw[hb]at h;exact⟨hb,rfl,h⟩
       |false=>grind
    obtain⟨hc1,hc2,h⟩:=hcond;have hc:=And.intro hc1 hc2
    ·split at h
     ·rename_i vs' hvs;simp only[Xq]at h;subst h;have hgu:g ∉ used:=fun hm=>by
       rw[(iH _ _).2 hm]at hc
       grind
      have hz:z0=none\/z0=some sz:=by
       cases z0 with
       |none=>exact .inl rfl
       |some n=>grind [Nat.eq_of_beq_eq_true]
      obtain⟨h1,h2,h3⟩:=mQ r (g:: used) vs' hvs;refine⟨by simp[h1],fun i t' z hi=>?_,fun i j t1 t2 sz1 sz2 hij hi hj=>?_⟩
      ·cases i with
       |zero=>
        grind
       |succ i=>
        obtain⟨a',k1,k2,k3⟩:=h2 i t' z (by simpa using hi);refine⟨a',by simpa using k1,k2,fun sz' hsz=>?_⟩;obtain⟨g',z',m1,m2,m3,m4⟩:=k3 sz' hsz
        grind
      ·cases i with
       | zero=>
        cases j with
        |zero=>omega
        |succ j=>
         simp only[List.getElem?_cons_zero,Xq,Ym]at hi
         grind
       |succ i=>
        cases j with
        |zero=>omega
        |succ j=>grind
     ·cases h
  ·cases h
theorem m7(vs:List AV)(r:List (Nat×Ent))(t:Nat):∀(l:List (Nat×Option Nat))(k:Nat),
  (∃(i:Nat)(z:Option Nat),l[i]? = some (t,z)/\cD (dK vs k l++r) t=⟨.val (ab vs (k+i)),z.map fun _=>k+i⟩)\/
  ((∀(i:Nat)(z:Option Nat),l[i]? ≠some (t,z))/\cD (dK vs k l++r) t=cD r t)
 |[],k=>.inr ⟨ZV,rfl⟩
 | (s,z):: l,k=>by
  have hh:dK vs k ((s,z):: l)=(s,⟨.val (ab vs k),z.map fun _=>k⟩):: dK vs (k+1) l:=by cases z<;>rfl
  rw[hh,Yk,dx];by_cases hs:s=t
  ·subst hs;rw[Xv rfl];exact .inl ⟨0,z,rfl,rfl⟩
  ·rw[Xr hs];rcases m7 vs r t l (k+1)with⟨i,z',h1,h2⟩|⟨h1,h2⟩
   ·refine .inl ⟨i+1,z',by simpa using h1,?_⟩
    grind
   grind
theorem jx:∀(l:List (Nat×Option Nat))(k g:Nat)(y:Option Nat),aP (mf k l) g=some y->∃(i t sz:Nat),l[i]? = some (t,some sz)/\g=k+i/\y=some sz
 |[],k,g,y,h=>by simp[mf,aP]at h
 |(s,none):: l,k,g,y,h=>by
  obtain⟨i,t,sz,h1,h2,h3⟩:=jx l (k+1) g y h;exact⟨i+1,t,sz,by simpa using h1,ZS,h3⟩
 | (s,some n):: l,k,g,y,h=>by
  simp only[mf,dc]at h;split at h
  ·rename_i hk;simp only[Xq]at h;exact⟨0,s,n,rfl,ZS,h.symm⟩
  ·obtain⟨i,t,sz,h1,h2,h3⟩:=jx l (k+1) g y h;exact⟨i+1,t,sz,by simpa using h1,ZS,h3⟩
theorem re(t:Nat):∀(l:List (Nat×Nat×Nat)),(∃B off,(t,B,off)∈l/\cD (l.map fun x=>(x.1,(⟨.loc x.2.1 x.2.2,none⟩:Ent))) t=⟨.loc B off,none⟩)\/cD (l.map fun x=>(x.1,(⟨.loc x.2.1 x.2.2,none⟩:Ent))) t=Ent.none
 |[]=>.inr rfl
 | (s,B,off):: l=>by
  rw[Yf,dx];by_cases hs:s=t
  ·grind
  ·rw[Xr hs];rcases re t l with⟨B',off',h1,h2⟩|h
   all_goals grind
theorem uE{e:Env}:∀ {l:List (Nat×Nat×Nat)},uD e l=true->∀t B off,(t,B,off)∈l->(e.get t).v= .loc B off
 |[],_,t,B,off,h=>by simp at h
 | (s,B0,off0):: l,h,t,B,off,hm=>by
  simp only[uD,Xu]at h;simp only[X7,Ym]at hm;rcases hm with⟨rfl,rfl,rfl⟩|hm
  ·have h1:=h.1;split at h1
   all_goals simp_all
  ·exact uE h.2 t B off hm
theorem xd{e:Env}:∀ {l:List (Nat×Nat)},AC e l=true->∀B n,ba l B=some n->ba e.lb B=some n
 |[],_,B,n,h=>by simp[ba]at h
 |(B0,n0):: l,h,B,n,hm=>by
  simp only[AC,Xu]at h;rw[eQ]at hm;split at hm
  ·grind [Nat.eq_of_beq_eq_true]
  ·exact xd h.2 B n hm
end
section
variable {c:Entry} {N:Nat} {e:Env} {h:Hp} {a:Act} {w:World}
open Classical in
theorem ze{ja:JA}{vs:List AV}(H:m8 c N e h a w)(hp:pack ja e=some vs):m8 c N (unpack ja vs) h a w:=by
 obtain⟨S,β,γ,lam,ω,F⟩:=H;unfold pack at hp;cases hlo:(uD e ja.locs&&AC e ja.lbs)with
 |false=>grind
 | true=>
  rw[hlo]at hp;simp only[Xw]at hp;simp only[Xu]at hlo;obtain⟨hlen,hval,hdis⟩:=mQ ja.vals [] vs hp
  -- the groups carried
  let gOf:Nat->Option Nat:=fun i=>match ja.vals[i]? with|some (t,some _)=>(e.get t).g|_=>none
  have hg1:∀i t sz,ja.vals[i]? = some (t,some sz)->∃g z0,gOf i=some g/\(e.get t).g=some g/\aP e.al g=some z0/\(z0=none\/z0=some sz):=by
   intro i t sz hi;obtain⟨a',_,_,h3⟩:=hval i t (some sz) hi;obtain⟨g,z0,k1,k2,k3,_⟩:=h3 sz rfl;refine⟨g,z0,?_,k1,k2,k3⟩;show (match ja.vals[i]? with|some (t,some _)=>(e.get t).g|_=>none)=some g;rw[hi];exact k1
  have hg2:∀i j g,gOf i=some g->gOf j=some g->i=j:=by
   have hex:∀i g,gOf i=some g->∃t sz,ja.vals[i]? = some (t,some sz)/\(e.get t).g=some g:=by
    intro i g hi;have hi':(match ja.vals[i]? with|some (t,some _)=>(e.get t).g|_=>none)=some g:=hi;split at hi'
    ·grind
    ·cases hi'
   intro i j g hi hj;obtain⟨t,sz,k1,k2⟩:=hex i g hi;obtain⟨t',sz',m1,m2⟩:=hex j g hj;rcases Nat.lt_trichotomy i j with hlt|heq|hlt
   ·grind
   ·exact heq
   ·grind
  let γ':Nat->Value:=fun i=>match gOf i with|some g=>γ g|none=>undef
  let ω':Nat->Owner:=fun b=>match ω b with
   |.grp g=>if hx:∃i,gOf i=some g then .grp (Classical.choose hx)else .no
   |o=>o
  have hωg:∀b g i,ω b= .grp g->gOf i=some g->ω' b= .grp i:=by
   intro b g i hb hi;show (match ω b with|.grp g=>if hx:∃i,gOf i=some g then Owner.grp (Classical.choose hx)else .no|o=>o)= .grp i;rw[hb];simp only;have hx:∃i,gOf i=some g:=⟨i,hi⟩;rw[dif_pos hx,hg2 _ _ g (Classical.choose_spec hx) hi]
  have hωo:∀b,(∀g,ω b≠.grp g)->ω' b=ω b:=by
   intro b hb;show (match ω b with|.grp g=>if hx:∃i,gOf i=some g then Owner.grp (Classical.choose hx)else .no|o=>o)=ω b;cases ho:ω b with
   |grp g=>grind
   |_=>rfl
  have hωn:∀b,ω' b≠.no->ω b≠.no:=by
   intro b hb ho;refine hb ?_;rw[hωo b (fun g hg=>ZU),ho]
  have hωx:∀b g,ω' b= .grp g->∃g',ω b= .grp g':=by
   intro b g hg;cases ho:ω b with
   |grp g'=>grind
   |_=>grind
  -- the slots
  have hget:∀t,(∃(i:Nat)(z:Option Nat)(a':AV),ja.vals[i]? = some (t,z)/\(e.get t).v= .val a'/\(unpack ja vs).get t=⟨.val a',z.map fun _=>i⟩)\/(∃B off,(e.get t).v= .loc B off/\(unpack ja vs).get t=⟨.loc B off,none⟩)\/(unpack ja vs).get t=Ent.none:=by
   intro t;have hu:(unpack ja vs).get t=cD (dK vs 0 ja.vals++ja.locs.map fun x=>(x.1,(⟨.loc x.2.1 x.2.2,none⟩:Ent))) t:=rfl;rcases m7 vs (ja.locs.map fun x=>(x.1,(⟨.loc x.2.1 x.2.2,none⟩:Ent))) t ja.vals 0 with⟨i,z,h1,h2⟩|⟨h1,h2⟩
   ·obtain⟨a',k1,k2,_⟩:=hval i t z h1;refine .inl ⟨i,z,a',h1,k2,?_⟩;rw[hu,h2,XI]
    grind [ab]
   ·grind [re,uE]
  have hgg:∀t g,((unpack ja vs).get t).g=some g->∃sz,ja.vals[g]? = some (t,some sz):=by
   intro t g hg;rcases hget t with⟨i,z,a',h1,_,h3⟩|⟨_,_,_,h3⟩|h3
   ·rw[h3]at hg;cases z with
    |none=>simp at hg
    |some sz=>grind
   ·grind
   ·rw[h3]at hg;cases hg
  have hγ:∀t g,((unpack ja vs).get t).g=some g->∃g0 z0,(e.get t).g=some g0/\aP e.al g0=some z0/\γ' g=γ g0:=by
   intro t g hg;obtain⟨sz,h1⟩:=hgg t g hg;obtain⟨g0,z0,k1,k2,k3,_⟩:=hg1 g t sz h1;refine⟨g0,z0,k2,k3,?_⟩;show (match gOf g with|some g=>γ g|none=>undef)=γ g0;rw[k1]
  refine⟨S,β,γ',lam,ω',⟨F.wf,F.gro,F.keep,F.le,F.ext,F.hlen,fun l cs hl hcs=>?_,F.tsz,fun t ht=>?_,fun t g z ht hg hz=>?_,fun B n hB=>?_,fun g z hz=>?_,fun b hb=>⟨(F.mine b (hωn b hb)).1.imp (fun hE=>⟨hE.1,fun g hg=>ZU⟩) id,(F.mine b (hωn b hb)).2⟩,fun t g hg=>?_,fun g z hz=>?_⟩⟩
  ·rcases F.heap l cs hl hcs with⟨b,x,h1,h2,h3,h4⟩|⟨b,h1,h3,h4⟩
   all_goals grind
  ·have hs:=F.slots t ht
   grind [Ent.none,iq,VR]
  ·obtain⟨g0,z0,k1,k2,k3⟩:=hγ t g hg;rw[k3];exact F.grps t g0 z0 ht k1 k2
  ·obtain⟨k1,k2,k3,b,x,k4,k5,k6,k7,k8⟩:=F.lblk B n (xd hlo.2 B n hB);refine⟨k1,k2,k3,b,x,k4,k5,ZU,k7,fun i hi=>?_⟩;obtain⟨v,a',m1,m2,m3,m4⟩:=k8 i hi;have hgr:∀g z,((unpack ja vs).get (B+i)).g=some g->aP (unpack ja vs).al g=some z->v=γ' g:=by
    intro g z hg _;obtain⟨g0,z0,p1,p2,p3⟩:=hγ _ g hg;rw[p3];exact m4 g0 z0 p1 p2
   rcases hget (B+i)with⟨j,z,a2,_,h2,h3⟩|⟨B',off,h2,h3⟩|h3
   ·grind
   ·grind
   ·exact⟨v,.any,m1,by rw[h3];rfl,by simp[VR],hgr⟩
  ·obtain⟨i,t,sz,h1,h2,h3⟩:=jx ja.vals 0 g z hz;rw[XI]at h2;subst h2;obtain⟨g0,z0,k1,k2,k3,k4⟩:=hg1 g t sz h1;have hγ':γ' g=γ g0:=by
    show (match gOf g with|some g=>γ g|none=>undef)=γ g0;rw[k1]
   rw[hγ'];obtain⟨ad,len,cap,m1,m2,m3,m4⟩:=F.free g0 z0 k3;refine⟨ad,len,cap,m1,m2,m3,m4.imp id ?_⟩
   grind
  ·obtain⟨sz,h1⟩:=hgg t g hg;have:g<ja.vals.length:=by
    rcases XT g ja.vals.length with h|h
    ·exact h
    ·grind
   show g<ja.vals.length*1000;omega
  ·obtain⟨i,t,sz,h1,h2,h3⟩:=jx ja.vals 0 g z hz;have:i<ja.vals.length:=by
    rcases XT i ja.vals.length with h|h
    ·exact h
    ·grind
   show g<ja.vals.length*1000;omega
omit [Dr]in
theorem JL(d:Nat)(h:Hp):frz d h .any= .any:=by cases d<;>rfl
omit [Dr]in
theorem D4(g:AV->AV)(hg:g .any= .any)(vs:List AV)(i:Nat):ab (vs.map g) i=g (ab vs i):=by
 unfold ab
 grind
structure Reval (g:AV->AV) (x y:Ent):Prop where
 gr:y.g=x.g
 v:(∃a,x.v= .val a/\y.v= .val (g a))\/(∃B off,x.v= .loc B off/\y.v= .loc B off)
omit [Dr]in
theorem jm(g:AV->AV)(hg:g .any= .any)(vs:List AV)(r:List (Nat×Ent))(hr:∀t,Reval g (cD r t) (cD r t))(t:Nat):∀(l:List (Nat×Option Nat))(k:Nat),
  Reval g (cD (dK vs k l++r) t) (cD (dK (vs.map g) k l++r) t)
 |[],k=>by simpa [dK]using hr t
 |(s,none):: l,k=>by
  simp only[dK,Yk,cD];cases Nat.beq s t with
  |true=>exact⟨rfl,.inl ⟨_,rfl,by simp_all[D4]⟩⟩
  |false=>exact jm g hg vs r hr t l (k+1)
 |(s,some z):: l,k=>by
  simp only[dK,Yk,cD];cases Nat.beq s t with
  |true=>exact⟨rfl,.inl ⟨_,rfl,by simp_all[D4]⟩⟩
  |false=>exact jm g hg vs r hr t l (k+1)
omit [Dr]in
theorem zd(g:AV->AV)(hg:g .any= .any)(ja:JA)(vs:List AV)(t:Nat):Reval g ((unpack ja vs).get t) ((unpack ja (vs.map g)).get t):=by
 refine jm g hg vs _ (fun t=>?_) t ja.vals 0;rcases re t ja.locs with⟨B,off,_,k2⟩|k
 ·rw[k2];exact⟨rfl,.inr ⟨B,off,rfl,rfl⟩⟩
 ·rw[k];exact⟨rfl,.inl ⟨.any,rfl,by simp[Ent.none,hg]⟩⟩
theorem FR.reval{U:Nat->Prop}{S:aD}{β:List cE}{γ:Nat->Value}{lam:Nat->Option Nat}{ω:Nat->Owner}{e2:Env}{h2:Hp}{S2:aD}{ω2:Nat->Owner}{g:AV->AV}(F:FR c N U e h a w S β γ lam ω)(F2:FR c N U e h2 a w S2 β γ lam ω2)(hg:∀x v,VR S β x v->VR S2 β (g x) v)(hr:∀t,Reval g (e.get t) (e2.get t))(hal:e2.al=e.al)(hlb:e2.lb=e.lb):FR c N U e2 h2 a w S2 β γ lam ω2:=by
 refine⟨F2.wf,F2.gro,F2.keep,F2.le,F2.ext,F2.hlen,F2.heap,F2.tsz,fun t ht=>?_,fun t k z ht hk hz=>?_,fun B n hB=>?_,fun k z hz=>F2.free k z ZU,F2.mine,fun t k hk=>?_,fun k z hz=>F2.used.2 k z ZU⟩
 ·have h1:=F.slots t ht;rcases (hr t).v with⟨x,q1,q2⟩|⟨B,off,q1,q2⟩
  ·rw[q1]at h1;rw[q2];exact hg _ _ h1
  ·rw[q1]at h1;rw[q2];exact h1
 ·rw[(hr t).gr]at hk;rw[hal]at hz;exact F2.grps t k z ht hk hz
 ·rw[hlb]at hB;obtain⟨k1,k2,k3,b,x,k4,k5,k6,k7,k8⟩:=F2.lblk B n hB;obtain⟨_,_,_,b',x',j4,j5,j6,j7,j8⟩:=F.lblk B n hB;rw[k4]at j4;cases j4;cases k5.inj j5;refine⟨k1,k2,k3,b,x,k4,k5,k6,k7,fun i hi=>?_⟩;obtain⟨v,a',m1,m2,m3,m4⟩:=k8 i hi;obtain⟨v',a'',n1,n2,n3,_⟩:=j8 i hi;rw[m1]at n1;cases n1;rcases (hr (B+i)).v with⟨y,q1,q2⟩|⟨B',off,q1,q2⟩
  ·rw[n2]at q1;cases q1;refine⟨v,g a'',m1,q2,hg _ _ n3,fun k z hk hz=>?_⟩;rw[(hr (B+i)).gr]at hk
   grind
  grind
 ·rw[(hr t).gr]at hk;exact F2.used.1 t k hk
theorem vX{ja:JA}{vs:List AV}(H:m8 c N (unpack ja vs) h a w):m8 c N (unpack ja (vs.map (frz 6 h))) (h.map fun _=>[]) a w:=by
 obtain⟨S,β,γ,lam,ω,F⟩:=H;obtain⟨S2,ω2,F2,hf⟩:=F.freeze;have F3:=F.reval F2 (g:=frz 6 h) (fun x v hx=>hf _ _ hx) (zd _ (JL 6 h) ja vs) (e2:=unpack ja (vs.map (frz 6 h))) rfl rfl;exact⟨S2,β,γ,lam,ω2,F3⟩
end
section
variable {P:Program} {Q:Exit->Act->World->Prop} {b:Code}
def nj(P:Program)(c:Code)(Q:Exit->Act->World->Prop)(a:Act)(w:World):Prop:=
 ∀(b:Frame)(k:List Item)(cs:List Frame),∃e a' w',Q e a' w'/\Arrives P (lone (b.at a (.code c:: .inLoop c:: k)) cs w) b k cs e a' w'
omit [Dr]in
theorem nj.loop{a:Act}{w:World}(h:nj P b Q a w):(Code.loop b).wp P Q a w:=
 fun f k cs=>let ⟨e,a',w',q,r⟩:=h f k cs;⟨e,a',w',q,.of_steps (.one step_loop) r⟩
omit [Dr]in
theorem Xn{a:Act}{w:World}(h:b.wp P (Exit.then (nj P b Q) Q) a w):nj P b Q a w:=by
 intro f k cs;obtain⟨e,a₁,w₁,hq,harr⟩:=h f (.inLoop b:: k) cs;cases e with
 |normal=>
  obtain⟨e₂,a₂,w₂,hq₂,harr₂⟩:=hq f k cs;exact⟨e₂,a₂,w₂,hq₂,.of_steps (Steps.trans harr (.one step_inLoop)) harr₂⟩
 |exit id=>exact⟨_,a₁,w₁,hq,.pass (x:=.inLoop b) rfl (fun _ _=>.inl ZV) harr⟩
 |goto l=>exact⟨_,a₁,w₁,hq,.pass (x:=.inLoop b) rfl (fun _ _=>.inl ZV) harr⟩
 |ret=>exact⟨_,a₁,w₁,hq,.pass (x:=.inLoop b) rfl (fun _ _=>.inl ZV) harr⟩
 |panic ch=>exact⟨_,a₁,w₁,hq,.pass (x:=.inLoop b) rfl (fun _ _=>.inl ZV) harr⟩
 |outgrown=>exact⟨_,a₁,w₁,hq,.pass (x:=.inLoop b) rfl (fun _ _=>.inl ZV) harr⟩
end
section
variable {P:Program} {cx:Cx} {c:Entry} {ρ:Type}
omit [Dr]in
theorem GT{fx:bk ρ}{id:Nat}{code:Code}{e:Env}{kn kr:Env->M ρ}{kx:Nat->Env->M ρ}(hc:∀b,code≠.loop b):
  ev cx fx (.block id code) e kn kx kr=ev cx fx code e kn (fun i e'=>bif Nat.beq i id then kn e' else kx i e') kr:=by
 cases code<;>first|rfl|grind
def Cs(cx:Cx)(x:Code):Option JA:=match sV x with
 |some t=>tU cx.ann.joins t
 |none=>none
omit [Dr]in
theorem Nc{fx:bk ρ}{x y:Code}{e:Env}{kn kr:Env->M ρ}{kx:Nat->Env->M ρ}:ev cx fx (.seq x y) e kn kx kr=(match Cs cx x with
  |some ja=>jn (fun vs=>ev cx fx y (unpack ja vs) kn kx kr) fun j=>ev cx fx x e (vC ja j) kx kr
  |none=>ev cx fx x e (fun e'=>ev cx fx y e' kn kx kr) kx kr):=by
 unfold Cs;simp only[ev]
 grind
structure Posts (c:Entry) (N:Nat) (r:R ρ) (a:Act) (kn:Env->M ρ) (kx:Nat->Env->M ρ) (kr:Env->M ρ) (Q:Exit->Act->World->Prop):Prop where
 nrm:∀e' h' a' w',r=kn e' h'->m8 c N e' h' a' w'->a'.defers=a.defers->Q .normal a' w'
 ext:∀i e' h' a' w',r=kx i e' h'->m8 c N e' h' a' w'->a'.defers=a.defers->Q (.exit i) a' w'
 ret:∀e' h' a' w',r=kr e' h'->m8 c N e' h' a' w'->a'.defers=a.defers->Q .ret a' w'
 pan:∀pv h' v w' a',r= .pan pv h'->oW c pv h' v w'->a'.defers=a.defers->Q (.panic [{ v,recovered:=false }]) a' w'
theorem za{ja:JA}{j:List AV->M ρ}{e:Env}{h:Hp}{N:Nat}{a:Act}{w:World}(H:m8 c N e h a w)(hr:vC ja j e h≠.fail):∃vs h',vC ja j e h=j vs h'/\m8 c N (unpack ja vs) h' a w:=by
 unfold vC at hr |-;cases hp:pack ja e with
 |none=>rw[hp]at hr;exact absurd rfl hr
 |some vs=>
  have hs:=ze H hp;simp only;cases ja.fz with
  |false=>grind
  |true=>exact⟨_,_,rfl,vX hs⟩
theorem GV(hT:TOK P cx.T)(hC:dD P cx.own cx.call)(hI:IsoCall cx)(hk:∀p,Fh (dl cx.ann.kinds p .L)=true->p<cx.nt)(m:Nat):∀(n:Nat)(code:Code),SizeOf.sizeOf code<n->
  ∀(e:Env)(h:Hp)(a:Act)(w:World)(kn:Env->M ρ)(kx:Nat->Env->M ρ)(kr:Env->M ρ)(Q:Exit->Act->World->Prop),m8 c cx.nt e h a w->ev cx (dh m) code e kn kx kr h≠.fail->
  Posts c cx.nt (ev cx (dh m) code e kn kx kr h) a kn kx kr Q->code.wp P Q a w:=by
 intro n
 induction n with
 |zero=>grind
 | succ n ih=>
  intro code hn e h a w kn kx kr Q H hr hp;cases code<;>(try exact absurd rfl hr)
  case skip=>exact wp_skip (hp.nrm e h a w rfl H rfl)
  case exit id=>exact wp_exit (hp.ext id e h a w rfl H rfl)
  case ret=>exact wp_ret (hp.ret e h a w rfl H rfl)
  case region id ops draw=>exact CN hT hC hI hk H hr hp.nrm hp.pan
  case seq x y=>
   have hx:SizeOf.sizeOf x<n:=by simp at hn;omega
   have hy:SizeOf.sizeOf y<n:=by simp at hn;omega
   refine wp_seq ?_;rw[Nc]at hr hp;generalize Cs cx x=oj at hr hp;cases oj with
   |none=>
    simp only at hr hp;refine ih x hx e h a w _ kx kr _ H hr ⟨fun e' h' a' w' hok hs hd=>?_,fun i e' h' a' w' hok hs hd=>hp.ext i e' h' a' w' hok hs hd,fun e' h' a' w' hok hs hd=>hp.ret e' h' a' w' hok hs hd,fun pv h' v w' a' hok hs hd=>hp.pan pv h' v w' a' hok hs hd⟩;rw[hok]at hr hp;exact ih y hy e' h' a' w' kn kx kr Q hs hr ⟨fun e2 h2 a2 w2 k1 k2 k3=>hp.nrm e2 h2 a2 w2 k1 k2 (k3.trans hd),fun i e2 h2 a2 w2 k1 k2 k3=>hp.ext i e2 h2 a2 w2 k1 k2 (k3.trans hd),fun e2 h2 a2 w2 k1 k2 k3=>hp.ret e2 h2 a2 w2 k1 k2 (k3.trans hd),fun pv h2 v w2 a2 k1 k2 k3=>hp.pan pv h2 v w2 a2 k1 k2 (k3.trans hd)⟩
   |some ja=>
    simp only[jn]at hr hp;refine ih x hx e h a w _ kx kr _ H hr ⟨fun e' h' a' w' hok hs hd=>?_,fun i e' h' a' w' hok hs hd=>hp.ext i e' h' a' w' hok hs hd,fun e' h' a' w' hok hs hd=>hp.ret e' h' a' w' hok hs hd,fun pv h' v w' a' hok hs hd=>hp.pan pv h' v w' a' hok hs hd⟩;rw[hok]at hr hp;obtain⟨vs,h3,hj,hs3⟩:=za hs hr;rw[hj]at hr hp;exact ih y hy (unpack ja vs) h3 a' w' kn kx kr Q hs3 hr ⟨fun e2 h2 a2 w2 k1 k2 k3=>hp.nrm e2 h2 a2 w2 k1 k2 (k3.trans hd),fun i e2 h2 a2 w2 k1 k2 k3=>hp.ext i e2 h2 a2 w2 k1 k2 (k3.trans hd),fun e2 h2 a2 w2 k1 k2 k3=>hp.ret e2 h2 a2 w2 k1 k2 (k3.trans hd),fun pv h2 v w2 a2 k1 k2 k3=>hp.pan pv h2 v w2 a2 k1 k2 (k3.trans hd)⟩
  case cond o x y=>
   have hx:SizeOf.sizeOf x<n:=by simp at hn;omega
   have hy:SizeOf.sizeOf y<n:=by simp at hn;omega
   cases o<;>(try exact absurd rfl hr)
   case const v=>
    simp only[ev]at hr hp
    have hav:∀b,cA v= .bool b->a.eval (.const v)= .bool b:=by
     intro b hb;show v= .bool b;cases v with
     |bool c=>grind [cA,Dm]
     |tuple vs=>grind [cA]
     |pointer p=>grind [cA,Dm]
     |map p=>grind [cA,Dm]
     | slice p n m=>
      have hs:Dm (.slice p n m)= .sl []\/Dm (.slice p n m)= .any:=by
       cases p with
       |some q=>exact .inr rfl
       | none=>cases n with
        |succ n=>exact .inr rfl
        |zero=>cases m with
         |succ m=>exact .inr rfl
         |zero=>exact .inl rfl
      grind [cA]
     |_=>simp only[cA,Dm]at hb;cases hb
    cases hq:cA v<;>rw[hq]at hr hp<;>(try exact absurd rfl hr);rename_i b;cases b with
    |true=>exact wp_cond (hav true hq) (ih x hx e h a w kn kx kr Q H hr hp)
    |false=>exact wp_cond (hav false hq) (ih y hy e h a w kn kx kr Q H hr hp)
   rename_i t;simp only[ev]at hr hp;cases ht:decide (t<1000)with
   |false=>rw[ht]at hr;exact absurd rfl hr
   | true=>
    rw[ht]at hr hp;simp only[Xw]at hr hp;have htl:t<1000:=by simpa using ht
    have hav:∀b,e.av t= .bool b->a.eval (.tmp t)= .bool b:=by
     intro b hb;obtain⟨S,β,γ,lam,ω,F⟩:=H;have hs:=F.slots t htl;simp only[Env.av,Ent.av]at hb;cases hv:(e.get t).v with
     |val av=>
      rw[hv]at hs hb;simp only at hb;subst hb;simp only[iq,VR]at hs;exact hs
     |loc B off=>grind
    cases hq:e.av t<;>rw[hq]at hr hp<;>(try exact absurd rfl hr);rename_i b;cases b with
    |true=>exact wp_cond (hav true hq) (ih x hx e h a w kn kx kr Q H hr hp)
    |false=>exact wp_cond (hav false hq) (ih y hy e h a w kn kx kr Q H hr hp)
  case block id code=>
   refine wp_block ?_;by_cases hc:∃b,code= .loop b
   ·obtain⟨b,rfl⟩:=hc;have hb:SizeOf.sizeOf b<n:=by simp at hn;omega
    simp only[ev]at hr hp;cases hja:tU cx.ann.loops id with
    |none=>rw[hja]at hr;exact absurd rfl hr
    | some ja=>
     rw[hja]at hr hp;simp only at hr hp;refine nj.loop ?_;obtain⟨vs,h3,hj,hs3⟩:=za H hr;rw[hj]at hr hp;have key:∀(k:Nat)(vs:List AV)(h:Hp)(a1:Act)(w:World),m8 c cx.nt (unpack ja vs) h a1 w->a1.defers=a.defers->
       dh k (fun self vs=>ev cx (dh m) b (unpack ja vs) (vC ja self) (fun i e'=>bif Nat.beq i id then kn e' else kx i e') kr) vs h≠.fail->
       Posts c cx.nt (dh k (fun self vs=>ev cx (dh m) b (unpack ja vs) (vC ja self) (fun i e'=>bif Nat.beq i id then kn e' else kx i e') kr) vs h) a kn kx kr Q->nj P b (Exit.inBlock id Q) a1 w:=by
      intro k
      induction k with
      |zero=>intro vs h a1 w _ _ hr _;exact absurd rfl hr
      | succ k ihk=>
       intro vs h a1 w hs hd hr hp;simp only[dh]at hr hp;refine Xn (ih b hb (unpack ja vs) h a1 w _ _ kr _ hs hr ⟨fun e' h' a' w' hok hs' hd'=>?_,fun i e' h' a' w' hok hs' hd'=>?_,fun e' h' a' w' hok hs' hd'=>hp.ret e' h' a' w' hok hs' (hd'.trans hd),fun pv h' v w' a' hok hs' hd'=>hp.pan pv h' v w' a' hok hs' (hd'.trans hd)⟩)
       ·rw[hok]at hr hp;obtain⟨vs',h4,hj',hs4⟩:=za hs' hr;rw[hj']at hr hp;exact ihk vs' h4 a' w' hs4 (hd'.trans hd) hr hp
       ·cases hi:Nat.beq i id with
        |true=>
         rw[hi]at hok
         have:=Nat.eq_of_beq_eq_true hi
         subst this;show Exit.inBlock i Q (.exit i) a' w';simp only[Exit.inBlock,XF];exact hp.nrm e' h' a' w' hok hs' (hd'.trans hd)
        |false=>
         rw[hi]at hok;have hne:i≠id:=fun hh=>ZW
         show Exit.inBlock id Q (.exit i) a' w';simp only[Exit.inBlock,Xr hne];exact hp.ext i e' h' a' w' hok hs' (hd'.trans hd)
     grind
   ·have hc':∀b,code≠.loop b:=fun b hb=>hc ⟨b,hb⟩;rw[GT hc']at hr hp;have hs:SizeOf.sizeOf code<n:=by simp at hn;omega
    refine ih code hs e h a w kn _ kr _ H hr ⟨fun e' h' a' w' hok hs' hd'=>hp.nrm e' h' a' w' hok hs' hd',fun i e' h' a' w' hok hs' hd'=>?_,fun e' h' a' w' hok hs' hd'=>hp.ret e' h' a' w' hok hs' hd',fun pv h' v w' a' hok hs' hd'=>hp.pan pv h' v w' a' hok hs' hd'⟩;cases hi:Nat.beq i id with
    |true=>
     rw[hi]at hok
     have:=Nat.eq_of_beq_eq_true hi
     subst this;show Exit.inBlock i Q (.exit i) a' w';simp only[Exit.inBlock,XF];exact hp.nrm e' h' a' w' hok hs' hd'
    |false=>
     rw[hi]at hok;have hne:i≠id:=fun hh=>ZW
     show Exit.inBlock id Q (.exit i) a' w';simp only[Exit.inBlock,Xr hne];exact hp.ext i e' h' a' w' hok hs' hd'
end
omit [Dr]in
theorem tx:∀(args:List AV)(i t:Nat),cD (zy i args) t=if i<=t/\t<i+args.length then⟨.val (ab args (t-i)),none⟩else Ent.none
 |[],i,t=>by
  simp_all[zy,cD,Xr]
 | a:: as,i,t=>by
  simp only[zy,dx,XX];by_cases h:i=t
  ·subst h;rw[Xv rfl,Xv ZS];simp[ab]
  ·rw[Xr h,tx as (i+1) t];by_cases h2:i+1<=t/\t<i+1+as.length
   ·rw[Xv h2,Xv ZS]
    grind [ab]
   grind
section
variable {P:Program} {cx:Cx}
open Classical in
theorem Oc{w:World}{S:aD}{β:List cE}{h:Hp}{args:List AV}{vs:List Value}{n:Nat}(hg:wk S β h w)(hw:Wf S w)(hh:dE S β w h)(hv:bB S β args vs)(hn:args.length<=n)(hn2:n<=1000):
  ∃γ lam ω,FR { w,S,β,E:=df β h,gok:=hg } n (fun g=>g<(sQ args).nx*1000) (sQ args) h { tmps:=vs.toArray++Array.replicate (n-vs.toArray.size) undef,defers:=[] } w S β γ lam ω:=by
 obtain⟨hlen,ω0,hr⟩:=hh;have hvl:=hv.length;have hget:∀t,(sQ args).get t=if t<args.length then⟨.val (ab args t),none⟩else Ent.none:=fun t=>by
  have:=tx args 0 t
  simp only[XN,true_and,XI,Y5]at this;exact this
 let ω:Nat->Owner:=fun b=>if df β h b then ω0 b else .no;refine⟨fun _=>undef,fun _=>none,ω,⟨hw,Gro.refl _,fun b _ _=>⟨rfl,fun _=>rfl⟩,aD.le_refl S,il.refl β,hlen,fun l cs hl hcs=>?_,⟨?_,hn2⟩,fun t ht=>?_,fun t g z ht hg=>?_,fun B m hB=>?_,fun g z hz=>?_,fun b hb=>?_,fun t g hg=>?_,fun g z hz=>?_⟩⟩
 ·have hown:∀b n,β[l]? = some (b,n)->ω0 b= .heap l->ω b= .heap l:=fun b n h1 h3=>by
   show (if df β h b then ω0 b else .no)=_;rw[Xv ⟨l,cs,_,hl,hcs,h1⟩];exact h3
  rcases hr l cs hl hcs with⟨b,x,h1,h2,h3,h4⟩|⟨b,h1,h3,h4⟩
  all_goals grind
 ·simp;omega
 ·rw[hget];split
  ·rename_i hlt;have hx:args[t]? = some (ab args t):=by simp[ab,hlt]
   obtain⟨v,h1,h2⟩:=hv.get hx;have:(vs.toArray++Array.replicate (n-vs.toArray.size) undef).getD t undef=v:=by
    rw[Yt,Array.getElem?_append_left ZX];simp[h1]
   rw[this];exact h2
  ·simp[Ent.none,iq,VR]
 ·rw[hget]at hg;split at hg<;>cases hg
 ·cases hB
 ·cases hz
 ·have hb':df β h b:=by
   by_cases ho:df β h b
   ·exact ho
   ·grind
  obtain⟨l,cs,m,h1,h2,h3⟩:=hb';obtain⟨b',x,k1,k2,k3,_⟩:=hr.own h1 h2;rw[h3]at k1;cases k1;have hω:ω b= .heap l:=by
   show (if df β h b then ω0 b else .no)=_;rw[Xv ⟨l,cs,_,h1,h2,h3⟩];exact k3
  exact⟨.inl ⟨⟨l,cs,_,h1,h2,h3⟩,fun g=>by rw[hω];simp⟩,k2⟩
 ·rw[hget]at hg;split at hg<;>cases hg
 ·cases hz
theorem start{w:World}{S:aD}{β:List cE}{h:Hp}{args:List AV}{vs:List Value}{n:Nat}(hg:wk S β h w)(hw:Wf S w)(hh:dE S β w h)(hv:bB S β args vs)(hn:args.length<=n)(hn2:n<=1000):
  m8 { w,S,β,E:=df β h,gok:=hg } n (sQ args) h { tmps:=vs.toArray++Array.replicate (n-vs.toArray.size) undef,defers:=[] } w:=⟨S,β,Oc hg hw hh hv hn hn2⟩
def ky(tmps:Array Value):ResultVar->Sem Value
 |.tmp t=>pure (tmps.getD t undef)
 |.cell p t=>do loadVar t (<- asAddr (tmps.getD p undef))
omit [Dr]in
theorem uY(fn:Func)(tmps:Array Value):results fn tmps=(do let vs <- fn.results.mapM (ky tmps);pure (if h:vs.size=1 then vs[0]else .tuple vs)):=by
 unfold results;congr 1
theorem N6{c:Entry}{N:Nat}{U:Nat->Prop}{e:Env}{h:Hp}{a:Act}{w:World}{S:aD}{β:List cE}{γ:Nat->Value}{lam:Nat->Option Nat}{ω:Nat->Owner}(hT:TOK P cx.T)(F:FR c N U e h a w S β γ lam ω){r:ResultVar}{v:AV}(hr:A4 cx.T e r=some v):∃u,(ky a.tmps r).run P w= .ok u w/\VR S β v u:=by
 cases r with
 | tmp t=>
  simp only[A4]at hr;cases ht:decide (t<1000)with
  |false=>grind
  | true=>
   rw[ht]at hr;simp only[Xw]at hr;have hs:=F.slots t (by simpa using ht);cases hv:(e.get t).v with
   |loc B off=>grind
   |val av=>
    rw[hv]at hr hs;simp only[Xq]at hr;subst hr;exact⟨_,by simp only[ky,Sem.run_pure],hs⟩
 | cell p t=>
  simp only[A4]at hr;cases hp:decide (p<1000)with
  |false=>grind
  | true=>
   rw[hp]at hr;simp only[Xw]at hr;have hs:=F.slots p (by simpa using hp);cases hv:(e.get p).v with
   | loc B off=>
    rw[hv]at hr hs;cases ht:cx.T t with
    |none=>grind
    | some ti=>
     rw[ht]at hr;simp only at hr;cases hin:kZ e B off ti.size with
     |false=>grind
     | true=>
      rw[hin]at hr;simp only[Xw]at hr;simp only[iq]at hs;obtain⟨b,hlam,hpv⟩:=hs;obtain⟨b',x,m,hm,hle,hlam',hrow,hms,hcells⟩:=F.locals hin;rw[hlam]at hlam';cases hlam';let f:Nat->Value:=fun i=>(x[off+i]?).getD undef;have hf:∀i,i<ti.size->x[off+i]? = some (f i):=fun i hi=>by
       grind
      have hload:=sk hT ht hrow f hf;have hexec:∀v,(loadVar t ⟨b,off,none⟩).run P w= .ok v w->(ky a.tmps (.cell p t)).run P w= .ok v w:=fun v hv'=>by
       grind [ky,asAddr]
      cases hag:ti.agg with
      |true=>
       rw[hag]at hr;simp only[Xw,Xq]at hr;subst hr;refine⟨_,hexec _ (hload.1 hag),?_⟩;simp only[VR];refine⟨_,rfl,ui ti.size fun i hi=>?_⟩
       grind [Env.av,Ent.av]
      | false=>
       rw[hag]at hr;simp only[XD]at hr;cases hone:decide (ti.size=1)with
       |false=>grind
       |true=>
        rw[hone]at hr;simp only[Xw,Xq]at hr;subst hr;have hone':ti.size=1:=by simpa using hone
        obtain⟨v,a',g1,g2,g3,g4⟩:=hcells 0 ZS;simp_all[Env.av,Ent.av]
   | val av=>
    rw[hv]at hr hs;cases ht:cx.T t with
    |none=>grind
    |some ti=>
     rw[ht]at hr;simp only at hr;obtain⟨v,h1,h2⟩:=yE hT F.wf hr hs;refine⟨v,?_,h2⟩;unfold ax at hr
     grind [iq,VR,ky,Instr.loadAt,Instr.sureAddr,asAddr]
theorem CO{c:Entry}{N:Nat}{U:Nat->Prop}{e:Env}{h:Hp}{a:Act}{w:World}{S:aD}{β:List cE}{γ:Nat->Value}{lam:Nat->Option Nat}{ω:Nat->Owner}(hT:TOK P cx.T)(F:FR c N U e h a w S β γ lam ω){fn:Func}{vs:List AV}(hr:jh cx.T e fn.results.toList=some vs):∃u,(results fn a.tmps).run P w= .ok u w/\VR S β (oU vs) u:=by
 have key:∀(l:List ResultVar)(vs:List AV),jh cx.T e l=some vs->∃us:List Value,(l.mapM (ky a.tmps)).run P w= .ok us w/\bB S β vs us:=by
  intro l
  induction l with
  |nil=>simp_all[jh,bB]
  | cons r rs ih=>
   intro vs h;simp only[jh]at h;cases h1:A4 cx.T e r with
   |none=>grind
   | some v=>
    cases h2:jh cx.T e rs with
    |none=>grind
    |some vs'=>
     rw[h1,h2]at h;simp only[Xq]at h;subst h;obtain⟨u,k1,k2⟩:=N6 hT F h1;obtain⟨us,m1,m2⟩:=ih vs' h2;refine⟨u:: us,?_,by simp only[bB];grind⟩;simp_all
 obtain⟨us,k1,k2⟩:=key _ _ hr;have hlen:=k2.length;have hrun:(fn.results.mapM (ky a.tmps)).run P w= .ok us.toArray w:=by
  rw[ZC];rw[map_eq_pure_bind,Sem.run_bind,k1,Result.andThen_ok,Sem.run_pure]
 refine⟨if h:us.toArray.size=1 then us.toArray[0]else .tuple us.toArray,?_,?_⟩
 ·grind [uY,Sem.run_bind,Result.andThen_ok,Sem.run_pure]
 ·unfold oU;split
  ·grind [bB]
  ·rename_i hne;rw[dif_neg]
   ·simp only[VR];grind
   ·intro h1;have:vs.length=1:=by rw[<- hlen];simpa using h1
    match vs,this with
    |[v],_=>exact hne v rfl
end
omit [Dr]in
theorem Az{n:Nat}{ks:List (Nat×Kind)}(h:p9 n ks=true):∀p,Fh (dl ks p .L)=true->p<n:=by
 intro p hp
 induction ks with
 |nil=>simp[dl,Fh]at hp
 | cons x ks ih=>
  obtain⟨k,y⟩:=x;unfold p9 at h;simp only[XP,Xu]at h;simp only[dl]at hp;cases hk:Nat.beq k p with
  |true=>
   simp_all
  |false=>
   rw[hk]at hp;exact ih h.2 hp
section
variable {P:Program} {cx:Cx}
theorem NY{c:Entry}{N:Nat}{U:Nat->Prop}{e:Env}{h:Hp}{a:Act}{w:World}{S:aD}{β:List cE}{γ:Nat->Value}{lam:Nat->Option Nat}{ω:Nat->Owner}(F:FR c N U e h a w S β γ lam ω){fn:Func}{sz:Nat}(ho:yL fn e sz=true){u:Value}(hu:(results fn a.tmps).run P w= .ok u w):xT c.w.heap.size S β w h sz u:=by
 unfold yL at ho;split at ho
 ·rename_i t hres;cases ht:decide (t<1000)with
  |false=>grind
  | true=>
   rw[ht]at ho;simp only[Yw]at ho;split at ho
   ·rename_i g hg;split at ho
    ·rename_i z hz;have hgr:=F.grps t g z (by simpa using ht) hg hz;obtain⟨ad,len,cap,h1,h2,h3,h4⟩:=F.free g z hz;have hue:u=a.tmps.getD t undef:=by
      have hr:fn.results= #[.tmp t]:=by apply Zm;simpa using hres
      rw[uY,hr]at hu;simp[ky]at hu;simpa using hu.symm
     rw[hue,hgr];refine⟨ad,len,cap,h1,h2,h3,h4.imp id ?_⟩;rintro⟨sz',b,off,x,k1,k2,k3,k4,k5,k6⟩;have hsz:sz'=sz:=by
      rw[k1]at ho;simp only[y9]at ho;exact Nat.eq_of_beq_eq_true ho
     subst hsz;refine⟨b,off,x,k2,k3,k4,(F.mine b (by rw[k5];simp)).1.grp k5,fun hb=>?_,k6⟩;obtain⟨l,_,hl,_⟩:=F.hown hb
     grind
    ·cases ho
   ·cases ho
 ·cases ho
omit [Dr]in
theorem Ic{fn:Func}{own:Option Nat}{e:Env}{h:Hp}(hr:mb cx fn own e h≠.fail):∃rs,jh cx.T e fn.results.toList=some rs/\(mb cx fn own e h= .ok (oU rs) h\/(own=none/\mb cx fn own e h= .ok (frz 6 h (oU rs)) (h.map fun _=>[])))/\∀sz,own=some sz->yL fn e sz=true:=by
 have key:∀b z:Bool,(bif b then au (bP ((jh cx.T e fn.results.toList).map oU)) (bif z then(bif own.isSome then fun _=>gU else DI)else ao)else gU:M AV) h≠.fail->b=true/\∃rs,jh cx.T e fn.results.toList=some rs/\
   ((bif b then au (bP ((jh cx.T e fn.results.toList).map oU)) (bif z then(bif own.isSome then fun _=>gU else DI)else ao)else gU:M AV) h= .ok (oU rs) h\/
    (own=none/\(bif b then au (bP ((jh cx.T e fn.results.toList).map oU)) (bif z then(bif own.isSome then fun _=>gU else DI)else ao)else gU:M AV) h= .ok (frz 6 h (oU rs)) (h.map fun _=>[]))):=by
  intro b z hr;cases b with
  |false=>exact absurd rfl hr
  | true=>
   refine⟨rfl,?_⟩;cases hres:jh cx.T e fn.results.toList with
   |none=>rw[hres]at hr;exact absurd rfl hr
   | some rs=>
    rw[hres]at hr;cases z with
    |false=>exact⟨rs,rfl,.inl rfl⟩
    |true=>
     cases own with
     |none=>exact⟨rs,rfl,.inr ⟨rfl,rfl⟩⟩
     |some sz=>exact absurd rfl hr
 unfold mb at hr |-;cases own with
 |none=>
  obtain⟨_,rs,h1,h2⟩:=key true _ hr
  grind
 |some sz=>
  obtain⟨h0,rs,h1,h2⟩:=key _ _ hr
  grind
theorem fL(hT:TOK P cx.T)(hC:dD P cx.own cx.call)(hI:IsoCall cx)(m:Nat){f:FuncId}{fn:Func}(hf:P.funcs[f]? = some fn)(hnt:cx.nt=fn.ntmps){own:Option Nat}{args:List AV}{h:Hp}{S:aD}{β:List cE}{w:World}{vs:List Value}(hr:bX cx (dh m) fn own args h≠.fail)(hg:wk S β h w)(hw:Wf S w)(hh:dE S β w h)(hv:bB S β args vs):Calls P f vs.toArray w (fg own S β h w (bX cx (dh m) fn own args h))/\fn.body.isSome=true:=by
 unfold bX at hr |-;cases hb:fn.body with
 |none=>rw[hb]at hr;exact absurd rfl hr
 | some code=>
  rw[hb]at hr;simp only at hr |-;refine⟨?_,rfl⟩;cases hc:(decide (args.length<=fn.ntmps)&&decide (fn.ntmps<=1000)&&p9 cx.nt cx.ann.kinds)with
  |false=>rw[hc]at hr;exact absurd rfl hr
  | true=>
   rw[hc]at hr;simp only[Xw]at hr |-;simp only[Xu,Xt]at hc;obtain⟨⟨hc1,hc2⟩,hc3⟩:=hc;have H:m8 { w,S,β,E:=df β h,gok:=hg } cx.nt (sQ args) h { tmps:=vs.toArray++Array.replicate (fn.ntmps-vs.toArray.size) undef,defers:=[] } w:=by
    rw[hnt];exact start hg hw hh hv hc1 hc2
   have hret:∀(e':Env)(h':Hp)(a':Act)(w':World),ev cx (dh m) code (sQ args) (mb cx fn own) (fun _ _=>gU) (mb cx fn own) h=mb cx fn own e' h'->
     m8 { w,S,β,E:=df β h,gok:=hg } cx.nt e' h' a' w'->∃v,(results fn a'.tmps).run P w'= .ok v w'/\fg own S β h w (ev cx (dh m) code (sQ args) (mb cx fn own) (fun _ _=>gU) (mb cx fn own) h) (.returned v) w':=by
    intro e' h' a' w' hok hs;rw[hok]at hr |-;obtain⟨rs,hres,hret,hown⟩:=Ic hr;obtain⟨S',β',γ,lam,ω,F⟩:=hs;obtain⟨u,hu1,hu2⟩:=CO (P:=P) hT F hres;rcases hret with hret|⟨rfl,hret⟩
    ·rw[hret];exact⟨u,hu1,S',β',u,rfl,hu2,F.out,fun sz hsz=>NY F (hown sz hsz) hu1⟩
    ·rw[hret];obtain⟨S2,ω2,F2,hf⟩:=F.freeze;exact⟨u,hu1,S2,β',u,rfl,hf _ _ hu2,F2.out,fun sz hsz=>by cases hsz⟩
   refine calls_of_wp hf hb (GV hT hC hI (Az hc3) m _ code (Nat.lt_succ_self _) (sQ args) h _ w _ _ _ _ H hr ⟨fun e' h' a' w' hok hs hd=>?_,fun i e' h' a' w' hok hs hd=>?_,fun e' h' a' w' hok hs hd=>?_,fun pv h' v w' a' hok hs hd=>?_⟩)
   ·exact⟨hd,hret e' h' a' w' hok hs⟩
   ·rw[hok]at hr;exact absurd rfl hr
   ·exact⟨hd,hret e' h' a' w' hok hs⟩
   ·refine⟨hd,?_⟩;rw[hok];obtain⟨S',β',hout,hvr⟩:=hs;exact⟨S',β',v,rfl,hvr,hout⟩
end
open Classical in
theorem yA{S:aD}{β:List cE}{w w':World}{h:Hp}(_hw:Wf S w)(hh:dE S β w h){β0:List cE}{h0:Hp}(hE:∀b,¬df β0 h0 b){S':aD}{β':List cE}{h':Hp}(L:Left (df β0 h0) S β0 w S' β' w' h'):∃S2,Left (df β h) S β w S2 β w' h/\(∀a v,VR S' β' a v->VR S2 β (frz 6 h' a) v)/\∀sz v,xT w.heap.size S' β' w' h' sz v->xT w.heap.size S2 β w' h sz v:=by
 obtain⟨hlen,ω,hH⟩:=L.heap;have hnew:∀b,df β' h' b->w.heap.size<=b:=fun b hb=>(L.owned b hb).resolve_left (hE b);let S2:aD:=fun b o=>if df β' h' b then w'.cell? ⟨b,o,none⟩else S' b o;have hS2n:∀b,¬df β' h' b->∀o,S2 b o=S' b o:=fun b hb o=>Xr hb;have hS2y:∀b,df β' h' b->∀o,S2 b o=w'.cell? ⟨b,o,none⟩:=fun b hb o=>Xv hb;have hle:S'.le S2:=by
  intro b o v hv;by_cases hb:df β' h' b
  ·obtain⟨l,cs,n,h1,h2,h3⟩:=hb;obtain⟨b',x,k1,k2,k3,k5⟩:=hH.own h1 h2
   grind
  ·grind
 have hrow:∀b,b<w.heap.size->w'.heap[b]? = w.heap[b]? /\∀o,S2 b o=S b o:=by
  intro b hb;have hk:=L.keep b hb (hE b);refine⟨hk.1,fun o=>?_⟩;rw[hS2n b (fun ho=>ZU)];exact hk.2 o
 have hwf:Wf S2 w':=by
  intro b o v hv;by_cases hb:df β' h' b
  ·grind
  ·rw[hS2n b hb]at hv;exact L.wf b o v hv
 obtain⟨hlen0,ω0,hH0⟩:=hh;have hlt0:∀b,df β h b->b<w.heap.size:=by
  rintro b ⟨l,cs,n,h1,h2,h3⟩;obtain⟨b',x,k1,k2,_⟩:=hH0.own h1 h2;rw[h3]at k1;cases k1;exact k2
 have hle0:S.le S2:=aD.le_trans L.le hle;refine⟨S2,⟨hle0,il.refl β,hwf,L.gro,fun b hb _=>hrow b hb,⟨hlen0,ω0,hH0.rows hle0 (il.refl β) hlen0 fun l cs hl _=>.inl ⟨hl,fun b hb ho=>⟨ho,(hrow b hb).1,fun o h=>ZU⟩⟩⟩,fun b hb=>.inl hb⟩,fun a v hv=>ug hH hle (fun b o x hb hr=>?_) 6 a v hv,fun sz v=>?_⟩
 ·rw[hS2y b hb,hr.cell]
 ·rintro⟨ad,len,cap,k1,k2,k3,k4⟩;refine⟨ad,len,cap,k1,k2,k3,k4.imp id ?_⟩
  grind
theorem Hm{S:aD}{β:List cE}{w w':World}{h:Hp}{own:Option Nat}{m:List AV->M AV}{args:List AV}{en:Ending}(hw:Wf S w)(hh:dE S β w h)(hp:fg own S [] [] w (m (fp aF args) []) en w'):fg own S β h w (vY m args h) en w':=by
 have key:=fun{S':aD} {β':List cE} {h':Hp} (L:Left (df [] []) S [] w S' β' w' h')=>yA hw hh (by rintro b ⟨l,cs,n,h1,_⟩;simp at h1) L;unfold vY;cases hm:m (fp aF args) []with
 |fail=>rw[hm]at hp;exact hp.elim
 |ok r h'=>
  rw[hm]at hp;obtain⟨S',β',v,h1,h2,h3,h4⟩:=hp;obtain⟨S2,k1,k2,k3⟩:=key h3;exact⟨S2,β,v,h1,k2 r v h2,k1,fun sz hsz=>k3 sz v (h4 sz hsz)⟩
 |pan r h'=>
  rw[hm]at hp;obtain⟨S',β',v,h1,h2,h3⟩:=hp;obtain⟨S2,k1,k2,k3⟩:=key h3;exact⟨S2,β,v,h1,k2 r v h2,k1⟩
structure GoodPg (P:Program) (p:Pg):Prop where
 tok:TOK P p.T
 funcs:∀f fn a,p.funcs f=some (fn,a)->P.funcs[f]? = some fn/\(fn.name== "runtime.NumGoroutine")=false
 other:∀f E,p.other f=some E->∀call,dD P p.own call->∀(args:List AV)(h:Hp)(S:aD)(β:List cE)(w:World)(vs:List Value),E call args h≠.fail->wk S β h w->Wf S w->dE S β w h->bB S β args vs->
  Calls P f vs.toArray w (fg (p.own f) S β h w (E call args h))/\(P.funcs[f]?).any (fun fn=>fn.body.isSome&&!(fn.name== "runtime.NumGoroutine"))=true
 nw:∀f,p.nw f=true->∃E,p.other f=some E/\∀call args,zh (E call args)
omit [Dr]in
theorem dE.nil{S:aD}{w:World}:dE S [] w []:=⟨rfl,fun _=>.no,fun l cs hl=>by simp at hl⟩
theorem zW{P:Program}{p:Pg}(G:GoodPg P p)(m:Nat){call:FuncId->List AV->M AV}(hC:dD P p.own call)(hI:∀n a,IsoCall (p.cx call n a)):dD P p.own (lq p call (dh m)):=by
 intro f args h S β w vs hr hg hw hh hv;unfold lq at hr |-;cases ho:p.other f with
 |some E=>rw[ho]at hr;exact G.other f E ho call hC args h S β w vs hr hg hw hh hv
 | none=>
  rw[ho]at hr;simp only at hr |-;cases hf:p.funcs f with
  |none=>rw[hf]at hr;exact absurd rfl hr
  | some x=>
   obtain⟨fn,a⟩:=x;rw[hf]at hr;simp only at hr |-;obtain⟨hf1,hf2⟩:=G.funcs f fn a hf
   have hany:fn.body.isSome=true->(P.funcs[f]?).any (fun fn=>fn.body.isSome&&!(fn.name== "runtime.NumGoroutine"))=true:=by
    intro hb;rw[hf1];simp only[Option.any_some,hb,hf2,X3,Yn]
   cases hi:a.iso with
   |false=>
    rw[hi]at hr;simp only[XD]at hr |-;obtain⟨h1,h2⟩:=fL (cx:=p.cx call fn.ntmps a) G.tok hC (hI _ _) m hf1 rfl hr hg hw hh hv
    grind
   | true=>
    rw[hi]at hr;simp only[Xw]at hr |-;have hr':bX (p.cx call fn.ntmps a) (dh m) fn (p.own f) (fp aF args) []≠.fail:=by
     intro hf;unfold vY at hr;rw[hf]at hr;exact hr rfl
    obtain⟨h1,h2⟩:=fL (cx:=p.cx call fn.ntmps a) G.tok hC (hI _ _) m hf1 rfl hr' ⟨hg.1,fun b _ hb=>by obtain⟨l,_,_,h1,_⟩:=hb;simp at h1,hg.2.2⟩ hw dE.nil (GF hv);exact⟨h1.mono fun en w' hp=>Hm hw hh hp,hany h2⟩
omit [Dr]in
theorem Cg(p:Pg)(hN:∀f,p.nw f=true->∃E,p.other f=some E/\∀call args,zh (E call args)):∀n k a,IsoCall (p.cx (eu p n) k a)
 |0,k,a=>⟨fun f args _=>⟨none,fun _=>rfl⟩,fun f args _ h v h' hh=>by cases hh⟩
 | n+1,k,a=>by
  refine⟨?_,fun f args hf=>?_⟩
  case refine_2=>
   obtain⟨E,hE,hn⟩:=hN f hf;have:(p.cx (eu p (n+1)) k a).call f args=E (eu p n) args:=by
    show lq p (eu p n) (dh n) f args=_;unfold lq;rw[hE]
   grind
  intro f args hi;have hi':p.iso f=true:=hi;unfold Pg.iso at hi';cases ho:p.other f with
  |some E=>grind
  | none=>
   rw[ho]at hi';simp only at hi';cases hf:p.funcs f with
   |none=>grind
   |some x=>
    obtain⟨fn,b⟩:=x;rw[hf]at hi';simp only at hi';refine⟨match bX (p.cx (eu p n) fn.ntmps b) (dh n) fn (p.own f) (fp aF args) []with|.ok r h'=>some (true,frz 6 h' r)|.pan v h'=>some (false,frz 6 h' v)|.fail=>none,fun h=>?_⟩;show lq p (eu p n) (dh n) f args h=_;unfold lq;rw[ho];simp only;rw[hf];simp only[hi',Xw,vY]
    grind
theorem pQ{P:Program}{p:Pg}(G:GoodPg P p):∀n,dD P p.own (eu p n)
 |0=>fun _f _args _h _S _β _w _vs hr=>absurd rfl hr
 |n+1=>zW G n (pQ G n) fun k a=>Cg p G.nw n k a
end Go.Av
namespace Go.Av
def tn{α:Type}(a:R α)(b:Nat->R α):Prop:=(a≠.fail->∃N,∀n,N<=n->b n=a)/\∀n,b n≠.fail->b n=a
def eg{α:Type}(m:M α)(ms:Nat->M α):Prop:=∀h,tn (m h) fun n=>ms n h
def cK{α β:Type}(f:β->M α)(fs:Nat->β->M α):Prop:=∀x,eg (f x) fun n=>fs n x
def tn.const{α:Type}(a:R α):tn a fun _=>a:=⟨fun _=>⟨0,fun _ _=>rfl⟩,fun _ _=>rfl⟩
def gp{α:Type}(m:M α):eg m fun _=>m:=fun _=>.const _
def cK.const{α β:Type}(f:β->M α):cK f fun _=>f:=fun _=>gp _
def eg.bnd{α β:Type}{m:M α}{ms:Nat->M α}{f:α->M β}{fs:Nat->α->M β}(hm:eg m ms)(hf:cK f fs):eg (au m f) fun n=>au (ms n) (fs n):=by
 intro h;obtain⟨h1,h2⟩:=hm h
 (try dsimp only at h1 h2)
 refine⟨fun hne=>?_,fun n hne=>?_⟩
 ·have hne':m h≠.fail:=fun hf=>by simp only[Av.au]at hne;grind
  obtain⟨N,hN⟩:=h1 hne';cases hmh:m h with
  |fail=>grind
  |pan v x=>
   refine⟨N,fun n hn=>?_⟩
   grind [Av.au]
  |ok a x=>
   have hne2:f a x≠.fail:=fun hf=>by grind [Av.au]
   obtain⟨N2,hN2⟩:=(hf a x).1 hne2;refine⟨max N N2,fun n hn=>?_⟩
   grind [Av.au]
 ·(try dsimp only at hne |-)
  simp only[Av.au]at hne |-;have hne':ms n h≠.fail:=fun hf=>ZU
  rw[<- h2 n hne'];cases hmh:ms n h with
  |fail=>grind
  |pan v x=>rfl
  |ok a x=>
   rw[hmh]at hne;exact (hf a x).2 n hne
def Bz{α:Type}(m m':M α):Prop:=∀h,m h≠.fail->m h=m' h
def Bz.lim{α:Type}{m m':M α}(h:Bz m m'):eg m' fun n=>if n=0 then m else m':=by
 intro x;refine⟨fun _=>⟨1,fun n hn=>ZU⟩,fun n hne=>?_⟩
 (try dsimp only at hne |-)
 by_cases h0:n=0
 ·rw[Xv h0]at hne |-;exact h x hne
 grind
def eg.le{α:Type}{m:M α}{ms:Nat->M α}(h:eg m ms)(n:Nat):Bz (ms n) m:=fun x hne=>(h x).2 n hne
section
variable {ρ:Type}
def zk(F:(List AV->M ρ)->List AV->M ρ)(Fs:Nat->(List AV->M ρ)->List AV->M ρ):Prop:=∀self selfs,cK self selfs->cK (F self) fun n=>Fs n (selfs n)
def oJ(F:(List AV->M ρ)->List AV->M ρ):Prop:=zk F fun _=>F
def qF(fx:bk ρ)(fxs:Nat->bk ρ):Prop:=∀F Fs,zk F Fs->oJ F->(∀n,oJ (Fs n))->cK (fx F) fun n=>fxs n (Fs n)
def zl(fx:bk ρ):Prop:=qF fx fun _=>fx
theorem oJ.mono{F:(List AV->M ρ)->List AV->M ρ}(hF:oJ F){s s':List AV->M ρ}(h:∀vs,Bz (s vs) (s' vs)):∀vs,Bz (F s vs) (F s' vs):=by
 intro vs x hne;have hl:cK s' (fun n=>if n=0 then s else s'):=by
  intro vs x;refine⟨fun _=>⟨1,fun n hn=>?_⟩,fun n hne=>?_⟩
  ·grind
  ·(try dsimp only at hne |-)
   by_cases h0:n=0
   ·rw[Xv h0]at hne |-;exact h vs x hne
   grind
 have h0:=(hF s' _ hl vs x).2 0
 grind
theorem qW{F:(List AV->M ρ)->List AV->M ρ}(hF:oJ F):∀n vs,Bz (dh n F vs) (dh (n+1) F vs)
 |0,_vs=>fun _x hne=>absurd rfl hne
 |n+1,vs=>hF.mono (qW hF n) vs
theorem Bz.trans{α:Type}{a b c:M α}(h:Bz a b)(g:Bz b c):Bz a c:=fun x hne=>by
 have:=h x hne
 rw[this];exact g x (this▸hne)
theorem Bz.refl{α:Type}(a:M α):Bz a a:=fun _ _=>rfl
theorem tW{F:(List AV->M ρ)->List AV->M ρ}(hF:oJ F){n m:Nat}(h:n<=m)(vs:List AV):Bz (dh n F vs) (dh m F vs):=by
 induction m with
 | zero => have:n=0:=ZS
           subst this;exact .refl _
 |succ m ih=>
  by_cases hn:n=m+1
  ·subst hn;exact .refl _
  ·exact (ih ZS).trans (qW hF m vs)
open Classical in
noncomputable def ak(F:(List AV->M ρ)->List AV->M ρ)(vs:List AV):M ρ:=fun h=>if hx:∃n,dh n F vs h≠.fail then dh (Classical.choose hx) F vs h else .fail
theorem wI{b:Nat->R ρ}(hmono:∀n m,n<=m->b n≠.fail->b n=b m){a:R ρ}(ha:(∃n,b n≠.fail/\a=b n)\/(∀n,b n= .fail)/\a= .fail):tn a b:=by
 rcases ha with⟨n,hn,rfl⟩|⟨hn,rfl⟩
 ·refine⟨fun _=>⟨n,fun m hm=>(hmono n m hm hn).symm⟩,fun m hm=>?_⟩
  grind
 ·exact⟨fun h=>absurd rfl h,fun n h=>absurd (hn n) h⟩
theorem jz{F:(List AV->M ρ)->List AV->M ρ}(hF:oJ F):cK (ak F) fun n=>dh n F:=by
 intro vs h;refine wI (fun n m hnm hne=>tW hF hnm vs h hne) ?_;unfold ak;by_cases hx:∃n,dh n F vs h≠.fail
 all_goals grind
theorem pU{F:(List AV->M ρ)->List AV->M ρ}{Fs:Nat->(List AV->M ρ)->List AV->M ρ}(h1:zk F Fs)(n:Nat):∀k vs,Bz (dh k (Fs n) vs) (dh k F vs)
 |0,vs=>.refl _
 | k+1,vs=>by
  have ih:=pU h1 n k;have hl:cK (dh k F) fun m=>if m=n then dh k (Fs n)else dh k F:=by
   intro vs h;refine⟨fun _=>⟨n+1,fun m hm=>ZU⟩,fun m hne=>?_⟩
   (try dsimp only at hne |-)
   by_cases hm:m=n
   ·rw[Xv hm]at hne |-;exact ih vs h hne
   ·rw[Xr hm]
  intro x hne
  have:=(h1 _ _ hl vs x).2 n
  (try dsimp only at this)
  rw[Xv rfl]at this;exact this hne
theorem nE{F:(List AV->M ρ)->List AV->M ρ}{Fs:Nat->(List AV->M ρ)->List AV->M ρ}(h1:zk F Fs):∀k,cK (dh k F) fun n=>dh k (Fs n)
 |0=>fun _ _=>.const _
 |k+1=>h1 _ _ (nE h1 k)
theorem Ab:qF (ak (ρ:=ρ)) fun n=>dh n:=by
 intro F Fs h1 hF hFs vs h;refine⟨fun hne=>?_,fun n hne=>?_⟩
 ·obtain⟨N,hN⟩:=(jz hF vs h).1 hne;have hN':=hN N (Xz _)
  (try dsimp only at hN')
  obtain⟨N2,hN2⟩:=(nE h1 N vs h).1 ZU;refine⟨max N N2,fun n hn=>?_⟩;have h3:=hN2 n ZS
  (try dsimp only at h3 |-)
  rw[<- tW (hFs n) (show N<=n by omega) vs h ZU,h3,hN']
 ·(try dsimp only at hne |-)
  have h2:=pU h1 n n vs h hne;rw[h2];exact (jz hF vs h).2 n ZU
theorem G6:zl (ak (ρ:=ρ)):=by
 intro F Fs h1 hF hFs vs h;refine⟨fun hne=>?_,fun n hne=>?_⟩
 ·obtain⟨N,hN⟩:=(jz hF vs h).1 hne;have hN':=hN N (Xz _)
  (try dsimp only at hN')
  obtain⟨N2,hN2⟩:=(nE h1 N vs h).1 ZU;refine⟨N2,fun n hn=>?_⟩;have h3:=hN2 n hn
  (try dsimp only at h3 |-)
  have:=(jz (hFs n) vs h).2 N ZU
  grind
 ·(try dsimp only at hne |-)
  obtain⟨N,hN⟩:=(jz (hFs n) vs h).1 hne;have hN':=hN N (Xz _)
  (try dsimp only at hN')
  have h2:=pU h1 n N vs h ZU;rw[<- hN',h2];exact (jz hF vs h).2 N ZU
theorem Cl(m:Nat):zl (dh (α:=ρ) m):=fun _F _Fs h1 _hF _hFs=>nE h1 m
theorem Ac(m:Nat):qF (dh (α:=ρ) (m+1)) fun n=>if n=0 then dh m else dh (m+1):=by
 intro F Fs h1 hF hFs vs h;refine⟨fun hne=>?_,fun n hne=>?_⟩
 ·obtain⟨N,hN⟩:=(nE h1 (m+1) vs h).1 hne;refine⟨max N 1,fun n hn=>?_⟩
  grind
 ·(try dsimp only at hne |-)
  by_cases h0:n=0
  ·rw[Xv h0]at hne |-;exact ((pU h1 n m vs).trans (qW hF m vs)) h hne
  ·rw[Xr h0]at hne |-;exact pU h1 n (m+1) vs h hne
end
def Cx.wc(cx:Cx)(call:FuncId->List AV->M AV):Cx:={ cx with call }
def jL(A:Act1)(As:Nat->Act1):Prop:=
 (∀n,As n=A)\/∃m ms sh,A= .dyn m sh/\(∀n,As n= .dyn (ms n) sh)/\eg m ms
section
variable {ρ:Type} {cx:Cx} {call:FuncId->List AV->M AV} {calls:Nat->FuncId->List AV->M AV}
theorem CJ(hc:∀f,cK (call f) fun n=>calls n f)(e:Env)(gid:Nat)(o:Oper)(c:Call):jL (ib (cx.wc call) e gid o c) fun n=>ib (cx.wc (calls n)) e gid o c:=by
 unfold ib;cases c.callee with
 |invoke r m=>exact .inl fun n=>rfl
 |builtin b=>cases b<;>exact .inl fun n=>rfl
 | value x=>
  have hv:jL (.dyn (cU call (opnd e x) (c.args.toList.map (opnd e))) .ofV) fun n=>.dyn (cU (calls n) (opnd e x) (c.args.toList.map (opnd e))) .ofV:=by
   refine .inr ⟨_,_,_,rfl,fun n=>rfl,?_⟩;unfold cU;split
   ·exact hc _ _
   ·exact gp _
  cases x with
  | func f=>
   have h0:jL (.dyn (call f (c.args.toList.map (oQ (bL cx.ann.hb o.dst) e))) fun v=>match cx.own f with|some sz=>.own v gid (some sz)|none=>.ofV v) fun n=>.dyn (calls n f (c.args.toList.map (oQ (bL cx.ann.hb o.dst) e))) fun v=>match cx.own f with|some sz=>.own v gid (some sz)|none=>.ofV v:=
    .inr ⟨_,_,_,rfl,fun n=>rfl,hc _ _⟩
   have key2:∀(b:Bool)(A B:Act1)(As Bs:Nat->Act1),jL A As->jL B Bs->jL (bif b then A else B) fun n=>bif b then As n else Bs n:=by
    intro b A B As Bs hA hB;cases b with
    |true=>exact hA
    |false=>exact hB
   have key:∀b:Bool,jL (bif b then .dyn (au (call f (c.args.toList.map (opnd e))) (bif bL cx.ann.hl o.dst then oF else DI)) .ofV else .bad) fun n=>bif b then .dyn (au (calls n f (c.args.toList.map (opnd e))) (bif bL cx.ann.hl o.dst then oF else DI)) .ofV else .bad:=by
    intro b;cases b with
    |false=>exact .inl fun n=>rfl
    |true=>exact .inr ⟨_,_,_,rfl,fun n=>rfl,(hc _ _).bnd (cK.const _)⟩
   have h1:jL (match jy cx.ann.cm o.dst with
     |some (m,r)=>bif !(cx.iso f)&&(cx.own f).isNone then .dyn (iu m r (call f (c.args.toList.map (opnd e)))) .ofV else .bad
     |none=>.dyn (call f (c.args.toList.map (oQ (bL cx.ann.hb o.dst) e))) fun v=>match cx.own f with|some sz=>.own v gid (some sz)|none=>.ofV v) fun n=>match jy cx.ann.cm o.dst with
     |some (m,r)=>bif !(cx.iso f)&&(cx.own f).isNone then .dyn (iu m r (calls n f (c.args.toList.map (opnd e)))) .ofV else .bad
     |none=>.dyn (calls n f (c.args.toList.map (oQ (bL cx.ann.hb o.dst) e))) fun v=>match cx.own f with|some sz=>.own v gid (some sz)|none=>.ofV v:=by
    cases jy cx.ann.cm o.dst with
    |none=>exact h0
    | some x=>
     obtain⟨m,r⟩:=x;refine key2 _ _ _ _ _ (.inr ⟨_,_,_,rfl,fun n=>rfl,?_⟩) (.inl fun n=>rfl);intro x;obtain⟨k1,k2⟩:=hc f (c.args.toList.map (opnd e)) x;refine⟨fun hne=>?_,fun n hne=>?_⟩
     ·obtain⟨N,hN⟩:=k1 (fun hh=>hne (by unfold iu;rw[hh]));refine⟨N,fun n hn=>?_⟩
      grind [iu]
     grind [iu]
   exact key2 (bL cx.ann.fz o.dst) _ _ _ _ (key (!(cx.iso f)&&(cx.own f).isNone)) h1
  |tmp t=>exact hv
  |const t=>exact hv
  |global t=>exact hv
theorem D9(hc:∀f,cK (call f) fun n=>calls n f)(e:Env)(gid:Nat)(o:Oper):jL (gS (cx.wc call) e gid o) fun n=>gS (cx.wc (calls n)) e gid o:=by
 unfold gS;cases o.op<;>first|exact .inl fun n=>rfl|exact CJ hc e gid o _
theorem CV{A:Act1}{As:Nat->Act1}(h:jL A As):jL (jX A) fun n=>jX (As n):=by
 rcases h with h|⟨m,ms,sh,rfl,h2,h3⟩
 ·exact .inl fun n=>ZU
 ·exact .inr ⟨m,ms,_,rfl,fun n=>by(try dsimp only);rw[h2];rfl,h3⟩
theorem EV{A:Act1}{As:Nat->Act1}(h:jL A As){k:Env->M ρ}{ks:Nat->Env->M ρ}(hk:cK k ks)(e:Env)(d:Option Tmp):eg (pP e d A k) fun n=>pP e d (As n) (ks n):=by
 rcases h with h|⟨m,ms,sh,rfl,h2,h3⟩
 ·have:(fun n=>pP e d (As n) (ks n))=fun n=>pP e d A (ks n):=by funext n;rw[h]
  rw[this];cases A with
  |bad=>exact gp _
  |stat u=>exact hk _
  |dyn m sh=>exact (gp m).bnd fun v=>hk _
  |thr v=>exact gp _
 ·have:(fun n=>pP e d (As n) (ks n))=fun n=>pP e d (.dyn (ms n) sh) (ks n):=by funext n;rw[h2]
  rw[this];exact h3.bnd fun v=>hk _
theorem qU(hc:∀f,cK (call f) fun n=>calls n f)(base:Nat)(ops:Array Oper)(st:Bool):∀(is:List Nat)(e:Env)(k:Env->M ρ)(ks:Nat->Env->M ρ),cK k ks->
  eg (lr (cx.wc call) base ops st is e k) fun n=>lr (cx.wc (calls n)) base ops st is e (ks n)
 |[],e,k,ks,hk=>hk e
 | i:: is,e,k,ks,hk=>by
  simp only[lr];cases ops[i]? with
  |none=>exact gp _
  |some o=>
   simp only;refine EV ?_ (fun e'=>qU hc base ops st is e' k ks hk) e o.dst;cases st with
   |true=>exact CV (D9 hc e _ o)
   |false=>exact D9 hc e _ o
theorem uk{c:AV}{want:Bool}{k:Nat}{m:M (List AV)}{ms:Nat->M (List AV)}(h:eg m ms):eg (aK c want k m) fun n=>aK c want k (ms n):=by
 unfold aK;cases c with
 |bool b=>
  simp only;cases b== want with
  |true=>exact h
  |false=>exact gp _
 |tup vs=>cases vs<;>exact gp _
 |_=>exact gp _
theorem mC(hc:∀f,cK (call f) fun n=>calls n f)(base:Nat)(ops:Array Oper):∀(gs:List (Option (Nat×Bool)×List Nat))(e:Env)(k:Env->M ρ)(ks:Nat->Env->M ρ),cK k ks->
  eg (fN (cx.wc call) base ops gs e k) fun n=>fN (cx.wc (calls n)) base ops gs e (ks n)
 |[],e,k,ks,hk=>hk e
 |(none,is):: gs,e,k,ks,hk=>by
  simp only[fN];exact qU hc base ops false is e _ _ fun e'=>mC hc base ops gs e' k ks hk
 | (some (j,want),is):: gs,e,k,ks,hk=>by
  simp only[fN];cases dI ops j with
  |none=>exact gp _
  | some t=>
   simp only;have hp:∀c,(is.all fun i=>match ops[i]? with|some o=>gI (cx.wc c) o&&o.dst.isSome|none=>false)=(is.all fun i=>match ops[i]? with|some o=>gI cx o&&o.dst.isSome|none=>false):=fun c=>rfl;have key:∀b:Bool,eg (bif b then au (aK (e.av t) want (ez ops is gs).length (lr (cx.wc call) base ops true is e fun e'=>bif (ez ops is gs).all (fun t=>po (e'.get t))then ao ((ez ops is gs).map e'.av)else gU)) fun vs=>
     fN (cx.wc call) base ops gs (iL (forget e (dM ops is)) vs 0 (ez ops is gs)) k else gU) fun n=>(bif b then au (aK (e.av t) want (ez ops is gs).length (lr (cx.wc (calls n)) base ops true is e fun e'=>bif (ez ops is gs).all (fun t=>po (e'.get t))then ao ((ez ops is gs).map e'.av)else gU)) fun vs=>
     fN (cx.wc (calls n)) base ops gs (iL (forget e (dM ops is)) vs 0 (ez ops is gs)) (ks n)else gU):=by
    intro b;cases b with
    |false=>exact gp _
    |true=>exact (uk (qU hc base ops true is e _ _ (cK.const _))).bnd fun vs=>mC hc base ops gs _ k ks hk
   exact key _
theorem xo{α:Type}{m:M α}{ms:Nat->M α}(h:eg m ms):eg (dz m) fun n=>dz (ms n):=by
 intro x;obtain⟨h1,h2⟩:=h x;refine⟨fun hne=>?_,fun n hne=>?_⟩
 ·have hne':m x≠.fail:=fun hf=>hne (by simp only[dz,hf]);obtain⟨N,hN⟩:=h1 hne';exact⟨N,fun n hn=>by grind [dz]⟩
 grind [dz]
theorem B6(hc:∀f,cK (call f) fun n=>calls n f):∀f,cK ((gM (cx.wc call)).call f) fun n=>(gM (cx.wc (calls n))).call f:=by
 intro f args;show eg (bif cx.iso f then dz (call f args)else call f args) fun n=>(bif cx.iso f then dz (calls n f args)else calls n f args);cases cx.iso f with
 |true=>exact xo (hc f args)
 |false=>exact hc f args
theorem Hk(c:FuncId->List AV->M AV)(ops:Array Oper)(i j:Nat):p8 (cx.wc c) ops i j=p8 cx ops i j:=rfl
theorem uS(c:FuncId->List AV->M AV)(ops:Array Oper)(bf:List Nat):∀l,mR (cx.wc c) ops bf l=mR cx ops bf l
 |[]=>rfl
 |i:: is=>by simp only[mR,uS c ops bf is,Hk]
theorem ET(c:FuncId->List AV->M AV)(ops:Array Oper)(ord:List Nat):pf (cx.wc c) ops ord=pf cx ops ord:=by
 unfold pf;rw[uS]
theorem EW(hc:∀f,cK (call f) fun n=>calls n f)(id:Nat)(ops:Array Oper)(draw:Bool)(e:Env){k:Env->M ρ}{ks:Nat->Env->M ρ}(hk:cK k ks):
  eg (rU (cx.wc call) id ops draw e k) fun n=>rU (cx.wc (calls n)) id ops draw e (ks n):=by
 unfold rU;simp only[ET];have hk':cK (fun e':Env=>k { e' with nx:=e.nx+ops.size }) fun n e'=>ks n { e' with nx:=e.nx+ops.size }:=fun e'=>hk _;have key:∀b1 b2:Bool,eg (bif b1 then(bif draw then(bif b2 then fN (gM (cx.wc call)) e.nx ops (eP ops (xu cx id ops.size)) e fun e'=>k { e' with nx:=e.nx+ops.size }else gU)
   else fN (cx.wc call) e.nx ops (eP ops (List.range ops.size)) e fun e'=>k { e' with nx:=e.nx+ops.size })else gU) fun n=>(bif b1 then(bif draw then(bif b2 then fN (gM (cx.wc (calls n))) e.nx ops (eP ops (xu cx id ops.size)) e fun e'=>ks n { e' with nx:=e.nx+ops.size }else gU)
   else fN (cx.wc (calls n)) e.nx ops (eP ops (List.range ops.size)) e fun e'=>ks n { e' with nx:=e.nx+ops.size })else gU):=by
  intro b1 b2;cases b1 with
  |false=>exact gp _
  | true=>
   cases draw with
   |false=>exact mC hc _ _ _ _ _ _ hk'
   |true=>
    cases b2 with
    |false=>exact gp _
    |true=>exact mC (cx:=cx) (call:=(gM (cx.wc call)).call) (calls:=fun n=>(gM (cx.wc (calls n))).call) (B6 hc) _ _ _ _ _ _ hk'
 exact key (lO cx.nt ops) (pf cx ops (xu cx id ops.size))
theorem Ch(hc:∀f,cK (call f) fun n=>calls n f)(id:Nat)(ops:Array Oper)(draw:Bool)(e:Env){k:Env->M ρ}{ks:Nat->Env->M ρ}(hk:cK k ks):
  eg (qT (cx.wc call) id ops draw e k) fun n=>qT (cx.wc (calls n)) id ops draw e (ks n):=EW hc id ops draw e hk
theorem qC{ja:JA}{j:List AV->M ρ}{js:Nat->List AV->M ρ}(h:cK j js)(e:Env):eg (vC ja j e) fun n=>vC ja (js n) e:=by
 unfold vC;cases pack ja e with
 |none=>exact gp _
 |some vs=>
  simp only;cases ja.fz with
  |true=>simp only[Xw];exact (gp (Wg vs)).bnd h
  |false=>exact h vs
theorem Nb:∀(n:Nat)(code:Code),SizeOf.sizeOf code<n->∀(call:FuncId->List AV->M AV)(calls:Nat->FuncId->List AV->M AV)(fx:bk ρ)(fxs:Nat->bk ρ),(∀f,cK (call f) fun n=>calls n f)->qF fx fxs->zl fx->(∀n,zl (fxs n))->
  ∀(e:Env)(kn:Env->M ρ)(kns:Nat->Env->M ρ)(kx:Nat->Env->M ρ)(kxs:Nat->Nat->Env->M ρ)(kr:Env->M ρ)(krs:Nat->Env->M ρ),cK kn kns->(∀i,cK (kx i) fun n=>kxs n i)->cK kr krs->
  eg (ev (cx.wc call) fx code e kn kx kr) fun n=>ev (cx.wc (calls n)) (fxs n) code e (kns n) (kxs n) (krs n):=by
 intro n
 induction n with
 |zero=>grind
 | succ n ih=>
  intro code hn call calls fx fxs hc hfx hfc hfcs e kn kns kx kxs kr krs hkn hkx hkr;cases code<;>(try exact gp _)
  case skip=>exact hkn e
  case exit id=>exact hkx id e
  case ret=>exact hkr e
  case region id ops draw=>exact Ch hc id ops draw e hkn
  case seq x y=>
   have hx:SizeOf.sizeOf x<n:=by simp at hn;omega
   have hy:SizeOf.sizeOf y<n:=by simp at hn;omega
   simp only[ev];have hya:∀e,eg (ev (cx.wc call) fx y e kn kx kr) fun n=>ev (cx.wc (calls n)) (fxs n) y e (kns n) (kxs n) (krs n):=fun e=>ih y hy call calls fx fxs hc hfx hfc hfcs e kn kns kx kxs kr krs hkn hkx hkr;have key:∀oj:Option JA,eg (match oj with|some ja=>jn (fun vs=>ev (cx.wc call) fx y (unpack ja vs) kn kx kr) fun j=>ev (cx.wc call) fx x e (vC ja j) kx kr|none=>ev (cx.wc call) fx x e (fun e'=>ev (cx.wc call) fx y e' kn kx kr) kx kr)
     fun n=>(match oj with|some ja=>jn (fun vs=>ev (cx.wc (calls n)) (fxs n) y (unpack ja vs) (kns n) (kxs n) (krs n)) fun j=>ev (cx.wc (calls n)) (fxs n) x e (vC ja j) (kxs n) (krs n)|none=>ev (cx.wc (calls n)) (fxs n) x e (fun e'=>ev (cx.wc (calls n)) (fxs n) y e' (kns n) (kxs n) (krs n)) (kxs n) (krs n)):=by
    intro oj;cases oj with
    |none=>exact ih x hx call calls fx fxs hc hfx hfc hfcs e _ (fun n e'=>ev (cx.wc (calls n)) (fxs n) y e' (kns n) (kxs n) (krs n)) kx kxs kr krs hya hkx hkr
    |some ja=>exact ih x hx call calls fx fxs hc hfx hfc hfcs e _ (fun n=>vC ja fun vs=>ev (cx.wc (calls n)) (fxs n) y (unpack ja vs) (kns n) (kxs n) (krs n)) kx kxs kr krs (fun e'=>qC (fun vs=>hya _) e') hkx hkr
   have h:=key (match sV x with|some t=>tU cx.ann.joins t|none=>none);exact h
  case cond o x y=>
   have hx:SizeOf.sizeOf x<n:=by simp at hn;omega
   have hy:SizeOf.sizeOf y<n:=by simp at hn;omega
   cases o<;>(try exact gp _)
   case const v=>
    simp only[ev];cases cA v with
    |bool b=>
     cases b with
     |true=>exact ih x hx call calls fx fxs hc hfx hfc hfcs e kn kns kx kxs kr krs hkn hkx hkr
     |false=>exact ih y hy call calls fx fxs hc hfx hfc hfcs e kn kns kx kxs kr krs hkn hkx hkr
    |_=>exact gp _
   rename_i t;simp only[ev];cases decide (t<1000)with
   |false=>exact gp _
   | true=>
    simp only[Xw];cases e.av t with
    |bool b=>
     cases b with
     |true=>exact ih x hx call calls fx fxs hc hfx hfc hfcs e kn kns kx kxs kr krs hkn hkx hkr
     |false=>exact ih y hy call calls fx fxs hc hfx hfc hfcs e kn kns kx kxs kr krs hkn hkx hkr
    |_=>exact gp _
  case block id code=>
   have hbx:∀(kx:Nat->Env->M ρ)(kxs:Nat->Nat->Env->M ρ)(kn:Env->M ρ)(kns:Nat->Env->M ρ),(∀i,cK (kx i) fun n=>kxs n i)->cK kn kns->∀i,cK (fun e'=>bif Nat.beq i id then kn e' else kx i e') fun n e'=>bif Nat.beq i id then kns n e' else kxs n i e':=by
    intro kx kxs kn kns hkx hkn i e'
    (try dsimp only)
    cases Nat.beq i id with
    |true=>exact hkn e'
    |false=>exact hkx i e'
   by_cases hcl:∃b,code= .loop b
   ·obtain⟨b,rfl⟩:=hcl;have hb:SizeOf.sizeOf b<n:=by simp at hn;omega
    have key:∀oj:Option JA,eg (match oj with|none=>gU|some ja=>vC ja (fx fun self vs=>ev (cx.wc call) fx b (unpack ja vs) (vC ja self) (fun i e'=>bif Nat.beq i id then kn e' else kx i e') kr) e)
      fun n=>(match oj with|none=>gU|some ja=>vC ja (fxs n fun self vs=>ev (cx.wc (calls n)) (fxs n) b (unpack ja vs) (vC ja self) (fun i e'=>bif Nat.beq i id then kns n e' else kxs n i e') (krs n)) e):=by
     intro oj;cases oj with
     |none=>exact gp _
     | some ja=>
      refine qC (hfx _ (fun n self vs=>ev (cx.wc (calls n)) (fxs n) b (unpack ja vs) (vC ja self) (fun i e'=>bif Nat.beq i id then kns n e' else kxs n i e') (krs n)) ?_ ?_ ?_) e
      ·intro self selfs hs vs;exact ih b hb call calls fx fxs hc hfx hfc hfcs (unpack ja vs) _ (fun n=>vC ja (selfs n)) _ (fun n i e'=>bif Nat.beq i id then kns n e' else kxs n i e') kr krs (fun e'=>qC hs e') (hbx kx kxs kn kns hkx hkn) hkr
      ·intro self selfs hs vs;exact ih b hb call (fun _=>call) fx (fun _=>fx) (fun f=>cK.const _) hfc hfc (fun _=>hfc) (unpack ja vs) _ (fun n=>vC ja (selfs n)) _ (fun n i e'=>bif Nat.beq i id then kn e' else kx i e') kr (fun _=>kr) (fun e'=>qC hs e') (fun i=>cK.const _) (cK.const _)
      ·intro m self selfs hs vs;exact ih b hb (calls m) (fun _=>calls m) (fxs m) (fun _=>fxs m) (fun f=>cK.const _) (hfcs m) (hfcs m) (fun _=>hfcs m) (unpack ja vs) _ (fun n=>vC ja (selfs n)) _ (fun n i e'=>bif Nat.beq i id then kns m e' else kxs m i e') (krs m) (fun _=>krs m) (fun e'=>qC hs e') (fun i=>cK.const _) (cK.const _)
    exact key (tU cx.ann.loops id)
   ·have hs:SizeOf.sizeOf code<n:=by simp at hn;omega
    have hev:∀(cx:Cx)(fx:bk ρ)(kn:Env->M ρ)(kx:Nat->Env->M ρ)(kr:Env->M ρ),ev cx fx (.block id code) e kn kx kr=ev cx fx code e kn (fun i e'=>bif Nat.beq i id then kn e' else kx i e') kr:=by
     intro cx fx kn kx kr;cases code<;>first|rfl|grind
    simp_all
end
def Hl{m:List AV->M AV}{ms:Nat->List AV->M AV}(h:cK m ms)(args:List AV):eg (vY m args) fun n=>vY (ms n) args:=by
 intro x;obtain⟨h1,h2⟩:=h (fp aF args) []
 (try dsimp only at h1 h2)
 refine⟨fun hne=>?_,fun n hne=>?_⟩
 ·have hne':m (fp aF args) []≠.fail:=fun hf=>hne (by simp only[vY,hf]);obtain⟨N,hN⟩:=h1 hne';refine⟨N,fun n hn=>?_⟩
  grind [vY]
 grind [vY]
def fT(p:Pg):Prop:=∀f E,p.other f=some E->∀(call:FuncId->List AV->M AV)(calls:Nat->FuncId->List AV->M AV),(∀f,cK (call f) fun n=>calls n f)->cK (E call) fun n=>E (calls n)
section
variable {cx:Cx} {call:FuncId->List AV->M AV} {calls:Nat->FuncId->List AV->M AV} {fx:bk AV} {fxs:Nat->bk AV}
theorem Cf(hc:∀f,cK (call f) fun n=>calls n f)(hfx:qF fx fxs)(hfc:zl fx)(hfcs:∀n,zl (fxs n))(fn:Func)(own:Option Nat):
  cK (bX (cx.wc call) fx fn own) fun n=>bX (cx.wc (calls n)) (fxs n) fn own:=by
 intro args;unfold bX;cases fn.body with
 |none=>exact gp _
 | some c=>
  have key:∀b:Bool,eg (bif b then ev (cx.wc call) fx c (sQ args) (mb (cx.wc call) fn own) (fun _ _=>gU) (mb (cx.wc call) fn own)else gU) fun n=>(bif b then ev (cx.wc (calls n)) (fxs n) c (sQ args) (mb (cx.wc (calls n)) fn own) (fun _ _=>gU) (mb (cx.wc (calls n)) fn own)else gU):=by
   intro b;cases b with
   |false=>exact gp _
   |true=>
    have hr:cK (mb (cx.wc call) fn own) fun n=>mb (cx.wc (calls n)) fn own:=cK.const (mb cx fn own);exact Nb _ c (Nat.lt_succ_self _) call calls fx fxs hc hfx hfc hfcs (sQ args) _ (fun n=>mb (cx.wc (calls n)) fn own) _ (fun _ _ _=>gU) _ (fun n=>mb (cx.wc (calls n)) fn own) hr (fun i=>cK.const _) hr
  exact key (decide (args.length<=fn.ntmps)&&decide (fn.ntmps<=1000)&&p9 cx.nt cx.ann.kinds)
theorem wQ{p:Pg}(hO:fT p)(hc:∀f,cK (call f) fun n=>calls n f)(hfx:qF fx fxs)(hfc:zl fx)(hfcs:∀n,zl (fxs n))(f:FuncId):cK (lq p call fx f) fun n=>lq p (calls n) (fxs n) f:=by
 intro args;unfold lq;cases ho:p.other f with
 |some E=>exact hO f E ho call calls hc args
 | none=>
  simp only;cases p.funcs f with
  |none=>exact gp _
  |some x=>
   obtain⟨fn,a⟩:=x;simp only;have hb:=Cf (cx:=p.cx call fn.ntmps a) hc hfx hfc hfcs fn (p.own f);cases a.iso with
   |true=>exact Hl hb args
   |false=>exact hb args
end
theorem rT{p:Pg}(hO:fT p):∀n f args,Bz (eu p n f args) (eu p (n+1) f args)
 |0,f,args=>fun x hne=>absurd rfl hne
 | n+1,f,args=>by
  have hc:∀f,cK (eu p (n+1) f) fun m=>(if m=0 then eu p n else eu p (n+1)) f:=by
   intro f args x;refine⟨fun _=>⟨1,fun m hm=>?_⟩,fun m hne=>?_⟩
   ·grind
   ·(try dsimp only at hne |-)
    by_cases h0:m=0
    ·rw[Xv h0]at hne |-;exact rT hO n f args x hne
    grind
  have h:=wQ hO hc (Ac n) (Cl (n+1)) (fun m=>by
   by_cases h0:m=0
   all_goals simp_all[Cl]) f args
  intro x hne
  have:=(h x).2 0
  (try dsimp only at this)
  rw[Xv rfl,Xv rfl]at this;exact this hne
def yt{p:Pg}(hO:fT p){n m:Nat}(h:n<=m)(f:FuncId)(args:List AV):Bz (eu p n f args) (eu p m f args):=by
 induction m with
 | zero => have:n=0:=ZS
           subst this;exact .refl _
 |succ m ih=>
  by_cases hn:n=m+1
  ·subst hn;exact .refl _
  ·exact (ih ZS).trans (rT hO m f args)
open Classical in
noncomputable def af(p:Pg)(f:FuncId)(args:List AV):M AV:=fun h=>if hx:∃n,eu p n f args h≠.fail then eu p (Classical.choose hx) f args h else .fail
def nZ{p:Pg}(hO:fT p)(f:FuncId):cK (af p f) fun n=>eu p n f:=by
 intro args h;refine wI (fun n m hnm hne=>yt hO hnm f args h hne) ?_;unfold af;by_cases hx:∃n,eu p n f args h≠.fail
 all_goals grind
def tn.uniq{α:Type}{a a':R α}{b:Nat->R α}(h:tn a b)(g:tn a' fun n=>b (n+1)):a=a':=by
 by_cases ha:a= .fail
 ·by_cases ha':a'= .fail
  ·rw[ha,ha']
  ·obtain⟨N,hN⟩:=g.1 ha';have h1:=hN N (Xz _)
   (try dsimp only at h1)
   exact (h.2 (N+1) ZU).symm.trans h1
 ·obtain⟨N,hN⟩:=h.1 ha;have h1:=hN (N+1) ZS;have h2:=g.2 N
  grind
theorem tB{p:Pg}(hO:fT p)(f:FuncId)(args:List AV):af p f args=lq p (af p) ak f args:=by
 funext h;have h1:=nZ hO f args h;have h2:=wQ hO (fun f=>nZ hO f) Ab G6 (fun n=>Cl n) f args h;exact h1.uniq h2
def zG[Dr]{P:Program}{p:Pg}(G:GoodPg P p)(hO:fT p):dD P p.own (af p):=by
 intro f args h S β w vs hr hg hw hh hv;obtain⟨N,hN⟩:=(nZ hO f args h).1 hr;have h1:=hN N (Xz _)
 (try dsimp only at h1)
 rw[<- h1]at hr |-;exact pQ G N f args h S β w vs hr hg hw hh hv
def zF{p:Pg}(hO:fT p){n:Nat}{f:FuncId}{args:List AV}{h:Hp}{r:R AV}(hr:eu p n f args h=r)(hne:r≠.fail):af p f args h=r:=by
 have:=(nZ hO f args h).2 n ZU
 grind
section
variable {ρ:Type}
theorem JJ{F:(List AV->M ρ)->List AV->M ρ}(hF:oJ F)(vs:List AV):ak F vs=F (ak F) vs:=by
 funext h;exact (jz hF vs h).uniq (hF _ _ (jz hF) vs h)
theorem wM{c:AV}{x y:M ρ}{xs ys:Nat->M ρ}(hx:eg x xs)(hy:eg y ys):eg (aC c x y) fun n=>aC c (xs n) (ys n):=by
 unfold aC;cases c with
 |bool b=>cases b<;>first|exact hx|exact hy
 |_=>exact gp _
theorem Vn{k:List AV->M ρ}{ks:Nat->List AV->M ρ}{m:(List AV->M ρ)->M ρ}{ms:Nat->(List AV->M ρ)->M ρ}(hk:cK k ks)(hm:∀j js,cK j js->eg (m j) fun n=>ms n (js n)):eg (jn k m) fun n=>jn (ks n) (ms n):=
 hm k ks hk
theorem E7{F:(List AV->M ρ)->List AV->M ρ}{Fs:Nat->(List AV->M ρ)->List AV->M ρ}(h1:zk F Fs)(h2:oJ F)(h3:∀n,oJ (Fs n)):cK (ak F) fun n=>ak (Fs n):=G6 F Fs h1 h2 h3
end
def bn(m:M AV):M AV:=fun h=>match m []with
 |.ok r h'=>.ok (frz 6 h' r) h
 |.pan v h'=>.pan (frz 6 h' v) h
 |.fail=>.fail
def EN{p:Pg}(hO:fT p){f:FuncId}{fn:Func}{a:Ann}(h1:p.other f=none)(h2:p.funcs f=some (fn,a))(h3:a.iso=true)(args:List AV):
  af p f args=bn (bX (p.cx (af p) fn.ntmps a) ak fn (p.own f) (fp aF args)):=by
 rw[tB hO];unfold lq;rw[h1];simp only;rw[h2];simp only[h3,Xw];rfl
def BQ{p:Pg}(hO:fT p){f:FuncId}{fn:Func}{a:Ann}(h1:p.other f=none)(h2:p.funcs f=some (fn,a))(h3:a.iso=false)(args:List AV):
  af p f args=bX (p.cx (af p) fn.ntmps a) ak fn (p.own f) args:=by
 simp_all[tB,lq]
def d9{p:Pg}(hO:fT p){f:FuncId}{E:(FuncId->List AV->M AV)->List AV->M AV}(h1:p.other f=some E)(args:List AV):af p f args=E (af p) args:=by
 grind [tB,lq]
def ep(T:TT)(t:TypeId):(FuncId->List AV->M AV)->List AV->M AV:=fun _ args=>match args with
 |[.sl es]=>bP (dJ T t (.sl []) (.sl es))
 |_=>gU
def Br(t:TypeId)(k:IntKind)(zero:AV):R AV->R AV
 |.ok v h'=>bif bR 4 v then .ok (.tup [.agg (aa v),.int k 0]) h' else .fail
 |.pan (.iface t' (.int k' n)) h'=>bif Nat.beq t' t&&decide (k'=k)then .ok (.tup [zero,.int k n]) h' else .fail
 |_=>.fail
def Bq(t:TypeId)(k:IntKind)(zero:AV):(FuncId->List AV->M AV)->List AV->M AV:=fun call args=>match args with
 |[f]=>fun h=>Br t k zero (cU call f [] h)
 |_=>gU
def AY{m:M AV}{ms:Nat->M AV}(p:R AV->R AV)(hp:p .fail= .fail)(h:eg m ms):eg (fun x=>p (m x)) fun n=>fun x=>p (ms n x):=by
 intro x;obtain⟨h1,h2⟩:=h x;constructor
 ·intro hne;obtain⟨N,hN⟩:=h1 (fun hh=>hne ZU);exact⟨N,fun n hn=>X4 p (hN n hn)⟩
 ·intro n hne;exact X4 p (h2 n (fun hh=>hne ZU))
def pb(T:TT)(t:TypeId)(call:FuncId->List AV->M AV)(calls:Nat->FuncId->List AV->M AV):cK (ep T t call) fun n=>ep T t (calls n):=cK.const _
def IL(t:TypeId)(k:IntKind)(zero:AV)(call:FuncId->List AV->M AV)(calls:Nat->FuncId->List AV->M AV)(hc:∀f,cK (call f) fun n=>calls n f):cK (Bq t k zero call) fun n=>Bq t k zero (calls n):=by
 have hv:∀f,eg (cU call f []) fun n=>cU (calls n) f []:=by
  intro f;unfold cU;split
  ·exact hc _ _
  ·exact gp _
 intro args;cases args with
 |nil=>exact gp _
 |cons f r=>
  cases r with
  |nil=>exact AY (Br t k zero) rfl (hv f)
  |cons _ _=>exact gp _
def fC{α:Type}{b:Bool}{x:α}{o:Option α}{y:α}(h:(bif b then some x else o)=some y):x=y\/o=some y:=by
 grind
end Go.Av
namespace Go.Av.Ap
abbrev aW:=List UInt8
inductive Val where
 |mk (kind n:Int) (names:List aW) (values:List Val)
instance:Inhabited Val:=⟨.mk 0 0 [] []⟩
inductive Exp where
 |mk (op n:Int) (s m:aW) (names:List aW) (args:List Exp)
instance:Inhabited Exp:=⟨.mk 0 0 [] [] [] []⟩
inductive Ty where
 |mk (kind:Int) (fields:List (aW×Ty))
instance:Inhabited Ty:=⟨.mk 0 []⟩
abbrev fF:=aW×Ty
structure Fun where
 name:aW
 pub:Bool
 params:List fF
 result:Ty
 effects:Int
 body:Exp
 deriving Inhabited
structure Mod where
 name:aW
 uses:List aW
 vars:List fF
 init:List Exp
 funcs:List Fun
 moves:Bool
 old:List fF
 forward:List Exp
 back:List Exp
 deriving Inhabited
def Val.kind:Val->Int|.mk k _ _ _=>k
def Val.n:Val->Int|.mk _ n _ _=>n
def Val.names:Val->List aW|.mk _ _ ns _=>ns
def Val.values:Val->List Val|.mk _ _ _ vs=>vs
def Exp.op:Exp->Int|.mk o _ _ _ _ _=>o
def Exp.n:Exp->Int|.mk _ n _ _ _ _=>n
def Exp.s:Exp->aW|.mk _ _ s _ _ _=>s
def Exp.m:Exp->aW|.mk _ _ _ m _ _=>m
def Exp.names:Exp->List aW|.mk _ _ _ _ ns _=>ns
def Exp.args:Exp->List Exp|.mk _ _ _ _ _ es=>es
def Ty.kind:Ty->Int|.mk k _=>k
def Ty.fields:Ty->List fF|.mk _ fs=>fs
@[simp] theorem Xl(a b c d):(Val.mk a b c d).kind=a:=rfl
@[simp] theorem Xm(a b c d):(Val.mk a b c d).n=b:=rfl
@[simp] theorem Xg(a b c d):(Val.mk a b c d).names=c:=rfl
@[simp] theorem Xe(a b c d):(Val.mk a b c d).values=d:=rfl
def strs(l:List aW):AV:=.sl (l.map .str)
mutual
def Val.av:Val->AV
 |.mk k n ns vs=>.agg [.int .i64 k,.int .i64 n,strs ns,.sl (d7 vs)]
def d7:List Val->List AV
 |[]=>[]
 |v:: vs=>v.av:: d7 vs
end
mutual
def Exp.cells:Exp->List AV
 |.mk o n s m ns es=>[.int .i64 o,.int .i64 n,.str s,.str m,strs ns,.sl (jP es)]
def jP:List Exp->List AV
 |[]=>[]
 |e:: es=>.agg e.cells:: jP es
end
def Exp.av(e:Exp):AV:=.agg e.cells
mutual
def Ty.cells:Ty->List AV
 |.mk k fs=>[.int .i64 k,.sl (jQ fs)]
def jQ:List (aW×Ty)->List AV
 |[]=>[]
 |f:: fs=>dV f:: jQ fs
def dV:aW×Ty->AV
 |(n,t)=>.agg (.str n:: t.cells)
end
def Ty.av(t:Ty):AV:=.agg t.cells
def Fun.av(f:Fun):AV:=.agg ([.str f.name,.bool f.pub,.sl (jQ f.params)]++f.result.cells++[.int .i64 f.effects]++f.body.cells)
def iP(l:List Fun):AV:=.sl (l.map Fun.av)
def Mod.av(m:Mod):AV:=.agg [.str m.name,strs m.uses,.sl (jQ m.vars),.sl (jP m.init),iP m.funcs,.bool m.moves,.sl (jQ m.old),.sl (jP m.forward),.sl (jP m.back)]
def vals(l:List Val):AV:=.sl (d7 l)
def dF(l:List Exp):AV:=.sl (jP l)
def ck(l:List fF):AV:=.sl (jQ l)
def mods(l:List Mod):AV:=.sl (l.map Mod.av)
def ints(l:List Int):AV:=.sl (l.map (.int .i64))
structure Vars where
 module:aW
 values:List Val
 deriving Inhabited
structure Deed where
 effect:Int
 arg:Int
 answer:Int
 deriving DecidableEq,Inhabited
structure Call where
 module:aW
 func:aW
 args:List Val
 deriving Inhabited
def Vars.av(v:Vars):AV:=.agg [.str v.module,vals v.values]
def Deed.av(d:Deed):AV:=.agg [.int .i64 d.effect,.int .i64 d.arg,.int .i64 d.answer]
def Call.av(c:Call):AV:=.agg [.str c.module,.str c.func,vals c.args]
def aN(l:List Vars):AV:=.sl (l.map Vars.av)
def deeds(l:List Deed):AV:=.sl (l.map Deed.av)
def calls(l:List Call):AV:=.sl (l.map Call.av)
structure Out where
 err:Int
 value:Val
 deeds:List Deed
 calls:List Call
 state:List Vars
def Out.av(o:Out):AV:=.agg [.int .i64 o.err,.int .i64 o.value.kind,.int .i64 o.value.n,strs o.value.names,vals o.value.values,Ap.deeds o.deeds,Ap.calls o.calls,aN o.state]
theorem dT:(l:List Val)->d7 l=l.map Val.av
 |[]=>rfl
 |v:: l=>by simp[d7,dT l]
theorem kJ:(l:List Exp)->jP l=l.map Exp.av
 |[]=>rfl
 |v:: l=>by simp[jP,kJ l,Exp.av]
theorem kL:(l:List fF)->jQ l=l.map dV
 |[]=>rfl
 |v:: l=>by simp[jQ,kL l]
def Val.av_eq(v:Val):v.av= .agg [.int .i64 v.kind,.int .i64 v.n,strs v.names,vals v.values]:=by cases v;rfl
theorem Exp.cells_eq(e:Exp):e.cells=[.int .i64 e.op,.int .i64 e.n,.str e.s,.str e.m,strs e.names,dF e.args]:=by cases e;rfl
theorem Ty.cells_eq(t:Ty):t.cells=[.int .i64 t.kind,ck t.fields]:=by cases t;simp[Ty.cells,ck,Ty.kind,Ty.fields]
def tY(f:fF):dV f= .agg [.str f.1,.int .i64 f.2.kind,ck f.2.fields]:=by grind [dV,Ty.cells_eq]
@[simp] theorem bK(v:Val):aa v.av=[.int .i64 v.kind,.int .i64 v.n,strs v.names,vals v.values]:=by rw[v.av_eq];rfl
@[simp] theorem cu(e:Exp):aa e.av=[.int .i64 e.op,.int .i64 e.n,.str e.s,.str e.m,strs e.names,dF e.args]:=by rw[Exp.av,e.cells_eq];rfl
@[simp] theorem mh(f:fF):aa (dV f)=[.str f.1,.int .i64 f.2.kind,ck f.2.fields]:=by rw[tY];rfl
@[simp] theorem Ew(t:Ty):aa t.av=[.int .i64 t.kind,ck t.fields]:=by rw[Ty.av,t.cells_eq];rfl
@[simp] theorem mi(f:Fun):aa f.av=[.str f.name,.bool f.pub,ck f.params,.int .i64 f.result.kind,ck f.result.fields,.int .i64 f.effects,.int .i64 f.body.op,.int .i64 f.body.n,.str f.body.s,.str f.body.m,strs f.body.names,dF f.body.args]:=by
 grind [Fun.av,aa,Ty.cells_eq,Exp.cells_eq,ck]
@[simp] theorem fJ(m:Mod):aa m.av=[.str m.name,strs m.uses,ck m.vars,dF m.init,iP m.funcs,.bool m.moves,ck m.old,dF m.forward,dF m.back]:=rfl
@[simp] theorem Ha(v:Val):AV.agg [.int .i64 v.kind,.int .i64 v.n,strs v.names,vals v.values]=v.av:=(v.av_eq).symm
@[simp] theorem lS(e:Exp):AV.agg [.int .i64 e.op,.int .i64 e.n,.str e.s,.str e.m,strs e.names,dF e.args]=e.av:=by rw[Exp.av,e.cells_eq]
@[simp] theorem DF(t:Ty):AV.agg [.int .i64 t.kind,ck t.fields]=t.av:=by rw[Ty.av,t.cells_eq]
@[simp] theorem Ad(f:fF):AV.agg [.str f.1,.int .i64 f.2.kind,ck f.2.fields]=dV f:=(tY f).symm
@[simp] theorem G9(f:Fun):AV.agg [.str f.name,.bool f.pub,ck f.params,.int .i64 f.result.kind,ck f.result.fields,.int .i64 f.effects,.int .i64 f.body.op,.int .i64 f.body.n,.str f.body.s,.str f.body.m,strs f.body.names,dF f.body.args]=f.av:=by
 simp[Fun.av,Ty.cells_eq,Exp.cells_eq,ck]
@[simp] theorem Ri(m:Mod):AV.agg [.str m.name,strs m.uses,ck m.vars,dF m.init,iP m.funcs,.bool m.moves,ck m.old,dF m.forward,dF m.back]=m.av:=rfl
theorem gD{α:Type}(g:Nat->Nat->Nat->Nat->Bool->AV)(f:α->AV)(h:∀x,cl g (f x)=f x):(l:List α)->fp g (l.map f)=l.map f
 |[]=>rfl
 |x:: l=>by simp[fp,h x,gD g f h l]
@[simp] theorem oc(g:Nat->Nat->Nat->Nat->Bool->AV)(l:List aW):cl g (strs l)=strs l:=by
 simp[strs,cl,gD g AV.str (fun _=>rfl) l]
@[simp] theorem pL(g:Nat->Nat->Nat->Nat->Bool->AV)(l:List Int):cl g (ints l)=ints l:=by
 simp[ints,cl,gD g (AV.int .i64) (fun _=>rfl) l]
mutual
theorem Val.cl_av(g:Nat->Nat->Nat->Nat->Bool->AV):(v:Val)->cl g v.av=v.av
 |.mk k n ns vs=>by simp[Val.av,cl,fp,zf g vs]
theorem zf(g:Nat->Nat->Nat->Nat->Bool->AV):(l:List Val)->fp g (d7 l)=d7 l
 |[]=>rfl
 |v:: l=>by simp[d7,fp,Val.cl_av g v,zf g l]
end
mutual
theorem Exp.cl_cells(g:Nat->Nat->Nat->Nat->Bool->AV):(e:Exp)->fp g e.cells=e.cells
 |.mk o n s m ns es=>by simp[Exp.cells,cl,fp,sW g es]
theorem sW(g:Nat->Nat->Nat->Nat->Bool->AV):(l:List Exp)->fp g (jP l)=jP l
 |[]=>rfl
 |e:: l=>by simp[jP,fp,cl,Exp.cl_cells g e,sW g l]
end
mutual
theorem Ty.cl_cells(g:Nat->Nat->Nat->Nat->Bool->AV):(t:Ty)->fp g t.cells=t.cells
 |.mk k fs=>by simp[Ty.cells,cl,fp,pY g fs]
theorem pY(g:Nat->Nat->Nat->Nat->Bool->AV):(l:List (aW×Ty))->fp g (jQ l)=jQ l
 |[]=>rfl
 |f:: l=>by simp[jQ,fp,G7 g f,pY g l]
theorem G7(g:Nat->Nat->Nat->Nat->Bool->AV):(f:aW×Ty)->cl g (dV f)=dV f
 |(n,t)=>by simp[dV,cl,fp,Ty.cl_cells g t]
end
@[simp] theorem yj(g:Nat->Nat->Nat->Nat->Bool->AV)(v:Val):cl g v.av=v.av:=v.cl_av g
@[simp] theorem ll(g:Nat->Nat->Nat->Nat->Bool->AV)(l:List Val):cl g (vals l)=vals l:=by simp[vals,cl,zf]
@[simp] theorem tG(g:Nat->Nat->Nat->Nat->Bool->AV)(e:Exp):cl g e.av=e.av:=by simp[Exp.av,cl,Exp.cl_cells]
@[simp] theorem Jw(g:Nat->Nat->Nat->Nat->Bool->AV)(l:List Exp):cl g (dF l)=dF l:=by simp[dF,cl,sW]
@[simp] theorem Do(g:Nat->Nat->Nat->Nat->Bool->AV)(t:Ty):cl g t.av=t.av:=by simp[Ty.av,cl,Ty.cl_cells]
@[simp] theorem Uk(g:Nat->Nat->Nat->Nat->Bool->AV)(f:fF):cl g (dV f)=dV f:=G7 g f
@[simp] theorem ye(g:Nat->Nat->Nat->Nat->Bool->AV)(l:List fF):cl g (ck l)=ck l:=by simp[ck,cl,pY]
theorem tK(g:Nat->Nat->Nat->Nat->Bool->AV):(a b:List AV)->fp g (a++b)=fp g a++fp g b
 |[],b=>rfl
 |x:: a,b=>by simp[fp,tK g a b]
@[simp] theorem GD(g:Nat->Nat->Nat->Nat->Bool->AV)(f:Fun):cl g f.av=f.av:=by
 simp[Fun.av,cl,fp,tK,pY,Ty.cl_cells,Exp.cl_cells]
@[simp] theorem Ta(g:Nat->Nat->Nat->Nat->Bool->AV)(l:List Fun):cl g (iP l)=iP l:=by grind [iP,cl,gD,GD]
@[simp] theorem yg(g:Nat->Nat->Nat->Nat->Bool->AV)(m:Mod):cl g m.av=m.av:=by
 simp_all[Mod.av,cl,fp,pY,sW]
@[simp] theorem mq(g:Nat->Nat->Nat->Nat->Bool->AV)(l:List Mod):cl g (mods l)=mods l:=by grind [mods,cl,gD,yg]
@[simp] theorem yf(g:Nat->Nat->Nat->Nat->Bool->AV)(k:IntKind)(n:Int):cl g (.int k n)= .int k n:=rfl
@[simp] theorem S0(g:Nat->Nat->Nat->Nat->Bool->AV)(b:Bool):cl g (.bool b)= .bool b:=rfl
@[simp] theorem MY(g:Nat->Nat->Nat->Nat->Bool->AV)(s:aW):cl g (.str s)= .str s:=rfl
@[simp] theorem Jz(g:Nat->Nat->Nat->Nat->Bool->AV)(v:Vars):cl g v.av=v.av:=by simp[Vars.av,cl,fp]
@[simp] theorem Jv(g:Nat->Nat->Nat->Nat->Bool->AV)(v:Deed):cl g v.av=v.av:=by simp[Deed.av,cl,fp]
@[simp] theorem Ju(g:Nat->Nat->Nat->Nat->Bool->AV)(v:Call):cl g v.av=v.av:=by simp[Call.av,cl,fp]
@[simp] theorem zJ(g:Nat->Nat->Nat->Nat->Bool->AV)(l:List Vars):cl g (aN l)=aN l:=by grind [aN,cl,gD,Jz]
@[simp] theorem GC(g:Nat->Nat->Nat->Nat->Bool->AV)(l:List Deed):cl g (deeds l)=deeds l:=by grind [deeds,cl,gD,Jv]
@[simp] theorem Gz(g:Nat->Nat->Nat->Nat->Bool->AV)(l:List Call):cl g (calls l)=calls l:=by grind [calls,cl,gD,Ju]
@[simp] theorem Ul(g:Nat->Nat->Nat->Nat->Bool->AV)(o:Out):cl g o.av=o.av:=by simp[Out.av,cl,fp]
@[simp] theorem KJ(v:Vars):aa v.av=[.str v.module,vals v.values]:=rfl
@[simp] theorem KH(v:Deed):aa v.av=[.int .i64 v.effect,.int .i64 v.arg,.int .i64 v.answer]:=rfl
@[simp] theorem KG(v:Call):aa v.av=[.str v.module,.str v.func,vals v.args]:=rfl
@[simp] theorem Li(o:Out):aa o.av=[.int .i64 o.err,.int .i64 o.value.kind,.int .i64 o.value.n,strs o.value.names,vals o.value.values,deeds o.deeds,calls o.calls,aN o.state]:=rfl
@[simp] theorem Om(v:Vars):AV.agg [.str v.module,vals v.values]=v.av:=rfl
@[simp] theorem Oj(v:Deed):AV.agg [.int .i64 v.effect,.int .i64 v.arg,.int .i64 v.answer]=v.av:=rfl
@[simp] theorem Oi(v:Call):AV.agg [.str v.module,.str v.func,vals v.args]=v.av:=rfl
@[simp] theorem Rj(o:Out):AV.agg [.int .i64 o.err,.int .i64 o.value.kind,.int .i64 o.value.n,strs o.value.names,vals o.value.values,deeds o.deeds,calls o.calls,aN o.state]=o.av:=rfl
@[simp] theorem OL(v:Vars):dA v.av=some 2:=rfl
@[simp] theorem OJ(v:Deed):dA v.av=some 3:=rfl
@[simp] theorem OI(v:Call):dA v.av=some 3:=rfl
@[simp] theorem SI(v:Out):dA v.av=some 8:=rfl
@[simp] theorem Oz(v:Vars):bR 2 v.av=true:=by simp[bR,ay,vals]
@[simp] theorem Fz(v:Deed):bR 3 v.av=true:=by simp[bR,ay]
@[simp] theorem Oy(v:Call):bR 3 v.av=true:=by simp[bR,ay,vals]
@[simp] theorem Sl(v:Out):bR 8 v.av=true:=by simp[bR,ay,vals,strs,deeds,calls,aN]
def Clean(a:AV):Prop:=∀g,cl g a=a
theorem Clean.frz{a:AV}(h:Clean a)(d:Nat)(hp:Hp):frz d hp a=a:=by
 cases d with
 |zero=>exact h _
 |succ d=>exact h _
def dj{a:AV}(h:Clean a):bn (ao a)=ao a:=by
 funext hp;simp only[bn,ao,h.frz]
@[simp] theorem fA(b:Bool):bn (ao (.bool b))=ao (.bool b):=dj fun _=>rfl
@[simp] theorem nH(k:IntKind)(n:Int):bn (ao (.int k n))=ao (.int k n):=dj fun _=>rfl
@[simp] theorem RB(s:aW):bn (ao (.str s))=ao (.str s):=dj fun _=>rfl
@[simp] theorem RD(v:Val):bn (ao v.av)=ao v.av:=dj fun g=>yj g v
@[simp] theorem Ou(v:List Val):bn (ao (vals v))=ao (vals v):=dj fun g=>ll g v
@[simp] theorem Ry(v:Exp):bn (ao v.av)=ao v.av:=dj fun g=>tG g v
@[simp] theorem Rz(v:Fun):bn (ao v.av)=ao v.av:=dj fun g=>GD g v
@[simp] theorem SK(v:Val):dA v.av=some 4:=by rw[v.av_eq];rfl
@[simp] theorem SE(e:Exp):dA e.av=some 6:=by rw[Exp.av,e.cells_eq];rfl
@[simp] theorem SF(f:fF):dA (dV f)=some 3:=by rw[tY];rfl
@[simp] theorem Tf(t:Ty):dA t.av=some 2:=by rw[Ty.av,t.cells_eq];rfl
@[simp] theorem SG(f:Fun):dA f.av=some 12:=by simp[Fun.av,dA,Ty.cells_eq,Exp.cells_eq]
@[simp] theorem SH(m:Mod):dA m.av=some 9:=rfl
@[simp] theorem dW(v:Val):bR 4 v.av=true:=by simp[bR,ay,strs,vals]
@[simp] theorem qh(e:Exp):bR 6 e.av=true:=by simp[bR,ay,strs,dF]
@[simp] theorem uP(f:fF):bR 3 (dV f)=true:=by simp[bR,ay,ck]
@[simp] theorem qj(f:Fun):bR 12 f.av=true:=by simp[bR,ay,ck,strs,dF]
@[simp] theorem qk(m:Mod):bR 9 m.av=true:=by simp[bR,ay,ck,strs,dF,iP]
@[simp] theorem HR(s:aW):bR 1 (.str s)=true:=rfl
@[simp] theorem HP(k:IntKind)(n:Int):bR 1 (.int k n)=true:=rfl
theorem eU{α:Type}{sz:Nat}{f:α->AV}(h:∀x,bR sz (f x)=true)(l:List α):dn sz (l.map f)=true:=by simp[dn,h]
@[simp] theorem OG(l:List aW):dn 1 (l.map AV.str)=true:=eU HR l
@[simp] theorem rq(l:List Int):dn 1 (l.map (AV.int .i64))=true:=eU (HP .i64) l
@[simp] theorem xr(l:List Val):dn 4 (d7 l)=true:=by grind [dT,eU,dW]
@[simp] theorem OA(l:List Exp):dn 6 (jP l)=true:=by grind [kJ,eU,qh]
@[simp] theorem OB(l:List fF):dn 3 (jQ l)=true:=by grind [kL,eU,uP]
@[simp] theorem OC(l:List Fun):dn 12 (l.map Fun.av)=true:=eU qj l
@[simp] theorem OD(l:List Mod):dn 9 (l.map Mod.av)=true:=eU qk l
theorem uu{T:TT}{t e:Nat}{ti ei:TI}(ht:T t=some ti)(hk:ti.kind= .slice e)(he:T e=some ei){α:Type}{f:α->AV}(hs:∀x,dA (f x)=some ei.size){l:List α}{i:Nat}{x:α}(h:l[i]? = some x):
  aA T t (.sl (l.map f)) (.int .i64 (i:Int))=some (.ip (aa (f x))):=by
 simp_all[aA]
def br{T:TT}{t e:Nat}{ti ei:TI}(ht:T t=some ti)(hk:ti.kind= .slice e)(he:T e=some ei){α:Type}[Inhabited α]{f:α->AV}(hs:∀x,dA (f x)=some ei.size){l:List α}{n:Int}(h0:0<=n)(h:n<(l.length:Int)):
  aA T t (.sl (l.map f)) (.int .i64 n)=some (.ip (aa (f l[n.toNat]!))):=by
 grind [uu]
def lL{T:TT}{t e:Nat}{ti ei:TI}(ht:T t=some ti)(hk:ti.kind= .slice e)(he:T e=some ei){α:Type}{f:α->AV}(hs:∀x,bR ei.size (f x)=true){a b:List α}(h:(a.length+b.length)*ei.bytes<=140737488355328)(h0:0<ei.bytes):
  dJ T t (.sl (a.map f)) (.sl (b.map f))=some (.sl ((a++b).map f)):=by
 grind [dJ,gk,eU,iw]
end Go.Av.Ap
namespace Go.Av
attribute [simp] aj ae Gv EG
@[simp] theorem ai{α:Type}(b:Bool)(x y:M α):aC (.bool b) x y=if b=true then x else y:=by cases b<;>rfl
def gv(b w:Bool)(y:AV):AV:=bif b== w then y else .tup []
@[simp] theorem Wh(y:AV):gv false false y=y:=rfl
@[simp] theorem Wk(y:AV):gv true true y=y:=rfl
@[simp] theorem Wi(y:AV):gv false true y= .tup []:=rfl
@[simp] theorem Wj(y:AV):gv true false y= .tup []:=rfl
@[simp high] theorem aE(b w:Bool)(y:AV):aK (.bool b) w 1 (ao [y])=ao [gv b w y]:=by cases b<;>cases w<;>rfl
@[simp high] theorem On(b w c w2:Bool)(y:AV):aK (gv b w (.bool c)) w2 1 (ao [y])=ao [gv b w (gv c w2 y)]:=by cases b<;>cases w<;>cases c<;>cases w2<;>rfl
@[simp high] theorem Oo(b w c e:Bool):aK (.bool b) w 1 (au (bP (gx (gv b w (.bool c)) (.bool true) (gv b w (gv c false (.bool e))))) fun v=>ao [v])=ao [gv b w (.bool (c||e))]:=by
 cases b<;>cases w<;>cases c<;>rfl
@[simp high] theorem Ns(b w c e:Bool):aK (.bool b) w 1 (au (bP (gx (gv b w (.bool c)) (gv b w (gv c true (.bool e))) (.bool false))) fun v=>ao [v])=ao [gv b w (.bool (c&&e))]:=by
 cases b<;>cases w<;>cases c<;>rfl
@[simp high] theorem bg(b c:Bool):gx (.bool b) (gv b true (.bool c)) (.bool false)=some (.bool (b&&c)):=by cases b<;>rfl
@[simp high] theorem eB(b c:Bool):gx (.bool b) (.bool true) (gv b false (.bool c))=some (.bool (b||c)):=by cases b<;>rfl
@[simp] theorem JM(w:Bool)(n:Nat)(m:M (List AV)):aK (.bool !w) w n m=ao (List.replicate n (.tup [])):=by cases w<;>rfl
@[simp] theorem bv(w:Bool)(n:Nat)(m:M (List AV)):aK (.bool w) w n m=m:=by cases w<;>rfl
@[simp] theorem wZ(n:Nat)(m:M (List AV)):aK (.bool false) true n m=ao (List.replicate n (.tup [])):=rfl
@[simp] theorem gE(n:Nat)(m:M (List AV)):aK (.bool true) false n m=ao (List.replicate n (.tup [])):=rfl
@[simp] theorem Cn(w:Bool)(n:Nat)(m:M (List AV)):aK (.tup []) w n m=ao (List.replicate n (.tup [])):=rfl
@[simp] theorem cz(x y:AV):gx (.bool true) x y=some x:=rfl
@[simp] theorem cr(x y:AV):gx (.bool false) x y=some y:=rfl
@[simp] theorem am(x:AV)(l:List AV):ab (x:: l) 0=x:=rfl
@[simp] theorem ar(x:AV)(l:List AV)(n:Nat):ab (x:: l) (n+1)=ab l n:=rfl
@[simp] theorem uy{α:Type}(k:List AV->M α)(m:(List AV->M α)->M α):jn k m=m k:=rfl
@[simp] theorem dG{α:Type}(a:α):dz (ao a)=ao a:=rfl
@[simp] theorem bi(b:Bool):KC .not (.bool b)=some (.bool !b):=rfl
@[simp] theorem eN(l:List AV)(i:Nat):dy (.tup l) i=l[i]?:=rfl
@[simp] theorem KZ:True:=trivial
@[simp] theorem aJ(l k:Nat):kq (.hp l k)=some (.hp l k):=rfl
@[simp] theorem NP(cs:List AV):kq (.ip cs)=some (.ip cs):=rfl
@[simp] theorem oX(s:List UInt8):aa (.str s)=[.str s]:=rfl
@[simp] theorem Lh(k:IntKind)(n:Int):aa (.int k n)=[.int k n]:=rfl
@[simp] theorem aI(cs:List AV):aa (.agg cs)=cs:=rfl
@[simp] theorem bm(T:TT)(t:Nat)(a b:Int):cF T .add t (.int .i64 a) (.int .i64 b)=some (.int .i64 (IntKind.i64.wrap (a+b))):=rfl
@[simp] theorem dY(T:TT)(t:Nat)(a b:Int):cF T .sub t (.int .i64 a) (.int .i64 b)=some (.int .i64 (IntKind.i64.wrap (a-b))):=rfl
@[simp] theorem Dk(T:TT)(t:Nat)(a b:Int):cF T .mul t (.int .i64 a) (.int .i64 b)=some (.int .i64 (IntKind.i64.wrap (a*b))):=rfl
@[simp] theorem aB(T:TT)(t:Nat)(a b:Int):cF T .lss t (.int .i64 a) (.int .i64 b)=some (.bool (decide (a<b))):=rfl
@[simp] theorem fm(T:TT)(t:Nat)(a b:Int):cF T .leq t (.int .i64 a) (.int .i64 b)=some (.bool (decide (a<=b))):=rfl
@[simp] theorem dq(T:TT)(t:Nat)(a b:Int):cF T .gtr t (.int .i64 a) (.int .i64 b)=some (.bool (decide (b<a))):=rfl
@[simp] theorem jq(T:TT)(t:Nat)(a b:Int):cF T .geq t (.int .i64 a) (.int .i64 b)=some (.bool (decide (b<=a))):=rfl
@[simp] theorem aH(T:TT)(t:Nat)(a b:Int):cF T .eql t (.int .i64 a) (.int .i64 b)=some (.bool (a== b)):=rfl
@[simp] theorem fY(T:TT)(t:Nat)(a b:Int):cF T .neq t (.int .i64 a) (.int .i64 b)=some (.bool (a != b)):=rfl
@[simp] theorem yZ(T:TT)(t:Nat)(a b:List UInt8):cF T .eql t (.str a) (.str b)=some (.bool (a== b)):=rfl
@[simp] theorem tg(T:TT)(t:Nat)(a b:List UInt8):cF T .neq t (.str a) (.str b)=some (.bool !(a== b)):=rfl
@[simp] theorem Tk(T:TT)(t:Nat)(a b:List UInt8):cF T .lss t (.str a) (.str b)=some (.bool (bU a b)):=rfl
@[simp] theorem Ti(T:TT)(t:Nat)(a b:List UInt8):cF T .geq t (.str a) (.str b)=some (.bool !(bU a b)):=rfl
@[simp] theorem bc{n:Nat}{x:AV}(h:bR n x=true):cg n x=ao (.agg (aa x)):=by
 unfold cg mn;rw[h];rfl
@[simp] theorem gh{n:Nat}{x:AV}(h:bR n x=true):bD n [] x=ao (.agg (aa x)):=by
 unfold bD mn;rw[h];rfl
@[simp] theorem Ow(b:Bool)(x:AV):ka b [x]=some x:=by simp[ka]
@[simp] theorem Ox(b:Bool)(a c:Int):ka b [.int .i64 a,.int .i64 c]=some (.int .i64 (if b=true then max a c else min a c)):=by
 cases b
 ·simp only[ka,HK,XD]
  grind
 ·simp only[ka,HK,Xw]
  grind
theorem aM{x:Int}(h1:-9223372036854775808<=x)(h2:x<=9223372036854775807):IntKind.i64.wrap x=x:=IntWalk.i64_in _ ⟨h1,h2⟩
def IX{n:Nat}(h:n<=4611686018427387904):IntKind.i64.wrap (n:Int)=(n:Int):=IntWalk.i64_in _ ZS
def aZ{n:Nat}(h:n<=4611686018427387904):IntKind.i64.wrap ((n:Int)+1)=((n+1:Nat):Int):=by
 rw[IntWalk.i64_in _ ZS];omega
def xN{n:Nat}(h:n<=4611686018427387904):IntKind.i64.wrap (((n+1:Nat):Int)-1)=(n:Int):=by
 rw[IntWalk.i64_in _ ZS];omega
namespace Ap
mutual
def Val.sz:Val->Nat
 |.mk _ _ ns vs=>1+ns.length+db vs
def db:List Val->Nat
 |[]=>0
 |v:: vs=>v.sz+db vs
end
theorem kW:{l:List Val} ->{v:Val} ->v∈l->v.sz<=db l
 |w:: l,v,h=>by
  simp only[db];rcases X7.1 h with rfl|h
  ·omega
  ·have:=kW h;omega
def Val.sz_pos(v:Val):1<=v.sz:=by cases v;simp[Val.sz];omega
theorem pG:(l:List Val)->l.length<=db l
 |[]=>ZV
 |v:: l=>by have:=pG l;have:=v.sz_pos;grind [db]
def Val.sz_names(v:Val):v.names.length<=v.sz:=by cases v;simp[Val.sz,Val.names];omega
def Val.sz_values(v:Val):db v.values<v.sz:=by cases v;simp[Val.sz,Val.values];omega
def Val.sz_len(v:Val):v.values.length<v.sz:=Zc (pG _) v.sz_values
def Xd{v x:Val}(h:x∈v.values):x.sz<v.sz:=Zc (kW h) v.sz_values
end Ap
end Go.Av
namespace Go.Av
def aY{α:Type}(F:α->Bool):List α->Int->Int
 |[],_=>-1
 |x:: l,i=>if F x=true then i else aY F l (i+1)
theorem ul{α:Type}(F:α->Bool):(l:List α)->(i:Int)->0<=i->(0<=aY F l i↔l.any F=true)
 |[],i,_=>by simp[aY]
 |x:: l,i,h=>by
  simp only[aY];split
  ·grind
  ·rename_i hx;rw[ul F l (i+1) ZS];simp[hx]
def xa{α:Type}(F:α->Bool)(l:List α):decide (0<=aY F l 0)=l.any F:=by
 have:=ul F l 0 ZS
 grind
@[simp] theorem K7(a b:Nat):((a:Int)== (b:Int))=(a== b):=ZU
@[simp] theorem J9(a:Nat):((a:Int)== 0)=(a== 0):=ZU
@[simp] theorem K8(a b:Nat):((a:Int) != (b:Int))=(a != b):=ZU
def iV{α β:Type}(F:α->β->Bool):List α->List β->Bool
 |x:: l,y:: r=>F x y&&iV F l r
 |[],[]=>true
 |_,_=>false
theorem nq{α β:Type}(F:α->β->Bool):(a:List α)->(b:List β)->a.length≠b.length->iV F a b=false
 |[],[],h=>absurd rfl h
 |[],_:: _,_=>rfl
 |_:: _,[],_=>rfl
 |x:: a,y:: b,h=>by
  have:=nq F a b (by simpa using h)
  simp[iV,this]
end Go.Av
namespace Go.Av
open Ap
@[simp high] theorem MW(x:Val):cg 4 (Val.av x)=ao (Val.av x):=ZW
@[simp high] theorem Js(x:Val):bD 4 [] (Val.av x)=ao (Val.av x):=ZW
@[simp high] theorem BW(x:Exp):cg 6 (Exp.av x)=ao (Exp.av x):=ZW
@[simp high] theorem Jm(x:Exp):bD 6 [] (Exp.av x)=ao (Exp.av x):=ZW
@[simp high] theorem BX(x:fF):cg 3 (dV x)=ao (dV x):=ZW
@[simp high] theorem Jn(x:fF):bD 3 [] (dV x)=ao (dV x):=ZW
@[simp high] theorem mm(x:Fun):cg 12 (Fun.av x)=ao (Fun.av x):=ZW
@[simp high] theorem Jo(x:Fun):bD 12 [] (Fun.av x)=ao (Fun.av x):=ZW
@[simp high] theorem MS(x:Mod):cg 9 (Mod.av x)=ao (Mod.av x):=ZW
@[simp high] theorem Jp(x:Mod):bD 9 [] (Mod.av x)=ao (Mod.av x):=ZW
@[simp high] theorem KP(x:Vars):cg 2 (Vars.av x)=ao (Vars.av x):=ZW
@[simp high] theorem I3(x:Vars):bD 2 [] (Vars.av x)=ao (Vars.av x):=ZW
@[simp high] theorem KO(x:Deed):cg 3 (Deed.av x)=ao (Deed.av x):=ZW
@[simp high] theorem I2(x:Deed):bD 3 [] (Deed.av x)=ao (Deed.av x):=ZW
@[simp high] theorem KN(x:Ap.Call):cg 3 (Ap.Call.av x)=ao (Ap.Call.av x):=ZW
@[simp high] theorem I1(x:Ap.Call):bD 3 [] (Ap.Call.av x)=ao (Ap.Call.av x):=ZW
@[simp high] theorem MU(x:Ap.Out):cg 8 (Ap.Out.av x)=ao (Ap.Out.av x):=ZW
@[simp high] theorem Jq(x:Ap.Out):bD 8 [] (Ap.Out.av x)=ao (Ap.Out.av x):=ZW
@[simp] theorem D7(t:Ty):bR 2 t.av=true:=by simp[bR,ay,ck]
@[simp high] theorem Oh(x:Ty):cg 2 (Ty.av x)=ao (Ty.av x):=ZW
@[simp high] theorem KQ(x:Ty):bD 2 [] (Ty.av x)=ao (Ty.av x):=ZW
end Go.Av
namespace Go.Av
@[simp] theorem I4(c:Prop)[Decidable c](a b:Bool):(if c then(ao (.bool a):M AV)else ao (.bool b))=ao (.bool (if c then a else b)):=by split<;>rfl
@[simp] theorem JP(c:Prop)[Decidable c](a b:Int):(if c then(ao (.int .i64 a):M AV)else ao (.int .i64 b))=ao (.int .i64 (if c then a else b)):=by split<;>rfl
def pW{F:(List AV->M AV)->List AV->M AV}(hF:∀vs,ak F vs=F (ak F) vs)(st:Nat->List AV)(n:Nat)(G:Nat->Bool)(hend:F (ak F) (st n)=ao (.bool true))(hstep:∀k,k<n->F (ak F) (st k)=if G k=true then ak F (st (k+1))else ao (.bool false)):
  ∀k,k<=n->ak F (st k)=ao (.bool ((List.range' k (n-k)).all G)):=by
 have key:∀r k,n-k=r->k<=n->ak F (st k)=ao (.bool ((List.range' k r).all G)):=by
  intro r
  induction r with
  |zero=>
   grind
  |succ r ih=>
   grind [List.range'_succ]
 grind
def BD{α:Type}[Inhabited α](P:α->Bool)(l:List α):(List.range' 0 l.length).all (fun k=>P l[k]!)=l.all P:=by
 rw[YD];simp only[XJ,List.mem_range'_1];constructor
 ·intro h x hx;obtain⟨i,hi,rfl⟩:=YV hx
  grind
 grind
theorem pK{α:Type}[BEq α]:(a b:List α)->(a== b)=iV (fun x y=>x== y) a b
 |[],[]=>rfl
 |[],_:: _=>rfl
 |_:: _,[]=>rfl
 |x:: a,y:: b=>by
  show (x== y&&(a== b))=_;rw[pK a b];rfl
def FJ{T:TT}{t e:Nat}{ti ei:TI}(ht:T t=some ti)(hk:ti.kind= .slice e)(he:T e=some ei)(es:List AV){n:Int}(h0:0<=n)(h1:n<=es.length):da T t (.sl es) none (some (.int .i64 n)) none=some (.sl (es.take n.toNat)):=by
 simp_all[da,cw]
def sH{T:TT}{t e:Nat}{ti ei:TI}(ht:T t=some ti)(hk:ti.kind= .slice e)(he:T e=some ei)(es:List AV):da T t (.sl es) none (some (.int .i64 es.length)) (some (.int .i64 es.length))=some (.sl es):=by
 simp_all[da,cw]
def oA{T:TT}{t e:Nat}{ti ei:TI}(ht:T t=some ti)(hk:ti.kind= .slice e)(he:T e=some ei)(es:List AV)(hok:dn ei.size es=true){n:Int}(h0:0<=n)(h1:n<=es.length):da T t (.sl es) (some (.int .i64 n)) none none=some (.sl (es.drop n.toNat)):=by
 simp_all[da,cw]
end Go.Av
namespace Go.Av
variable [Dr]
theorem nA{P:Program}{cx:Cx}{own:Option Nat}(hT:TOK P cx.T)(hC:dD P cx.own cx.call)(hI:IsoCall cx){f:FuncId}{fn:Func}(hf:P.funcs[f]? = some fn)(hnt:cx.nt=fn.ntmps){E:List AV->Hp->R AV}(h0:∀h,E [] h= .ok (.sl []) h)(h1:∀e es h,bX cx (dh 0) fn own [.sl (e:: es)] h=E (e:: es) h)(h2:∀h,bX cx (dh 0) fn own [.hn] h= .ok (.sl []) h)(h3:∀l off h,bX cx (dh 0) fn own [.hs l off 0 1 false] h= .ok (.sl []) h){es:List AV}{h:Hp}{S:aD}{β:List cE}{w:World}{vs:List Value}(hr:E es h≠.fail)(hg:wk S β h w)(hw:Wf S w)(hh:dE S β w h)(hv:bB S β [.sl es] vs):Calls P f vs.toArray w (fg own S β h w (E es h))/\fn.body.isSome=true:=by
 cases es with
 |cons e es=>
  grind [fL]
 | nil=>
  rw[h0];simp only[bB]at hv;obtain⟨v,_,rfl,hv,rfl⟩:=hv;have hv0:=hv;simp only[VR]at hv;obtain⟨a,cap,rfl,hc,hn,hq⟩:=hv;cases a with
  |none=>
   have hcap:=hn rfl;subst hcap;have hv2:bB S β [.hn] [.slice none ([]:List AV).length 0]:=by simp[bB,VR]
   grind [fL]
  | some q=>
   obtain⟨hs,_⟩:=hq q rfl;have hX:dE S [(q.block,q.off+cap)] w [[]]:=⟨rfl,fun _=>.no,fun l cs hl hne=>by
    grind⟩
   have hE:∀b,¬df [(q.block,q.off+cap)] [[]] b:=by
    rintro b ⟨l,cs,n,k1,k2,_⟩;cases l with
    |zero=>grind
    |succ l=>simp at k1
   have hv2:bB S [(q.block,q.off+cap)] [.hs 0 q.off 0 1 false] [.slice (some q) ([]:List AV).length cap]:=by
    simp only[bB,VR];rcases Yc cap with h0|h0
    ·grind
    ·have hq':q=⟨q.block,q.off,none⟩:=by
      have:=hs h0
      cases q;simp_all
     exact⟨_,_,rfl,.inl ⟨(q.block,q.off+cap),cap,rfl,ZU,ZU,XN _,ZV⟩,rfl⟩
   have:=fL (own:=own) hT hC hI 0 hf hnt (args:=[.hs 0 q.off 0 1 false]) (h:=[[]]) (by rw[h3];simp) ⟨hg.1,fun b _=>hE b,hg.2.2⟩ hw hX hv2
   rw[h3]at this;refine⟨this.1.mono fun en w' hp=>?_,this.2⟩;obtain⟨S',β',v,k1,k2,k3,k4⟩:=hp;obtain⟨S2,j1,j2,j3⟩:=yA hw hh hE k3;exact⟨S2,β,v,k1,j2 (.sl []) v k2,j1,fun sz hsz=>j3 sz v (k4 sz hsz)⟩
def cy(T:TT)(t:TypeId):(FuncId->List AV->M AV)->List AV->M AV:=fun _ args=>match args with
 |[x]=>gf T t false .he x
 |_=>gU
section
omit [Dr]
theorem mw(T:TT)(t:TypeId)(call:FuncId->List AV->M AV)(calls:Nat->FuncId->List AV->M AV):cK (cy T t call) fun n=>cy T t (calls n):=cK.const _
theorem zu(T:TT)(t:TypeId)(z:Bool)(y:AV):zh (gf T t z .he y):=by
 intro h v h' hh;unfold gf at hh;split at hh
 ·unfold appH at hh;split at hh
  ·cases hh
  ·split at hh
   ·split at hh
    ·cases hh
    ·split at hh
     ·cases hh
     ·rename_i bs _;revert hh;generalize (_&&_:Bool)=b1;cases b1 with
      |false=>grind
      | true=>
       simp only[Xw];cases bs.isEmpty with
       |true=>simp_all
       |false=>
        grind
   ·cases hh
 ·cases hh
theorem EP(T:TT)(t:TypeId)(call:FuncId->List AV->M AV)(args:List AV):zh (cy T t call args):=by
 unfold cy;split
 ·exact zu _ _ _ _
 ·intro h v h' hh;cases hh
end
theorem kj{P:Program}{cx:Cx}(hT:TOK P cx.T)(hC:dD P cx.own cx.call)(hI:IsoCall cx){f:FuncId}{fn:Func}(hf:P.funcs[f]? = some fn)(hnt:cx.nt=fn.ntmps){t:TypeId}(h0:∀h,appH cx.T t false .he (.sl []) h= .ok .he h)(h1:∀e es h,bX cx (dh 0) fn none [.sl (e:: es)] h=gf cx.T t false .he (.sl (e:: es)) h)(h2:∀h,bX cx (dh 0) fn none [.hn] h= .ok .hn h)(h3:∀l off len sz ag h,bX cx (dh 0) fn none [.hs l off len sz ag] h=gf cx.T t false .he (.hs l off len sz ag) h){x:AV}{h:Hp}{S:aD}{β:List cE}{w:World}{vs:List Value}(hr:gf cx.T t false .he x h≠.fail)(hg:wk S β h w)(hw:Wf S w)(hh:dE S β w h)(hv:bB S β [x] vs):Calls P f vs.toArray w (fg none S β h w (gf cx.T t false .he x h)):=by
 -- an empty slice, nil or not
 have nil:∀a cap,vs=[.slice a 0 cap]->(a=none->cap=0)->(∀q,a=some q->0<cap->q.spot=none)->Calls P f vs.toArray w (fg none S β h w (.ok .he h)):=by
  rintro a cap rfl hn hs;cases a with
  |none=>
   have hcap:=hn rfl;subst hcap;have hv2:bB S β [.hn] [.slice none 0 0]:=by simp[bB,VR]
   have:=(fL (own:=none) hT hC hI 0 hf hnt (args:=[.hn]) (h:=h) (by rw[h2];simp) hg hw hh hv2).1
   rw[h2]at this;refine this.mono fun en w' hp=>?_;obtain⟨S',β',v,k1,k2,k3,k4⟩:=hp;simp only[VR]at k2;exact⟨S',β',v,k1,by simp only[VR];grind,k3,k4⟩
  | some q=>
   have hX:dE S [(q.block,q.off+cap)] w [[]]:=⟨rfl,fun _=>.no,fun l cs hl hne=>by
    grind⟩
   have hE:∀b,¬df [(q.block,q.off+cap)] [[]] b:=by
    rintro b ⟨l,cs,n,k1,k2,_⟩;cases l with
    |zero=>grind
    |succ l=>simp at k1
   have hv2:bB S [(q.block,q.off+cap)] [.hs 0 q.off 0 1 false] [.slice (some q) 0 cap]:=by
    simp only[bB,VR];rcases Yc cap with h0|h0
    ·grind
    ·have hq':q=⟨q.block,q.off,none⟩:=by
      have:=hs q rfl h0
      cases q;simp_all
     exact⟨_,_,rfl,.inl ⟨(q.block,q.off+cap),cap,rfl,ZU,by rw[<- hq'],XN _,ZV⟩,rfl⟩
   have e3:bX cx (dh 0) fn none [.hs 0 q.off 0 1 false] [[]]= .ok .he [[]]:=by rw[h3];exact h0 _
   have:=(fL (own:=none) hT hC hI 0 hf hnt (args:=[.hs 0 q.off 0 1 false]) (h:=[[]]) (by rw[e3];simp) ⟨hg.1,fun b _=>hE b,hg.2.2⟩ hw hX hv2).1
   rw[e3]at this;refine this.mono fun en w' hp=>?_;obtain⟨S',β',v,k1,k2,k3,k4⟩:=hp;obtain⟨S2,j1,j2,j3⟩:=yA hw hh hE k3;simp only[VR]at k2;exact⟨S2,β,v,k1,by simp only[VR];exact k2,j1,fun sz hsz=>by cases hsz⟩
 have hv0:=hv;simp only[bB]at hv;obtain⟨v,_,rfl,hv,rfl⟩:=hv;cases x with
 | sl es=>
  cases es with
  |cons e es=>
   grind [fL]
  |nil=>
   simp only[VR]at hv;obtain⟨a,cap,rfl,_,hn,hq⟩:=hv;rw[show gf cx.T t false .he (.sl []) h= .ok .he h from h0 h]
   grind
 |hs l off len sz ag=>
  grind [fL]
 |he=>
  simp only[VR]at hv;obtain⟨a,rfl⟩:=hv;rw[show gf cx.T t false .he .he h= .ok .he h from h0 h]
  grind
 |hn=>
  simp only[VR]at hv;subst hv;rw[show gf cx.T t false .he .hn h= .ok .he h from h0 h]
  grind
 |_=>exact absurd rfl hr
end Go.Av
namespace Go.Av
variable [Dr]
open Go.RowKit
section
variable {S:aD} {β:List cE} {h:Hp} {w w':World}
omit [Dr]in
theorem dE.below(hh:dE S β w h){S':aD}(hb:∀b,b<w.heap.size->w'.heap[b]? = w.heap[b]? /\∀o,S' b o=S b o)(hle:S.le S'):dE S' β w' h:=by
 obtain⟨hlen,ω,hr⟩:=hh;exact⟨hlen,ω,hr.rows hle (il.refl β) hlen fun l cs hl _=>.inl ⟨hl,fun b hlt ho=>⟨ho,(hb b hlt).1,fun o h=>ZU⟩⟩⟩
theorem uB(hw:Wf S w)(hh:dE S β w h)(hb:Below w.heap.size w w')(hd:Dr.on->w.drawn<=w'.drawn){S':aD}(hS:∀b,b<w.heap.size->∀o,S' b o=S b o)(hnew:∀b o v,w.heap.size<=b->S' b o=some v->w'.cell? ⟨b,o,none⟩=some v):
  Left (df β h) S β w S' β w' h:=by
 have hle:S.le S':=fun b o v hv=>by rw[hS b (hw.lt hv)];exact hv
 refine⟨hle,il.refl β,fun b o v hv=>?_,⟨hb.size,hb.os,hb.output,hb.tape,hd⟩,fun b hlt _=>⟨hb.block b hlt,hS b hlt⟩,hh.below (fun b hlt=>⟨hb.block b hlt,hS b hlt⟩) hle,fun b hb=>.inl hb⟩;rcases XT b w.heap.size with hlt|hge
 ·rw[hS b hlt]at hv;rw[cell_of_heap (hb.block b hlt)];exact hw b o v hv
 grind
theorem zL(hw:Wf S w)(hh:dE S β w h)(hb:Below w.heap.size w w')(hd:Dr.on->w.drawn<=w'.drawn){r:AV}{v:Value}(hv:VR S β r v):fg none S β h w (.ok r h) (.returned v) w':=
 ⟨S,β,v,rfl,hv,uB hw hh hb hd (fun _ _ _=>rfl) (fun b o v hge hv=>by have:=hw.lt hv;omega),fun sz hsz=>by cases hsz⟩
theorem ES(hw:Wf S w)(hh:dE S β w h)(hb:Below w.heap.size w w')(hd:Dr.on->w.drawn<=w'.drawn){n:Nat}{x:Array Value}(hr:Row w' n x)(hn:w.heap.size<=n){r:AV}{v:Value}(hv:VR (S.withRowTo n x.size x) β r v):fg none S β h w (.ok r h) (.returned v) w':=
 ⟨_,β,v,rfl,hv,uB hw hh hb hd (fun b hlt o=>by unfold aD.withRowTo;grind) (fun b o v hge hv=>by
  by_cases hbn:b=n
  ·subst hbn;unfold aD.withRowTo at hv;rw[Xv rfl]at hv;split at hv
   ·rw[hr.cell];exact hv
   ·cases hv
  ·unfold aD.withRowTo at hv;rw[Xr hbn]at hv
   have:=hw.lt hv;omega),fun sz hsz=>by cases hsz⟩
omit [Dr]in
theorem ID(S:aD)(β:List cE)(n:Nat)(l:List ByteArray)(ls:List (List UInt8))(hl:l.map (·.data.toList)=ls):VR (S.withRowTo n (l.map Value.string).toArray.size (l.map Value.string).toArray) β (.sl (ls.map .str)) (.slice (some ⟨n,0,none⟩) l.length l.length):=by
 subst hl;simp only[VR,Yy];refine⟨some ⟨n,0,none⟩,l.length,rfl,Xz _,(fun h=>by cases h),fun q hq=>?_⟩;simp only[Xq]at hq;subst hq;refine⟨fun _=>rfl,1,.of_get fun i e he=>?_⟩;simp only[ZF,YI,Ys,Function.comp]at he;obtain⟨s,hs,rfl⟩:=he;refine⟨.string s,by simp only[VR];grind,rfl,fun j v hj=>?_⟩;have hlt:i<l.length:=by
  rcases XT i l.length with h|h
  ·exact h
  ·grind
 rw[show (Value.string s).cells.toList=[Value.string s]from rfl]at hj
 grind [aD.withRowTo]
end
end Go.Av
namespace Go.Av
variable [Dr]
def lN:(FuncId->List AV->M AV)->List AV->M AV:=fun _ args=>match args with
 |[.str s,.str t]=>bP (bif decide (s.length<4294967281)then some (.bool (Lib.contains s t))else none)
 |_=>gU
def sX:(FuncId->List AV->M AV)->List AV->M AV:=fun _ args=>match args with
 |[.str s]=>bP (bif decide (s.length<4294967281)&&s.all (fun b=>decide (b.toNat<128))then some (.sl ((Lib.fields s).map .str))else none)
 |_=>gU
def Hy{α:Type}(p:α->Bool):List α->Option α
 |[]=>none
 |z:: r=>match Hy p r with
  |some y=>some y
  |none=>bif p z then some z else none
end Go.Av
namespace Go.Av.Ap
def Og(l:List Ty):AV:=.sl (l.map Ty.av)
structure Sig where
 name:aW
 params:List Ty
 result:Ty
 effects:Int
 deriving Inhabited
structure Face where
 module:aW
 funcs:List Sig
 deriving Inhabited
structure Vsn where
 major:Int
 minor:Int
 patch:Int
 deriving Inhabited,DecidableEq
def Sig.cells(s:Sig):List AV:=[.str s.name,Og s.params,.int .i64 s.result.kind,ck s.result.fields,.int .i64 s.effects]
def Sig.av(s:Sig):AV:=.agg s.cells
def sigs(l:List Sig):AV:=.sl (l.map Sig.av)
def Face.cells(f:Face):List AV:=[.str f.module,sigs f.funcs]
def Face.av(f:Face):AV:=.agg f.cells
def G0(l:List Face):AV:=.sl (l.map Face.av)
def Vsn.av(v:Vsn):AV:=.agg [.int .i64 v.major,.int .i64 v.minor,.int .i64 v.patch]
@[simp] theorem Lj(s:Sig):aa s.av=[.str s.name,Og s.params,.int .i64 s.result.kind,ck s.result.fields,.int .i64 s.effects]:=rfl
@[simp] theorem KI(f:Face):aa f.av=[.str f.module,sigs f.funcs]:=rfl
@[simp] theorem Lk(v:Vsn):aa v.av=[.int .i64 v.major,.int .i64 v.minor,.int .i64 v.patch]:=rfl
@[simp] theorem Rl(s:Sig):AV.agg [.str s.name,Og s.params,.int .i64 s.result.kind,ck s.result.fields,.int .i64 s.effects]=s.av:=rfl
@[simp] theorem Ol(f:Face):AV.agg [.str f.module,sigs f.funcs]=f.av:=rfl
@[simp] theorem Rm(v:Vsn):AV.agg [.int .i64 v.major,.int .i64 v.minor,.int .i64 v.patch]=v.av:=rfl
@[simp] theorem D7(t:Ty):bR 2 t.av=true:=by simp[bR,ay,ck]
@[simp] theorem So(l:List Ty):dn 2 (l.map Ty.av)=true:=eU D7 l
@[simp] theorem SJ(s:Sig):dA s.av=some 5:=rfl
@[simp] theorem OK(s:Face):dA s.av=some 2:=rfl
@[simp] theorem SL(s:Vsn):dA s.av=some 3:=rfl
@[simp] theorem HQ(s:Sig):bR 5 s.av=true:=by simp[bR,ay,ck,Og]
@[simp] theorem FA(s:Face):bR 2 s.av=true:=by simp[bR,ay,sigs]
@[simp] theorem Sm(s:Vsn):bR 3 s.av=true:=rfl
@[simp] theorem OE(l:List Sig):dn 5 (l.map Sig.av)=true:=eU HQ l
@[simp] theorem NQ(l:List Face):dn 2 (l.map Face.av)=true:=eU FA l
@[simp] theorem MZ(g:Nat->Nat->Nat->Nat->Bool->AV)(l:List Ty):cl g (Og l)=Og l:=by grind [Og,cl,gD,Do]
@[simp] theorem GE(g:Nat->Nat->Nat->Nat->Bool->AV)(s:Sig):cl g s.av=s.av:=by unfold Sig.av Sig.cells;simp only[cl,fp,MZ,ye]
@[simp] theorem Jy(g:Nat->Nat->Nat->Nat->Bool->AV)(l:List Sig):cl g (sigs l)=sigs l:=by grind [sigs,cl,gD,GE]
@[simp] theorem Dn(g:Nat->Nat->Nat->Nat->Bool->AV)(s:Face):cl g s.av=s.av:=by grind [Face.av,Face.cells,cl,fp,Jy]
@[simp] theorem QJ(g:Nat->Nat->Nat->Nat->Bool->AV)(l:List Face):cl g (G0 l)=G0 l:=by grind [G0,cl,gD,Dn]
@[simp] theorem Um(g:Nat->Nat->Nat->Nat->Bool->AV)(s:Vsn):cl g s.av=s.av:=by unfold Vsn.av;simp only[cl,fp]
@[simp] theorem Tc(v:Ty):bn (ao v.av)=ao v.av:=dj fun g=>Do g v
@[simp] theorem RA(v:Sig):bn (ao v.av)=ao v.av:=dj fun g=>GE g v
@[simp] theorem Ot(v:Face):bn (ao v.av)=ao v.av:=dj fun g=>Dn g v
end Go.Av.Ap
namespace Go.Av
open Go
def jI:R AV->R AV:=fun r=>match r with
 |.ok _ h'=>.ok (.tup [.int .i64 0,.int .i64 0]) h'
 |_=>.fail
def sT:(FuncId->List AV->M AV)->List AV->M AV:=fun call args=>match args with
 |[_,f]=>fun h=>jI (cU call f [] h)
 |_=>gU
def Ig(call:FuncId->List AV->M AV)(calls:Nat->FuncId->List AV->M AV)(hc:∀f,cK (call f) fun n=>calls n f):cK (sT call) fun n=>sT (calls n):=by
 have hv:∀f,eg (cU call f []) fun n=>cU (calls n) f []:=by
  intro f;unfold cU;split
  ·exact hc _ _
  ·exact gp _
 intro args
 match args with
 |[]=>exact gp _
 |[_]=>exact gp _
 |[_,f]=>exact AY jI rfl (hv f)
 |_:: _:: _:: _=>exact gp _
end Go.Av
namespace Go.Av
variable [Dr]
open Go.RowKit Go.WideShapes Go.ChangeShapes
theorem Left.below{S S':aD}{β β':List cE}{w w':World}{h':Hp}(L:Left (df [] []) S β w S' β' w' h'):Below w.heap.size w w':=
 ⟨L.gro.os,L.gro.tape,L.gro.out,L.gro.size,fun k hk=>(L.keep k hk (by rintro⟨l,_,_,h1,_⟩;simp at h1)).1⟩
def nr(W:World):aD:=fun b o=>W.cell? ⟨b,o,none⟩
omit [Dr]in
theorem Jc(W:World):Wf (nr W) W:=fun _ _ _ h=>h
omit [Dr]in
theorem Fe{W:World}(h:GOKw W):wk (nr W) [] [] W:=⟨h,fun b _ ho=>by obtain⟨l,_,_,h1,_⟩:=ho;simp at h1,Kz h⟩
theorem Fp{P:Program}{p:Pg}(G:GoodPg P p)(hO:fT p){f:FuncId}{args:List AV}{vs:List Value}{W:World}(hg:GOKw W)(hv:bB (nr W) [] args vs)(ht:af p f args []= .ok (.bool true) []):Calls P f vs.toArray W fun e W'=>e= .returned (.bool true)/\Below W.heap.size W W':=by
 have h:=(zG G hO f args [] (nr W) [] W vs (by rw[ht];simp) (Fe hg) (Jc W) ⟨rfl,fun _=>.no,fun l cs hl=>by simp at hl⟩ hv).1;rw[ht]at h;refine h.mono fun e W' hp=>?_;obtain⟨S',β',v,rfl,hv,L,_⟩:=hp;simp only[VR]at hv;subst hv;exact⟨rfl,L.below⟩
section
variable {H:Type} {enc:TypeId×Value->H} {P:Program}
omit [Dr]in
theorem wd{f:Func}{s:ChangeSpec}{apart fresh handsOn again:Bool}{W W':World}{args:Array Value}{v:Value}{ds gs:List (DataW H)}{before pa pv:List MemPlace}(hW:DataW.Whole enc P f.params.toList s.vars apart W args.toList ds gs before)(hres:∀(b:Nat)(sp:Nat->Bool)(hd:Bool),DataW.TrodAll enc P W' b sp hd f.resultTypes.toList (v.resultList f.resultTypes.size) (s.fn H (ds++gs)).results [])(hargs:∀sp:Nat->Bool,(∀p∈before,sp p.block=true)->DataW.TrodAll enc P W' 0 sp true f.params.toList args.toList (s.fn H (ds++gs)).args pa)(hvars:∀sp:Nat->Bool,(∀p∈before,sp p.block=true)->DataW.TrodVars enc P W' sp s.vars (s.fn H (ds++gs)).vars pv)(hps:before=pa++pv)(hb:Below W.heap.size W W')(hok:∀(j:Nat)(t:TypeId)(r:Value),f.resultTypes[j]? = some t->(v.resultList f.resultTypes.size)[j]? = some r->Value.okWide P W' .any 0 t r):
  s.post enc P f apart fresh handsOn again W args v W':=by
 have hlt:∀p∈before,p.block<W.heap.size:=fun p hp=>hW.lt p hp;have hold:∀p∈before,(fun b=>decide (b<W.heap.size)) p.block=true:=fun p hp=>ZU
 refine⟨ds,gs,before,[],pa,pv,hW,hres _ _ _,hargs _ hold,hvars _ hold,World.keptBut_mono (fun p hp=>⟨hp,?_⟩) (hb.frame (· ∈before)),fun _=>?_⟩
 ·grind
 ·obtain⟨_,_,_,_,_,hz,hn⟩:=hW;refine⟨hok,_,_,([]++pa)++pv,⟨[]++pa,pv,trodAll_append (hargs _ (fun _ _=>rfl)) (hres _ _ _),hvars _ (fun _ _=>rfl),rfl,?_,?_⟩,?_⟩
  ·intro b off hp;have hin:MemPlace.cell b off∈before:=by rw[hps];simpa using hp
   rw[hb.frozen (hlt _ hin)];exact hz b off hin
  all_goals grind
end
end Go.Av
namespace Go.Av
open Go.RowKit
section
variable {H:Type} {enc:TypeId×Value->H} {P:Program} {w w':World}
theorem oT{base:Nat}{spare:Nat->Bool}{held:Bool}:∀ {ts:List TypeId} {vs:List Value} {ds:List (DataW H)} {ps:List MemPlace},DataW.TrodAll enc P w base spare held ts vs ds ps->(∀p∈ps,w.sameAt w' p)->DataW.TrodAll enc P w' base spare held ts vs ds ps
 |[],[],[],_,h,_=>h
 |_:: _,_:: _,_:: _,_,⟨p,q,⟨n,h1⟩,h2,e⟩,hs=>⟨p,q,⟨n,DataW.trod_carry n _ _ _ h1 (fun x hx=>hs x ZU)⟩,oT h2 (fun x hx=>hs x ZU),e⟩
theorem yW(hb:Below w.heap.size w w'){p:MemPlace}(hp:p.block<w.heap.size):w.sameAt w' p:=by
 cases p with
 |cell b off=>
  have:=hb.block b hp
  show w'.cell? ⟨b,off,none⟩=w.cell? ⟨b,off,none⟩;simp only[World.cell?,this]
 |map b=>exact hb.block b hp
theorem BG{T:TypeId->Prop}(K:Kids P T)(hz:∀t e,T t->P.underlying t=some (.slice e)->0<P.cellsOf e){ts:List TypeId}{vs:List Value}{ds:List (DataW H)}{ps:List MemPlace}(hT:∀t∈ts,T t)(h:DataW.TrodAll enc P w 0 (fun _=>true) true ts vs ds ps)(hlt:∀p∈ps,p.block<w.heap.size)(hb:Below w.heap.size w w')(sp:Nat->Bool)(hsp:∀p∈ps,sp p.block=true):DataW.TrodAll enc P w' 0 sp true ts vs ds ps:=
 (oT h fun p hp=>yW hb (hlt p hp)).respare K hz hT hsp
end
theorem DV{α:Type}(Q:Nat->α->Prop):∀n,(∀i,i<n->∃x,Q i x)->∃l:List α,l.length=n/\∀i x,l[i]? = some x->Q i x
 |0,_=>⟨[],rfl,fun i x h=>by simp at h⟩
 |n+1,h=>by
  obtain⟨l,h1,h2⟩:=DV Q n fun i hi=>h i ZS;obtain⟨y,hy⟩:=h n ZS;refine⟨l++[y],by simp[h1],fun i x hx=>?_⟩
  grind
end Go.Av
namespace Go.Av
open Go.RowKit Go.WideShapes Go.ChangeShapes
section
variable {H:Type} (enc:TypeId×Value->H) (P:Program) (W:World)
def Rd{α:Type}(N:Nat)(t:TypeId)(cells:α->List AV)(Ok:α->Prop):Prop:=∀(base:Nat)(held:Bool)(n:Nat),n<N->∀(cs:List Value)(x:DataW H×List MemPlace),DataW.trod enc P W base (fun _=>true) held n t cs=some x->(∀k∈x.1.weights P t,k<=reachBytes)->∃a:α,bB (nr W) [] (cells a) cs/\Ok a
def Ja{α:Type}(N:Nat)(tot:Nat)(o:Nat)(fs:List Field)(cells:α->List AV)(Ok:α->Prop):Prop:=∀(base:Nat)(held:Bool)(n:Nat),n<N->∀(cs:List Value)(xs:List (DataW H×List MemPlace)),cs.length=tot->
 xs.length=fs.length->(∀(i:Nat)(f:Field),fs[i]? = some f->DataW.trod enc P W base (fun _=>true) held n f.type ((cs.drop f.offset).take (P.cellsOf f.type))=xs[i]?)->(∀k∈DataW.weightsEach P (fs.map (·.type)) (xs.map (·.1)),k<=reachBytes)->∃a:α,bB (nr W) [] (cells a) (cs.drop o)/\Ok a
variable {enc P W} {α β:Type} {N:Nat} {t:TypeId}
theorem Rd.zero{cells:α->List AV}{Ok:α->Prop}:Rd enc P W 0 t cells Ok:=fun _ _ n hn=>absurd hn ZS
theorem Rd.le{cells:α->List AV}{Ok:α->Prop}(h:Rd enc P W N t cells Ok){M:Nat}(hm:M<=N):Rd enc P W M t cells Ok:=fun b hd n hn=>h b hd n ZS
theorem Rd.map{cells:α->List AV}{Ok:α->Prop}(h:Rd enc P W N t cells Ok)(g:α->β){cells':β->List AV}{Ok':β->Prop}(hc:∀a,cells' (g a)=cells a)(ho:∀a,Ok a->Ok' (g a)):Rd enc P W N t cells' Ok':=by
 intro b hd n hn cs x hx hw;obtain⟨a,h1,h2⟩:=h b hd n hn cs x hx hw
 grind
theorem Ec(ht:P.underlying t=some .bool):Rd enc P W N t (fun b:Bool=>[.bool b]) (fun _=>True):=by
 intro b hd n hn cs x hx hw;obtain⟨b,rfl,_⟩:=DataW.trod_bool ht hx;simp_all[bB,VR]
theorem nQ{k:IntKind}(ht:P.underlying t=some (.int k)):Rd enc P W N t (fun n:Int=>[.int k n]) (fun n=>(Lit.int k n).wf=true):=by
 intro b hd n hn cs x hx hw;obtain⟨b,rfl,_,hwf⟩:=DataW.trod_int ht hx;exact⟨b,by simp[bB,VR],hwf⟩
theorem nR(ht:P.underlying t=some .string):Rd enc P W N t (fun s:List UInt8=>[.str s]) (fun s=>s.length<=reachBytes):=by
 intro b hd n hn cs x hx hw;obtain⟨s,rfl,rfl,_⟩:=DataW.trod_string ht hx;simp_all[bB,VR,DataW.weights]
def Le(cells:α->List AV)(ev:α->AV)(sz:Nat):Prop:=∀(a:α)(S:aD)(β:List cE)(vs:List Value),bB S β (cells a) vs->vs.length=sz->∃v,VR S β (ev a) v/\v.cells.toList=vs
theorem lP{cells:α->List AV}{ev:α->AV}{sz:Nat}(he:∀a,ev a= .agg (cells a)):Le cells ev sz:=fun a S β vs h hl=>⟨.agg vs.toArray,by rw[he];simp only[VR];grind,by simp[Value.cells]⟩
theorem zS{ev:α->AV}(ho:∀a,ay (ev a)=true):Le (fun a=>[ev a]) ev 1:=fun a S β vs h hl=>by
 simp only[bB]at h;obtain⟨v,_,rfl,h,rfl⟩:=h
 grind [kC]
theorem nX{e:TypeId}:∀ {l:List (DataW H)} {d:DataW H},d∈l->∀k∈d.weights P e,k∈DataW.weightsAll P e l
 |x:: l,d,hd,k,hk=>by
  simp only[DataW.weightsAll,Ya];rcases X7.1 hd with rfl|hd
  ·exact .inl hk
  ·exact .inr (nX hd k hk)
theorem kT{e:TypeId}{cells:α->List AV}{Ok:α->Prop}(h:Rd enc P W N e cells Ok)(ht:P.underlying t=some (.slice e)){sz by_:Nat}(hsz:P.cellsOf e=sz)(h0:0<sz)(hby:P.bytesOf e=by_){ev:α->AV}(hev:Le cells ev sz):
  Rd enc P W N t (fun l:List α=>[.sl (l.map ev)]) (fun l=>l.length*by_<=reachBytes/\∀a∈l,Ok a):=by
 intro base hd n hn cs x hx hw;rcases DataW.trod_slice ht hx with⟨rfl,rfl⟩|⟨a,len,cap,elems,rest,m,rfl,rfl,rfl,hb,hle,hm,hlen,hel,hsp,_⟩
 ·exact⟨[],by simp only[bB,ZG,VR];grind,ZV,fun a ha=>by cases ha⟩
 obtain⟨hrl,hre⟩:=hsp rfl;rw[hsz]at hel hre;simp only[DataW.weights,ht,X7,Ya,hby]at hw;have hspot:0<cap->a.spot=none:=by
  intro hc;have:∃y,(W.cells? base (a.add 0) sz).bind (DataW.trod enc P W base (fun _=>true) hd m e)=some y:=by
   by_cases h1:0<len
   ·grind
   ·have:=hre 0 ZS
    grind
  obtain⟨y,hy⟩:=this;obtain⟨cs,hcs,_⟩:=ZO.1 hy;obtain⟨_,hl,hc⟩:=World.cells?_some hcs;have h2:=hc 0 h0;rw[XE ZS]at h2;have h3:=World.cell?_spot h2;have e:(a.add 0).add 0=a:=by unfold Addr.add;simp
  rwa [e]at h3
 have hx:∀i,i<len->∃y:α,(∃v,VR (nr W) [] (ev y) v/\v.cells.size=sz/\gC (nr W) a.block (a.off+i*sz) v.cells.toList)/\Ok y:=by
  intro i hi;have h1:=hel i hi;rw[XE ZS]at h1;obtain⟨cs,hcs,htr⟩:=ZO.1 h1;obtain⟨y,hy,hok⟩:=h base hd m ZS cs _ htr (fun k hk=>hw k (.inr (.inl (nX (YP.2 ⟨_,XG _,rfl⟩) k hk))));obtain⟨_,hl,hc⟩:=World.cells?_some hcs;obtain⟨v,hv,hvc⟩:=hev y _ _ cs hy hl;refine⟨y,⟨v,hv,ZU,fun j u hj=>?_⟩,hok⟩;rw[hvc]at hj;have hjl:j<sz:=by
   rcases XT j cs.length with h|h
   ·omega
   ·grind
  have h2:=hc j hjl;rw[hj]at h2;unfold nr;have hs:=hspot ZS;have e:(a.add (i*sz)).add j=⟨a.block,a.off+i*sz+j,none⟩:=by
   obtain⟨b,o,s⟩:=a;simp only at hs;subst hs;rw[add_plain,add_plain]
  rw[<- e];exact h2
 obtain⟨l,hl1,hl2⟩:=DV (fun i y=>(∃v,VR (nr W) [] (ev y) v/\v.cells.size=sz/\gC (nr W) a.block (a.off+i*sz) v.cells.toList)/\Ok y) len hx;refine⟨l,?_,?_,fun y hy=>?_⟩
 ·simp only[bB,VR,Yy];refine⟨_,_,rfl,⟨some a,cap,by rw[hl1],ZS,(fun e=>by cases e),fun q hq=>?_⟩,rfl⟩;cases hq;refine⟨hspot,sz,.of_get fun i e he=>?_⟩
  grind
 ·have:=hw _ (.inl rfl)
  grind
 ·obtain⟨i,hi,e⟩:=YV hy;exact (hl2 i y ZU).2
theorem kS{tot:Nat}:Ja enc P W N tot tot [] (fun _:Unit=>[]) (fun _=>True):=fun base hd n hn cs xs hl _ _ _=>⟨(),by simp[bB,<- hl],trivial⟩
theorem bq{tot o k:Nat}{f:Field}{fs:List Field}{c1:α->List AV}{Ok1:α->Prop}{c2:β->List AV}{Ok2:β->Prop}(h1:Rd enc P W N f.type c1 Ok1)(ho:f.offset=o)(hk:P.cellsOf f.type=k)(h2:Ja enc P W N tot (o+k) fs c2 Ok2):
  Ja enc P W N tot o (f:: fs) (fun x:α×β=>c1 x.1++c2 x.2) (fun x=>Ok1 x.1/\Ok2 x.2):=by
 intro base hd n hn cs xs hl hx hf hw
 match xs,hx with
 |x:: xs,hx=>
  have hf0:=hf 0 f rfl;rw[ho,hk]at hf0;simp only[Yf,DataW.weightsEach,Ya]at hw;obtain⟨a,ha,oa⟩:=h1 base hd n hn _ x hf0 fun k hk=>hw k (.inl hk);obtain⟨b,hb,ob⟩:=h2 base hd n hn cs xs hl (by simpa using hx) (fun i g hg=>by simpa using hf (i+1) g (by simpa using hg)) fun k hk=>hw k (.inr hk);refine⟨(a,b),?_,oa,ob⟩
  have:=ha.append hb
  grind [List.drop_drop,List.take_append_drop]
theorem jf{fs:Array Field}{tot:Nat}{cells:α->List AV}{Ok:α->Prop}(ht:P.underlying t=some (.struct fs))(hc:P.cellsOf t=tot)(h:Ja enc P W N tot 0 fs.toList cells Ok):Rd enc P W (N+1) t cells Ok:=by
 intro base hd n hn cs x hx hw;obtain⟨xs,m,rfl,rfl,hl,hxs,hf⟩:=DataW.trod_struct ht hx;simp only[DataW.weights,ht]at hw;obtain⟨a,h1,h2⟩:=h base hd m ZS cs xs (by rw[hl,hc]) (by simpa using hxs) (fun i f hi=>hf i f (by simpa using hi)) hw
 grind
theorem N3{cells:α->List AV}{Ok:α->Prop}(h:∀N,Rd enc P W N t cells Ok){base:Nat}{held:Bool}{v:Value}{d:DataW H}{p:List MemPlace}(hd:DataW.Trod enc P W base (fun _=>true) held t v d p)(hw:∀k∈d.weights P t,k<=reachBytes):
  ∃a:α,bB (nr W) [] (cells a) v.cells.toList/\Ok a:=by
 obtain⟨n,hn⟩:=hd;exact h (n+1) base held n ZS _ _ hn hw
theorem yP{f:α->AV}{Ok:α->Prop}(h:∀N,Rd enc P W N t (fun a=>[f a]) Ok){base:Nat}{held:Bool}{v:Value}{d:DataW H}{p:List MemPlace}(hv:v.cells.toList=[v])(hd:DataW.Trod enc P W base (fun _=>true) held t v d p)(hw:∀k∈d.weights P t,k<=reachBytes):
  ∃a:α,VR (nr W) [] (f a) v/\Ok a:=by
 obtain⟨a,h1,h2⟩:=N3 h hd hw;rw[hv]at h1;simp only[bB]at h1
 grind
theorem qJ{e:TypeId}{r:Reach}{b0:Nat}{f:α->AV}{Ok:α->Prop}(h:∀N,Rd enc P W N t (fun a=>[f a]) Ok)(ht:P.underlying t=some (.slice e)){base:Nat}{held:Bool}{v:Value}{d:DataW H}{p:List MemPlace}(hok:Value.okWide P W r b0 t v)(hd:DataW.Trod enc P W base (fun _=>true) held t v d p)(hw:∀k∈d.weights P t,k<=reachBytes):∃a:α,VR (nr W) [] (f a) v/\Ok a:=by
 obtain⟨a,len,cap,rfl⟩:=okWide_slice ht hok;exact yP h rfl hd hw
theorem Dg{r:Reach}{b0:Nat}{f:α->AV}{Ok:α->Prop}(h:∀N,Rd enc P W N t (fun a=>[f a]) Ok)(ht:P.underlying t=some .string){base:Nat}{held:Bool}{v:Value}{d:DataW H}{p:List MemPlace}(hok:Value.okWide P W r b0 t v)(hd:DataW.Trod enc P W base (fun _=>true) held t v d p)(hw:∀k∈d.weights P t,k<=reachBytes):∃a:α,VR (nr W) [] (f a) v/\Ok a:=by
 obtain⟨a,rfl⟩:=okWide_string ht hok;exact yP h rfl hd hw
theorem Jh{k:IntKind}{r:Reach}{b0:Nat}{f:α->AV}{Ok:α->Prop}(h:∀N,Rd enc P W N t (fun a=>[f a]) Ok)(ht:P.underlying t=some (.int k)){base:Nat}{held:Bool}{v:Value}{d:DataW H}{p:List MemPlace}(hok:Value.okWide P W r b0 t v)(hd:DataW.Trod enc P W base (fun _=>true) held t v d p)(hw:∀k∈d.weights P t,k<=reachBytes):∃a:α,VR (nr W) [] (f a) v/\Ok a:=by
 obtain⟨a,rfl⟩:=okWide_int ht hok;exact yP h rfl hd hw
theorem i6{ts:List TypeId}{ds:List (DataW H)}(h:(DataW.weightsEach P ts ds).all (· <=reachBytes)=true){j:Nat}{u:TypeId}{d:DataW H}(ht:ts[j]? = some u)(hd:ds[j]? = some d):∀k∈d.weights P u,k<=reachBytes:=fun k hk=>by
 have:=XJ.1 h _ (DataW.weights_mem_each ht hd k hk)
 grind
end
end Go.Av
namespace Go.Av
variable [Dr]
section
omit [Dr]
theorem dE.grow{S:aD}{β:List cE}{w w':World}{h:Hp}(hh:dE S β w h)(hb:∀b,b<w.heap.size->w'.heap[b]? = w.heap[b]?):dE S β w' h:=by
 obtain⟨hlen,ω,hr⟩:=hh;exact⟨hlen,ω,hr.rows (aD.le_refl S) (il.refl β) hlen fun l cs hl _=>.inl ⟨hl,fun b hb' ho=>⟨ho,hb b hb',fun o h=>h⟩⟩⟩
theorem dE.low{S:aD}{β:List cE}{w:World}{h:Hp}(hh:dE S β w h){b:Nat}(hb:df β h b):b<w.heap.size:=by
 obtain⟨_,ω,hr⟩:=hh;obtain⟨l,cs,n,h1,h2,h3⟩:=hb;obtain⟨b',x,k1,k2,_⟩:=hr.own h1 h2
 grind
theorem Wf.grow{S:aD}{w w':World}(hw:Wf S w)(hb:∀b,b<w.heap.size->w'.heap[b]? = w.heap[b]?):Wf S w':=
 fun b o v hv=>by rw[cell_of_heap (hb b (hw.lt hv))];exact hw b o v hv
end
theorem ra{S S':aD}{β β':List cE}{w w2 w' w'':World}{h h':Hp}(hg:Gro w w2)(hold:∀b,b<w.heap.size->w2.heap[b]? = w.heap[b]?)(L:Left (df β h) S β w2 S' β' w' h')(hg':Gro w' w'')(hsame:∀b,¬(w.heap.size<=b/\b<w2.heap.size)->w''.heap[b]? = w'.heap[b]?)(hw:Wf S w)(hh:dE S β w h):Left (df β h) S β w S' β' w'' h':=by
 have hs:=hg.size;refine⟨L.le,L.ext,fun b o v hv=>?_,(hg.trans L.gro).trans hg',fun b hb hE=>?_,?_,fun b hb=>?_⟩
 ·by_cases hb:w.heap.size<=b/\b<w2.heap.size
  ·have hE:¬df β h b:=fun ho=>by have:=hh.low ho;omega
   have:=(L.keep b hb.2 hE).2 o
   rw[this,hw.none hb.1]at hv;cases hv
  ·rw[cell_of_heap (hsame b hb)];exact L.wf b o v hv
 ·have h1:=L.keep b ZS hE
  grind
 ·obtain⟨hlen,ω,hr⟩:=L.heap;refine⟨hlen,ω,hr.rowsA (aD.le_refl S') (il.refl β') hlen fun l cs hl hne=>.inl ⟨hl,fun b _ ⟨n,h1⟩ h3=>⟨h3,hsame b fun hb=>?_,fun o h=>h⟩⟩⟩;rcases L.owned b ⟨l,cs,_,hl,hne,h1⟩with ho|ho
  ·have:=hh.low ho;omega
  ·omega
 ·rcases L.owned b hb with ho|ho
  all_goals grind
theorem Gro.setCell(w:World)(a:Addr)(v:Value):Gro w (w.setCell a v):=⟨ZV,rfl,rfl,rfl,fun _=>Xz _⟩
omit [Dr]in
theorem gK{w:World}{a:Addr}{v:Value}{b:Nat}(h:b≠a.block):(w.setCell a v).heap[b]? = w.heap[b]?:=by
 simp only[World.setCell,Array.getElem?_modify]
 grind
end Go.Av
namespace Go.Av.Ap
open Go Go.Av
def Val.limN:Nat->Val->Prop
 |0,_=>True
 |n+1,v=>v.names.length<=140737488355328/\v.values.length<=140737488355328/\∀x∈v.values,x.limN n
def Val.Lim(v:Val):Prop:=∀n,v.limN n
def Exp.limN:Nat->Exp->Prop
 |0,_=>True
 |n+1,v=>v.names.length<=8796093022208/\v.args.length<=140737488355328/\∀x∈v.args,x.limN n
def Exp.Lim(v:Exp):Prop:=∀n,v.limN n
def Ty.limN:Nat->Ty->Prop
 |0,_=>True
 |n+1,v=>v.fields.length<=140737488355328/\∀x∈v.fields,x.2.limN n
def Ty.Lim(v:Ty):Prop:=∀n,v.limN n
theorem Val.Lim.names{v:Val}(h:v.Lim):v.names.length<=140737488355328:=(h 1).1
def Val.Lim.len{v:Val}(h:v.Lim):v.values.length<=140737488355328:=(h 1).2.1
def Val.Lim.kid{v:Val}(h:v.Lim){x:Val}(hx:x∈v.values):x.Lim:=fun n=>(h (n+1)).2.2 x hx
theorem Exp.Lim.names{v:Exp}(h:v.Lim):v.names.length<=8796093022208:=(h 1).1
def Exp.Lim.len{v:Exp}(h:v.Lim):v.args.length<=140737488355328:=(h 1).2.1
def Exp.Lim.kid{v:Exp}(h:v.Lim){x:Exp}(hx:x∈v.args):x.Lim:=fun n=>(h (n+1)).2.2 x hx
def Ty.Lim.len{v:Ty}(h:v.Lim):v.fields.length<=140737488355328:=(h 1).1
def Ty.Lim.kid{v:Ty}(h:v.Lim){x:fF}(hx:x∈v.fields):x.2.Lim:=fun n=>(h (n+1)).2 x hx
structure Fun.Lim (f:Fun):Prop where
 params:f.params.length<=140737488355328
 pty:∀x∈f.params,x.2.Lim
 result:f.result.Lim
 body:f.body.Lim
structure Mod.Lim (m:Mod):Prop where
 uses:m.uses.length<=140737488355328
 vars:m.vars.length<=140737488355328
 vty:∀x∈m.vars,x.2.Lim
 init:m.init.length<=140737488355328
 ies:∀e∈m.init,e.Lim
 funcs:m.funcs.length<=140737488355328
 fns:∀f∈m.funcs,f.Lim
 old:m.old.length<=140737488355328
 oty:∀x∈m.old,x.2.Lim
 forward:m.forward.length<=140737488355328
 fes:∀e∈m.forward,e.Lim
 back:m.back.length<=140737488355328
 bes:∀e∈m.back,e.Lim
def s7(b:UInt8):Bool:=decide (97<=b.toNat)&&decide (b.toNat<=122)
def B7(b:UInt8):Bool:=decide (48<=b.toNat)&&decide (b.toNat<=57)
def tw(b:UInt8):Bool:=s7 b||B7 b
def sL(s:aW):Bool:=!(s== [])&&s7 (s.headD 0)&&decide (s.length<=20)&&((s.takeWhile tw).length== s.length)
def ot:aW:=[32,97,110,100,32,98,97,99,107,32,98,111,111,108,32,99,108,111,99,107,32,101,108,115,101,32,102,97,108,115,101,32,102,105,108,101,115,32,102,110,32,102,111,114,119,97,114,100,32,103,101,116,32,105,102,32,105,110,32,105,110,116,32,108,101,116,32,109,111,100,117,108,101,32,109,111,118,101,32,110,101,116,32,110,111,116,32,111,114,32,112,117,98,32,115,101,99,114,101,116,115,32,115,101,116,32,116,104,101,110,32,116,114,117,101,32,117,115,101,32,118,97,114,32]
def cq(s:aW):Bool:=sL s&&!(Lib.contains ot ([32]++s++[32]))
def F0{s:aW}(h:sL s=true):s.length<=20:=by
 simp_all[sL]
def eE(p f:aW):Bool:=!(bU f p||f== p)
def oY{α:Type}(Q:α->α->Bool):List α->Bool
 |x:: y:: r=>Q x y&&oY Q (y:: r)
 |_=>true
theorem zA{α:Type}[Inhabited α](Q:α->α->Bool):(l:List α)->(oY Q l=true↔∀k,k+1<l.length->Q l[k]! l[k+1]! = true)
 |[]=>by simp[oY]
 |[x]=>by simp[oY]
 | x:: y:: r=>by
  simp only[oY,Xu,zA Q (y:: r)];constructor
  ·rintro⟨h1,h2⟩ k hk;cases k with
   |zero=>simpa using h1
   |succ k=>grind
  ·intro h;refine⟨by simpa using h 0 ZV,fun k hk=>?_⟩;simpa using h (k+1) (by simpa using hk)
def xY{α:Type}[Inhabited α](P:α->Bool)(Q:α->α->Bool)(l:List α):(List.range' 0 l.length).all (fun k=>P l[k]! && (decide (k=0)||Q l[k-1]! l[k]!))=(l.all P&&oY Q l):=by
 rw[YD,Xu,<- BD P l,zA]
 grind
def gQ:Nat->Ty->Bool
 |0,_=>false
 |d+1,t=>decide (0<=t.kind)&&decide (t.kind<3)&&decide (t.fields.length<=8)&&(t.kind== 2||t.fields.length== 0)&&(t.fields.all (fun f=>cq f.1&&gQ d f.2)&&oY (fun a b=>eE a.1 b.1) t.fields)
theorem A5(d:Nat)(t:Ty):gQ (d+1) t=(decide (0<=t.kind)&&decide (t.kind<3)&&decide (t.fields.length<=8)&&(t.kind== 2||t.fields.length== 0)&&(t.fields.all (fun f=>cq f.1&&gQ d f.2)&&oY (fun a b=>eE a.1 b.1) t.fields)):=rfl
abbrev jV(t:Ty):Bool:=gQ 4 t
mutual
def MJ:Ty->Ty->Bool
 |.mk k fs,a=>a.kind== k&&Dj fs a.fields
def Dj:List (aW×Ty)->List fF->Bool
 |[],_=>true
 |f:: fs,l=>MK f l&&Dj fs l
def MK:aW×Ty->List fF->Bool
 |(n,t),l=>match Hy (fun z=>z.1== n) l with
  |some z=>MJ t z.2
  |none=>false
end
def mD(a b:Int):Int:=IntKind.i64.wrap (BitVec.ofInt 64 a &&& ~~~ BitVec.ofInt 64 b).toNat
structure Sig.Lim (s:Sig):Prop where
 plen:s.params.length<=140737488355328
 ptys:∀t∈s.params,t.Lim
 result:s.result.Lim
structure Face.Lim (f:Face):Prop where
 len:f.funcs.length<=140737488355328
 sigs:∀s∈f.funcs,s.Lim
@[simp] theorem MV(x:Sig):cg 5 x.av=ao x.av:=ZW
@[simp] theorem Jr(x:Sig):bD 5 [] x.av=ao x.av:=ZW
structure Ins where
 op:Int
 a:Int
 s:aW
 m:aW
 names:List aW
 deriving Inhabited
def Ins.cells(i:Ins):List AV:=[.int .i64 i.op,.int .i64 i.a,.str i.s,.str i.m,strs i.names]
def Ins.av(i:Ins):AV:=.agg i.cells
structure Cod where
 func:aW
 params:Int
 locals:Int
 code:List Ins
 deriving Inhabited
def nG(l:List Ins):AV:=.sl (l.map Ins.av)
def Cod.av(c:Cod):AV:=.agg [.str c.func,.int .i64 c.params,.int .i64 c.locals,nG c.code]
def yl(l:List Cod):AV:=.sl (l.map Cod.av)
def cC(op a:Int):Ins:=⟨op,a,[],[],[]⟩
def uz(names:List aW)(s:aW):Nat->Int
 |0=>-1
 |n+1=>if names[n]? = some s then(n:Int)else uz names s n
def DO(names:List aW)(s:aW):Int:=uz names s names.length
def KD(vars:List fF)(s:aW):Int:=aY (fun f=>f.1== s) vars 0
def rE(c:List Ins)(k:Nat)(n:Int):List Ins:=c.set k { c[k]! with a:=n }
def lJ(n:Int):Exp:=.mk 1 n [] [] [] []
abbrev jZ:=List Ins×Int
def gJ(i:Ins)(c:jZ):jZ:=(c.1++[i],c.2)
def ru(vars:List fF)(e:Exp):Ins:=
 if e.op=3 then cC 4 0 else if e.op=4 then cC 5 0 else if e.op=5 then cC 6 0 else if e.op=6 then cC 7 0 else if e.op=7 then cC 8 0 else if e.op=10 then cC 9 0
 else if e.op=13 then⟨12,0,[],[],e.names⟩else if e.op=14 then⟨13,0,e.s,[],[]⟩else if e.op=15 then⟨14,e.args.length,e.s,e.m,[]⟩else if e.op=16 then cC 15 e.n else cC 17 (KD vars e.s)
def iD(em:Exp->jZ->jZ)(yes no:Exp)(c:jZ):jZ:=
 let c1:=gJ (cC 11 0) c;let c2:=em yes c1;let c3:=gJ (cC 10 0) c2;let c4:jZ:=(rE c3.1 c.1.length c3.1.length,c3.2);let c5:=em no c4
 (rE c5.1 c2.1.length c5.1.length,c5.2)
def bE(vars:List fF):Nat->Exp->List aW->jZ->jZ
 |0,_,_,c=>c
 | n+1,e,names,c=>
  if e.op=0 then gJ (cC 0 e.n) c
  else if e.op=1 then gJ (cC 1 e.n) c
  else if e.op=2 then gJ (cC 2 (DO names e.s)) c
  else if e.op=17 then gJ (cC 16 (KD vars e.s)) c
  else if e.op=8 then iD (fun x=>bE vars n x names) e.args[1]! (lJ 0) (bE vars n e.args[0]! names c)
  else if e.op=9 then iD (fun x=>bE vars n x names) (lJ 1) e.args[1]! (bE vars n e.args[0]! names c)
  else if e.op=11 then iD (fun x=>bE vars n x names) e.args[1]! e.args[2]! (bE vars n e.args[0]! names c)
  else if e.op=12 then
   let c1:=gJ (cC 3 names.length) (bE vars n e.args[0]! names c)
   bE vars n e.args[1]! (names++[e.s]) (c1.1,max c1.2 (names.length+1))
  else gJ (ru vars e) (e.args.foldl (fun c x=>bE vars n x names c) c)
def dw(vars:List fF)(f:Fun):Cod:=
 let c:=gJ (cC 18 0) (bE vars 12 f.body (f.params.map (·.1)) ([],f.params.length))
 ⟨f.name,f.params.length,c.2,c.1⟩
def iY(e:Exp):Exp×Int:=
 if e.op=0\/e.op=1 then(.mk e.op e.n [] [] [] e.args,0)
 else if e.op=2\/e.op=17 then(.mk e.op 0 e.s [] [] e.args,0)
 else if e.op=18\/e.op=14 then(.mk e.op 0 e.s [] [] e.args,1)
 else if e.op=16 then(.mk e.op e.n [] [] [] e.args,1)
 else if e.op=10 then(.mk e.op 0 [] [] [] e.args,1)
 else if e.op=12 then(.mk e.op 0 e.s [] [] e.args,2)
 else if e.op=11 then(.mk e.op 0 [] [] [] e.args,3)
 else if e.op=13 then(.mk e.op 0 [] [] e.names e.args,e.names.length)
 else if e.op=15 then(.mk e.op 0 e.s e.m [] e.args,-1)
 else(.mk e.op 0 [] [] [] e.args,2)
def jS(l:List aW):Bool:=(l.all cq&&oY eE l)&&decide (l.length<=8)
def iG(e:Exp):Bool:=
 if e.op=0 then decide (0<=e.n)&&decide (e.n<=1099511627776)
 else if e.op=1 then e.n== 0||e.n== 1
 else if e.op=16 then((e.n== 1||e.n== 2)||e.n== 4)||e.n== 8
 else if e.op=2\/e.op=17\/e.op=18\/e.op=14\/e.op=12 then cq e.s
 else if e.op=15 then cq e.s&&(e.m== []||cq e.m)&&decide (e.args.length<=6)
 else if e.op=13 then jS e.names
 else true
def ij(e:Exp):Bool:=
 decide (0<=e.op)&&decide (e.op<19)&&(decide ((iY e).2<0)||((iY e).2== (e.args.length:Int)))&&((iY e).1.n== e.n)&&((iY e).1.s== e.s)&&((iY e).1.m== e.m)&&(((iY e).1.names.length:Int)== (e.names.length:Int))&&iG e
def cR:Nat->Exp->Bool
 |0,_=>false
 |d+1,e=>ij e&&e.args.all (cR d)
theorem fI(d:Nat)(e:Exp):cR (d+1) e=(ij e&&e.args.all (cR d)):=rfl
mutual
def W9:Ty->Ty->Option Ty
 |.mk k fs,b=>if k=b.kind then some (.mk k (SS fs b.fields))else none
def SS:List (aW×Ty)->List fF->List fF
 |[],_=>[]
 |f:: fs,l=>(match W8 f l with|some x=>[x]|none=>[])++SS fs l
def W8:aW×Ty->List fF->Option fF
 |(n,t),l=>match Hy (fun z=>z.1== n) l with
  |some z=>(match W9 t z.2 with|some u=>some (n,u)|none=>none)
  |none=>none
end
def Sn(f:Fun)(rf:List fF->Int->Bool):Bool:=cq f.name&&rf f.params 6&&jV f.result&&cR 12 f.body&&(mD f.effects 15== 0)
def jJ{e:Exp}(h:ij e=true):(e.op=0/\e.args.length=0)\/(e.op=1/\e.args.length=0/\(e.n=0\/e.n=1))\/(e.op=2/\e.args.length=0)\/((e.op=3\/e.op=4\/e.op=5\/e.op=6\/e.op=7)/\e.args.length=2)\/((e.op=8\/e.op=9)/\e.args.length=2)\/(e.op=10/\e.args.length=1)\/(e.op=11/\e.args.length=3)\/(e.op=12/\e.args.length=2)\/(e.op=13/\e.names.length=e.args.length/\jS e.names=true)\/(e.op=14/\e.args.length=1)\/e.op=15\/(e.op=16/\e.args.length=1/\(e.n=1\/e.n=2\/e.n=4\/e.n=8))\/(e.op=17/\e.args.length=0)\/(e.op=18/\e.args.length=1):=by
 have hb:0<=e.op/\e.op<19:=by
  unfold ij at h;simp only[Xu,Xt]at h;exact⟨h.1.1.1.1.1.1.1,h.1.1.1.1.1.1.2⟩
 have ho:e.op=0\/e.op=1\/e.op=2\/e.op=3\/e.op=4\/e.op=5\/e.op=6\/e.op=7\/e.op=8\/e.op=9\/e.op=10\/e.op=11\/e.op=12\/e.op=13\/e.op=14\/e.op=15\/e.op=16\/e.op=17\/e.op=18:=ZS
 rcases ho with o|o|o|o|o|o|o|o|o|o|o|o|o|o|o|o|o|o|o<;>simp[ij,iY,iG,o,-List.length_eq_zero_iff]at h|- <;> first|omega|grind
def oE:Nat->Nat
 |0=>0
 |n+1=>3+8*oE n
theorem nV(c:List Ins)(k:Nat)(n:Int):(rE c k n).length=c.length:=by simp[rE]
theorem dp(i:Ins)(c:jZ):(gJ i c).1.length=c.1.length+1:=by simp[gJ]
def Ji{e:Exp}(h:ij e=true)(h6:e.op=15->e.args.length<=6):e.args.length<=8:=by
 rcases jJ h with h|h|h|h|h|h|h|h|⟨h1,h2,h3⟩|h|h|h|h|h
 all_goals try omega
 simp_all[jS]
def QE{e:Exp}(h:ij e=true)(ho:e.op=15):e.args.length<=6:=by
 simp_all[ij,iG]
def Dh{e:Exp}(h:ij e=true):e.args.length<=8:=Ji h (QE h)
theorem pi(vars:List fF)(n:Nat)(t:Int)(names:List aW)(c:jZ):bE vars (n+1) (lJ t) names c=gJ (cC 1 t) c:=rfl
def oV(em:jZ->jZ)(L:Nat):Prop:=∀c:jZ,c.1.length<=(em c).1.length/\(em c).1.length<=c.1.length+L
def iX{em:Exp->jZ->jZ}{yes no:Exp}{L1 L2:Nat}(h1:oV (em yes) L1)(h2:oV (em no) L2):oV (iD em yes no) (L1+L2+2):=by
 intro c;unfold iD;simp only[nV];have a:=h1 (gJ (cC 11 0) c);have e1:=dp (cC 11 0) c;generalize em yes (gJ (cC 11 0) c)=c2 at *;have e2:=dp (cC 10 0) c2;have b:=h2 (rE (gJ (cC 10 0) c2).1 c.1.length (gJ (cC 10 0) c2).1.length,(gJ (cC 10 0) c2).2);simp only[nV]at b;omega
theorem ua(em:Exp->jZ->jZ)(L:Nat):∀(l:List Exp),(∀x∈l,oV (em x) L)->oV (fun c=>l.foldl (fun c x=>em x c) c) (l.length*L)
 |[],_=>fun c=>ZV
 |x:: l,h=>fun c=>by
  have a:=h x ZV c;have b:=ua em L l (fun y hy=>h y (by simp[hy])) (em x c)
  grind [Nat.succ_mul]
theorem gA{n:Nat}{e x:Exp}(h:cR (n+1) e=true)(hx:x∈e.args):cR n x=true:=by
 simp_all[fI]
def fe{n:Nat}{e:Exp}(h:cR n e=true):∃m,n=m+1:=by
 cases n with
 |zero=>simp[cR]at h
 |succ m=>grind
theorem dt{n:Nat}{e:Exp}(h:cR (n+1) e=true){k:Nat}(hk:k<e.args.length):cR n e.args[k]! = true:=by
 grind [gA]
theorem cH(vars:List fF):∀(n:Nat)(e:Exp),cR n e=true->∀names,oV (bE vars n e names) (oE n)
 |0,e,h,names=>by simp[cR]at h
 | n+1,e,h,names=>by
  have hs:ij e=true:=by rw[fI,Xu]at h;exact h.1
  have hc:=jJ hs;have ha:=Dh hs;intro c;unfold bE;simp only[oE];have htr:∀t,1<=n->oV (bE vars n (lJ t) names) 1:=fun t hn c=>by
   obtain⟨m,rfl⟩:∃m,n=m+1:=⟨n-1,ZS⟩;rw[pi,dp];omega
  split
  ·rw[dp];omega
  split
  ·rw[dp];omega
  split
  ·rw[dp];omega
  split
  ·rw[dp];omega
  split
  ·rename_i ho;have hl:e.args.length=2:=ZS
   obtain⟨m,rfl⟩:=fe (dt h (k:=0) ZS);have a:=cH vars _ _ (dt h (k:=0) ZS) names c;have b:=iX (em:=fun x=>bE vars (m+1) x names) (cH vars _ _ (dt h (k:=1) ZS) names) (htr 0 ZS) (bE vars (m+1) e.args[0]! names c)
   grind
  split
  ·rename_i ho;have hl:e.args.length=2:=ZS
   obtain⟨m,rfl⟩:=fe (dt h (k:=0) ZS);have a:=cH vars _ _ (dt h (k:=0) ZS) names c;have b:=iX (em:=fun x=>bE vars (m+1) x names) (htr 1 ZS) (cH vars _ _ (dt h (k:=1) ZS) names) (bE vars (m+1) e.args[0]! names c)
   grind
  split
  ·rename_i ho;have hl:e.args.length=3:=ZS
   obtain⟨m,rfl⟩:=fe (dt h (k:=0) ZS);have a:=cH vars _ _ (dt h (k:=0) ZS) names c;have b:=iX (em:=fun x=>bE vars (m+1) x names) (cH vars _ _ (dt h (k:=1) ZS) names) (cH vars _ _ (dt h (k:=2) ZS) names) (bE vars (m+1) e.args[0]! names c)
   grind
  split
  ·rename_i ho;have hl:e.args.length=2:=ZS
   obtain⟨m,rfl⟩:=fe (dt h (k:=0) ZS);have a:=cH vars _ _ (dt h (k:=0) ZS) names c;have e1:=dp (cC 3 names.length) (bE vars (m+1) e.args[0]! names c);have b:=cH vars _ _ (dt h (k:=1) ZS) (names++[e.s]) ((gJ (cC 3 names.length) (bE vars (m+1) e.args[0]! names c)).1,max (gJ (cC 3 names.length) (bE vars (m+1) e.args[0]! names c)).2 (names.length+1))
   grind
  ·have b:=ua (fun x=>bE vars n x names) (oE n) e.args (fun x hx=>cH vars n x (gA h hx) names) c;rw[dp];have hm:e.args.length*oE n<=8*oE n:=XB _ ha
   grind
section
variable {α:Type} {f:α->AV} {sz:Nat}
def rowOf(f:α->AV)(l:List α):List AV:=(l.map f).flatMap aa
theorem ji(x:α)(l:List α):rowOf f (x:: l)=aa (f x)++rowOf f l:=by simp[rowOf]
theorem ou(hs:∀x,(aa (f x)).length=sz):(l:List α)->(rowOf f l).length=l.length*sz
 |[]=>by simp[rowOf]
 |x:: l=>by rw[ji,XL,hs,ou hs l,XX,Nat.succ_mul];omega
theorem sF(hs:∀x,(aa (f x)).length=sz):(l:List α)->(i:Nat)->(h:i<l.length)->((rowOf f l).drop (i*sz)).take sz=aa (f l[i])
 |x:: l,0,_=>by
  simp_all[ji]
 |x:: l,i+1,h=>by
  rw[ji,show (i+1)*sz=(aa (f x)).length+i*sz by grind,List.drop_append,List.drop_eq_nil_of_le ZS,Ze,X1];simpa using sF hs l i (by simpa using h)
theorem Fa(hs:∀x,(aa (f x)).length=sz)(hag:∀x,f x= .agg (aa (f x)))(hcl:∀x g,cl g (f x)=f x)(hz:0<sz){h:Hp}{q:Nat}{l:List α}(hq:h[q]? = some (rowOf f l))(d:Nat):
  frz (d+1) h (.hs q 0 l.length sz true)= .sl (l.map f):=by
 have hlen:=ou (f:=f) hs l;simp only[frz,cl,hq];have h1:(decide (0+l.length*sz<=(rowOf f l).length)&&decide (0<sz)&&(true||(Nat.beq sz 1&&(rowOf f l).all ay)))=true:=by
  simp[hlen,hz]
 rw[h1,Xw];congr 1;apply List.ext_getElem
 ·simp
 ·intro i h2 h3;have hi:i<l.length:=by simpa using h2
  simp only[ZJ,List.getElem_range,XI,Xw];rw[sF hs l i hi,<- hag];cases d with
  |zero=>exact hcl _ _
  |succ d=>exact hcl _ _
end
def yC{T:TT}{t:Nat}{ti:TI}(ht:T t=some ti)(ha:ti.agg=false){h:Hp}{l k:Nat}{cs:List AV}{v:AV}(h0:h[l]? = some cs)(h1:cs[k]? = some v):bb T t (.hp l k) h= .ok v h:=by
 simp[bb,ht,h0,ha,h1]
def tc{T:TT}{t:Nat}{ti:TI}(ht:T t=some ti){h:Hp}{l k:Nat}{cs:List AV}{v:AV}(h0:h[l]? = some cs)(hv:bR ti.size v=true)(hle:k+ti.size<=cs.length)(hp:0<ti.size):
  bS T t (.hp l k) v h= .ok (.tup []) (h.set l (setCells cs k (aa v))):=by
 simp[bS,ht,h0,hv,hle,hp]
def QC{T:TT}{t e:Nat}{ti ei:TI}(ht:T t=some ti)(hk:ti.kind= .slice e)(he:T e=some ei){x:AV}(hx:bR ei.size x=true)(hb:0<ei.bytes)(hs:0<ei.size)(hc:ei.bytes<=140737488355328)(h:Hp):
  appH T t false .hn (.sl [x]) h= .ok (.hs h.length 0 1 ei.size ei.agg) (h++[aa x]):=by
 simp_all[dn,appH,gk,iw]
def QD{T:TT}{t e:Nat}{ti ei:TI}(ht:T t=some ti)(hk:ti.kind= .slice e)(he:T e=some ei){x:AV}(hx:bR ei.size x=true)(hb:0<ei.bytes)(hs:0<ei.size){h:Hp}{q n:Nat}{cs:List AV}(h0:h[q]? = some cs)(hok:cs.all ay=true)(hl:cs.length=n*ei.size)(hn:0<n)(hc:(n+1)*ei.bytes<=140737488355328):appH T t false (.hs q 0 n ei.size ei.agg) (.sl [x]) h= .ok (.hs h.length 0 (n+1) ei.size ei.agg) ((h.set q [])++[cs++aa x]):=by
 have h1:dn ei.size [x]=true:=by simp[dn,hx]
 have h2:List.all cs ay=true:=hok;have h3:0<n*ei.size:=Nat.mul_pos hn hs;have h4:cs.take (n*ei.size)=cs:=by rw[<- hl];exact Zh
 simp only[appH,ht,hk,he,gk,h1,hb,hs,iw,h0,h2,hl,XY,Yn,Xw,X0,List.length_singleton,ZB,XD,YB,ZK,XS,h3,h4,Xz]
 grind
abbrev FE(e:Exp):Bool:=cR 12 e
def AX:List aW->List fF->Bool
 |_,[]=>true
 |seen,f:: l=>!(seen.contains f.1)&&cq f.1&&jV f.2&&AX (seen++[f.1]) l
def iJ(l:List fF)(most:Int):Bool:=AX [] l&&decide ((l.length:Int)<=most)
def E8(f:Fun):Bool:=cq f.name&&iJ f.params 6&&jV f.result&&FE f.body&&(mD f.effects 15== 0)
def su:List aW->List Fun->Bool
 |_,[]=>true
 |seen,f:: l=>!(seen.contains f.name)&&E8 f&&su (seen++[f.name]) l
def HT:List aW->List aW->Bool
 |_,[]=>true
 |seen,s:: l=>!(seen.contains s)&&cq s&&HT (seen++[s]) l
def xw(m:Mod):Bool:=cq m.name&&decide (m.uses.length<=12)&&decide (m.funcs.length<=30)&&iJ m.vars 8&&(m.init.all FE&&((m.init.length:Int)== m.vars.length))&&(m.moves||decide (m.old.length=0)) &&
 (iJ m.old 8&&(m.forward.all FE&&((m.forward.length:Int)== (if m.moves=true then(m.vars.length:Int)else 0)))&&(m.back.all FE&&((m.back.length:Int)== m.old.length)))
def ie(m:Mod):Bool:=HT [] m.uses&&(su [] m.funcs&&xw m)
theorem ql:(l:List fF)->(seen:List aW)->AX seen l=true->(∀f∈l,cq f.1=true/\jV f.2=true/\f.1 ∉ seen)/\(l.map (·.1)).Nodup
 |[],seen,_=>⟨fun f h=>(by cases h),List.nodup_nil⟩
 |f:: l,seen,h=>by
  simp only[AX,Xu,XW]at h;obtain⟨⟨⟨h1,h2⟩,h3⟩,h4⟩:=h;obtain⟨i1,i2⟩:=ql l _ h4
  grind
theorem xq:(l:List Fun)->(seen:List aW)->su seen l=true->(∀f∈l,E8 f=true/\f.name ∉ seen)/\(l.map (·.name)).Nodup
 |[],seen,_=>⟨fun f h=>(by cases h),List.nodup_nil⟩
 |f:: l,seen,h=>by
  simp only[su,Xu,XW]at h;obtain⟨⟨h1,h2⟩,h4⟩:=h;obtain⟨i1,i2⟩:=xq l _ h4
  grind
structure FunOk (f:Fun):Prop where
 name:cq f.name=true
 plen:f.params.length<=6
 pars:∀z∈f.params,jV z.2=true
 pnames:(f.params.map (·.1)).Nodup
 res:jV f.result=true
 body:cR 12 f.body=true
 eff:mD f.effects 15=0
def Nn{f:Fun}(h:E8 f=true):FunOk f:=by
 unfold E8 iJ at h;simp only[Xu,Xt,Yd]at h;obtain⟨⟨⟨⟨h1,h2,h3⟩,h4⟩,h5⟩,h6⟩:=h;obtain⟨i1,i2⟩:=ql _ _ h2;exact⟨h1,ZS,fun z hz=>(i1 z hz).2.1,i2,h4,h5,h6⟩
structure ModOk (m:Mod):Prop where
 name:cq m.name=true
 ulen:m.uses.length<=12
 flen:m.funcs.length<=30
 fns:∀f∈m.funcs,FunOk f
 fnames:(m.funcs.map (·.name)).Nodup
 vlen:m.vars.length<=8
 vars:∀z∈m.vars,jV z.2=true
 vnames:(m.vars.map (·.1)).Nodup
 ilen:m.init.length=m.vars.length
 init:∀e∈m.init,cR 12 e=true
 olen:m.old.length<=8
 old:∀z∈m.old,jV z.2=true
 wlen:m.moves=true->m.forward.length=m.vars.length
 forw:∀e∈m.forward,cR 12 e=true
 blen:m.back.length=m.old.length
 back:∀e∈m.back,cR 12 e=true
def uM{m:Mod}(h:ie m=true):ModOk m:=by
 unfold ie xw iJ at h;simp only[Xu,Xt,Yd,XJ,Yj]at h;obtain⟨h1,h2,⟨⟨⟨⟨⟨h3,h4⟩,h5⟩,h6,h7⟩,h8,h9⟩,h10⟩,⟨⟨h11,h12⟩,h13,h14⟩,h15,h16⟩:=h;obtain⟨f1,f2⟩:=xq _ _ h2;obtain⟨v1,v2⟩:=ql _ _ h6;obtain⟨o1,_⟩:=ql _ _ h11;exact⟨h3,h4,h5,fun f hf=>Nn (f1 f hf).1,f2,ZS,fun z hz=>(v1 z hz).2.1,v2,ZS,h8,ZS,fun z hz=>(o1 z hz).2.1,fun hm=>ZU,h13,ZS,h15⟩
def wz(op:Int):Bool:=decide (op=4)||decide (op=5)||decide (op=6)||decide (op=7)||decide (op=8)||decide (op=9)||decide (op=18)||decide (op=19)
def bH(len locals:Int)(i:Ins):Bool:=
 if i.op=0 then i.s== []&&i.m== []&&i.names== []
 else if i.op=1 then(i.a== 0||i.a== 1)&&i.s== []&&i.m== []&&i.names== []
 else if i.op=2\/i.op=3 then(decide (0<=i.a)&&decide (i.a<locals))&&i.s== []&&i.m== []&&i.names== []
 else if i.op=10\/i.op=11 then(decide (0<=i.a)&&decide (i.a<len))&&i.s== []&&i.m== []&&i.names== []
 else if i.op=16\/i.op=17 then(decide (0<=i.a)&&decide (i.a<8))&&i.s== []&&i.m== []&&i.names== []
 else if i.op=15 then(i.a== 1||i.a== 2||i.a== 4||i.a== 8)&&i.s== []&&i.m== []&&i.names== []
 else if i.op=13 then cq i.s&&i.a== 0&&i.m== []&&i.names== []
 else if i.op=14 then(decide (0<=i.a)&&decide (i.a<=6))&&cq i.s&&(i.m== []||cq i.m)&&i.names== []
 else if i.op=12 then jS i.names&&i.a== 0&&i.s== []&&i.m== []
 else wz i.op&&i.a== 0&&i.s== []&&i.m== []&&i.names== []
theorem kV:(a:aW)->bU a a=false
 |[]=>rfl
 |x:: a=>by simp[bU,kV a]
theorem oS:(a b c:aW)->bU a b=true->bU b c=true->bU a c=true
 |_,[],c,h,_=>by cases ‹aW› <;> simp[bU]at h
 |_,_:: _,[],_,h=>by simp[bU]at h
 |[],_:: _,_:: _,_,_=>by simp[bU]
 | x:: a,y:: b,z:: c,h1,h2=>by
  simp only[bU,Yj,Xu,Xt,Yd,UInt8.lt_iff_toNat_lt]at h1 h2 |-;rcases h1 with h1|⟨rfl,h1⟩
  ·grind
  ·rcases h2 with h2|⟨rfl,h2⟩
   ·exact .inl h2
   ·exact .inr ⟨rfl,oS a b c h1 h2⟩
theorem oR:(a b:aW)->bU a b=false->a≠b->bU b a=true
 |[],[],_,h=>absurd rfl h
 |[],_:: _,h,_=>by simp[bU]at h
 |_:: _,[],_,_=>by simp[bU]
 | x:: a,y:: b,h1,h2=>by
  simp only[bU,YH,X2,Yj,Xu,Xt,Yd,UInt8.lt_iff_toNat_lt]at h1 |-;by_cases e:x=y
  ·subst e;refine .inr ⟨rfl,oR a b ?_ fun e=>h2 (by rw[e])⟩
   grind
  grind [UInt8.toNat_inj]
def tv(p f:aW):eE p f=true↔bU p f=true:=by
 unfold eE;rw[XW,YH];constructor
 ·grind [oR]
 ·intro h;refine⟨?_,?_⟩
  ·cases hc:bU f p with
   |false=>rfl
   |true=>grind [oS,kV]
  ·rw[YW];rintro rfl;rw[kV]at h;cases h
def aG(i:Ins):Int×Int:=
 if i.op=0\/i.op=1\/i.op=2\/i.op=16 then(0,1)
 else if i.op=4\/i.op=5\/i.op=6\/i.op=7\/i.op=8 then(2,1)
 else if i.op=9\/i.op=13\/i.op=15\/i.op=17 then(1,1)
 else if i.op=12 then(i.names.length,1)
 else if i.op=14 then(i.a,1)
 else if i.op=10 then(0,0)
 else(1,0)
def gu(i:Ins)(k:Int):List Int:=
 if i.op=18 then[]else if i.op=10 then[i.a]else if i.op=11 then[k+1,i.a]else[k+1]
def gt{len locals:Int}{i:Ins}(h:bH len locals i=true):0<=(aG i).1/\(aG i).1<=8/\0<=(aG i).2/\(aG i).2<=1:=by
 unfold aG;split
 ·simp
 split
 ·simp
 split
 ·simp
 split
 ·rename_i ho;have hn:jS i.names=true:=by
   simp[bH,ho]at h;exact h.1.1.1
  simp only[jS,Xu,Xt]at hn
  grind
 grind [bH]
def ko(n:Nat)(k:Nat)(nd gv:Int):List Int->List Int->List Int->Option (List Int×List Int)
 |[],hl,td=>some (hl,td)
 |v:: r,hl,td=>
  if v=n then none
  else if hl[v.toNat]! < 0 then ko n k nd gv r (hl.set v.toNat (hl[k]! - nd+gv)) (td++[v])
  else if hl[v.toNat]! ≠hl[k]! - nd+gv then none
  else ko n k nd gv r hl td
def ry(c:List Ins):Nat->List Int->List Int->Option (List Int)
 |0,_,_=>none
 |_+1,hl,[]=>some hl
 | f+1,hl,k:: td=>
  let i:=c[k.toNat]!
  if hl[k.toNat]! < (aG i).1\/(i.op=18/\hl[k.toNat]! ≠1)then none
  else match ko c.length k.toNat (aG i).1 (aG i).2 (gu i k) hl td with
   |none=>none
   |some (hl',td')=>ry c f hl' td'
def pn(c:Cod):Bool:=cq c.func&&decide (0<=c.params)&&decide (c.params<=6)&&decide (c.params<=c.locals)&&decide (c.code≠[])
def dm(c:Cod):Option (List Int):=
 if pn c=true/\c.code.all (bH c.code.length c.locals)=true then ry c.code (2*c.code.length+2) (0:: List.replicate (c.code.length-1) (-1)) [0]else none
def rk(hl:List Int):Nat:=hl.countP fun x=>decide (x<0)
structure HInv (n:Nat) (hl:List Int):Prop where
 len:hl.length=n
 lo:∀j,j<n->-1<=hl[j]!
 hi:∀j,j<n->hl[j]! + rk hl<=n
def AR{hl:List Int}{v:Nat}(hv:v<hl.length)(h:hl[v]! < 0){x:Int}(hx:0<=x):rk (hl.set v x)+1=rk hl:=by
 unfold rk
 grind
def lW{hl:List Int}{v j:Nat}(hv:v<hl.length)(hj:j<hl.length)(x:Int):(hl.set v x)[j]! = if v=j then x else hl[j]!:=by
 grind
def HInv.set{n:Nat}{hl:List Int}(H:HInv n hl){v:Nat}(hv:v<n)(h:hl[v]! < 0){x:Int}(h0:0<=x)(h1:x+rk hl<=n+1):HInv n (hl.set v x):=by
 have hv':v<hl.length:=by rw[H.len];exact hv
 have hn:=AR hv' h h0;refine⟨by simpa using H.len,fun j hj=>?_,fun j hj=>?_⟩
 ·rw[lW hv' (by rw[H.len];exact hj)];split
  ·omega
  ·exact H.lo j hj
 ·rw[lW hv' (by rw[H.len];exact hj)]
  have:=H.hi j hj
  split<;>omega
theorem qy{n k:Nat}{nd gv:Int}(hk:k<n)(h0:0<=nd)(g0:0<=gv)(g1:gv<=1):∀(nx hl td:List Int){hl' td':List Int},HInv n hl->nd<=hl[k]! ->(∀v∈nx,0<=v/\v<=n)->(∀v∈td,0<=v/\v<n)->ko n k nd gv nx hl td=some (hl',td')->
  HInv n hl'/\td'.length+2*rk hl'<=td.length+2*rk hl/\∀v∈td',0<=v/\v<n
 |[],hl,td,hl',td',H,_,_,ht,e=>by
  simp only[ko,Xq,Ym]at e
  grind
 | v :: nx,hl,td,hl',td',H,hd,hx,ht,e=>by
  have hv:=hx v ZV;simp only[ko]at e;split at e
  ·cases e
  ·rename_i hne;have hvn:v.toNat<n:=ZS
   have hvl:v.toNat<hl.length:=by rw[H.len];exact hvn
   have hkl:k<hl.length:=by rw[H.len];exact hk
   split at e
   ·rename_i hneg;have hkk:=H.hi k hk;have hI:=H.set hvn hneg (x:=hl[k]! - nd+gv) ZS ZS;have hns:=AR hvl hneg (x:=hl[k]! - nd+gv) ZS;have hkv:¬v.toNat=k:=fun e=>ZU
    have ih:=qy hk h0 g0 g1 nx _ _ hI ZU (fun x h=>hx x (by simp[h])) (fun x h=>by
     grind) e
    grind
   ·split at e
    ·cases e
    ·exact qy hk h0 g0 g1 nx hl td H hd (fun x h=>hx x (by simp[h])) ht e
end Go.Av.Ap
namespace Go.Av.Ap
def asc:List aW->Bool
 |[]=>true
 |[_]=>true
 |x:: y:: l=>bU x y&&asc (y:: l)
def cP:Nat->Val->Bool
 |0,_=>false
 |d+1,v=>if(v.kind== 0||v.kind== 1)=true then v.names.length== 0&&v.values.length== 0&&(v.kind== 0||v.n== 0||v.n== 1)
  else v.kind== 2&&v.n== 0&&v.names.length== v.values.length&&decide (v.names.length<=8)&&asc v.names&&v.values.all (cP d)
def dS(b:Bool):Val:=.mk 1 (if b then 1 else 0) [] []
def cp(n:Int):Val:=.mk 0 n [] []
def cV(p:List Mod)(s:aW):Int:=aY (fun m=>m.name== s) p 0
def mY(l:List Fun)(s:aW):Int:=aY (fun f=>f.name== s) l 0
def lR(l:List fF)(s:aW):Int:=aY (fun f=>f.1== s) l 0
structure Ms where
 fuel:Int
 frames:Int
 world:List Int
 deeds:List Deed
 calls:List Call
 state:List (List Val)
inductive Rs (α:Type) where
 |ok (a:α) (m:Ms)
 |er (e:Int) (m:Ms)
def X(α:Type):=Ms->Rs α
def X.ok{α:Type}(a:α):X α:=fun m=>.ok a m
def X.er{α:Type}(e:Int):X α:=fun m=>.er e m
def X.bind{α β:Type}(x:X α)(f:α->X β):X β:=fun m=>match x m with
 |.ok a m'=>f a m'
 |.er e m'=>.er e m'
def X.upd{α:Type}(f:Ms->Ms)(x:X α):X α:=fun m=>x (f m)
def X.get{α:Type}(f:Ms->X α):X α:=fun m=>f m m
def bG(op:Int):Int:=
 if op=0\/op=1\/op=2\/op=17 then 0
 else if op=10\/op=14\/op=16\/op=18 then 1
 else if op=3\/op=4\/op=5\/op=6\/op=7\/op=8\/op=9\/op=12 then 2
 else if op=11 then 3
 else if op=13\/op=15 then -1
 else -2
def lC:List aW->List Val->aW->Option Val
 |n:: ns,v:: vs,s=>match lC ns vs s with
  |some x=>some x
  |none=>if n=s then some v else none
 |_,_,_=>none
def gO:List aW->List Val->aW->Option Val
 |n:: ns,v:: vs,s=>if n=s then some v else gO ns vs s
 |_,_,_=>none
def wr(n:Int):Int:=IntKind.i64.wrap n
def oZ(op:Int)(a b:Val):X Val:=
 if op=7 then(if a.kind=b.kind/\a.kind≠2 then .ok (dS (a.n== b.n))else .er 13)
 else if a.kind=0/\b.kind=0 then
  (if op=3 then .ok (cp (wr (a.n+b.n)))else if op=4 then .ok (cp (wr (a.n-b.n)))else if op=5 then .ok (cp (wr (a.n*b.n)))else .ok (dS (decide (a.n<b.n))))
 else .er 13
mutual
def dO:Val->Nat
 |.mk _ _ _ vs=>dL vs+1
def dL:List Val->Nat
 |[]=>0
 |v:: vs=>max (dO v) (dL vs)
end
abbrev Ev:=Int->List aW->List Val->Exp->X Val
def boolX(r:X Val):X Bool:=r.bind fun v=>if v.kind=1 then .ok (v.n== 1)else .er 13
def listX(r:Exp->X Val):List Exp->X (List Val)
 |[]=>.ok []
 |e:: es=>(r e).bind fun v=>(listX r es).bind fun vs=>.ok (v:: vs)
def mT(r:Exp->X Val)(e:Exp):X Val:=
 if e.names.length=e.args.length/\asc e.names=true then
  (if e.names.length<=8 then(listX r e.args).bind fun vs=>if dO (.mk 2 0 e.names vs)<=4 then .ok (.mk 2 0 e.names vs)else .er 6 else .er 6)
 else .er 13
def lU(p:List Mod)(at_:Int)(s:aW):Option Fun:=
 if at_<0 then none else(let l:=(p[at_.toNat]?.getD default).funcs;let i:=mY l s;if i<0 then none else l[i.toNat]?)
def jO(p:List Mod)(r:Ev)(at_:Int)(f:Fun)(l:List Val):X Val:=
 .get fun m=>if m.frames<60 then
  .upd (fun m=>{ m with calls:=if f.pub=true then m.calls++[⟨(p[at_.toNat]?.getD default).name,f.name,l⟩]else m.calls,frames:=m.frames+1 })
   ((r at_ (f.params.map (·.1)) l f.body).bind fun v=>.upd (fun m=>{ m with frames:=m.frames-1 }) (.ok v))
 else .er 6
def tC(p:List Mod)(r:Ev)(own:Int)(ns:List aW)(vs:List Val)(e:Exp):X Val:=
 let at_:=if e.m=[]then own else cV p e.m
 match lU p at_ e.s with
 |none=>.er 12
 | some f=>if e.m=[]\/f.pub=true then
   (if e.args.length=f.params.length then(listX (r own ns vs) e.args).bind fun l=>jO p r at_ f l else .er 13)
  else .er 12
def BC(r:X Val)(e:Exp):X Val:=
 r.bind fun v=>if v.kind=0 then
  (if e.n=1\/e.n=2\/e.n=4\/e.n=8 then
   .get fun m=>.upd (fun m=>{ m with world:=m.world.tail,deeds:=m.deeds++[⟨e.n,v.n,m.world.headD 0⟩] }) (.ok (cp (m.world.headD 0)))
  else .er 14)
 else .er 13
def setSt(st:List (List Val))(i k:Nat)(v:Val):List (List Val):=st.modify i fun l=>l.set k v
def uj(st:List (List Val))(i k:Nat):Val:=(st.getD i []).getD k default
def C1(p:List Mod)(r:Exp->X Val)(own:Int)(e:Exp):X Val:=
 if own<0 then .er 12 else
 let i:=lR (p[own.toNat]?.getD default).vars e.s
 if i<0 then .er 12 else
 if e.op=18 then(r e.args[0]!).bind fun v=>.upd (fun m=>{ m with state:=setSt m.state own.toNat i.toNat v }) (.ok v)
 else .get fun m=>.ok (uj m.state own.toNat i.toNat)
def qx(p:List Mod)(r:Ev):Ev:=fun own ns vs e=>.get fun m=>
 if m.fuel<=0 then .er 16 else .upd (fun m=>{ m with fuel:=m.fuel-1 }) <|
 let n:=bG e.op
 if n= -2\/(n≠-1/\n≠e.args.length)then .er 13
 else if e.op=0 then .ok (cp e.n)
 else if e.op=1 then(if e.n=0\/e.n=1 then .ok (dS (e.n== 1))else .er 13)
 else if e.op=2 then(match lC ns vs e.s with|some v=>.ok v|none=>.er 12)
 else if e.op=3\/e.op=4\/e.op=5\/e.op=6\/e.op=7 then(r own ns vs e.args[0]!).bind fun a=>(r own ns vs e.args[1]!).bind fun b=>oZ e.op a b
 else if e.op=8\/e.op=9 then(boolX (r own ns vs e.args[0]!)).bind fun x=>if x=(e.op== 9)then .ok (dS (e.op== 9))else(boolX (r own ns vs e.args[1]!)).bind fun y=>.ok (dS y)
 else if e.op=10 then(boolX (r own ns vs e.args[0]!)).bind fun x=>.ok (dS !x)
 else if e.op=11 then(boolX (r own ns vs e.args[0]!)).bind fun x=>if x=true then r own ns vs e.args[1]! else r own ns vs e.args[2]!
 else if e.op=12 then(r own ns vs e.args[0]!).bind fun v=>r own (ns++[e.s]) (vs++[v]) e.args[1]!
 else if e.op=13 then mT (r own ns vs) e
 else if e.op=14 then(r own ns vs e.args[0]!).bind fun v=>(match gO v.names v.values e.s with|some x=>if v.kind=2 then .ok x else .er 13|none=>.er 13)
 else if e.op=15 then tC p r own ns vs e
 else if e.op=16 then BC (r own ns vs e.args[0]!) e
 else C1 p (r own ns vs) own e
def cM(p:List Mod):Nat->Ev
 |0=>fun _ _ _ _=>.er 16
 |n+1=>qx p (cM p n)
end Go.Av.Ap
