/- The abstract evaluator and plain laws, part 3. Condition: the table of types is the program's. -/
import Derived.Test.YtkidiopjcgeifaaGreatLb
import Derived.KernelRfl
import Derived.IntWalk
import Derived.Below
import Derived.Lib.IndexMore
import Derived.Lib.Fields
import Derived.Shelf.SlSortCmp.WholeK
import Derived.Lib.Bytealg
set_option linter.defProp false
set_option linter.unusedSimpArgs false
set_option linter.unusedVariables false
namespace Go.Av
variable [Dr]
variable {h':Hp}{i j t:Nat}
section
variable {cx:Cx} {ops:Array Oper} {base:Nat}
structure Ind (cx:Cx) (ops:Array Oper) (i j:Nat) (a b:Oper):Prop where
 ha:ops[i]? = some a
 hb:ops[j]? = some b
 piv:(aw cx a).piv=false
 l1:(aw cx a).wl=true->(aw cx b).rl=false/\(aw cx b).wl=false
 l2:(aw cx a).rl=true->(aw cx b).wl=false\/((∃t p,a.op= .load t (.tmp p))/\(∃t,b.op= .alloc t)/\b.guard=none)
 h1:(aw cx a).wh=true->(aw cx b).rh=false/\(aw cx b).wh=false
 h2:(aw cx a).rh=true->(aw cx b).wh=false\/(aw cx b).nw=true
 g1:(aw cx a).dr=true->(aw cx b).dr=false/\(aw cx b).ad=false
 g2:(aw cx a).ad=true->(aw cx b).dr=false
 g3:(aw cx a).ad=true->(aw cx b).ad=true->(aw cx a).wl=false/\(aw cx b).wl=false
 r1:∀t∈eQ ops j,a.dst≠some t
 r2:∀t∈eQ ops i,b.dst≠some t
 s1:∀t∈eQ ops j,df a≠some t
 s2:∀t∈eQ ops i,df b≠some t
 c1:∀t,df a=some t->b.dst≠some t
 c2:∀t,a.dst=some t->df b≠some t
 c3:∀t,a.dst=some t->b.dst≠some t
section
omit [Dr]
theorem KV(h:tA cx ops i j=true):(∃a b,Ind cx ops i j a b)\/∃a b,ops[i]? = some a/\ops[j]? = some b/\(Gn cx a b=true\/GG cx a b=true\/yI cx a b=true):=by
 unfold tA at h;split at h
 ·rename_i a b ha hb;cases hs:Gn cx a b with
  |true=>grind
  |false=>
  cases ht:GG cx a b with
  |true=>grind
  |false=>
  cases hl:yI cx a b with
  |true=>grind
  |false=>
  refine .inl ⟨a,b,?_⟩;rw[hs,ht,hl]at h;simp only[Bool.false_or,acB,ade]at h;obtain⟨⟨⟨⟨⟨⟨⟨⟨⟨⟨⟨⟨⟨⟨k1,k2⟩,k3⟩,k4⟩,k5⟩,k6⟩,k7⟩,k8⟩,k9⟩,k10⟩,k11⟩,k12⟩,k13⟩,k14⟩,k15⟩:=h;refine⟨ha,hb,k1,fun q=>?_,fun q=>?_,fun q=>?_,fun q=>?_,fun q=>?_,fun q=>?_,fun q q'=>?_,tQ k9,tQ k10,tQ k11,tQ k12,uR k13,uR k14,uR k15⟩
  ·grind
  ·rw[q]at k3;cases hw:(aw cx b).wl with
   |false=>exact .inl rfl
   | true=>
    rw[hw]at k3;simp only[aep,acB,ade,aey]at k3;refine .inr ⟨?_,?_⟩
    ·grind [YS]
    ·have h1:=k3.2;unfold YQ at h1;split at h1
     all_goals simp_all
  all_goals grind
 ·cases h
theorem zF{T:TT}{l o:Nat}{v r:AV}{h:Hp}(hh:cG T t (.hp l o) v h= .ok r h'):r= .tup []/\∃ti cs,T t=some ti/\h[l]? = some cs/\(cn ti.size v&&decide (o+ti.size<=cs.length)&&decide (0<ti.size))=true/\h'=h.set l (setCells cs o (ab v)):=by
 unfold cG at hh
 grind
theorem B9{T:TT}{l o:Nat}{v:AV}{h:Hp}{ti:TI}{cs:List AV}(ht:T t=some ti)(hl:h[l]? = some cs)(hc:(cn ti.size v&&decide (o+ti.size<=cs.length)&&decide (0<ti.size))=true):cG T t (.hp l o) v h= .ok (.tup []) (h.set l (setCells cs o (ab v))):=by
 simp_all[cG]
theorem Gm{T:TT}{b:Bool}{a v r:AV}{h:Hp}(hh:ud T b t a v h= .ok r h'):∃l o,a= .hp l o/\(Nat.beq (l+1) h.length== b)=true/\cG T t (.hp l o) v h= .ok r h':=by
 unfold ud at hh
 grind
theorem ug{a:Oper}(ha:ops[i]? = some a){p:Nat}{y:Operand}(ho:a.op= .store t (.tmp p) y)(hd:a.dst=none)(hg:a.guard=none)(hp:zt cx p=true)(e:Env)(h:Hp):
  stepG cx base ops i e h=match (e.get p).v with
   |.loc _ _=>.fail
   |.val A=>match ud cx.T (dM cx.ann.sl1 p) t A (opnd e y) h with
    |.ok _ h'=>.ok e h'
    |.pan v h'=>.pan v h'
    |.fail=>.fail:=by
 have hdo:dT ops i=none:=by simp[dT,ha,hd]
 unfold stepG gG;rw[ha,hdo];simp only[hg];unfold iK;rw[ho,hd];simp only[hp,acD];unfold BM;cases (e.get p).v with
 |loc B off=>rfl
 |val A=>
  simp only[eT,aG];cases ud cx.T (dM cx.ann.sl1 p) t A (opnd e y) h with
  |ok v h'=>rfl
  |pan v h'=>rfl
  |fail=>rfl
theorem OB{a b:Oper}(ha:ops[i]? = some a)(hb:ops[j]? = some b)(hs:Gn cx a b=true)(e:Env)(h:Hp):
  RE (aG (stepG cx base ops i e) (stepG cx base ops j) h) (aG (stepG cx base ops j e) (stepG cx base ops i) h):=by
 unfold Gn at hs;split at hs
 ·rename_i t p y t' q z ho ho' hd hd' hg hg';have hpq:zt cx p=true/\zt cx q=true/\dM cx.ann.sl1 p≠dM cx.ann.sl1 q:=by
   unfold zt;simp only[adm,acB,ade]at hs;rcases hs with⟨⟨h1,h2⟩,h3⟩|⟨⟨h1,h2⟩,h3⟩
   ·grind
   ·grind
  obtain⟨k1,k2,k3⟩:=hpq;simp only[aG];rw[ug ha ho hd hg k1 e h,ug hb ho' hd' hg' k2 e h];cases hA:(e.get p).v with
  |loc B off=>trivial
  | val A=>
   simp only;cases hx:ud cx.T (dM cx.ann.sl1 p) t A (opnd e y) h with
   |fail=>trivial
   |pan v h'=>exact absurd hx (u7 _ _ _ _ _ _ _ _)
   | ok r h1=>
    simp only;rw[ug hb ho' hd' hg' k2 e h1];cases hB:(e.get q).v with
    |loc B off=>trivial
    | val B=>
     simp only;cases hy:ud cx.T (dM cx.ann.sl1 q) t' B (opnd e z) h1 with
     |fail=>trivial
     |pan v h'=>exact absurd hy (u7 _ _ _ _ _ _ _ _)
     | ok r2 h2=>
      obtain⟨l,o,rfl,c1,s1⟩:=Gm hx;obtain⟨l',o',rfl,c2,s2⟩:=Gm hy;obtain⟨_,ti,cs,t1,g1,w1,rfl⟩:=zF s1;obtain⟨_,ti',cs',t2,g2,w2,rfl⟩:=zF s2;rw[aez]at c2;have hne:l≠l':=fun hll=>by
       grind
      rw[aef hne]at g2;have e1:ud cx.T (dM cx.ann.sl1 q) t' (.hp l' o') (opnd e z) h= .ok (.tup []) (h.set l' (setCells cs' o' (ab (opnd e z)))):=by
       unfold ud;simp only[c2,acD];exact B9 t2 g2 w2
      simp only[e1];rw[ug ha ho hd hg k1 e _,hA];have e2:ud cx.T (dM cx.ann.sl1 p) t (.hp l o) (opnd e y) (h.set l' (setCells cs' o' (ab (opnd e z))))= .ok (.tup []) ((h.set l' (setCells cs' o' (ab (opnd e z)))).set l (setCells cs o (ab (opnd e y)))):=by
       unfold ud;simp only[aez,c1,acD];exact B9 t1 qr w1
      simp only[e2];refine⟨e,?_,.refl e⟩;rw[List.set_comm _ _ (fun h=>hne h)]
 ·cases hs
end
def sY(s:Nat)(zs:List AV)(n:Nat):Upd:={ ent:=⟨.loc (aN s) 0,none⟩,ls:=lX (aN s) zs [] 0 n,add:=[],lb:=some (aN s,n) }
section
omit [Dr]
theorem JQ{a:Oper}(ha:ops[i]? = some a){s:Nat}(ho:a.op= .alloc t)(hd:a.dst=some s)(hg:a.guard=none)(hw:(aw cx a).wl=true)(hn:(gD cx.ann.nils s).isEmpty=true):
  ∃(c:Bool)(zs:List AV)(n:Nat),(c=true->n<1000)/\∀e h,stepG cx base ops i e h=bif c&&aT e.sl (aN s)then .ok (e.upd (some s) (sY s zs n)) h else .fail:=by
 have hdo:dT ops i=some s:=by simp[dT,ha,hd]
 have hnn:gD cx.ann.nils s=[]:=by simpa using hn
 have hstep:∀e h,stepG cx base ops i e h=aG (eT (gq cx e ((base+i)*1000) s t)) (fun u=>ao (e.upd (some s) u)) h:=fun e h=>by
  simp_all[stepG,gG,iK]
 cases ht:cx.T t with
 |none=>
  refine⟨false,[],0,(fun h=>by cases h),fun e h=>?_⟩;rw[hstep];unfold gq;rw[ht];rfl
 | some ti=>
  have hk:dw cx.ann.kinds s .L≠.F/\dw cx.ann.kinds s .L≠.H/\dw cx.ann.kinds s .L≠.B:=by
   unfold aw at hw;rw[ho,hd]at hw;simp only at hw;refine⟨fun h=>?_,fun h=>?_,fun h=>?_⟩<;>rw[h]at hw<;>cases hw
  refine⟨decide (ti.size<1000)&&jO (dG true ti) [] ti.size,dG (dM cx.ann.hb s) ti,ti.size,fun h=>qr,fun e h=>?_⟩;rw[hstep];unfold gq;rw[ht];simp only[hnn];have key:∀b:Bool,(aG (eT (bif decide (ti.size<1000)&&b&&jO (dG true ti) [] ti.size then Act1.stat { ent:=⟨.loc (aN s) 0,none⟩,ls:=lX (aN s) (dG (dM cx.ann.hb s) ti) [] ((base+i)*1000) ti.size,add:=uI [] ((base+i)*1000),lb:=some (aN s,ti.size) }else .bad)) (fun u=>ao (e.upd (some s) u)) h:R Env)=bif decide (ti.size<1000)&&jO (dG true ti) [] ti.size&&b then .ok (e.upd (some s) (sY s (dG (dM cx.ann.hb s) ti) ti.size)) h else .fail:=by
   intro b;cases decide (ti.size<1000)<;>cases b<;>cases jO (dG true ti) [] ti.size<;>rfl
  cases hkk:dw cx.ann.kinds s .L with
  |F=>grind
  |H=>grind
  |B=>grind
  |L=>exact key _
  |S=>exact key _
theorem Fy{s:Nat}(h:s≠t):aN s≠aN t:=by unfold aN;omega
theorem yJ{e:Env}{s:Nat}(h:s≠t)(zs:List AV)(n:Nat):aT (e.upd (some s) (sY s zs n)).sl (aN t)=aT e.sl (aN t):=by
 have h1:Nat.beq (aN s) (aN t)=false:=by
  rw[adT];exact fun hh=>Fy h (Nat.eq_of_beq_eq_true hh)
 have h2:aT (lX (aN s) zs [] 0 n) (aN t)=true:=by
  unfold aT lX;rw[acQ];intro x hx;simp only[adj]at hx;obtain⟨k,_,rfl⟩:=hx;rfl
 show aT (uf (some s) (sY s zs n).ent ((sY s zs n).ls++e.sl)) (aN t)=_;rw[fH,gZ];show ((false||qT ⟨.loc (aN s) 0,none⟩ (aN t))&&(aT (lX (aN s) zs [] 0 n) (aN t)&&aT e.sl (aN t)))=_;rw[h2];show ((false||!(Nat.beq (aN s) (aN t)))&&(true&&aT e.sl (aN t)))=_;rw[h1];rfl
theorem O6{e:Env}{s:Nat}(h:s≠t)(hs:s<1000)(ht:t<1000)(zs ys:List AV){n m:Nat}(hn:n<1000)(hm:m<1000):EqE ((e.upd (some s) (sY s zs n)).upd (some t) (sY t ys m)) ((e.upd (some t) (sY t ys m)).upd (some s) (sY s zs n)):=by
 have rs:∀x∈(sY s zs n).ls,aN s<=x.1/\x.1<aN s+n:=sK;have rt:∀x∈(sY t ys m).ls,aN t<=x.1/\x.1<aN t+m:=sK;have hb:aN s=1000*(s+1):=rfl;have hb':aN t=1000*(t+1):=rfl;refine⟨fun k=>?_,fun g=>rfl,fun B=>?_,fun B=>?_⟩
 ·rw [cO,cO];show (if some s=some k then(sY s zs n).ent else cF ((sY s zs n).ls++uf (some t) (sY t ys m).ent ((sY t ys m).ls++e.sl)) k)=if some t=some k then(sY t ys m).ent else cF ((sY t ys m).ls++uf (some s) (sY s zs n).ent ((sY s zs n).ls++e.sl)) k;by_cases h1:s=k
  ·subst h1;rw[acL rfl,acE (fun hh=>h (adI hh).symm),gp _ (fun x hx=>qr),gb,acL rfl]
  ·rw[acE (fun hh=>h1 (adI hh))];by_cases h2:t=k
   ·subst h2;rw[acL rfl,gp _ (fun x hx=>qr),gb,acL rfl]
   ·rw[acE (fun hh=>h2 (adI hh))];by_cases h3:aN s<=k/\k<aN s+n
    ·have e1:∀x∈(sY t ys m).ls,x.1≠k:=fun x hx=>qr
     rw[gp _ e1,gb,acE (fun hh=>h1 (adI hh))];exact ny (by rw[gb,acE (fun hh=>h2 (adI hh)),gp _ e1])
    ·have e1:∀x∈(sY s zs n).ls,x.1≠k:=fun x hx=>qr
     rw[gp _ e1,gb,acE (fun hh=>h2 (adI hh))];exact (ny (by rw[gb,acE (fun hh=>h1 (adI hh)),gp _ e1])).symm
 ·show bb ((aN s,n):: (aN t,m):: e.lb) B=bb ((aN t,m):: (aN s,n):: e.lb) B;have hne:=Fy h;simp only[bb];cases h1:Nat.beq (aN s) B with
  |false=>rfl
  | true=>
   have:=Nat.eq_of_beq_eq_true h1
   subst this;have h2:Nat.beq (aN t) (aN s)=false:=by
    rw[adT];exact fun hh=>hne (Nat.eq_of_beq_eq_true hh).symm
   rw[h2];rfl
 ·show aT (uf (some s) (sY s zs n).ent ((sY s zs n).ls++uf (some t) (sY t ys m).ent ((sY t ys m).ls++e.sl))) B=aT (uf (some t) (sY t ys m).ent ((sY t ys m).ls++uf (some s) (sY s zs n).ent ((sY s zs n).ls++e.sl))) B
  grind [fH,gZ]
theorem Ri{a b:Oper}(ha:ops[i]? = some a)(hb:ops[j]? = some b)(hs:GG cx a b=true)(e:Env)(h:Hp):
  RE (aG (stepG cx base ops i e) (stepG cx base ops j) h) (aG (stepG cx base ops j e) (stepG cx base ops i) h):=by
 unfold GG at hs;split at hs
 ·rename_i t t' s s' ho ho' hd hd' hg hg';simp only[acB,ade,acP]at hs;obtain⟨⟨⟨⟨⟨⟨h0,h1⟩,h2⟩,h3⟩,h4⟩,h5⟩,h6⟩:=hs;have hne:s≠s':=fun hh=>AN
  obtain⟨c,zs,n,hn,f1⟩:=JQ (base:=base) ha ho hd hg h3 h5;obtain⟨c',ys,m,hm,f2⟩:=JQ (base:=base) hb ho' hd' hg' h4 h6;simp only[aG];rw[f1,f2];cases hc:c&&aT e.sl (aN s)with
  |false=>trivial
  | true=>
   simp only[acD];rw[f2,yJ hne];cases hc':c'&&aT e.sl (aN s')with
   |false=>trivial
   |true=>
    simp only[acD];rw[f1,yJ (fun hh=>hne hh.symm),hc];simp only[acB]at hc hc';exact⟨_,rfl,O6 hne h1 h2 zs ys (hn hc.1) (hm hc'.1)⟩
 ·cases hs
end
omit [Dr]in
mutual
theorem Hv:(a b:AV)->CP a b=true->a=b
 |.agg a,.agg b,h=>by simp only[CP]at h;rw[oV a b h]
 |.tup a,.tup b,h=>by simp only[CP]at h;rw[oV a b h]
 |.sl a,.sl b,h=>by simp only[CP]at h;rw[oV a b h]
 |.ip a,.ip b,h=>by simp only[CP]at h;rw[oV a b h]
 |.fn f a c,.fn f' a' c',h=>by
  simp only[CP,acB,acP]at h;rw[h.1.1,oV a a' h.1.2,oV c c' h.2]
 |.iface t a,.iface t' b,h=>by
  simp only[CP,acB]at h;rw[Nat.eq_of_beq_eq_true h.1,Hv a b h.2]
 |.hp l o,.hp l' o',h=>by
  simp_all[CP]
 |.hs l o n s g,.hs l' o' n' s' g',h=>by
  simp_all[CP]
 |.any,b,h=>by cases b<;>first|rfl|cases h
 |.bool a,b,h=>by cases b<;>first|simp_all[CP]|cases h
 |.int k a,b,h=>by cases b<;>first|simp_all[CP]|cases h
 |.str a,b,h=>by cases b<;>first|simp_all[CP]|cases h
 |.nilp,b,h=>by cases b<;>first|rfl|cases h
 |.nilf,b,h=>by cases b<;>first|rfl|cases h
 |.nili,b,h=>by cases b<;>first|rfl|cases h
 |.hn,b,h=>by cases b<;>first|rfl|cases h
 |.nilm,b,h=>by cases b<;>first|rfl|cases h
 |.he,b,h=>by cases b<;>first|rfl|cases h
 |.mp l,b,h=>by cases b<;>first|(simp only[CP]at h;rw[Nat.eq_of_beq_eq_true h];done)|cases h
 |.nilb l,b,h=>by cases b<;>first|(simp only[CP]at h;rw[Nat.eq_of_beq_eq_true h];done)|cases h
 |.it l,b,h=>by cases b<;>first|(simp only[CP]at h;rw[Nat.eq_of_beq_eq_true h];done)|cases h
 |.byt t n,b,h=>by cases b<;>first|simp_all[CP]|cases h
theorem oV:(a b:List AV)->xO a b=true->a=b
 |[],[],_=>rfl
 |a:: l,b:: r,h=>by
  simp only[xO,acB]at h;rw[Hv a b h.1,oV l r h.2]
 |[],_:: _,h=>by simp[xO]at h
 |_:: _,[],h=>by simp[xO]at h
end
section
omit [Dr]
theorem JK{m r:Nat}:∀ {cs ds:List AV} {b o:Nat} {v:AV},Is m r b cs ds=true->Nat.beq ((b+o) % m) r=true->cs[o]? = some v->ds[o]? = some v
 |[],_,_,_,_,_,_,h=>by simp at h
 |_:: _,[],_,_,_,h,_,_=>by simp[Is]at h
 |c:: cs,d:: ds,b,0,v,h,hm,hv=>by
  simp only[Is,acB]at h;simp only[aeG]at hm
  grind [Hv]
 |c:: cs,d:: ds,b,o+1,v,h,hm,hv=>by
  simp only[Is,acB]at h;simp only[adc]at hv |-;exact JK h.2 qr hv
theorem Fj{m r:Nat}:∀ {h h':Hp} {l:Nat} {cs:List AV},rF m r h h'=true->h[l]? = some cs->∃ds,h'[l]? = some ds/\Is m r 0 cs ds=true
 |[],_,_,_,_,h=>by simp at h
 |_:: _,[],_,_,h,_=>by simp[rF]at h
 |c:: t,d:: t',0,cs,h,hl=>by
  simp only[rF,acB]at h
  grind
 |c:: t,d:: t',l+1,cs,h,hl=>by
  simp only[rF,acB]at h;exact Fj (l:=l) h.2 (by simpa using hl)
theorem C1{T:TT}{m r:Nat}{t:TypeId}{x v:AV}{h h1:Hp}(hh:iu T m r t x h= .ok v h1)(hk:rF m r h h'=true):h1=h/\iu T m r t x h'= .ok v h':=by
 unfold iu at hh |-;split at hh
 ·rename_i l off ti ht;cases hb:Nat.beq (off % m) r&&!ti.agg with
  |false=>grind
  | true=>
   rw[hb]at hh;simp only[acD]at hh |-;simp only[acB,ade]at hb;unfold bM at hh |-;simp only[ht]at hh |-;cases hl:h[l]? with
   |none=>grind
   | some cs=>
    rw[hl]at hh;simp only[hb.2,acO]at hh;cases hc:cs[off]? with
    |none=>grind
    |some w=>
     rw[hc]at hh;simp only at hh;cases hh;obtain⟨ds,g1,g2⟩:=Fj hk hl;have g3:=JK (b:=0) g2 qr hc
     grind
 ·cases hh
theorem Rj(hS:Small ops){a b:Oper}(ha:ops[i]? = some a)(hb:ops[j]? = some b)(hs:yI cx a b=true)(e:Env)(h:Hp):
  RE (aG (stepG cx base ops i e) (stepG cx base ops j) h) (aG (stepG cx base ops j e) (stepG cx base ops i) h):=by
 unfold yI at hs;split at hs
 ·rename_i t p c s u ho ho' hd hd' hg hg';split at hs
  ·rename_i f hcal;simp only[acB,ade,acP]at hs;obtain⟨⟨⟨⟨⟨⟨h0,h1⟩,h2⟩,h3⟩,h4⟩,h5⟩,h6⟩:=hs;have hsu:s≠u:=fun hh=>AN
   have hup:u≠p:=fun hh=>AN
   have hsb:∀x∈jh b,x≠s:=fun x hx hh=>by
    grind [jM]
   obtain⟨m,r,hlm,hcm⟩:∃m r,kR cx.ann.lm a.dst=some (m,r)/\kR cx.ann.cm b.dst=some (m,r):=by
    split at h6
    all_goals simp_all
   rw[hd]at hlm;rw[hd']at hcm h5;have hdi:dT ops i=some s:=by simp[dT,ha,hd]
   have hdj:dT ops j=some u:=by simp[dT,hb,hd']
   -- the load
   have fa:∀(e:Env)(h:Hp),stepG cx base ops i e h=match (e.get p).v with
     |.loc _ _=>.fail
     |.val A=>match iu cx.T m r t A h with
      |.ok v h'=>.ok (e.upd (some s) (.ofV v)) h'
      |.pan v h'=>.pan v h'
      |.fail=>.fail:=fun e h=>by
    unfold stepG gG;rw[ha,hdi];simp only[hg];unfold iK;rw[ho,hd];simp only[hlm];cases (e.get p).v with
    |loc B off=>rfl
    |val A=>
     simp only[eT,aG];cases iu cx.T m r t A h<;>rfl
   -- the call
   have fb:∀(e:Env)(h:Hp),stepG cx base ops j e h=bif !(cx.iso f)&&(cx.own f).isNone then(match lG m r (cx.call f (c.args.toList.map (opnd e))) h with
      |.ok v h'=>.ok (e.upd (some u) (.ofV v)) h'
      |.pan v h'=>.pan v h'
      |.fail=>.fail)else .fail:=fun e h=>by
    unfold stepG gG;rw[hb,hdj];simp only[hg'];unfold iK;rw[ho',hd'];simp only;unfold jg;rw[hcal,hd'];simp only[h5,acO,hcm];cases !(cx.iso f)&&(cx.own f).isNone with
    |false=>rfl
    |true=>
     simp only[acD,eT,aG];cases lG m r (cx.call f (c.args.toList.map (opnd e))) h<;>rfl
   have hargs:∀v,c.args.toList.map (opnd (e.upd (some s) (.ofV v)))=c.args.toList.map (opnd e):=fun v=>by
    refine ad0 fun x hx=>?_;cases x with
    | tmp k=>
     have hk:k∈jh b:=by
      unfold jh;rw[ho',aeM];exact⟨.tmp k,by grind [Op.operands,Call.operands],rfl⟩
     have hks:=hsb k hk;simp only[opnd];have:(e.upd (some s) (.ofV v)).get k=e.get k:=by
      rw[cO,acE (fun hh=>hks (adI hh).symm)];rfl
     unfold Env.av;rw[this]
    |_=>rfl
   simp only[aG];rw[fa];cases hA:(e.get p).v with
   |loc B off=>trivial
   | val A=>
    simp only;cases hx:iu cx.T m r t A h with
    |fail=>trivial
    |pan v h'=>exact absurd hx ((o7 _ _ _ _ _).stay _ _ _)
    | ok v h1=>
     simp only;rw[fb,hargs,fb];cases hi:!(cx.iso f)&&(cx.own f).isNone with
     |false=>trivial
     | true=>
      simp only[acD];have hh1:h1=h:=by
       rcases o7 cx.T m r t A h with k|⟨w,k⟩<;>rw[hx]at k<;>cases k;rfl
      subst hh1;unfold lG;cases hy:cx.call f (c.args.toList.map (opnd e)) h1 with
      |fail=>trivial
      |pan v' h'=>exact rfl
      | ok v' h'=>
       simp only;cases hk:rF m r h1 h' with
       |false=>trivial
       | true=>
        simp only[acD];rw[fa];have hp:((e.upd (some u) (.ofV v')).get p).v= .val A:=by
         rw[cO,acE (fun hh=>hup (adI hh))];exact hA
        rw[hp];simp only[(C1 hx hk).2];refine⟨_,rfl,?_⟩;exact zL (gi:=0) (gj:=1) (x:={}) (y:={}) (si:=none) (sj:=none) (Shape.ofV e 0 {} none v) (Shape.ofV e 1 {} none v') rfl (fun t ht=>qr) (fun t ht hh=>qr) (fun t ht=>by cases ht) Vc (fun h=>by cases h) (fun h=>by cases h) (fun h=>by cases h)
  ·cases hs
 ·cases hs
theorem swap(hI:IsoPure cx)(hS:Small ops)(hij:tA cx ops i j=true)(hne:i≠j)(e:Env)(h:Hp):
  RE (aG (stepG cx base ops i e) (stepG cx base ops j) h) (aG (stepG cx base ops j e) (stepG cx base ops i) h):=by
 rcases KV hij with⟨a,b,I⟩|⟨a,b,ha,hb,hs|hs|hs⟩
 case inr.inl=>exact OB ha hb hs e h
 case inr.inr.inl=>exact Ri ha hb hs e h
 case inr.inr.inr=>exact Rj hS ha hb hs e h
 have hda:dT ops i=a.dst:=by simp[dT,I.ha]
 have hdb:dT ops j=b.dst:=by simp[dT,I.hb]
 unfold stepG;rw[hda,hdb];simp only[aG,ao];cases hri:gG cx base ops i e h with
 |fail=>trivial
 |pan v h'=>exact absurd hri (oO (p:=@fZ) (fun _ g=>g.read.stay) (fun _ f g=>g.bnd f) I.ha ((iv hI e _ a).stay I.piv) h v h')
 | ok u h1=>
  simp only;have shu:=xu I.ha hri;have hra:=ku (ops:=ops) I.ha;have hrb:=ku (ops:=ops) I.hb;have hbo:∀t∈jh b,a.dst≠some t/\df a≠some t/\t<1000:=fun t ht=>⟨I.r1 t qr,I.s1 t qr,hS.src j b I.hb t ht⟩;have hao:∀t∈jh a,b.dst≠some t/\df b≠some t/\t<1000:=fun t ht=>⟨I.r2 t qr,I.s2 t qr,hS.src i a I.ha t ht⟩;have Abwd:Agree cx b (e.upd a.dst u) e:=J8 shu (hS.dst i a I.ha) hbo (fun q=>by
   cases hw:(aw cx a).wl with
   |false=>rfl
   |true=>obtain⟨q1,q2⟩:=I.l1 hw;grind) (fun q=>by
   constructor
   ·cases hw:(aw cx a).ad with
    |false=>rfl
    |true=>have:=I.g2 hw;grind
   ·cases hw:(aw cx a).dr with
    |false=>rfl
    |true=>have:=(I.g1 hw).1;grind)
  have hgb:∀t∈ir ops b,e.get t=(e.upd a.dst u).get t:=fun t ht=>by
   have htr:t∈eQ ops j:=by rw[hrb];simp[ht]
   exact (qX shu (I.r1 t htr) (I.s1 t htr) (hS.reads I.hb t htr)).symm
  -- the second, after the first
  cases hrj:gG cx base ops j (e.upd a.dst u) h1 with
  |fail=>trivial
  | pan v h2=>
   have hj:=ke (base:=base) I.hb hgb Abwd (h:=h1) (by rw[hrj];simp);rw[hrj]at hj
   -- j leaves: so it may write, and i did not touch the heap
   have hwb:(aw cx b).wh=true:=by
    cases hw:(aw cx b).wh with
    |true=>rfl
    |false=>exact absurd hj ((oO (p:=@fA) (fun _ g=>g.read) (fun _ f g=>g.bnd f) I.hb ((iv hI e _ b).read hw)).stay _ _ _)
   have hwa:(aw cx a).wh=false:=by
    cases hw:(aw cx a).wh with
    |false=>rfl
    |true=>have:=(I.h1 hw).2;grind
   have hh:h1=h:=by
    have hR:fA (gG cx base ops i e):=oO (p:=@fA) (fun _ g=>g.read) (fun _ f g=>g.bnd f) I.ha ((iv hI e _ a).read hwa);rcases hR h with hx|⟨u',hx⟩<;>rw[hri]at hx<;>cases hx;rfl
   subst hh;rw[hj];exact rfl
  | ok v h2=>
   have hj:=ke (base:=base) I.hb hgb Abwd (h:=h1) (by rw[hrj];simp);rw[hrj]at hj;have shv:=xu I.hb hj
   have Afwd:Agree cx a e (e.upd b.dst v):=by
     by_cases hla:(aw cx b).wl=true/\(aw cx a).rl=true
     ·rcases I.l2 hla.2 with hw|⟨⟨t,p,ho⟩,⟨t',ho'⟩,hgd⟩
      ·grind
      ·have hr':eT (iK cx e ((base+j)*1000) b) h1= .ok v h2:=by
        have:=hj
        unfold gG at this;rw[I.hb]at this;simp only[hgd]at this;exact this
       exact Ee shv ho ho' (hS.dst j b I.hb) hao hr'
     exact AA shv (hS.dst j b I.hb) hao (fun q=>by
    cases hw:(aw cx b).wl with
    |false=>rfl
    | true=>
     exfalso;cases hrl:(aw cx a).rl with
     |true=>grind
     |false=>
      rw[hrl]at q;have hwl:(aw cx a).wl=true:=by simpa using q
      have:=(I.l1 hwl).2
      grind) (fun q=>⟨(I.g1 q).2,(I.g1 q).1⟩)
   have hga:∀t∈ir ops a,(e.upd b.dst v).get t=e.get t:=fun t ht=>by
    have htr:t∈eQ ops i:=by rw[hra];simp[ht]
    exact qX shv (I.r2 t htr) (I.s2 t htr) (hS.reads I.ha t htr)
   have hcomm:EqE ((e.upd a.dst u).upd b.dst v) ((e.upd b.dst v).upd a.dst u):=by
    have hgij:(base+i)*1000≠(base+j)*1000:=WD
    cases hwb:(aw cx b).wl with
    |false=>
     exact zL shu shv hwb (hS.dst j b I.hb) I.c3 I.c1 hgij I.g1 I.g2 (fun q q'=>(I.g3 q q').1)
    | true=>
     have hwa:(aw cx a).wl=false:=by
      cases hw:(aw cx a).wl with
      |false=>rfl
      |true=>have:=(I.l1 hw).2;grind
     refine (zL shv shu hwa (hS.dst i a I.ha) (fun t ht hh=>I.c3 t hh ht) (fun t ht hh=>I.c2 t hh ht) (Ne.symm hgij) (fun q=>⟨?_,?_⟩) (fun q=>?_) (fun q q'=>?_)).symm
     ·cases hw:(aw cx a).dr with
      |false=>rfl
      |true=>have:=(I.g1 hw).1;grind
     ·cases hw:(aw cx a).ad with
      |false=>rfl
      |true=>have:=I.g2 hw;grind
     ·cases hw:(aw cx a).dr with
      |false=>rfl
      |true=>have:=(I.g1 hw).2;grind
     ·have:=(I.g3 q' q).2;grind
   cases hwa:(aw cx a).wh with
   | false=>
    have hR:fA (gG cx base ops i e):=oO (p:=@fA) (fun _ g=>g.read) (fun _ f g=>g.bnd f) I.ha ((iv hI e _ a).read hwa);have hh:h1=h:=by
     rcases hR h with hx|⟨u',hx⟩<;>rw[hri]at hx<;>cases hx;rfl
    subst hh;rw[hj];simp only;have hi2:gG cx base ops i e h2= .ok u h2:=by
     cases hra':(aw cx a).rh with
     |false=>
      obtain⟨q,hq⟩:bK (gG cx base ops i e):=oO (p:=@bK) (fun _ g=>g) (fun _ f g=>g.bnd f) I.ha ((iv hI e _ a).pure hwa hra');rw[hq]at hri |-;cases q with
      |none=>cases hri
      |some u'=>cases hri;rfl
     | true=>
      rcases I.h2 hra' with hwb|hnw
      case inr=>
       have hNw:D9 (gG cx base ops j e):=oO (p:=@D9) (fun _ g=>g.nw) (fun _ f g=>g.bnd f) I.hb ((iv hI e _ b).nw hnw);have hAp:pK (gG cx base ops i e)/\fA (gG cx base ops i e):=oO (p:=fun m=>pK m/\fA m) (fun _ g=>⟨g.app,g.read⟩) (fun _ f g=>pK.bnd g f) I.ha ((iv hI e _ a).app hwa);obtain⟨t,rfl⟩:=hNw _ _ _ hj;exact hAp.1 _ t _ hri
      have hRb:fA (gG cx base ops j e):=oO (p:=@fA) (fun _ g=>g.read) (fun _ f g=>g.bnd f) I.hb ((iv hI e _ b).read hwb);rcases hRb h1 with hx|⟨u',hx⟩<;>rw[hj]at hx<;>cases hx;exact hri
    rw[ke I.ha hga Afwd (by rw[hi2];simp),hi2];exact⟨_,rfl,hcomm⟩
   | true=>
    obtain⟨hrb',hwb⟩:=I.h1 hwa;obtain⟨q,hq⟩:bK (gG cx base ops j e):=oO (p:=@bK) (fun _ g=>g) (fun _ f g=>g.bnd f) I.hb ((iv hI e _ b).pure hwb hrb');rw[hq]at hj |-;cases q with
    |none=>cases hj
    |some u'=>
     cases hj;simp only[bJ];rw[ke I.ha hga Afwd (by rw[hri];simp),hri];exact⟨_,rfl,hcomm⟩
theorem RS(hI:IsoPure cx)(hS:Small ops){i:Nat}(q:List Nat):∀(p:List Nat),(∀x∈p,tA cx ops x i=true/\x≠i)->∀(e:Env)(h:Hp),RE (bk cx base ops (p++i:: q) e h) (bk cx base ops (i:: (p++q)) e h)
 |[],_,e,h=>RE.refl _
 | x:: p,hp,e,h=>by
  have ih:=fun e h=>RS hI hS q p (fun y hy=>hp y (by simp[hy])) e h;have h1:RE (bk cx base ops (x:: (p++i:: q)) e h) (bk cx base ops (x:: i:: (p++q)) e h):=by
   simp only[bk,aG]at ih |-;cases stepG cx base ops x e h with
   |ok e' h'=>exact ih e' h'
   |pan v h'=>exact rfl
   |fail=>trivial
  refine h1.trans ?_;have e1:bk cx base ops (x:: i:: (p++q)) e=aG (aG (stepG cx base ops x e) (stepG cx base ops i)) (bk cx base ops (p++q)):=by rw[kG];rfl
  have e2:bk cx base ops (i:: x:: (p++q)) e=aG (aG (stepG cx base ops i e) (stepG cx base ops x)) (bk cx base ops (p++q)):=by rw[kG];rfl
  show RE (bk cx base ops (x:: i:: (p++q)) e h) (bk cx base ops (i:: x:: (p++q)) e h);simp_all[RE.bind,swap,ua]
end
end
omit [Dr]in
theorem Oo{a b:Option (Nat×Bool)}(h:JM a b=true):a=b:=by
 unfold JM at h;split at h
 all_goals simp_all
def lF(gs:List (Option (Nat×Bool)×List Nat)):List Nat:=gs.flatMap (·.2)
section
omit [Dr]
theorem nL(ops:Array Oper):∀l:List Nat,lF (fF ops l)=l/\∀g∈fF ops l,∀i∈g.2,guardOf ops i=g.1
 |[]=>⟨rfl,by simp[fF]⟩
 | i :: is=>by
  obtain⟨h1,h2⟩:=nL ops is;simp only[fF];cases hg:fF ops is with
  |nil=>
   rw[hg]at h1;have:is=[]:=by simpa [lF]using h1.symm
   subst this;exact⟨rfl,AI⟩
  | cons x r=>
   obtain⟨g,js⟩:=x;rw[hg]at h1 h2;simp only;cases hs:JM (guardOf ops i) g with
   | true=>
    refine⟨?_,fun y hy=>?_⟩
    ·simp_all[lF]
    ·simp only[acD,ac2]at hy;rcases hy with rfl|hy
     ·intro k hk;simp only[ac2]at hk;rcases hk with rfl|hk
      ·exact Oo hs
      simp_all
     grind
   |false=>
    refine⟨?_,fun y hy=>?_⟩
    ·simp_all[lF]
    grind
theorem EO{ρ:Type}(e:Env)(d:Option Tmp)(A:Act1)(k:Env->M ρ):td e d A k=aG (eT A) fun u=>k (e.upd d u):=by
 cases A with
 |bad=>rfl
 |stat u=>rfl
 |dyn m sh=>grind [td,eT,kG,aj]
 |thr v=>rfl
theorem Kg{α β:Type}{m:M α}{f g:α->M β}{h:Hp}(hfg:∀u h',m h= .ok u h'->f u h'=g u h'):aG m f h=aG m g h:=by
 grind [aG]
end
variable {want:Bool}
section
variable {cx:Cx} {ops:Array Oper} {base:Nat}
section
omit [Dr]
theorem J7{o:Oper}(ho:ops[i]? = some o)(hg:guardOf ops i=none)(e:Env):gG cx base ops i e=eT (iK cx e ((base+i)*1000) o):=by
 simp_all[guardOf,gG]
theorem ut{o:Oper}(ho:ops[i]? = some o)(hg:guardOf ops i=some (j,want))(hj:dT ops j=some t)(hp:iy cx o=true)(e:Env):
  gG cx base ops i e=pD (e.av t) want (eT (ly (iK cx e ((base+i)*1000) o))):=by
 simp_all[guardOf,gG]
theorem Gc{ρ:Type}:∀(is:List Nat)(e:Env)(k:Env->M ρ)(_:∀i∈is,guardOf ops i=none),nv cx base ops false is e k=aG (bk cx base ops is e) k
 |[],e,k,_=>rfl
 | i:: is,e,k,hg=>by
  simp only[nv,bk];unfold stepG;cases ho:ops[i]? with
  |none=>unfold gG;rw[ho];rfl
  |some o=>
   simp only;rw[EO,J7 ho (hg i AI),kG,kG];have hd:dT ops i=o.dst:=by simp[dT,ho]
   rw[hd];congr 1;funext u;simp only[aj];exact Gc is _ k fun j hj=>hg j (by simp[hj])
end
structure Turned (ds:List Nat) (e e':Env):Prop where
 get:∀t,t ∉ ds->e'.get t=e.get t
 al:e'.al=e.al
 lb:e'.lb=e.lb
 lf:∀B,aT e.sl B=true->aT e'.sl B=true
 ng:∀t∈ds,(e'.get t).g=none
section
omit [Dr]
theorem Turned.step{ds:List Nat}{e e':Env}(H:Turned ds e e'){u:Upd}{d:Option Nat}(hls:u.ls=[])(hadd:u.add=[])(hdrop:u.drop=none)(hlb:u.lb=none)(hunlb:u.unlb=none)(hg:u.ent.g=none)(hloc:∀C off,u.ent.v= .loc C off->∃t off',(e'.get t).v= .loc C off'):Turned (d.toList++ds) e (e'.upd d u):=by
 have hget:∀t,(e'.upd d u).get t=if d=some t then u.ent else e'.get t:=fun t=>by rw[cO,hls];rfl
 refine⟨fun t ht=>?_,?_,?_,fun B hB=>?_,fun t ht=>?_⟩
 ·simp only[acZ,not_or,ae9]at ht;rw[hget,acE ht.1];exact H.get t ht.2
 ·show u.add++gK e'.al u.drop=e.al;rw[hadd,hdrop];exact H.al
 ·show pQ (fO e'.lb u.unlb) u.lb=e.lb;rw[hlb,hunlb];exact H.lb
 ·have h1:=H.lf B hB;show aT (uf d u.ent (u.ls++e'.sl)) B=true;rw[hls,fH,acT,h1,aer];have:qT u.ent B=true:=by
   unfold qT;split
   ·rename_i C off hv;obtain⟨t,off',ht⟩:=hloc C off hv
    have:=o9 h1 ht
    simp_all[adT]
   ·rfl
  grind
 ·rw[hget];split
  ·exact hg
  ·rename_i hd;simp only[acZ,ae9]at ht;rcases ht with ht|ht
   ·grind
   ·exact H.ng t ht
theorem Turned.refl(e:Env):Turned [] e e:=⟨fun _ _=>rfl,rfl,rfl,fun _ h=>h,fun t h=>by simp at h⟩
theorem Turned.sub{ds ds':List Nat}{e e':Env}(H:Turned ds e e')(h:∀t,t∈ds↔t∈ds'):Turned ds' e e':=
 ⟨fun t ht=>H.get t fun hh=>ht ((h t).1 hh),H.al,H.lb,H.lf,fun t ht=>H.ng t ((h t).2 ht)⟩
end
structure GroupOk (cx:Cx) (ops:Array Oper) (j:Nat) (want:Bool) (t:Nat) (is:List Nat):Prop where
 hj:dT ops j=some t
 each:∀i∈is,∃o,ops[i]? = some o/\guardOf ops i=some (j,want)/\iy cx o=true
 nt:t ∉ eu ops is
section
omit [Dr]
theorem nu(i:Nat)(is:List Nat):∀t,t∈eu ops (i:: is)↔dT ops i=some t\/t∈eu ops is:=by
 simp_all[eu]
theorem GroupOk.tail{is:List Nat}(G:GroupOk cx ops j want t (i:: is)):GroupOk cx ops j want t is:=
 ⟨G.hj,fun k hk=>G.each k (by simp[hk]),fun h=>G.nt ((nu i is t).2 (.inr h))⟩
theorem GroupOk.ne{is:List Nat}(G:GroupOk cx ops j want t (i:: is)):dT ops i≠some t:=fun h=>G.nt ((nu i is t).2 (.inl h))
theorem pB{A:Act1}{h:Hp}{u:Upd}(hr:eT (ly A) h= .ok u h'):∃u0,eT A h= .ok u0 h'/\u=kA u0:=by
 grind [vC]
theorem BV{ρ:Type}{j:Nat}{want:Bool}{t:Nat}:∀(is:List Nat)(e:Env)(k:Env->M ρ)(h:Hp),GroupOk cx ops j want t is->e.av t= .bool want->nv cx base ops true is e k h=aG (bk cx base ops is e) k h
 |[],e,k,h,_,_=>rfl
 |i:: is,e,k,h,G,hc=>by
  obtain⟨o,ho,hg,hp⟩:=G.each i AI;have hd:dT ops i=o.dst:=by simp[dT,ho]
  simp only[nv,bk,ho,acD];rw[EO];unfold stepG;rw[ut ho hg G.hj hp,hc,kG,kG];simp only[pD,adU,acD,aj,hd];refine Kg fun u h' hu=>?_;obtain⟨u0,hu0,rfl⟩:=pB hu;refine BV is _ k h' G.tail ?_;have:(e.upd o.dst (kA u0)).get t=e.get t:=by rw[cO,acE (by rw[<- hd];exact G.ne)];rfl
  simp only[Env.av,this];exact hc
theorem uh:∀(is:List Nat)(e e':Env)(h h':Hp),GroupOk cx ops j want t is->e.av t= .bool want->bk cx base ops is e h= .ok e' h'->Turned (eu ops is) e e':=by
 have key:∀(is:List Nat)(e0 e e':Env)(ds:List Nat)(h h':Hp),GroupOk cx ops j want t is->e.av t= .bool want->Turned ds e0 e->bk cx base ops is e h= .ok e' h'->Turned (eu ops is++ds) e0 e':=by
  intro is
  induction is with
  |nil=>
   intro e0 e e' ds h h' _ _ H hr;cases hr;exact H
  | cons i is ih=>
   intro e0 e e' ds h h' G hc H hr;obtain⟨o,ho,hg,hp⟩:=G.each i AI;have hd:dT ops i=o.dst:=by simp[dT,ho]
   simp only[bk]at hr;unfold stepG at hr;rw[ut ho hg G.hj hp,hc,kG]at hr;simp only[pD,adU,acD,hd,aG]at hr;cases hx:eT (ly (iK cx e ((base+i)*1000) o)) h with
   |fail=>grind
   |pan v hh=>grind
   | ok u hh=>
    rw[hx]at hr;simp only at hr;obtain⟨u0,hu0,rfl⟩:=pB hx;have hsh:=qP (rf cx e ((base+i)*1000) o) hu0;simp only[iy,acB,ade]at hp;have H2:=H.step (u:=kA u0) (d:=o.dst) rfl rfl rfl rfl rfl rfl (hsh.loc hp.1);refine (ih e0 _ e' _ hh h' G.tail ?_ H2 hr).sub fun s=>?_
    ·have:(e.upd o.dst (kA u0)).get t=e.get t:=by rw[cO,acE (by rw[<- hd];exact G.ne)];rfl
     grind [Env.av]
    grind [nu]
 intro is e e' h h' G hc hr;exact (key is e e e' [] h h' G hc (.refl e) hr).sub AI
end
def Off(c:AV)(want:Bool):Prop:=c= .tup []\/∃b,c= .bool b/\(b== want)=false
omit [Dr]in
theorem Off.look{c:AV}(h:Off c want)(m:M Upd):pD c want m=ao (.ofV (.tup [])):=by
 rcases h with rfl|⟨b,rfl,hb⟩
 ·rfl
 ·simp only[pD,hb,acO]
omit [Dr]in
theorem QP:∀(is:List Nat)(e:Env)(h:Hp),GroupOk cx ops j want t is->Off (e.av t) want->∃e',bk cx base ops is e h= .ok e' h/\Turned (eu ops is) e e'/\∀s∈eu ops is,e'.get s=⟨.val (.tup []),none⟩:=by
 have key:∀(is:List Nat)(e0 e:Env)(ds:List Nat)(h:Hp),GroupOk cx ops j want t is->Off (e.av t) want->Turned ds e0 e->(∀s∈ds,e.get s=⟨.val (.tup []),none⟩)->
   ∃e',bk cx base ops is e h= .ok e' h/\Turned (eu ops is++ds) e0 e'/\∀s∈eu ops is++ds,e'.get s=⟨.val (.tup []),none⟩:=by
  intro is
  induction is with
  |nil=>exact fun e0 e ds h _ _ H hds=>⟨e,rfl,H,hds⟩
  | cons i is ih=>
   intro e0 e ds h G hc H hds;obtain⟨o,ho,hg,hp⟩:=G.each i AI;have hd:dT ops i=o.dst:=by simp[dT,ho]
   have hget:∀s,(e.upd o.dst (.ofV (.tup []))).get s=if o.dst=some s then⟨.val (.tup []),none⟩else e.get s:=fun s=>by rw[cO];rfl
   have H2:=H.step (u:=.ofV (.tup [])) (d:=o.dst) rfl rfl rfl rfl rfl rfl (fun C off hh=>by cases hh);have hav:(e.upd o.dst (.ofV (.tup []))).av t=e.av t:=by
    have:(e.upd o.dst (.ofV (.tup []))).get t=e.get t:=by rw[hget,acE (by rw[<- hd];exact G.ne)]
    simp only[Env.av,this]
   obtain⟨e',h1,h2,h3⟩:=ih e0 (e.upd o.dst (.ofV (.tup []))) (o.dst.toList++ds) h G.tail qr H2 (fun s hs=>by
    grind)
   have hiff:∀s,s∈eu ops is++(o.dst.toList++ds)↔s∈eu ops (i:: is)++ds:=fun s=>by
    grind [nu]
   refine⟨e',?_,h2.sub hiff,fun s hs=>h3 s ((hiff s).2 hs)⟩;simp only[bk];unfold stepG;rw[ut ho hg G.hj hp,hc.look,hd];exact h1
 intro is e h G hc;obtain⟨e',h1,h2,h3⟩:=key is e e [] h G hc (.refl e) AI
 grind
end
variable {e2:Env}
section
variable {cx:Cx} {ops:Array Oper} {base:Nat}
structure Rel (ops:Array Oper) (L:List Nat) (e2 e:Env):Prop where
 get:∀t,e2.get t=e.get t\/(e2.get t=Ent.none/\t<1000/\∀i∈L,t ∉ eQ ops i)
 al:∀g,aQ e2.al g=aQ e.al g
 lb:∀B,bb e2.lb B=bb e.lb B
 lf:∀B,aT e2.sl B=true->aT e.sl B=true
section
omit [Dr]
theorem Rel.refl(ops:Array Oper)(L:List Nat)(e:Env):Rel ops L e e:=⟨fun _=>.inl rfl,fun _=>rfl,fun _=>rfl,fun _ h=>h⟩
theorem Rel.sub{L L':List Nat}{e:Env}(H:Rel ops L e2 e)(h:∀i∈L',i∈L):Rel ops L' e2 e:=
 ⟨fun t=>(H.get t).imp id fun⟨h1,h2,h3⟩=>⟨h1,h2,fun i hi=>h3 i (h i hi)⟩,H.al,H.lb,H.lf⟩
theorem Rel.read{L:List Nat}{e:Env}(H:Rel ops L e2 e)(hi:i∈L)(ht:t∈eQ ops i):e.get t=e2.get t:=by
 rcases H.get t with h|⟨_,_,h⟩
 all_goals grind
theorem Rel.agree{L:List Nat}{e:Env}(H:Rel ops L e2 e){o:Oper}(hi:i∈L)(ho:ops[i]? = some o):Agree cx o e2 e:=by
 refine⟨fun t ht=>H.read hi (by rw[ku ho];simp[ht]),fun _=>.inl ⟨fun t ht=>?_,fun B=>(H.lb B).symm⟩,fun _ g=>(H.al g).symm,fun _ s _ hl=>H.lf _ hl⟩;rcases H.get t with h|⟨_,h,_⟩
 all_goals grind
theorem Rel.upd{L:List Nat}{e:Env}(H:Rel ops L e2 e)(d:Option Tmp)(u:Upd):Rel ops L (e2.upd d u) (e.upd d u):=by
 refine⟨fun t=>?_,fun g=>?_,fun B=>?_,fun B hB=>?_⟩
 ·rw[cO,cO];split
  ·exact .inl rfl
  ·rw[ow,ow];split
   ·exact .inl rfl
   ·exact H.get t
 ·show aQ (u.add++gK e2.al u.drop) g=aQ (u.add++gK e.al u.drop) g;have:aQ (gK e2.al u.drop) g=aQ (gK e.al u.drop) g:=by
   cases u.drop with
   |none=>exact H.al g
   |some k=>simp only[gK,pR,H.al g]
  rw[gU,gU,this]
 ·show bb (pQ (fO e2.lb u.unlb) u.lb) B=bb (pQ (fO e.lb u.unlb) u.lb) B;have:bb (fO e2.lb u.unlb) B=bb (fO e.lb u.unlb) B:=by
   cases u.unlb with
   |none=>exact H.lb B
   |some k=>simp only[fO,tH,H.lb B]
  cases u.lb with
  |none=>exact this
  |some x=>
   grind [pQ,fG]
 ·have hB':aT (uf d u.ent (u.ls++e2.sl)) B=true:=hB;show aT (uf d u.ent (u.ls++e.sl)) B=true;rw[fH,gZ]at hB' |-;simp only[acB]at hB' |-;exact⟨hB'.1,hB'.2.1,H.lf B hB'.2.2⟩
theorem Rel.run:∀(is:List Nat){L:List Nat}{e2 e:Env}(_:Rel ops L e2 e)(_:∀i∈is,i∈L)(h:Hp),bk cx base ops is e2 h≠.fail->
  (∃e2' e' h',bk cx base ops is e2 h= .ok e2' h'/\bk cx base ops is e h= .ok e' h'/\Rel ops L e2' e')\/∃v h',bk cx base ops is e2 h= .pan v h'/\bk cx base ops is e h= .pan v h'
 |[],L,e2,e,H,_,h,_=>.inl ⟨e2,e,h,rfl,rfl,H⟩
 | i:: is,L,e2,e,H,hL,h,hr=>by
  simp only[bk]at hr |-;unfold stepG at hr |-;simp only[aG,ao]at hr |-;cases hx:gG cx base ops i e2 h with
  |fail=>grind
  | _ =>
   have ho:∃o,ops[i]? = some o:=by
    cases ho:ops[i]? with
    |none=>unfold gG at hx;rw[ho]at hx;cases hx
    |some o=>grind
   obtain⟨o,ho⟩:=ho;have hi:=hL i AI;have hy:gG cx base ops i e h=gG cx base ops i e2 h:=ke ho (fun t ht=>H.read hi (by rw[ku ho];simp[ht])) (H.agree hi ho) (by rw[hx];simp);rw[hy,hx]
   first
    | rw[hx]at hr
      exact Rel.run is (H.upd _ _) (fun k hk=>hL k (by simp[hk])) _ hr
    |exact .inr ⟨_,_,rfl,rfl⟩
theorem yf(e:Env):∀(ds:List Nat)(t:Nat),(forget e ds).get t=if t∈ds then Ent.none else e.get t
 |[],t=>by simp[forget]
 | d:: ds,t=>by
  show cF ((d,Ent.none):: (forget e ds).sl) t=_;rw[dC];by_cases hd:d=t
  ·subst hd;simp
  ·rw[acE hd]
   have:=yf e ds t
   grind [Env.get]
theorem vV(e:Env):∀(ds:List Nat),(forget e ds).al=e.al/\(forget e ds).lb=e.lb/\∀B,aT (forget e ds).sl B=aT e.sl B
 |[]=>⟨rfl,rfl,fun _=>rfl⟩
 |_d:: ds=>vV e ds
theorem wy(e:Env)(f:Nat->AV):∀(outs:List Nat)(pre:List AV)(t:Nat),(jU e (pre++outs.map f) pre.length outs).get t=if t∈outs then⟨.val (f t),none⟩else e.get t
 |[],pre,t=>by simp[jU]
 | d:: ds,pre,t=>by
  show cF ((d,⟨.val (aD (pre++(d:: ds).map f) pre.length),none⟩):: (jU e (pre++(d:: ds).map f) (pre.length+1) ds).sl) t=_;rw[dC];have hn:aD (pre++(d:: ds).map f) pre.length=f d:=by simp[aD]
  by_cases hd:d=t
  ·grind
  ·rw[acE hd]
   have:=wy e f ds (pre++[f d]) t
   grind [Env.get]
theorem ue(e:Env)(vs:List AV):∀(outs:List Nat)(i:Nat),(jU e vs i outs).al=e.al/\(jU e vs i outs).lb=e.lb/\∀B,aT (jU e vs i outs).sl B=aT e.sl B
 |[],_i=>⟨rfl,rfl,fun _=>rfl⟩
 |_d:: ds,i=>ue e vs ds (i+1)
theorem IL(gs:List (Option (Nat×Bool)×List Nat))(t:Nat):IK ops gs t=true↔∃i∈lF gs,t∈eQ ops i:=by
 grind [IK,lF,jM]
theorem Rel.close{is:List Nat}{gs:List (Option (Nat×Bool)×List Nat)}{e e':Env}(H:Rel ops (is++lF gs) e2 e)(hS:Small ops)(T:Turned (eu ops is) e e'){vs:List AV}{f:Nat->AV}(hvs:vs=(fg ops is gs).map f)(hf:∀t∈fg ops is gs,e'.get t=⟨.val (f t),none⟩\/(f t= .any/\t<1000/\∀i∈lF gs,t ∉ eQ ops i)):Rel ops (lF gs) (jU (forget e2 (eu ops is)) vs 0 (fg ops is gs)) e':=by
 have hr:=ue (forget e2 (eu ops is)) vs (fg ops is gs) 0;have hr2:=vV e2 (eu ops is);refine⟨fun t=>?_,fun g=>?_,fun B=>?_,fun B hB=>?_⟩
 ·have hg:=wy (forget e2 (eu ops is)) f (fg ops is gs) [] t;simp only[acT,acS]at hg;rw[hvs,hg];split
  ·rename_i ht;rcases hf t ht with h|⟨h1,h2,h3⟩
   ·grind
   ·exact .inr ⟨by rw[h1];rfl,h2,h3⟩
  ·rename_i ht;rw[yf];split
   ·rename_i hd;refine .inr ⟨rfl,?_,fun i hi hti=>ht ?_⟩
    ·unfold eu at hd;simp only[aeM]at hd;obtain⟨i,hi,hd⟩:=hd;unfold dT at hd;cases hoi:ops[i]? with
     |none=>grind
     |some o=>rw[hoi]at hd;exact hS.dst i o hoi t hd
    grind [fg,IL]
   ·rename_i hd;rw[T.get t hd];rcases H.get t with h|⟨h1,h2,h3⟩
    all_goals grind
 ·rw[hr.1,hr2.1,T.al];exact H.al g
 ·rw[hr.2.1,hr2.2.1,T.lb];exact H.lb B
 ·rw[hr.2.2,hr2.2.2]at hB;exact T.lf B (H.lf B hB)
theorem zn(l m:List Nat):∀e:Env,bk cx base ops (l++m) e=aG (bk cx base ops l e) (bk cx base ops m):=by
 induction l with
 |nil=>intro e;rfl
 |cons i l ih=>
  intro e;show aG (stepG cx base ops i e) (bk cx base ops (l++m))=aG (aG (stepG cx base ops i e) (bk cx base ops l)) (bk cx base ops m);rw[kG];congr 1
  grind
theorem PN{x:Ent}(h1:sk x=true)(h2:x.g=none):x=⟨.val x.av,none⟩:=by
 obtain⟨v,g⟩:=x;cases v with
 |val a=>simp only at h2;subst h2;rfl
 |loc B off=>cases h1
theorem oo{ρ:Type}(hS:Small ops):∀(gs:List (Option (Nat×Bool)×List Nat))(e2 e:Env)(k:Env->M ρ)(h:Hp),(∀g∈gs,∀i∈g.2,guardOf ops i=g.1)->Rel ops (lF gs) e2 e->gn cx base ops gs e2 k h≠.fail->
  (∃e2' e' h',gn cx base ops gs e2 k h=k e2' h'/\bk cx base ops (lF gs) e h= .ok e' h'/\Rel ops [] e2' e')\/∃v h',gn cx base ops gs e2 k h= .pan v h'/\bk cx base ops (lF gs) e h= .pan v h'
 |[],e2,e,k,h,_,H,_=>.inl ⟨e2,e,h,rfl,rfl,H⟩
 | (none,is):: gs,e2,e,k,h,hg,H,hr=>by
  have hg0:∀i∈is,guardOf ops i=none:=hg (none,is) AI;have hfl:lF ((none,is):: gs)=is++lF gs:=rfl;rw[hfl]at H |-;rw[zn];simp only[gn]at hr |-;rw[Gc is e2 _ hg0]at hr |-;simp only[aG]at hr |-;have hr2:bk cx base ops is e2 h≠.fail:=fun hf=>qr
  rcases H.run (base:=base) (cx:=cx) is (fun i hi=>by simp[hi]) h hr2 with⟨e2',e',h',h1,h2,H'⟩|⟨v,h',h1,h2⟩
  ·rw[h1]at hr |-;rw[h2];exact oo hS gs e2' e' k h' (fun g hgg=>hg g (by simp[hgg])) (H'.sub fun i hi=>by simp[hi]) hr
  grind
 | (some (j,want),is):: gs,e2,e,k,h,hg,H,hr=>by
  have hg0:∀i∈is,guardOf ops i=some (j,want):=hg (some (j,want),is) AI;have hfl:lF ((some (j,want),is):: gs)=is++lF gs:=rfl;rw[hfl]at H |-;rw[zn];simp only[gn]at hr |-;cases hdj:dT ops j with
  |none=>rw[hdj]at hr;exact absurd rfl hr
  | some t=>
   rw[hdj]at hr;simp only at hr |-;revert hr;cases hc:((is.all fun i=>match ops[i]? with|some o=>iy cx o&&o.dst.isSome|none=>false)&&!(dM (eu ops is) t))with
   |false=>intro hr;exact absurd rfl hr
   | true=>
    intro hr;simp only[acD]at hr |-;simp only[acB,ade,acQ]at hc;have G:GroupOk cx ops j want t is:=by
     refine⟨hdj,fun i hi=>?_,fun ht=>?_⟩
     ·grind
     ·rw[(jM _ _).2 ht]at hc
      grind
    have htr:∀i∈is,t∈eQ ops i:=fun i hi=>by
     obtain⟨o,ho,hgi,_⟩:=G.each i hi;rw[ku ho];have:o.guard=some (j,want):=by simpa [guardOf,ho]using hgi
     have:t∈ir ops o:=by
      unfold ir;rw[this];simp only;rw[show (ops[j]?).bind (·.dst)=some t from hdj];simp
     simp[this]
    -- the guard says yes
    cases is with
    | nil=>
     have hrn:∀e,bk cx base ops [] e=ao e:=fun _=>rfl;rw[hrn,aj];have ho:fg ops [] gs=[]:=rfl;have hd:eu ops []=[]:=rfl;rw[ho,hd]at hr |-;have hpure:∀ {q:AV} {m:M (List AV)},m h= .ok [] h->dI q want ([]:List Nat).length m h≠.fail->dI q want ([]:List Nat).length m h= .ok [] h:=by
      intro q m hm hne;cases q with
      |bool b=>
       simp only[dI];cases b== want with
       |true=>exact hm
       |false=>rfl
      |tup vs=>
       cases vs with
       |nil=>rfl
       |cons v vs=>exact absurd rfl hne
      |_=>exact absurd rfl hne
     simp only[aG]at hr |-;have hp:=hpure (q:=e2.av t) (m:=nv cx base ops true [] e2 fun e'=>bif ([]:List Nat).all (fun t=>sk (e'.get t))then ao (([]:List Nat).map e'.av)else gk) rfl (fun hf=>qr);rw[hp]at hr |-;exact oo hS gs e2 e k h (fun g hgg=>hg g (by simp[hgg])) (H.sub fun i hi=>by simp[hi]) hr
    |cons i0 is0=>
    have hav:e.av t=e2.av t:=by
     have:=H.read (i:=i0) AI (htr i0 AI)
     simp only[Env.av,this]
    generalize hiseq:i0:: is0=is at *;have hoff:Off (e2.av t) want->(dI (e2.av t) want (fg ops is gs).length (nv cx base ops true is e2 fun e'=>bif (fg ops is gs).all (fun t=>sk (e'.get t))then ao ((fg ops is gs).map e'.av)else gk))=ao (List.replicate (fg ops is gs).length (.tup [])):=by
     rintro (hq|⟨b,hq,hb⟩)
     ·rw[hq];rfl
     ·rw[hq];simp only[dI,hb,acO]
    have hcase:Off (e2.av t) want\/e2.av t= .bool want:=by
     cases hq:e2.av t with
     |bool b=>
      cases hb:(b== want)with
      |true=>grind
      |false=>exact .inl (.inr ⟨b,rfl,hb⟩)
     |tup vs=>
      cases vs with
      |nil=>exact .inl (.inl rfl)
      |cons v vs=>rw[hq]at hr;exact absurd rfl hr
     |_=>rw[hq]at hr;exact absurd rfl hr
    rcases hcase with ho|hy
    ·rw[hoff ho,aj]at hr |-;obtain⟨e',h1,T,h2⟩:=QP (base:=base) is e h G qr;simp only[aG];rw[h1];refine oo hS gs _ e' k h (fun g hgg=>hg g (by simp[hgg])) (H.close hS T (f:=fun _=>.tup []) ?_ fun s hs=>.inl ?_) hr
     all_goals grind [List.map_const',fg]
    ·rw[hy]at hr |-;simp only[dI,adU,acD,aG]at hr |-;rw[BV is e2 _ h G hy]at hr |-;simp only[aG]at hr |-;have hr2:bk cx base ops is e2 h≠.fail:=fun hf=>qr
     rcases H.run (base:=base) (cx:=cx) is (fun i hi=>by simp[hi]) h hr2 with⟨e2',e',h',h1,h2,H'⟩|⟨v,h',h1,h2⟩
     ·rw[h1]at hr |-;rw[h2];simp only at hr |-;have T2:=uh is e2 e2' h h' G hy h1;have T:=uh is e e' h h' G qr h2;cases hv:(fg ops is gs).all (fun t=>sk (e2'.get t))with
      |false=>rw[hv]at hr;exact absurd rfl hr
      |true=>
       rw[hv]at hr;simp only[acD,ao]at hr |-;refine oo hS gs _ e' k h' (fun g hgg=>hg g (by simp[hgg])) (H.close hS T (f:=e2'.av) rfl fun s hs=>?_) hr;have hsd:s∈eu ops is:=by unfold fg at hs;exact (aeK.1 hs).1
       have hval:=PN (acQ.1 hv s hs) (T2.ng s hsd);rcases H'.get s with h3|⟨h3,h4,h5⟩
       ·left;rw[<- h3];exact hval
       ·right;exact⟨by simp only[Env.av,h3];rfl,h4,fun i hi=>h5 i (by simp[hi])⟩
     grind
end
end
omit [Dr]in
theorem pb(acc:List Nat):∀(es:List Edge)(x:Nat),(nN acc es).testBit x=true↔∃e∈es,Region.binds .any e=true/\(e.on=x\/(acc.getD e.on 0).testBit x=true)
 |[],x=>by simp[nN]
 | e:: es,x=>by
  simp only[nN];cases hb:Region.binds .any e with
  |false=>
   simp only[acO,pb acc es x,ac2]
   grind
  |true=>
   simp only[acD,Nat.testBit_or,adm,pb acc es x,ac2,Nat.testBit_two_pow,acP]
   grind
omit [Dr]in
theorem AL:∀(os:List Oper)(acc:List Nat),∃r:List Nat,G0 os acc=acc++r/\r.length=os.length/\∀(k:Nat)(o:Oper),os[k]? = some o->r[k]? = some (nN (acc++r.take k) o.after.toList)
 |[],acc=>⟨[],by simp[G0],rfl,AI⟩
 | o:: os,acc=>by
  obtain⟨r,h1,h2,h3⟩:=AL os (acc++[nN acc o.after.toList]);refine⟨nN acc o.after.toList:: r,by simp[G0,h1],by simp[h2],fun k o' ho=>?_⟩;cases k with
  |zero=>grind
  |succ k=>
   grind
section
variable {ops:Array Oper}
def rA(ops:Array Oper):List Nat:=G0 ops.toList []
omit [Dr]in
theorem Mf{o:Oper}(ho:ops[j]? = some o):(rA ops).length=ops.size/\(rA ops).getD j 0=nN ((rA ops).take j) o.after.toList:=by
 obtain⟨r,h1,h2,h3⟩:=AL ops.toList []
 grind [rA]
omit [Dr]in
theorem Kf{listed:Nat->Prop}(hcl:∀(j:Nat)(o:Oper),ops[j]? = some o->listed j->∀e∈o.after.toList,Region.binds .any e=true->listed e.on):
  ∀(j:Nat)(o:Oper),ops[j]? = some o->(∀e∈o.after.toList,Region.binds .any e=true->listed e.on)->∀x,((rA ops).getD j 0).testBit x=true->listed x:=by
 intro j
 induction j using Nat.strongRecOn with
 | _ j ih=>
  intro o ho hl x hx;obtain⟨hlen,hget⟩:=Mf ho;rw[hget,pb]at hx;obtain⟨e,he,hb,hx|hx⟩:=hx
  ·grind
  ·by_cases hj:e.on<j
   ·have hjs:j<ops.size:=(acN.1 ho).1;have hos:ops[e.on]? = some ops[e.on]:=adf WD;have h1:((rA ops).take j).getD e.on 0=(rA ops).getD e.on 0:=by
     rw[adH,adH,adM,acL hj]
    grind
   grind
def LR(cx:Cx)(ops:Array Oper)(i j:Nat):Prop:=((rA ops).getD i 0).testBit j=false/\(((rA ops).getD j 0).testBit i=true\/tA cx ops i j=true)
omit [Dr]in
theorem wm{cx:Cx}:∀ {l:List Nat},pk cx ops (rA ops) l=true->l.Pairwise (LR cx ops)/\∀i∈l,((rA ops).getD i 0).testBit i=false
 |[],_=>⟨.nil,AI⟩
 |i:: l,h=>by
  simp only[pk,acB,ade,acQ,adm]at h;obtain⟨⟨h1,h2⟩,h3⟩:=h;obtain⟨h4,h5⟩:=wm h3;refine⟨.cons (fun j hj=>h2 j hj) h4,fun k hk=>?_⟩
  grind
omit [Dr]in
theorem p9:∀ {l:List Nat},distinct l=true->l.Nodup
 |[],_=>.nil
 |i:: l,h=>by
  simp only[distinct,acB,ade]at h;refine ad1.2 ⟨fun hi=>?_,p9 h.2⟩;rw[(jM _ _).2 hi]at h
  grind
variable {P:Program} {cx:Cx} {c:Entry} {N base:Nat}
theorem EI(hT:TOK P cx.T)(hC:eh P cx.own cx.call)(hI:IsoPure cx)(hO:OpsOk N cx ops)(hS:Small ops)(hbit:∀i x,((rA ops).getD i 0).testBit x=true->x<ops.size)(hself:∀i,i<ops.size->((rA ops).getD i 0).testBit i=false){Q:Exit->Act->World->Prop}:∀(n:Nat)(rest:List Nat)(listed:Array Bool)(D:List Nat)(e:Env)(h:Hp)(a:Act)(w:World),rest.length=n->listed.size=ops.size->rest.Nodup->
  (∀i,i∈rest↔i<ops.size/\listed.getD i true=false)->(∀i∈rest,i ∉ D)->(∀i∈D,i<ops.size)->
  (∀(j:Nat)(o:Oper),ops[j]? = some o->listed.getD j false=true->∀e∈o.after.toList,Region.binds .any e=true->listed.getD e.on false=true)->rest.Pairwise (LR cx ops)->
  gz c N (UD base D) e h a w->bk cx base ops rest e h≠.fail->
  (∀e0 e' h' a' w',bk cx base ops rest e h= .ok e0 h'->EqE e0 e'->gz c N (UR base ops.size) e' h' a' w'->a'.defers=a.defers->Q .normal a' w')->
  (∀pv h' v w' a',bk cx base ops rest e h= .pan pv h'->rO c pv h' v w'->a'.defers=a.defers->Q (.panic [{ v,recovered:=false }]) a' w')->wpAny P .any ops Q n listed a w
 |0,rest,listed,D,e,h,a,w,hlen,hsz,hnd,hmem,hdis,hD,hcl,hpw,H,hr,hn,hp=>by
  have:rest=[]:=acW hlen;subst this;refine⟨?_,hn e e h a w rfl (.refl e) (H.wider (Ry hD)) rfl⟩;refine aeY.2 fun i hi=>?_
  grind [mem_ready]
 | n + 1,rest,listed,D,e,h,a,w,hlen,hsz,hnd,hmem,hdis,hD,hcl,hpw,H,hr,hn,hp=>by
  have hgd:∀i,i<ops.size->listed.getD i true=listed.getD i false:=fun i hi=>by
   grind
  refine⟨fun hemp=>?_,fun i hi=>?_⟩
  ·exfalso;cases rest with
   |nil=>simp at hlen
   | cons r0 tl=>
    have hr0:=(hmem r0).1 AI;have hor:ops[r0]? = some ops[r0]:=adf hr0.1;have:r0∈Region.ready .any ops listed:=by
     refine mem_ready.2 ⟨hr0.2,_,hor,fun ed hed hb=>?_⟩;have hbt:((rA ops).getD r0 0).testBit ed.on=true:=by
      rw[(Mf hor).2,pb];exact⟨ed,by simpa using hed,hb,.inl rfl⟩
     have hlt:=hbit r0 ed.on hbt;cases hl:listed.getD ed.on false with
     |true=>rfl
     | false=>
      have hin:=(hmem ed.on).2 ⟨hlt,qr⟩;simp only[ac2]at hin;rcases hin with hin|hin
      ·grind
      ·have:=(aeA.1 hpw).1 ed.on hin
       rw[this.1]at hbt;cases hbt
    grind
  ·obtain⟨h0,o,ho,hall⟩:=mem_ready.1 hi;have hlt:i<ops.size:=(acN.1 ho).1;have hin:=(hmem i).2 ⟨hlt,h0⟩;obtain⟨p,q,rfl⟩:=List.append_of_mem hin;have hnd':=hnd;rw[aeP]at hnd';have hni:i ∉ p++q:=by
    intro hm;rw[acZ]at hm;rcases hm with hm|hm
    ·grind
    ·grind
   have hclo:=Kf (ops:=ops) (listed:=fun j=>listed.getD j false=true) (fun j o ho hj ed hed hb=>hcl j o ho hj ed hed hb) i o ho (fun ed hed hb=>hall ed (by simpa using hed) hb);have hfront:∀x∈p,tA cx ops x i=true/\x≠i:=by
    intro x hx;have hpr:=(List.pairwise_append.1 hpw).2.2 x hx i AI;refine⟨?_,fun hxi=>hni qr⟩;rcases hpr.2 with h1|h1
    ·grind
    ·exact h1
   have hRE:=RS (base:=base) hI hS q p hfront e h;have hr':bk cx base ops (i:: (p++q)) e h≠.fail:=by
    intro hf;rw[hf]at hRE;cases hx:bk cx base ops (p++i:: q) e h with
    |fail=>exact hr hx
    |ok e0 h0=>rw[hx]at hRE;obtain⟨_,h1,_⟩:=hRE;cases h1
    |pan v h0=>rw[hx]at hRE;cases hRE
   simp only[bk,aG]at hr';have hstep:∀ {r:R Env},bk cx base ops (i:: (p++q)) e h=r->bk cx base ops (i:: (p++q)) e h=r:=fun h=>h;simp only[bk,aG]at hRE;refine zE hT hC hO (hdis i hin) H (fun hf=>qr) (fun e1 h1 a1 w1 hst hs hdf=>?_) (fun pv h1 v w1 hst hps=>?_)
   ·rw [hst]at hr' hRE;simp only at hr' hRE;refine EI hT hC hI hO hS hbit hself n (p++q) (listed.setIfInBounds i true) (i:: D) e1 h1 a1 w1 ?_ (by simp[hsz]) ?_ (fun k=>?_) (fun k hk=>?_) (fun k hk=>?_) (fun k o' ho' hk ed hed hb=>?_) ?_ hs hr' (fun e0 e' h' a' w' hok heq hsat hdf'=>?_) (fun pv h' v w' a' hok hps hdf'=>?_)
    ·grind
    ·grind
    ·have hset:k≠i->(listed.setIfInBounds i true).getD k true=listed.getD k true:=fun hk=>by
      simp_all[Ne.symm]
     constructor
     ·grind
     ·rintro⟨h1,h2⟩;have hki:k≠i:=by
       rintro rfl;rw[adQ,Array.getElem?_setIfInBounds_self]at h2;rw[acL WD]at h2;simp at h2
      grind
    ·grind
    ·grind
    ·have hmono:∀x,listed.getD x false=true->(listed.setIfInBounds i true).getD x false=true:=fun x hx=>getD_set_true hx;by_cases hki:k=i
     ·grind
     ·refine hmono _ (hcl k o' ho' ?_ ed hed hb);simp_all[Ne.symm]
    ·grind
    ·rw[hok]at hRE;cases hx:bk cx base ops (p++i:: q) e h with
     |fail=>grind
     |ok ex hx'=>
      rw[hx]at hRE;obtain⟨e0',h2,h3⟩:=hRE;cases h2;exact hn ex e' _ a' w' hx (h3.trans heq) hsat (hdf'.trans hdf)
     |pan v h0=>rw[hx]at hRE;cases hRE
    ·rw[hok]at hRE;cases hx:bk cx base ops (p++i:: q) e h with
     |fail=>grind
     |ok ex hx'=>rw[hx]at hRE;obtain⟨_,h1,_⟩:=hRE;cases h1
     |pan v0 h0=>
      rw[hx]at hRE;cases hRE
      grind
   ·rw[hst]at hRE;cases hx:bk cx base ops (p++i:: q) e h with
    |fail=>grind
    |ok ex hx'=>rw[hx]at hRE;obtain⟨_,h1,_⟩:=hRE;cases h1
    |pan v0 h0=>
     rw[hx]at hRE;cases hRE
     grind
end
structure IsoCall (cx:Cx):Prop where
 iso:∀f args,cx.iso f=true->∃x:Option (Bool×AV),∀h,cx.call f args h=(match x with|none=>.fail|some (true,v)=>.ok v h|some (false,v)=>.pan v h)
 nw:∀f args,cx.nw f=true->D9 (cx.call f args)
omit [Dr]in
theorem IsoCall.draw{cx:Cx}(h:IsoCall cx):IsoPure (iF cx):=by
 refine⟨?_,fun f args hf=>?_⟩
 case refine_2=>
  have hn:=h.nw f args hf;show D9 (bif cx.iso f then gP (cx.call f args)else cx.call f args);cases cx.iso f with
  |false=>exact hn
  |true=>
   intro hp v h' hh;simp only[acD,gP]at hh;cases hq:cx.call f args hp with
   |ok a b=>rw[hq]at hh;cases hh;exact hn _ _ _ hq
   |pan a b=>grind
   |fail=>grind
 intro f args hf;have hf':cx.iso f=true:=hf;obtain⟨x,hx⟩:=h.iso f args hf';refine⟨match x with|some (true,v)=>some v|_=>none,?_⟩;show (bif cx.iso f then gP (cx.call f args)else cx.call f args)=_;rw[hf'];funext hp;simp only[acD,gP,hx];rcases x with _|⟨b,v⟩
 ·rfl
 ·cases b<;>rfl
theorem eh.draw{P:Program}{cx:Cx}(h:eh P cx.own cx.call):eh P (iF cx).own (iF cx).call:=by
 intro f args hp S β w vs hr hg hw hh hv;have hcall:(iF cx).call f args hp=(bif cx.iso f then gP (cx.call f args) hp else cx.call f args hp):=by
  show (bif cx.iso f then gP (cx.call f args)else cx.call f args) hp=_;cases cx.iso f<;>rfl
 rw[hcall]at hr |-
 have key:∀r,r=cx.call f args hp->r≠.fail->Calls P f vs.toArray w (eS ((iF cx).own f) S β hp w r)/\(P.funcs[f]?).any (fun fn=>fn.body.isSome&&!(fn.name== "runtime.NumGoroutine"))=true:=by
  intro r hr1 hr2;subst hr1;exact h f args hp S β w vs hr2 hg hw hh hv
 cases hi:cx.iso f with
 |false=>grind
 |true=>
  rw[hi]at hr;simp only[acD,gP]at hr |-
  grind
def pI(c:Entry)(N:Nat)(e:Env)(h:Hp)(a:Act)(w:World):Prop:=gz c N (fun g=>g<e.nx*1000) e h a w
variable {U:Nat->Prop}
theorem gz.rel{c:Entry}{N:Nat}{e:Env}{h:Hp}{a:Act}{w:World}{ops:Array Oper}(H:gz c N U e h a w)(R:Rel ops [] e2 e):gz c N U e2 h a w:=by
 obtain⟨S,β,γ,lam,ω,F⟩:=H;refine⟨S,β,γ,lam,ω,F.weak (fun t=>?_) (fun t g hg=>?_) (fun g z hz=>by rw[R.al]at hz;exact hz) (fun B n hB=>by rw[R.lb]at hB;exact hB)⟩
 ·rcases R.get t with h|⟨h1,h2,_⟩
  ·grind
  ·exact .inr ⟨by rw[h1];rfl,h2⟩
 ·rcases R.get t with h|⟨h1,_⟩
  ·grind
  ·rw[h1]at hg;cases hg
theorem gz.eqE{c:Entry}{N:Nat}{e:Env}{h:Hp}{a:Act}{w:World}(H:gz c N U e h a w)(R:EqE e e2):gz c N U e2 h a w:=by
 obtain⟨S,β,γ,lam,ω,F⟩:=H;exact⟨S,β,γ,lam,ω,F.weak (fun t=>.inl (by rw[R.get])) (fun t g hg=>by rw[R.get]at hg;exact hg) (fun g z hz=>by rw[R.al]at hz;exact hz) (fun B n hB=>by rw[R.lb]at hB;exact hB)⟩
theorem gz.nx{c:Entry}{N:Nat}{e:Env}{h:Hp}{a:Act}{w:World}(n:Nat)(H:gz c N U e h a w):gz c N U { e with nx:=n } h a w:=by
 obtain⟨S,β,γ,lam,ω,F⟩:=H;exact⟨S,β,γ,lam,ω,F.weak (fun t=>.inl rfl) (fun t g hg=>hg) (fun g z hz=>hz) (fun B n hB=>hB)⟩
section
variable {P:Program} {cx:Cx} {c:Entry} {e:Env} {h:Hp} {a:Act} {w:World} {ops:Array Oper} {id:Nat}
omit [Dr]in
theorem zY{n:Nat}(hn:n<=1000)(hd:od n ops=true)(hk:∀p,KW (dw cx.ann.kinds p .L)=true->p<n):OpsOk n cx ops/\Small ops:=by
 unfold od at hd;rw[aeS]at hd;have h1:∀(i:Nat)(o:Oper),ops[i]? = some o->(∀t,o.dst=some t->t<n)/\∀t∈jh o,t<1000:=by
  intro i o ho
  have:=hd o (Array.mem_of_getElem? ho)
  simp only[acB,acQ,acP]at this;refine⟨fun t ht=>?_,this.2⟩;have h2:=this.1;rw[ht]at h2;simpa using h2
 refine⟨⟨fun i o ho=>(h1 i o ho).1,fun i o ho x hx t hxt=>(h1 i o ho).2 t ?_,hk⟩,⟨fun i o ho t ht=>Nat.lt_of_lt_of_le ((h1 i o ho).1 t ht) hn,fun i o ho=>(h1 i o ho).2⟩⟩;subst hxt;exact aeM.2 ⟨_,hx,rfl⟩
theorem Lq{ρ:Type}(hT:TOK P cx.T)(hC:eh P cx.own cx.call)(hI:IsoCall cx)(hk:∀p,KW (dw cx.ann.kinds p .L)=true->p<cx.nt){draw:Bool}{k:Env->M ρ}(H:pI c cx.nt e h a w)(hr:vM cx id ops draw e k h≠.fail){Q:Exit->Act->World->Prop}(hn:∀e' h' a' w',vM cx id ops draw e k h=k e' h'->pI c cx.nt e' h' a' w'->a'.defers=a.defers->Q .normal a' w')(hp:∀pv h' v w' a',vM cx id ops draw e k h= .pan pv h'->rO c pv h' v w'->a'.defers=a.defers->Q (.panic [{ v,recovered:=false }]) a' w'):
  (Code.region id ops draw).wp P Q a w:=by
 have hN:cx.nt<=1000:=by obtain⟨S,β,γ,lam,ω,F⟩:=H;exact F.tsz.2
 have H0:gz c cx.nt (UD e.nx []) e h a w:=H.wider fun g hg=>.inl hg;unfold vM at hr hn hp;cases hds:od cx.nt ops with
 |false=>rw[hds]at hr;exact absurd rfl hr
 | true=>
  obtain⟨hO,hS⟩:=zY (cx:=cx) hN hds hk;rw[hds]at hr hn hp;simp only[acD]at hr hn hp;cases draw with
  | false=>
   simp only[acO]at hr hn hp;obtain⟨hfl,hgs⟩:=nL ops (List.range ops.size);refine wp_region (BX hT hC hO (List.range ops.size) [] e h a w List.nodup_range AI H0 ?_ ?_ ?_)
   all_goals
    have hseq:=oo (cx:=cx) (base:=e.nx) hS (fF ops (List.range ops.size)) e e _ h hgs (.refl ops _ e) hr;rw[hfl]at hseq
   ·rcases hseq with⟨_,_,_,_,h2,_⟩|⟨_,_,_,h2⟩<;>rw[h2]<;>simp
   ·intro e' h' a' w' hok hsat hdf;rcases hseq with⟨e2',e'',h'',h1,h2,hR⟩|⟨_,_,_,h2⟩
    ·rw[h2]at hok;cases hok;refine hn _ _ a' w' h1 (gz.nx _ ((hsat.wider (Ry ?_)).rel hR)) hdf;intro i hi;simpa using hi
    ·rw[h2]at hok;cases hok
   ·intro pv h' v w' a' hok hps hdf;rcases hseq with⟨e2',e'',h'',h1,h2,hR⟩|⟨_,_,h1,h2⟩
    ·rw[h2]at hok;cases hok
    ·rw[h2]at hok;cases hok;exact hp _ _ v w' a' h1 hps hdf
  | true=>
   simp only[acD]at hr hn hp;generalize BN cx id ops.size=ord at hr hn hp;cases hdo:rU cx ops ord with
   |false=>rw[hdo]at hr;exact absurd rfl hr
   | true=>
    rw[hdo]at hr hn hp;simp only[acD]at hr hn hp;simp only[rU,N4,acB,acQ,acP]at hdo;obtain⟨⟨⟨⟨⟨hlen,hmem⟩,hdist⟩,hlt⟩,hbits⟩,hpairs⟩:=hdo;have hlen':ord.length=ops.size:=Nat.eq_of_beq_eq_true hlen;obtain⟨hpw,hself⟩:=wm (cx:=cx) (ops:=ops) hpairs;have hpw':ord.Pairwise (LR (iF cx) ops):=hpw;have hO':OpsOk cx.nt (iF cx) ops:=⟨hO.dst,hO.src,hO.kin⟩;obtain⟨hfl,hgs⟩:=nL ops ord;have hseq:=oo (cx:=iF cx) (base:=e.nx) hS (fF ops ord) e e _ h hgs (.refl ops _ e) hr;rw[hfl]at hseq;refine wp_region_draw fun t=>?_;have hsch:Region.schedule (P.follows .mixedOrders) ops t=Region.linearise .any ops t:=by
     simp only[Region.schedule,hT.mix,Bool.true_or,acK]
    rw[hsch];have hmem':∀i,i∈ord↔i<ops.size:=fun i=>⟨fun hi=>hlt i hi,fun hi=>(jM _ _).1 (hmem i (by simpa using hi))⟩;refine wpAny_sound ops.size t _ a _ (EI (cx:=iF cx) (c:=c) (N:=cx.nt) (base:=e.nx) hT hC.draw hI.draw hO' hS ?_ ?_ ops.size ord (Array.replicate ops.size false) [] e h a w.drew hlen' AI (p9 hdist) ?_ AI AI ?_ hpw' ?_ ?_ ?_ ?_)
    ·intro i x hx;rcases ac9 x ops.size with h'|h'
     ·exact h'
     ·have hm:(rA ops).getD i 0<2 ^ ops.size:=by
       rw[adH];cases hi:(rA ops)[i]? with
       |none=>grind
       |some m=>exact hbits m (adl hi)
      grind [Nat.testBit_lt_two_pow,Nat.lt_of_lt_of_le,Nat.pow_le_pow_right]
    ·grind
    ·simp_all
    ·intro j o ho hj;exfalso;rw[adQ,Array.getElem?_replicate]at hj
     grind
    ·obtain⟨S,β,γ,lam,ω,F⟩:=H0;exact⟨S,β,γ,lam,ω,F.drew⟩
    ·grind
    ·intro e0 e' h' a' w' hok heq hsat hdf;rcases hseq with⟨e2',e'',h'',h1,h2,hR⟩|⟨_,_,_,h2⟩
     ·rw[h2]at hok;cases hok;exact hn _ _ a' w' h1 (gz.nx _ ((hsat.eqE heq.symm).rel hR)) hdf
     grind
    grind
end
section
omit [Dr]
theorem MB{ρ:Type}{ps:List Nat}{k:Nat->M ρ}{h:Hp}(hr:CN ps k h≠.fail):∀q∈ps,CN ps k h=k q h:=by
 intro q hq;unfold CN at hr |-
 grind
theorem H9{ops:Array Oper}{draw:Bool}{p d q:Nat}(h:yR ops draw=some (p,d,q)):draw=false/\d≠q/\∃x y:Oper,ops.toList=[x,y]/\x.op= .next (.tmp p) false/\x.dst=some d/\x.guard=none/\
  y.op= .extract (.tmp d) 0/\y.dst=some q/\y.guard=none:=by
 unfold yR at h;cases draw with
 |true=>cases h
 | false=>
  simp only[acO]at h;split at h
  ·rename_i x y hops;split at h
   ·rename_i p' d' d2 q' h1 h2 h3 h4 h5 h6;cases hb:Nat.beq d' d2&&!(Nat.beq d' q')with
    |false=>grind
    |true=>
     rw[hb]at h;simp only[acD,acz,ado]at h;obtain⟨rfl,rfl,rfl⟩:=h;simp only[acB,ade]at hb
     have:=Nat.eq_of_beq_eq_true hb.1
     grind
   ·cases h
  ·cases h
theorem K7(ps:List Nat):(ps.map fun(i:Nat)=>qi i).map JC=ps:=by
 rw[adW];apply adZ fun i=>?_
 grind [JC]
end
variable {β:List bQ}{S:az}
section
variable {P:Program} {cx:Cx} {c:Entry} {e:Env} {h:Hp} {a:Act} {w:World} {ops:Array Oper} {id:Nat}
omit [Dr]in
theorem DK{Q:Exit->Act->World->Prop}{p d q N:Nat}{x y:Oper}{b:Bool}{w':World}{vs:List Value}(hN:N<=a.tmps.size)(hops:ops.toList=[x,y])(h1:x.op= .next (.tmp p) false)(h2:x.dst=some d)(h3:x.guard=none)(h4:y.op= .extract (.tmp d) 0)(h5:y.dst=some q)(h6:y.guard=none)(hd:d<N)(hrun:(Instr.next (a.eval (.tmp p)) false x.type).run P w= .ok (.tuple (.bool b:: vs).toArray) w')(hq:Q .normal ((a.put (some d) (.tuple (.bool b:: vs).toArray)).put (some q) (.bool b)) w'):(Code.region id ops false).wp P Q a w:=by
 refine wp_region_list ?_;rw[hops];unfold wpList;rw[acL (by unfold Region.wanted;rw[h3])];refine .inl ?_;unfold Oper.wp;have hr1:(execOp a.eval x).run P w= .ok (.value (.tuple (.bool b:: vs).toArray)) w':=by
  simp only[execOp,h1,Sem.run_bind,hrun,Result.andThen_ok,Sem.run_pure]
 rw[hr1];simp only[Oper.upon];unfold wpList;rw[acL (by unfold Region.wanted;rw[h6])];refine .inl ?_;unfold Oper.wp;have hev:(a.put x.dst (.tuple (.bool b:: vs).toArray)).eval (.tmp d)= .tuple (.bool b:: vs).toArray:=by
  rw[h2];have hlt:d<a.tmps.size:=WD
  simp[Act.put,Act.eval,hlt]
 simp_all[execOp,Instr.extract,Oper.upon,wpList]
theorem FR.two{N:Nat}{γ:Nat->Value}{lam:Nat->Option Nat}{ω:Nat->Owner}(F:FR c N U e h a w S β γ lam ω){d q:Nat}(hd:d<N)(hq:q<N)(v:Value)(b:Bool):
  FR c N U ((e.set d Ent.none).set q ⟨.val (.bool b),none⟩) h ((a.put (some d) v).put (some q) (.bool b)) w S β γ lam ω:=by
 have F1:=F.setV (d:=some d) (r:=.any) (v:=v) (fun t ht=>qr) (by simp[VR]);exact F1.setV (d:=some q) (r:=.bool b) (v:=.bool b) (fun t ht=>qr) (by simp[VR])
theorem Io{ρ:Type}(hT:TOK P cx.T)(hC:eh P cx.own cx.call)(hI:IsoCall cx)(hk:∀p,KW (dw cx.ann.kinds p .L)=true->p<cx.nt){draw:Bool}{k:Env->M ρ}(H:pI c cx.nt e h a w)(hr:qd cx id ops draw e k h≠.fail){Q:Exit->Act->World->Prop}(hn:∀e' h' a' w',qd cx id ops draw e k h=k e' h'->pI c cx.nt e' h' a' w'->a'.defers=a.defers->Q .normal a' w')(hp:∀pv h' v w' a',qd cx id ops draw e k h= .pan pv h'->rO c pv h' v w'->a'.defers=a.defers->Q (.panic [{ v,recovered:=false }]) a' w'):
  (Code.region id ops draw).wp P Q a w:=by
 unfold qd at hr hn hp;cases hno:yR ops draw with
 |none=>
  rw[hno]at hr hn hp;exact Lq hT hC hI hk H hr hn hp
 | some pdq =>
  obtain⟨p,d,q⟩:=pdq;obtain⟨rfl,hdq,x,y,hops,g1,g2,g3,g4,g5,g6⟩:=H9 hno;rw[hno]at hr hn;simp only at hr hn;clear hp;cases hb:decide (p<1000)&&decide (d<cx.nt)&&decide (q<cx.nt)with
  |false=>rw[hb]at hr;exact absurd rfl hr
  | true =>
   rw[hb]at hr hn;simp only[acD]at hr hn;simp only[acB,acP]at hb;obtain⟨⟨hp,hd⟩,hq⟩:=hb;obtain⟨S,β,γ,lam,ω,F⟩:=H;have hdef:∀(v u:Value),((a.put (some d) v).put (some q) u).defers=a.defers:=fun v u=>rfl;have hvp:=bd F (.tmp p) (fun t ht=>qr);simp only[opnd]at hvp;cases hx:e.av p with
   | it l =>
    rw[hx]at hr hn hvp;simp only[sF]at hr hn;simp only[VR]at hvp;obtain⟨⟨b,z⟩,hbl,h0,hv⟩:=hvp;simp only at h0;subst h0;cases hh:h[l]? with
    |none=>grind
    | some cs =>
     rw[hh]at hr hn;have hcases:(cs=[.tup [],.nilm])\/(∃m n qs cu,cs=[.tup [],.mp m,.int .i64 n,.sl qs,cu])\/¬((cs=[.tup [],.nilm])\/(∃m n qs cu,cs=[.tup [],.mp m,.int .i64 n,.sl qs,cu])):=by
      by_cases h1:(cs=[.tup [],.nilm])\/(∃m n qs cu,cs=[.tup [],.mp m,.int .i64 n,.sl qs,cu])
      ·grind
      ·grind
     rcases hcases with rfl|⟨m,n,qs,cu,rfl⟩|hno
     ·simp only at hr hn;obtain⟨hI,_,_⟩:=F.heap.iterRow hh AI AI hbl;rcases hI with⟨_,_,_,_,_,_,_,_,h1,_⟩|⟨_,since,seen,last,h4⟩
      ·simp at h1
      ·refine DK (vs:=[]) (b:=false) (w':=w) F.tsz.1 hops g1 g2 g3 g4 g5 g6 hd ?_ ?_
       ·simp_all[Instr.next,jS]
       ·exact hn _ _ _ _ rfl ⟨_,_,_,_,_,(F.killH l).two hd hq _ _⟩ (hdef _ _)
     ·simp only at hr hn;cases hm:h[m]? with
      |none=>grind
      | some ds=>
       rw[hm]at hr hn;by_cases hds:∃es,ds=[.tup es]
       ·obtain⟨es,rfl⟩:=hds;simp only at hr hn;by_cases hnl:(es.length:Int)=n
        ·rw [acL hnl]at hr hn;obtain⟨hI,hωb,_⟩:=F.heap.iterRow hh AI AI hbl;rcases hI with⟨l',n',ps,bm,since,seen,last,cur,h1,h2,h3,h4,hcu,h5⟩|⟨h1,_⟩
         ·simp only[FV,adN,AV.mp.injEq,AV.int.injEq,AV.sl.injEq,aeR,aeq]at h1;obtain⟨rfl,rfl,rfl,rfl⟩:=h1;obtain⟨_,k2⟩:=h5 es hm;obtain⟨ents,clock,j1,j2,j3,j4,j5⟩:=k2 WD;obtain⟨ents0,clock0,r1,r2,r3,_⟩:=F.heap.mapRow hm h2;rw[j1]at r1;simp only[acz,Obj.map.injEq]at r1;obtain⟨rfl,rfl⟩:=r1;subst j4;rw[K7]at hr hn;have hbb:bm≠b:=by rintro rfl;rw[j1]at h4;cases h4
          rcases BU (P:=P) x.type h4 j1 j2 h3 with⟨i1,i2⟩|⟨i,u,w1,i1,i2,i3,i4⟩
          ·rw[<- j3]at i1;subst i1;simp only at hr hn;refine DK (vs:=[]) (b:=false) (w':=w) F.tsz.1 hops g1 g2 g3 g4 g5 g6 hd qr ?_;exact hn _ _ _ _ rfl ⟨_,_,_,_,_,(F.killH l).two hd hq _ _⟩ (hdef _ _)
          ·rw [<- j3]at i1;cases hps:ps with
           |nil=>grind
           | cons r rs=>
            rw[hps]at hr hn i1;simp only at hr hn;have hdm:=MB hr i i1;refine DK (vs:=[u.key,u.val]) (b:=true) F.tsz.1 hops g1 g2 g3 g4 g5 g6 hd (by rw[hv];exact i4) ?_;have F1:FR c cx.nt (fun g=>g<e.nx*1000) e h a w1 S β γ lam ω:=by rcases i3 with rfl|rfl;exact F;exact F.drew
            have hw1:w1.heap=w.heap:=by rcases i3 with rfl|rfl<;>rfl
            have hml:l≠m:=by rintro rfl;rw[hm]at hh;simp at hh
            have hlt:=jv hh;have hbw:b<w1.heap.size:=by rw[hw1];exact (acN.1 h4).1
            have F2:=F1.turnI (cs':=[.tup [],.mp m,.int .i64 (n':Nat),FV ((r:: rs).filter fun r=>!(Nat.beq r i)),.int .i64 (i:Nat)]) (.mapIter (some bm) since (seen.push u.born) last) hh AI AI AI hbl
             (.inr (.inl ⟨m,n',(r:: rs).filter fun r=>!(Nat.beq r i),bm,since,seen.push u.born,last,.int .i64 (i:Nat),rfl,h2,h3,kz _ hbw,.inr ⟨i,rfl⟩,fun es2 he2=>by
              rw[adR,acE hml,hm]at he2;simp only[acz,adN,AV.tup.injEq,aeq]at he2;subst he2;refine⟨WD,fun _=>⟨ents,last,by grind [cp],j2,by rw[oZ r3.2 i2,<- j3,hps],rfl,fun c hc=>?_⟩⟩
              grind⟩))
            exact hn _ _ _ _ hdm ⟨_,_,_,_,_,F2.two hd hq _ _⟩ (hdef _ _)
         ·simp at h1
        grind
       grind
     grind
   |_=>rw[hx]at hr;exact absurd rfl hr
end
section
omit [Dr]
theorem pj{e:Env}:∀(l:List (Nat×Option Nat))(used:List Nat)(vs:List AV),kV e l used=some vs->vs.length=l.length/\
  (∀(i:Nat)(t:Nat)(z:Option Nat),l[i]? = some (t,z)->∃a,vs[i]? = some a/\(e.get t).v= .val a/\∀sz,z=some sz->∃g z0,(e.get t).g=some g/\aQ e.al g=some z0/\(z0=none\/z0=some sz)/\g ∉ used)/\
  ∀(i j:Nat)(t t' sz sz':Nat),i<j->l[i]? = some (t,some sz)->l[j]? = some (t',some sz')->(e.get t).g≠(e.get t').g
 |[],used,vs,h=>by
  simp only[kV,acz]at h
  grind
 | (t,none):: r,used,vs,h=>by
  simp only[kV]at h;split at h
  ·rename_i a ha;split at h
   ·rename_i vs' hvs;simp only[acz]at h;subst h;obtain⟨h1,h2,h3⟩:=pj r used vs' hvs;refine⟨by simp[h1],fun i t' z hi=>?_,fun i j t1 t2 sz1 sz2 hij hi hj=>?_⟩
    ·grind
    ·cases i with
     |zero=>simp at hi
     |succ i=>
      cases j with
      |zero=>omega
      |succ j=>grind
   ·cases h
  ·cases h
 | (t, some sz):: r,used,vs,h=>by
  simp only[kV]at h;split at h
  ·rename_i a g ha hg;split at h
   ·cases h
   ·rename_i z0 hz0;have hcond:DO z0 (some sz)=true/\dM used g=false/\(match kV e r (g:: used)with|some vs=>some (a:: vs)|none=>none)=some vs:=by
     cases hm:dM used g with
     |true=>
      grind
     | false=>
      rw[hm]at h;cases z0 with
      |none=>exact⟨rfl,rfl,h⟩
      |some n=>
       simp only at h;cases hb:Nat.beq n sz with
       |true=>rw[hb]at h;exact⟨hb,rfl,h⟩
       |false=>grind
    obtain⟨hc1,hc2,h⟩:=hcond;have hc:=And.intro hc1 hc2
    ·split at h
     ·rename_i vs' hvs;simp only[acz]at h;subst h;have hgu:g ∉ used:=fun hm=>by
       rw[(jM _ _).2 hm]at hc
       grind
      have hz:z0=none\/z0=some sz:=by
       cases z0 with
       |none=>exact .inl rfl
       |some n=>grind [Nat.eq_of_beq_eq_true]
      obtain⟨h1,h2,h3⟩:=pj r (g:: used) vs' hvs;refine⟨by simp[h1],fun i t' z hi=>?_,fun i j t1 t2 sz1 sz2 hij hi hj=>?_⟩
      ·cases i with
       |zero=>
        grind
       |succ i=>
        obtain⟨a',k1,k2,k3⟩:=h2 i t' z (by simpa using hi);refine⟨a',by simpa using k1,k2,fun sz' hsz=>?_⟩;obtain⟨g',z',m1,m2,m3,m4⟩:=k3 sz' hsz
        grind
      ·cases i with
       | zero=>
        cases j with
        |zero=>omega
        |succ j=>
         simp only[acV,acz,ado]at hi
         grind
       |succ i=>
        cases j with
        |zero=>omega
        |succ j=>grind
     ·cases h
  ·cases h
theorem pG(vs:List AV)(r:List (Nat×Ent))(t:Nat):∀(l:List (Nat×Option Nat))(k:Nat),
  (∃(i:Nat)(z:Option Nat),l[i]? = some (t,z)/\cF (dY vs k l++r) t=⟨.val (aD vs (k+i)),z.map fun _=>k+i⟩)\/
  ((∀(i:Nat)(z:Option Nat),l[i]? ≠some (t,z))/\cF (dY vs k l++r) t=cF r t)
 |[],k=>.inr ⟨AI,rfl⟩
 | (s,z):: l,k=>by
  have hh:dY vs k ((s,z):: l)=(s,⟨.val (aD vs k),z.map fun _=>k⟩):: dY vs (k+1) l:=by cases z<;>rfl
  rw[hh,ac1,dC];by_cases hs:s=t
  ·subst hs;rw[acL rfl];exact .inl ⟨0,z,rfl,rfl⟩
  ·rw[acE hs];rcases pG vs r t l (k+1)with⟨i,z',h1,h2⟩|⟨h1,h2⟩
   ·refine .inl ⟨i+1,z',by simpa using h1,?_⟩
    grind
   grind
theorem kO:∀(l:List (Nat×Option Nat))(k g:Nat)(y:Option Nat),aQ (oK k l) g=some y->∃(i t sz:Nat),l[i]? = some (t,some sz)/\g=k+i/\y=some sz
 |[],k,g,y,h=>by simp[oK,aQ]at h
 |(s,none):: l,k,g,y,h=>by
  obtain⟨i,t,sz,h1,h2,h3⟩:=kO l (k+1) g y h;exact⟨i+1,t,sz,by simpa using h1,WD,h3⟩
 | (s,some n):: l,k,g,y,h=>by
  simp only[oK,dp]at h;split at h
  ·rename_i hk;simp only[acz]at h;exact⟨0,s,n,rfl,WD,h.symm⟩
  ·obtain⟨i,t,sz,h1,h2,h3⟩:=kO l (k+1) g y h;exact⟨i+1,t,sz,by simpa using h1,WD,h3⟩
theorem uO(t:Nat):∀(l:List (Nat×Nat×Nat)),(∃B off,(t,B,off)∈l/\cF (l.map fun x=>(x.1,(⟨.loc x.2.1 x.2.2,none⟩:Ent))) t=⟨.loc B off,none⟩)\/cF (l.map fun x=>(x.1,(⟨.loc x.2.1 x.2.2,none⟩:Ent))) t=Ent.none
 |[]=>.inr rfl
 | (s,B,off):: l=>by
  rw[ac3,dC];by_cases hs:s=t
  ·grind
  ·rw[acE hs];rcases uO t l with⟨B',off',h1,h2⟩|h
   all_goals grind
theorem yL{e:Env}:∀ {l:List (Nat×Nat×Nat)},yK e l=true->∀t B off,(t,B,off)∈l->(e.get t).v= .loc B off
 |[],_,t,B,off,h=>by simp at h
 | (s,B0,off0):: l,h,t,B,off,hm=>by
  simp only[yK,acB]at h;simp only[ac2,ado]at hm;rcases hm with⟨rfl,rfl,rfl⟩|hm
  ·have h1:=h.1;split at h1
   all_goals simp_all
  ·exact yL h.2 t B off hm
theorem Bq{e:Env}:∀ {l:List (Nat×Nat)},Fz e l=true->∀B n,bb l B=some n->bb e.lb B=some n
 |[],_,B,n,h=>by simp[bb]at h
 |(B0,n0):: l,h,B,n,hm=>by
  simp only[Fz,acB]at h;rw[fG]at hm;split at hm
  ·grind [Nat.eq_of_beq_eq_true]
  ·exact Bq h.2 B n hm
end
section
variable {c:Entry} {N:Nat} {e:Env} {h:Hp} {a:Act} {w:World}
open Classical in
theorem DZ{ja:JA}{vs:List AV}(H:pI c N e h a w)(hp:pack ja e=some vs):pI c N (unpack ja vs) h a w:=by
 obtain⟨S,β,γ,lam,ω,F⟩:=H;unfold pack at hp;cases hlo:(yK e ja.locs&&Fz e ja.lbs)with
 |false=>grind
 | true=>
  rw[hlo]at hp;simp only[acD]at hp;simp only[acB]at hlo;obtain⟨hlen,hval,hdis⟩:=pj ja.vals [] vs hp
  -- the groups carried
  let gOf:Nat->Option Nat:=fun i=>match ja.vals[i]? with|some (t,some _)=>(e.get t).g|_=>none
  have hg1:∀i t sz,ja.vals[i]? = some (t,some sz)->∃g z0,gOf i=some g/\(e.get t).g=some g/\aQ e.al g=some z0/\(z0=none\/z0=some sz):=by
   intro i t sz hi;obtain⟨a',_,_,h3⟩:=hval i t (some sz) hi;obtain⟨g,z0,k1,k2,k3,_⟩:=h3 sz rfl;refine⟨g,z0,?_,k1,k2,k3⟩;show (match ja.vals[i]? with|some (t,some _)=>(e.get t).g|_=>none)=some g;rw[hi];exact k1
  have hg2:∀i j g,gOf i=some g->gOf j=some g->i=j:=by
   have hex:∀i g,gOf i=some g->∃t sz,ja.vals[i]? = some (t,some sz)/\(e.get t).g=some g:=by
    intro i g hi;have hi':(match ja.vals[i]? with|some (t,some _)=>(e.get t).g|_=>none)=some g:=hi;split at hi'
    ·grind
    ·cases hi'
   intro i j g hi hj;obtain⟨t,sz,k1,k2⟩:=hex i g hi;obtain⟨t',sz',m1,m2⟩:=hex j g hj;rcases Nat.lt_trichotomy i j with hlt|heq|hlt
   ·grind
   ·exact heq
   ·grind
  let γ':Nat->Value:=fun i=>match gOf i with|some g=>γ g|none=>undef
  let ω':Nat->Owner:=fun b=>match ω b with
   |.grp g=>if hx:∃i,gOf i=some g then .grp (Classical.choose hx)else .no
   |o=>o
  have hωg:∀b g i,ω b= .grp g->gOf i=some g->ω' b= .grp i:=by
   intro b g i hb hi;show (match ω b with|.grp g=>if hx:∃i,gOf i=some g then Owner.grp (Classical.choose hx)else .no|o=>o)= .grp i;rw[hb];simp only;have hx:∃i,gOf i=some g:=⟨i,hi⟩;rw[dif_pos hx,hg2 _ _ g (Classical.choose_spec hx) hi]
  have hωo:∀b,(∀g,ω b≠.grp g)->ω' b=ω b:=by
   intro b hb;show (match ω b with|.grp g=>if hx:∃i,gOf i=some g then Owner.grp (Classical.choose hx)else .no|o=>o)=ω b;cases ho:ω b with
   |grp g=>grind
   |_=>rfl
  have hωn:∀b,ω' b≠.no->ω b≠.no:=by
   intro b hb ho;refine hb ?_;rw[hωo b (fun g hg=>qr),ho]
  have hωx:∀b g,ω' b= .grp g->∃g',ω b= .grp g':=by
   intro b g hg;cases ho:ω b with
   |grp g'=>grind
   |_=>grind
  -- the slots
  have hget:∀t,(∃(i:Nat)(z:Option Nat)(a':AV),ja.vals[i]? = some (t,z)/\(e.get t).v= .val a'/\(unpack ja vs).get t=⟨.val a',z.map fun _=>i⟩)\/(∃B off,(e.get t).v= .loc B off/\(unpack ja vs).get t=⟨.loc B off,none⟩)\/(unpack ja vs).get t=Ent.none:=by
   intro t;have hu:(unpack ja vs).get t=cF (dY vs 0 ja.vals++ja.locs.map fun x=>(x.1,(⟨.loc x.2.1 x.2.2,none⟩:Ent))) t:=rfl;rcases pG vs (ja.locs.map fun x=>(x.1,(⟨.loc x.2.1 x.2.2,none⟩:Ent))) t ja.vals 0 with⟨i,z,h1,h2⟩|⟨h1,h2⟩
   ·obtain⟨a',k1,k2,_⟩:=hval i t z h1;refine .inl ⟨i,z,a',h1,k2,?_⟩;rw[hu,h2,ac8]
    grind [aD]
   ·grind [uO,yL]
  have hgg:∀t g,((unpack ja vs).get t).g=some g->∃sz,ja.vals[g]? = some (t,some sz):=by
   intro t g hg;rcases hget t with⟨i,z,a',h1,_,h3⟩|⟨_,_,_,h3⟩|h3
   ·rw[h3]at hg;cases z with
    |none=>simp at hg
    |some sz=>grind
   ·grind
   ·rw[h3]at hg;cases hg
  have hγ:∀t g,((unpack ja vs).get t).g=some g->∃g0 z0,(e.get t).g=some g0/\aQ e.al g0=some z0/\γ' g=γ g0:=by
   intro t g hg;obtain⟨sz,h1⟩:=hgg t g hg;obtain⟨g0,z0,k1,k2,k3,_⟩:=hg1 g t sz h1;refine⟨g0,z0,k2,k3,?_⟩;show (match gOf g with|some g=>γ g|none=>undef)=γ g0;rw[k1]
  refine⟨S,β,γ',lam,ω',⟨F.wf,F.gro,F.keep,F.le,F.ext,F.hlen,fun l cs hl hcs=>?_,F.tsz,fun t ht=>?_,fun t g z ht hg hz=>?_,fun B n hB=>?_,fun g z hz=>?_,fun b hb=>⟨(F.mine b (hωn b hb)).1.imp (fun hE=>⟨hE.1,fun g hg=>qr⟩) id,(F.mine b (hωn b hb)).2⟩,fun t g hg=>?_,fun g z hz=>?_⟩⟩
  ·rcases F.heap l cs hl hcs with⟨b,x,h1,h2,h3,h4⟩|⟨b,h1,h3,h4⟩
   all_goals grind
  ·have hs:=F.slots t ht
   grind [Ent.none,jp,VR]
  ·obtain⟨g0,z0,k1,k2,k3⟩:=hγ t g hg;rw[k3];exact F.grps t g0 z0 ht k1 k2
  ·obtain⟨k1,k2,k3,b,x,k4,k5,k6,k7,k8⟩:=F.lblk B n (Bq hlo.2 B n hB);refine⟨k1,k2,k3,b,x,k4,k5,qr,k7,fun i hi=>?_⟩;obtain⟨v,a',m1,m2,m3,m4⟩:=k8 i hi;have hgr:∀g z,((unpack ja vs).get (B+i)).g=some g->aQ (unpack ja vs).al g=some z->v=γ' g:=by
    intro g z hg _;obtain⟨g0,z0,p1,p2,p3⟩:=hγ _ g hg;rw[p3];exact m4 g0 z0 p1 p2
   rcases hget (B+i)with⟨j,z,a2,_,h2,h3⟩|⟨B',off,h2,h3⟩|h3
   ·grind
   ·grind
   ·exact⟨v,.any,m1,by rw[h3];rfl,by simp[VR],hgr⟩
  ·obtain⟨i,t,sz,h1,h2,h3⟩:=kO ja.vals 0 g z hz;rw[ac8]at h2;subst h2;obtain⟨g0,z0,k1,k2,k3,k4⟩:=hg1 g t sz h1;have hγ':γ' g=γ g0:=by
    show (match gOf g with|some g=>γ g|none=>undef)=γ g0;rw[k1]
   rw[hγ'];obtain⟨ad,len,cap,m1,m2,m3,m4⟩:=F.free g0 z0 k3;refine⟨ad,len,cap,m1,m2,m3,m4.imp id ?_⟩
   grind
  ·obtain⟨sz,h1⟩:=hgg t g hg;have:g<ja.vals.length:=by
    rcases ac9 g ja.vals.length with h|h
    ·exact h
    ·grind
   show g<ja.vals.length*1000;omega
  ·obtain⟨i,t,sz,h1,h2,h3⟩:=kO ja.vals 0 g z hz;have:i<ja.vals.length:=by
    rcases ac9 i ja.vals.length with h|h
    ·exact h
    ·grind
   show g<ja.vals.length*1000;omega
omit [Dr]in
theorem PQ(d:Nat)(h:Hp):jt d h .any= .any:=by cases d<;>rfl
omit [Dr]in
theorem JE(g:AV->AV)(hg:g .any= .any)(vs:List AV)(i:Nat):aD (vs.map g) i=g (aD vs i):=by
 unfold aD
 grind
structure Reval (g:AV->AV) (x y:Ent):Prop where
 gr:y.g=x.g
 v:(∃a,x.v= .val a/\y.v= .val (g a))\/(∃B off,x.v= .loc B off/\y.v= .loc B off)
omit [Dr]in
theorem kC(g:AV->AV)(hg:g .any= .any)(vs:List AV)(r:List (Nat×Ent))(hr:∀t,Reval g (cF r t) (cF r t))(t:Nat):∀(l:List (Nat×Option Nat))(k:Nat),
  Reval g (cF (dY vs k l++r) t) (cF (dY (vs.map g) k l++r) t)
 |[],k=>by simpa [dY]using hr t
 |(s,none):: l,k=>by
  simp only[dY,ac1,cF];cases Nat.beq s t with
  |true=>exact⟨rfl,.inl ⟨_,rfl,by simp_all[JE]⟩⟩
  |false=>exact kC g hg vs r hr t l (k+1)
 |(s,some z):: l,k=>by
  simp only[dY,ac1,cF];cases Nat.beq s t with
  |true=>exact⟨rfl,.inl ⟨_,rfl,by simp_all[JE]⟩⟩
  |false=>exact kC g hg vs r hr t l (k+1)
omit [Dr]in
theorem DY(g:AV->AV)(hg:g .any= .any)(ja:JA)(vs:List AV)(t:Nat):Reval g ((unpack ja vs).get t) ((unpack ja (vs.map g)).get t):=by
 refine kC g hg vs _ (fun t=>?_) t ja.vals 0;rcases uO t ja.locs with⟨B,off,_,k2⟩|k
 ·rw[k2];exact⟨rfl,.inr ⟨B,off,rfl,rfl⟩⟩
 ·rw[k];exact⟨rfl,.inl ⟨.any,rfl,by simp[Ent.none,hg]⟩⟩
theorem FR.reval{γ:Nat->Value}{lam:Nat->Option Nat}{ω:Nat->Owner}{h2:Hp}{S2:az}{ω2:Nat->Owner}{g:AV->AV}(F:FR c N U e h a w S β γ lam ω)(F2:FR c N U e h2 a w S2 β γ lam ω2)(hg:∀x v,VR S β x v->VR S2 β (g x) v)(hr:∀t,Reval g (e.get t) (e2.get t))(hal:e2.al=e.al)(hlb:e2.lb=e.lb):FR c N U e2 h2 a w S2 β γ lam ω2:=by
 refine⟨F2.wf,F2.gro,F2.keep,F2.le,F2.ext,F2.hlen,F2.heap,F2.tsz,fun t ht=>?_,fun t k z ht hk hz=>?_,fun B n hB=>?_,fun k z hz=>F2.free k z qr,F2.mine,fun t k hk=>?_,fun k z hz=>F2.used.2 k z qr⟩
 ·have h1:=F.slots t ht;rcases (hr t).v with⟨x,q1,q2⟩|⟨B,off,q1,q2⟩
  ·rw[q1]at h1;rw[q2];exact hg _ _ h1
  ·rw[q1]at h1;rw[q2];exact h1
 ·rw[(hr t).gr]at hk;rw[hal]at hz;exact F2.grps t k z ht hk hz
 ·rw[hlb]at hB;obtain⟨k1,k2,k3,b,x,k4,k5,k6,k7,k8⟩:=F2.lblk B n hB;obtain⟨_,_,_,b',x',j4,j5,j6,j7,j8⟩:=F.lblk B n hB;rw[k4]at j4;cases j4;cases k5.inj j5;refine⟨k1,k2,k3,b,x,k4,k5,k6,k7,fun i hi=>?_⟩;obtain⟨v,a',m1,m2,m3,m4⟩:=k8 i hi;obtain⟨v',a'',n1,n2,n3,_⟩:=j8 i hi;rw[m1]at n1;cases n1;rcases (hr (B+i)).v with⟨y,q1,q2⟩|⟨B',off,q1,q2⟩
  ·rw[n2]at q1;cases q1;refine⟨v,g a'',m1,q2,hg _ _ n3,fun k z hk hz=>?_⟩;rw[(hr (B+i)).gr]at hk
   grind
  grind
 ·rw[(hr t).gr]at hk;exact F2.used.1 t k hk
theorem Ab{ja:JA}{vs:List AV}(H:pI c N (unpack ja vs) h a w):pI c N (unpack ja (vs.map (jt 6 h))) (h.map fun _=>[]) a w:=by
 obtain⟨S,β,γ,lam,ω,F⟩:=H;obtain⟨S2,ω2,F2,hf⟩:=F.freeze;have F3:=F.reval F2 (g:=jt 6 h) (fun x v hx=>hf _ _ hx) (DY _ (PQ 6 h) ja vs) (e2:=unpack ja (vs.map (jt 6 h))) rfl rfl;exact⟨S2,β,γ,lam,ω2,F3⟩
end
section
variable {P:Program} {Q:Exit->Act->World->Prop} {b:Code}
def pM(P:Program)(c:Code)(Q:Exit->Act->World->Prop)(a:Act)(w:World):Prop:=
 ∀(b:Frame)(k:List Item)(cs:List Frame),∃e a' w',Q e a' w'/\Arrives P (lone (b.at a (.code c:: .inLoop c:: k)) cs w) b k cs e a' w'
omit [Dr]in
theorem pM.loop{a:Act}{w:World}(h:pM P b Q a w):(Code.loop b).wp P Q a w:=
 fun f k cs=>let ⟨e,a',w',q,r⟩:=h f k cs;⟨e,a',w',q,.of_steps (.one step_loop) r⟩
omit [Dr]in
theorem pM.round{a:Act}{w:World}(h:b.wp P (Exit.then (pM P b Q) Q) a w):pM P b Q a w:=by
 intro f k cs;obtain⟨e,a₁,w₁,hq,harr⟩:=h f (.inLoop b:: k) cs;cases e with
 |normal=>
  obtain⟨e₂,a₂,w₂,hq₂,harr₂⟩:=hq f k cs;exact⟨e₂,a₂,w₂,hq₂,.of_steps (Steps.trans harr (.one step_inLoop)) harr₂⟩
 |exit id=>exact⟨_,a₁,w₁,hq,.pass (x:=.inLoop b) rfl (fun _ _=>.inl AI) harr⟩
 |goto l=>exact⟨_,a₁,w₁,hq,.pass (x:=.inLoop b) rfl (fun _ _=>.inl AI) harr⟩
 |ret=>exact⟨_,a₁,w₁,hq,.pass (x:=.inLoop b) rfl (fun _ _=>.inl AI) harr⟩
 |panic ch=>exact⟨_,a₁,w₁,hq,.pass (x:=.inLoop b) rfl (fun _ _=>.inl AI) harr⟩
 |outgrown=>exact⟨_,a₁,w₁,hq,.pass (x:=.inLoop b) rfl (fun _ _=>.inl AI) harr⟩
end
section
variable {P:Program} {cx:Cx} {c:Entry} {ρ:Type}
omit [Dr]in
theorem ML{fx:jW ρ}{id:Nat}{code:Code}{e:Env}{kn kr:Env->M ρ}{kx:Nat->Env->M ρ}(hc:∀b,code≠.loop b):
  ev cx fx (.block id code) e kn kx kr=ev cx fx code e kn (fun i e'=>bif Nat.beq i id then kn e' else kx i e') kr:=by
 cases code<;>first|rfl|grind
def HO(cx:Cx)(x:Code):Option JA:=match wS x with
 |some t=>xW cx.ann.joins t
 |none=>none
omit [Dr]in
theorem U4{fx:jW ρ}{x y:Code}{e:Env}{kn kr:Env->M ρ}{kx:Nat->Env->M ρ}:ev cx fx (.seq x y) e kn kx kr=(match HO cx x with
  |some ja=>jn (fun vs=>ev cx fx y (unpack ja vs) kn kx kr) fun j=>ev cx fx x e (zJ ja j) kx kr
  |none=>ev cx fx x e (fun e'=>ev cx fx y e' kn kx kr) kx kr):=by
 unfold HO;simp only[ev]
 grind
structure Posts (c:Entry) (N:Nat) (r:R ρ) (a:Act) (kn:Env->M ρ) (kx:Nat->Env->M ρ) (kr:Env->M ρ) (Q:Exit->Act->World->Prop):Prop where
 nrm:∀e' h' a' w',r=kn e' h'->pI c N e' h' a' w'->a'.defers=a.defers->Q .normal a' w'
 ext:∀i e' h' a' w',r=kx i e' h'->pI c N e' h' a' w'->a'.defers=a.defers->Q (.exit i) a' w'
 ret:∀e' h' a' w',r=kr e' h'->pI c N e' h' a' w'->a'.defers=a.defers->Q .ret a' w'
 pan:∀pv h' v w' a',r= .pan pv h'->rO c pv h' v w'->a'.defers=a.defers->Q (.panic [{ v,recovered:=false }]) a' w'
theorem DV{ja:JA}{j:List AV->M ρ}{e:Env}{h:Hp}{N:Nat}{a:Act}{w:World}(H:pI c N e h a w)(hr:zJ ja j e h≠.fail):∃vs h',zJ ja j e h=j vs h'/\pI c N (unpack ja vs) h' a w:=by
 unfold zJ at hr |-;cases hp:pack ja e with
 |none=>rw[hp]at hr;exact absurd rfl hr
 |some vs=>
  have hs:=DZ H hp;simp only;cases ja.fz with
  |false=>grind
  |true=>exact⟨_,_,rfl,Ab hs⟩
theorem MN(hT:TOK P cx.T)(hC:eh P cx.own cx.call)(hI:IsoCall cx)(hk:∀p,KW (dw cx.ann.kinds p .L)=true->p<cx.nt)(m:Nat):∀(n:Nat)(code:Code),SizeOf.sizeOf code<n->
  ∀(e:Env)(h:Hp)(a:Act)(w:World)(kn:Env->M ρ)(kx:Nat->Env->M ρ)(kr:Env->M ρ)(Q:Exit->Act->World->Prop),pI c cx.nt e h a w->ev cx (dV m) code e kn kx kr h≠.fail->
  Posts c cx.nt (ev cx (dV m) code e kn kx kr h) a kn kx kr Q->code.wp P Q a w:=by
 intro n
 induction n with
 |zero=>grind
 | succ n ih=>
  intro code hn e h a w kn kx kr Q H hr hp;cases code<;>(try exact absurd rfl hr)
  case skip=>exact wp_skip (hp.nrm e h a w rfl H rfl)
  case exit id=>exact wp_exit (hp.ext id e h a w rfl H rfl)
  case ret=>exact wp_ret (hp.ret e h a w rfl H rfl)
  case region id ops draw=>exact Io hT hC hI hk H hr hp.nrm hp.pan
  case seq x y=>
   have hx:SizeOf.sizeOf x<n:=by simp at hn;omega
   have hy:SizeOf.sizeOf y<n:=by simp at hn;omega
   refine wp_seq ?_;rw[U4]at hr hp;generalize HO cx x=oj at hr hp;cases oj with
   |none=>
    simp only at hr hp;refine ih x hx e h a w _ kx kr _ H hr ⟨fun e' h' a' w' hok hs hd=>?_,fun i e' h' a' w' hok hs hd=>hp.ext i e' h' a' w' hok hs hd,fun e' h' a' w' hok hs hd=>hp.ret e' h' a' w' hok hs hd,fun pv h' v w' a' hok hs hd=>hp.pan pv h' v w' a' hok hs hd⟩;rw[hok]at hr hp;exact ih y hy e' h' a' w' kn kx kr Q hs hr ⟨fun e2 h2 a2 w2 k1 k2 k3=>hp.nrm e2 h2 a2 w2 k1 k2 (k3.trans hd),fun i e2 h2 a2 w2 k1 k2 k3=>hp.ext i e2 h2 a2 w2 k1 k2 (k3.trans hd),fun e2 h2 a2 w2 k1 k2 k3=>hp.ret e2 h2 a2 w2 k1 k2 (k3.trans hd),fun pv h2 v w2 a2 k1 k2 k3=>hp.pan pv h2 v w2 a2 k1 k2 (k3.trans hd)⟩
   |some ja=>
    simp only[jn]at hr hp;refine ih x hx e h a w _ kx kr _ H hr ⟨fun e' h' a' w' hok hs hd=>?_,fun i e' h' a' w' hok hs hd=>hp.ext i e' h' a' w' hok hs hd,fun e' h' a' w' hok hs hd=>hp.ret e' h' a' w' hok hs hd,fun pv h' v w' a' hok hs hd=>hp.pan pv h' v w' a' hok hs hd⟩;rw[hok]at hr hp;obtain⟨vs,h3,hj,hs3⟩:=DV hs hr;rw[hj]at hr hp;exact ih y hy (unpack ja vs) h3 a' w' kn kx kr Q hs3 hr ⟨fun e2 h2 a2 w2 k1 k2 k3=>hp.nrm e2 h2 a2 w2 k1 k2 (k3.trans hd),fun i e2 h2 a2 w2 k1 k2 k3=>hp.ext i e2 h2 a2 w2 k1 k2 (k3.trans hd),fun e2 h2 a2 w2 k1 k2 k3=>hp.ret e2 h2 a2 w2 k1 k2 (k3.trans hd),fun pv h2 v w2 a2 k1 k2 k3=>hp.pan pv h2 v w2 a2 k1 k2 (k3.trans hd)⟩
  case cond o x y=>
   have hx:SizeOf.sizeOf x<n:=by simp at hn;omega
   have hy:SizeOf.sizeOf y<n:=by simp at hn;omega
   cases o<;>(try exact absurd rfl hr)
   case const v=>
    simp only[ev]at hr hp
    have hav:∀b,cA v= .bool b->a.eval (.const v)= .bool b:=by
     intro b hb;show v= .bool b;cases v with
     |bool c=>grind [cA,I3]
     |tuple vs=>grind [cA]
     |pointer p=>grind [cA,I3]
     |map p=>grind [cA,I3]
     | slice p n m=>
      have hs:I3 (.slice p n m)= .sl []\/I3 (.slice p n m)= .any:=by
       cases p with
       |some q=>exact .inr rfl
       | none=>cases n with
        |succ n=>exact .inr rfl
        |zero=>cases m with
         |succ m=>exact .inr rfl
         |zero=>exact .inl rfl
      grind [cA]
     |_=>simp only[cA,I3]at hb;cases hb
    cases hq:cA v<;>rw[hq]at hr hp<;>(try exact absurd rfl hr);rename_i b;cases b with
    |true=>exact wp_cond (hav true hq) (ih x hx e h a w kn kx kr Q H hr hp)
    |false=>exact wp_cond (hav false hq) (ih y hy e h a w kn kx kr Q H hr hp)
   rename_i t;simp only[ev]at hr hp;cases ht:decide (t<1000)with
   |false=>rw[ht]at hr;exact absurd rfl hr
   | true=>
    rw[ht]at hr hp;simp only[acD]at hr hp;have htl:t<1000:=by simpa using ht
    have hav:∀b,e.av t= .bool b->a.eval (.tmp t)= .bool b:=by
     intro b hb;obtain⟨S,β,γ,lam,ω,F⟩:=H;have hs:=F.slots t htl;simp only[Env.av,Ent.av]at hb;cases hv:(e.get t).v with
     |val av=>
      rw[hv]at hs hb;simp only at hb;subst hb;simp only[jp,VR]at hs;exact hs
     |loc B off=>grind
    cases hq:e.av t<;>rw[hq]at hr hp<;>(try exact absurd rfl hr);rename_i b;cases b with
    |true=>exact wp_cond (hav true hq) (ih x hx e h a w kn kx kr Q H hr hp)
    |false=>exact wp_cond (hav false hq) (ih y hy e h a w kn kx kr Q H hr hp)
  case block id code=>
   refine wp_block ?_;by_cases hc:∃b,code= .loop b
   ·obtain⟨b,rfl⟩:=hc;have hb:SizeOf.sizeOf b<n:=by simp at hn;omega
    simp only[ev]at hr hp;cases hja:xW cx.ann.loops id with
    |none=>rw[hja]at hr;exact absurd rfl hr
    | some ja=>
     rw[hja]at hr hp;simp only at hr hp;refine pM.loop ?_;obtain⟨vs,h3,hj,hs3⟩:=DV H hr;rw[hj]at hr hp;have key:∀(k:Nat)(vs:List AV)(h:Hp)(a1:Act)(w:World),pI c cx.nt (unpack ja vs) h a1 w->a1.defers=a.defers->
       dV k (fun self vs=>ev cx (dV m) b (unpack ja vs) (zJ ja self) (fun i e'=>bif Nat.beq i id then kn e' else kx i e') kr) vs h≠.fail->
       Posts c cx.nt (dV k (fun self vs=>ev cx (dV m) b (unpack ja vs) (zJ ja self) (fun i e'=>bif Nat.beq i id then kn e' else kx i e') kr) vs h) a kn kx kr Q->pM P b (Exit.inBlock id Q) a1 w:=by
      intro k
      induction k with
      |zero=>intro vs h a1 w _ _ hr _;exact absurd rfl hr
      | succ k ihk=>
       intro vs h a1 w hs hd hr hp;simp only[dV]at hr hp;refine pM.round (ih b hb (unpack ja vs) h a1 w _ _ kr _ hs hr ⟨fun e' h' a' w' hok hs' hd'=>?_,fun i e' h' a' w' hok hs' hd'=>?_,fun e' h' a' w' hok hs' hd'=>hp.ret e' h' a' w' hok hs' (hd'.trans hd),fun pv h' v w' a' hok hs' hd'=>hp.pan pv h' v w' a' hok hs' (hd'.trans hd)⟩)
       ·rw[hok]at hr hp;obtain⟨vs',h4,hj',hs4⟩:=DV hs' hr;rw[hj']at hr hp;exact ihk vs' h4 a' w' hs4 (hd'.trans hd) hr hp
       ·cases hi:Nat.beq i id with
        |true=>
         rw[hi]at hok
         have:=Nat.eq_of_beq_eq_true hi
         subst this;show Exit.inBlock i Q (.exit i) a' w';simp only[Exit.inBlock,acK];exact hp.nrm e' h' a' w' hok hs' (hd'.trans hd)
        |false=>
         rw[hi]at hok;have hne:i≠id:=fun hh=>AN
         show Exit.inBlock id Q (.exit i) a' w';simp only[Exit.inBlock,acE hne];exact hp.ext i e' h' a' w' hok hs' (hd'.trans hd)
     grind
   ·have hc':∀b,code≠.loop b:=fun b hb=>hc ⟨b,hb⟩;rw[ML hc']at hr hp;have hs:SizeOf.sizeOf code<n:=by simp at hn;omega
    refine ih code hs e h a w kn _ kr _ H hr ⟨fun e' h' a' w' hok hs' hd'=>hp.nrm e' h' a' w' hok hs' hd',fun i e' h' a' w' hok hs' hd'=>?_,fun e' h' a' w' hok hs' hd'=>hp.ret e' h' a' w' hok hs' hd',fun pv h' v w' a' hok hs' hd'=>hp.pan pv h' v w' a' hok hs' hd'⟩;cases hi:Nat.beq i id with
    |true=>
     rw[hi]at hok
     have:=Nat.eq_of_beq_eq_true hi
     subst this;show Exit.inBlock i Q (.exit i) a' w';simp only[Exit.inBlock,acK];exact hp.nrm e' h' a' w' hok hs' hd'
    |false=>
     rw[hi]at hok;have hne:i≠id:=fun hh=>AN
     show Exit.inBlock id Q (.exit i) a' w';simp only[Exit.inBlock,acE hne];exact hp.ext i e' h' a' w' hok hs' hd'
end
omit [Dr]in
theorem xx:∀(args:List AV)(i t:Nat),cF (En i args) t=if i<=t/\t<i+args.length then⟨.val (aD args (t-i)),none⟩else Ent.none
 |[],i,t=>by
  simp_all[En,cF,acE]
 | a:: as0,i,t=>by
  simp only[En,dC,acR];by_cases h:i=t
  ·subst h;rw[acL rfl,acL WD];simp[aD]
  ·rw[acE h,xx as0 (i+1) t];by_cases h2:i+1<=t/\t<i+1+as0.length
   ·rw[acL h2,acL WD]
    grind [aD]
   grind
variable {fn:Func}
section
variable {P:Program} {cx:Cx}
open Classical in
theorem V0{w:World}{h:Hp}{args:List AV}{vs:List Value}{n:Nat}(hg:xg S β h w)(hw:Wf S w)(hh:dm S β w h)(hv:be S β args vs)(hn:args.length<=n)(hn2:n<=1000):
  ∃γ lam ω,FR { w,S,β,E:=cQ β h,gok:=hg } n (fun g=>g<(wL args).nx*1000) (wL args) h { tmps:=vs.toArray++Array.replicate (n-vs.toArray.size) undef,defers:=[] } w S β γ lam ω:=by
 obtain⟨hlen,ω0,hr⟩:=hh;have hvl:=hv.length;have hget:∀t,(wL args).get t=if t<args.length then⟨.val (aD args t),none⟩else Ent.none:=fun t=>by
  have:=xx args 0 t
  simp only[acU,aeR,ac8,aeN]at this;exact this
 let ω:Nat->Owner:=fun b=>if cQ β h b then ω0 b else .no;refine⟨fun _=>undef,fun _=>none,ω,⟨hw,Gro.refl _,fun b _ _=>⟨rfl,fun _=>rfl⟩,az.le_refl S,ig.refl β,hlen,fun l cs hl hcs=>?_,⟨?_,hn2⟩,fun t ht=>?_,fun t g z ht hg=>?_,fun B m hB=>?_,fun g z hz=>?_,fun b hb=>?_,fun t g hg=>?_,fun g z hz=>?_⟩⟩
 ·have hown:∀b n,β[l]? = some (b,n)->ω0 b= .heap l->ω b= .heap l:=fun b n h1 h3=>by
   show (if cQ β h b then ω0 b else .no)=_;rw[acL ⟨l,cs,_,hl,hcs,h1⟩];exact h3
  rcases hr l cs hl hcs with⟨b,x,h1,h2,h3,h4⟩|⟨b,h1,h3,h4⟩
  all_goals grind
 ·simp;omega
 ·rw[hget];split
  ·rename_i hlt;have hx:args[t]? = some (aD args t):=by simp[aD,hlt]
   obtain⟨v,h1,h2⟩:=hv.get hx;have:(vs.toArray++Array.replicate (n-vs.toArray.size) undef).getD t undef=v:=by
    rw[adQ,aes Bk];simp[h1]
   rw[this];exact h2
  ·simp[Ent.none,jp,VR]
 ·rw[hget]at hg;split at hg<;>cases hg
 ·cases hB
 ·cases hz
 ·have hb':cQ β h b:=by
   by_cases ho:cQ β h b
   ·exact ho
   ·grind
  obtain⟨l,cs,m,h1,h2,h3⟩:=hb';obtain⟨b',x,k1,k2,k3,_⟩:=hr.own h1 h2;rw[h3]at k1;cases k1;have hω:ω b= .heap l:=by
   show (if cQ β h b then ω0 b else .no)=_;rw[acL ⟨l,cs,_,h1,h2,h3⟩];exact k3
  exact⟨.inl ⟨⟨l,cs,_,h1,h2,h3⟩,fun g=>by rw[hω];simp⟩,k2⟩
 ·rw[hget]at hg;split at hg<;>cases hg
 ·cases hz
theorem start{w:World}{h:Hp}{args:List AV}{vs:List Value}{n:Nat}(hg:xg S β h w)(hw:Wf S w)(hh:dm S β w h)(hv:be S β args vs)(hn:args.length<=n)(hn2:n<=1000):
  pI { w,S,β,E:=cQ β h,gok:=hg } n (wL args) h { tmps:=vs.toArray++Array.replicate (n-vs.toArray.size) undef,defers:=[] } w:=⟨S,β,V0 hg hw hh hv hn hn2⟩
def ma(tmps:Array Value):ResultVar->Sem Value
 |.tmp t=>pure (tmps.getD t undef)
 |.cell p t=>do loadVar t (<- asAddr (tmps.getD p undef))
omit [Dr]in
theorem zk(fn:Func)(tmps:Array Value):results fn tmps=(do let vs <- fn.results.mapM (ma tmps);pure (if h:vs.size=1 then vs[0]else .tuple vs)):=by
 unfold results;congr 1
theorem VU{c:Entry}{N:Nat}{e:Env}{h:Hp}{a:Act}{w:World}{γ:Nat->Value}{lam:Nat->Option Nat}{ω:Nat->Owner}(hT:TOK P cx.T)(F:FR c N U e h a w S β γ lam ω){r:ResultVar}{v:AV}(hr:F7 cx.T e r=some v):∃u,(ma a.tmps r).run P w= .ok u w/\VR S β v u:=by
 cases r with
 | tmp t=>
  simp only[F7]at hr;cases ht:decide (t<1000)with
  |false=>grind
  | true=>
   rw[ht]at hr;simp only[acD]at hr;have hs:=F.slots t (by simpa using ht);cases hv:(e.get t).v with
   |loc B off=>grind
   |val av=>
    rw[hv]at hr hs;simp only[acz]at hr;subst hr;exact⟨_,by simp only[ma,Sem.run_pure],hs⟩
 | cell p t=>
  simp only[F7]at hr;cases hp:decide (p<1000)with
  |false=>grind
  | true=>
   rw[hp]at hr;simp only[acD]at hr;have hs:=F.slots p (by simpa using hp);cases hv:(e.get p).v with
   | loc B off=>
    rw[hv]at hr hs;cases ht:cx.T t with
    |none=>grind
    | some ti=>
     rw[ht]at hr;simp only at hr;cases hin:nh e B off ti.size with
     |false=>grind
     | true=>
      rw[hin]at hr;simp only[acD]at hr;simp only[jp]at hs;obtain⟨b,hlam,hpv⟩:=hs;obtain⟨b',x,m,hm,hle,hlam',hrow,hms,hcells⟩:=F.locals hin;rw[hlam]at hlam';cases hlam';let f:Nat->Value:=fun i=>(x[off+i]?).getD undef;have hf:∀i,i<ti.size->x[off+i]? = some (f i):=fun i hi=>by
       grind
      have hload:=wi hT ht hrow f hf;have hexec:∀v,(loadVar t ⟨b,off,none⟩).run P w= .ok v w->(ma a.tmps (.cell p t)).run P w= .ok v w:=fun v hv'=>by
       grind [ma,asAddr]
      cases hag:ti.agg with
      |true=>
       rw[hag]at hr;simp only[acD,acz]at hr;subst hr;refine⟨_,hexec _ (hload.1 hag),?_⟩;simp only[VR];refine⟨_,rfl,yt ti.size fun i hi=>?_⟩
       grind [Env.av,Ent.av]
      | false=>
       rw[hag]at hr;simp only[acO]at hr;cases hone:decide (ti.size=1)with
       |false=>grind
       |true=>
        rw[hone]at hr;simp only[acD,acz]at hr;subst hr;have hone':ti.size=1:=by simpa using hone
        obtain⟨v,a',g1,g2,g3,g4⟩:=hcells 0 WD;simp_all[Env.av,Ent.av]
   | val av=>
    rw[hv]at hr hs;cases ht:cx.T t with
    |none=>grind
    |some ti=>
     rw[ht]at hr;simp only at hr;obtain⟨v,h1,h2⟩:=C2 hT F.wf hr hs;refine⟨v,?_,h2⟩;unfold ay at hr
     grind [jp,VR,ma,Instr.loadAt,Instr.sureAddr,asAddr]
theorem Ip{c:Entry}{N:Nat}{e:Env}{h:Hp}{a:Act}{w:World}{γ:Nat->Value}{lam:Nat->Option Nat}{ω:Nat->Owner}(hT:TOK P cx.T)(F:FR c N U e h a w S β γ lam ω){vs:List AV}(hr:kv cx.T e fn.results.toList=some vs):∃u,(results fn a.tmps).run P w= .ok u w/\VR S β (rK vs) u:=by
 have key:∀(l:List ResultVar)(vs:List AV),kv cx.T e l=some vs->∃us:List Value,(l.mapM (ma a.tmps)).run P w= .ok us w/\be S β vs us:=by
  intro l
  induction l with
  |nil=>simp_all[kv,be]
  | cons r rs ih=>
   intro vs h;simp only[kv]at h;cases h1:F7 cx.T e r with
   |none=>grind
   | some v=>
    cases h2:kv cx.T e rs with
    |none=>grind
    |some vs'=>
     rw[h1,h2]at h;simp only[acz]at h;subst h;obtain⟨u,k1,k2⟩:=VU hT F h1;obtain⟨us,m1,m2⟩:=ih vs' h2;refine⟨u:: us,?_,by simp only[be];grind⟩;simp_all
 obtain⟨us,k1,k2⟩:=key _ _ hr;have hlen:=k2.length;have hrun:(fn.results.mapM (ma a.tmps)).run P w= .ok us.toArray w:=by
  rw[afa];rw[map_eq_pure_bind,Sem.run_bind,k1,Result.andThen_ok,Sem.run_pure]
 refine⟨if h:us.toArray.size=1 then us.toArray[0]else .tuple us.toArray,?_,?_⟩
 ·grind [zk,Sem.run_bind,Result.andThen_ok,Sem.run_pure]
 ·unfold rK;split
  ·grind [be]
  ·rename_i hne;rw[dif_neg]
   ·simp only[VR];grind
   ·intro h1;have:vs.length=1:=by rw[<- hlen];simpa using h1
    match vs,this with
    |[v],_=>exact hne v rfl
end
omit [Dr]in
theorem Fu{n:Nat}{ks:List (Nat×Kind)}(h:tD n ks=true):∀p,KW (dw ks p .L)=true->p<n:=by
 intro p hp
 induction ks with
 |nil=>simp[dw,KW]at hp
 | cons x ks ih=>
  obtain⟨k,y⟩:=x;unfold tD at h;simp only[adz,acB]at h;simp only[dw]at hp;cases hk:Nat.beq k p with
  |true=>
   simp_all
  |false=>
   rw[hk]at hp;exact ih h.2 hp
section
variable {P:Program} {cx:Cx}
theorem VO{c:Entry}{N:Nat}{e:Env}{h:Hp}{a:Act}{w:World}{γ:Nat->Value}{lam:Nat->Option Nat}{ω:Nat->Owner}(F:FR c N U e h a w S β γ lam ω){sz:Nat}(ho:Dl fn e sz=true){u:Value}(hu:(results fn a.tmps).run P w= .ok u w):Ck c.w.heap.size S β w h sz u:=by
 unfold Dl at ho;split at ho
 ·rename_i t hres;cases ht:decide (t<1000)with
  |false=>grind
  | true=>
   rw[ht]at ho;simp only[aep]at ho;split at ho
   ·rename_i g hg;split at ho
    ·rename_i z hz;have hgr:=F.grps t g z (by simpa using ht) hg hz;obtain⟨ad,len,cap,h1,h2,h3,h4⟩:=F.free g z hz;have hue:u=a.tmps.getD t undef:=by
      have hr:fn.results= #[.tmp t]:=by apply Array.ext';simpa using hres
      rw[zk,hr]at hu;simp[ma]at hu;simpa using hu.symm
     rw[hue,hgr];refine⟨ad,len,cap,h1,h2,h3,h4.imp id ?_⟩;rintro⟨sz',b,off,x,k1,k2,k3,k4,k5,k6⟩;have hsz:sz'=sz:=by
      rw[k1]at ho;simp only[DO]at ho;exact Nat.eq_of_beq_eq_true ho
     subst hsz;refine⟨b,off,x,k2,k3,k4,(F.mine b (by rw[k5];simp)).1.grp k5,fun hb=>?_,k6⟩;obtain⟨l,_,hl,_⟩:=F.hown hb
     grind
    ·cases ho
   ·cases ho
 ·cases ho
omit [Dr]in
theorem Oh{own:Option Nat}{e:Env}{h:Hp}(hr:oH cx fn own e h≠.fail):∃rs,kv cx.T e fn.results.toList=some rs/\(oH cx fn own e h= .ok (rK rs) h\/(own=none/\oH cx fn own e h= .ok (jt 6 h (rK rs)) (h.map fun _=>[])))/\∀sz,own=some sz->Dl fn e sz=true:=by
 have key:∀b z:Bool,(bif b then aG (bJ ((kv cx.T e fn.results.toList).map rK)) (bif z then(bif own.isSome then fun _=>gk else Jm)else ao)else gk:M AV) h≠.fail->b=true/\∃rs,kv cx.T e fn.results.toList=some rs/\
   ((bif b then aG (bJ ((kv cx.T e fn.results.toList).map rK)) (bif z then(bif own.isSome then fun _=>gk else Jm)else ao)else gk:M AV) h= .ok (rK rs) h\/
    (own=none/\(bif b then aG (bJ ((kv cx.T e fn.results.toList).map rK)) (bif z then(bif own.isSome then fun _=>gk else Jm)else ao)else gk:M AV) h= .ok (jt 6 h (rK rs)) (h.map fun _=>[]))):=by
  intro b z hr;cases b with
  |false=>exact absurd rfl hr
  | true=>
   refine⟨rfl,?_⟩;cases hres:kv cx.T e fn.results.toList with
   |none=>rw[hres]at hr;exact absurd rfl hr
   | some rs=>
    rw[hres]at hr;cases z with
    |false=>exact⟨rs,rfl,.inl rfl⟩
    |true=>
     cases own with
     |none=>exact⟨rs,rfl,.inr ⟨rfl,rfl⟩⟩
     |some sz=>exact absurd rfl hr
 unfold oH at hr |-;cases own with
 |none=>
  obtain⟨_,rs,h1,h2⟩:=key true _ hr
  grind
 |some sz=>
  obtain⟨h0,rs,h1,h2⟩:=key _ _ hr
  grind
theorem mz(hT:TOK P cx.T)(hC:eh P cx.own cx.call)(hI:IsoCall cx)(m:Nat){f:FuncId}(hf:P.funcs[f]? = some fn)(hnt:cx.nt=fn.ntmps){own:Option Nat}{args:List AV}{h:Hp}{w:World}{vs:List Value}(hr:cj cx (dV m) fn own args h≠.fail)(hg:xg S β h w)(hw:Wf S w)(hh:dm S β w h)(hv:be S β args vs):Calls P f vs.toArray w (eS own S β h w (cj cx (dV m) fn own args h))/\fn.body.isSome=true:=by
 unfold cj at hr |-;cases hb:fn.body with
 |none=>rw[hb]at hr;exact absurd rfl hr
 | some code=>
  rw[hb]at hr;simp only at hr |-;refine⟨?_,rfl⟩;cases hc:(decide (args.length<=fn.ntmps)&&decide (fn.ntmps<=1000)&&tD cx.nt cx.ann.kinds)with
  |false=>rw[hc]at hr;exact absurd rfl hr
  | true=>
   rw[hc]at hr;simp only[acD]at hr |-;simp only[acB,acP]at hc;obtain⟨⟨hc1,hc2⟩,hc3⟩:=hc;have H:pI { w,S,β,E:=cQ β h,gok:=hg } cx.nt (wL args) h { tmps:=vs.toArray++Array.replicate (fn.ntmps-vs.toArray.size) undef,defers:=[] } w:=by
    rw[hnt];exact start hg hw hh hv hc1 hc2
   have hret:∀(e':Env)(h':Hp)(a':Act)(w':World),ev cx (dV m) code (wL args) (oH cx fn own) (fun _ _=>gk) (oH cx fn own) h=oH cx fn own e' h'->
     pI { w,S,β,E:=cQ β h,gok:=hg } cx.nt e' h' a' w'->∃v,(results fn a'.tmps).run P w'= .ok v w'/\eS own S β h w (ev cx (dV m) code (wL args) (oH cx fn own) (fun _ _=>gk) (oH cx fn own) h) (.returned v) w':=by
    intro e' h' a' w' hok hs;rw[hok]at hr |-;obtain⟨rs,hres,hret,hown⟩:=Oh hr;obtain⟨S',β',γ,lam,ω,F⟩:=hs;obtain⟨u,hu1,hu2⟩:=Ip (P:=P) hT F hres;rcases hret with hret|⟨rfl,hret⟩
    ·rw[hret];exact⟨u,hu1,S',β',u,rfl,hu2,F.out,fun sz hsz=>VO F (hown sz hsz) hu1⟩
    ·rw[hret];obtain⟨S2,ω2,F2,hf⟩:=F.freeze;exact⟨u,hu1,S2,β',u,rfl,hf _ _ hu2,F2.out,fun sz hsz=>by cases hsz⟩
   refine calls_of_wp hf hb (MN hT hC hI (Fu hc3) m _ code (Nat.lt_succ_self _) (wL args) h _ w _ _ _ _ H hr ⟨fun e' h' a' w' hok hs hd=>?_,fun i e' h' a' w' hok hs hd=>?_,fun e' h' a' w' hok hs hd=>?_,fun pv h' v w' a' hok hs hd=>?_⟩)
   ·exact⟨hd,hret e' h' a' w' hok hs⟩
   ·rw[hok]at hr;exact absurd rfl hr
   ·exact⟨hd,hret e' h' a' w' hok hs⟩
   ·refine⟨hd,?_⟩;rw[hok];obtain⟨S',β',hout,hvr⟩:=hs;exact⟨S',β',v,rfl,hvr,hout⟩
end
open Classical in
theorem Jt{w w':World}{h:Hp}(_hw:Wf S w)(hh:dm S β w h){β0:List bQ}{h0:Hp}(hE:∀b,¬cQ β0 h0 b){S':az}{β':List bQ}(L:Left (cQ β0 h0) S β0 w S' β' w' h'):∃S2,Left (cQ β h) S β w S2 β w' h/\(∀a v,VR S' β' a v->VR S2 β (jt 6 h' a) v)/\∀sz v,Ck w.heap.size S' β' w' h' sz v->Ck w.heap.size S2 β w' h sz v:=by
 obtain⟨hlen,ω,hH⟩:=L.heap;have hnew:∀b,cQ β' h' b->w.heap.size<=b:=fun b hb=>(L.owned b hb).resolve_left (hE b);let S2:az:=fun b o=>if cQ β' h' b then w'.cell? ⟨b,o,none⟩else S' b o;have hS2n:∀b,¬cQ β' h' b->∀o,S2 b o=S' b o:=fun b hb o=>acE hb;have hS2y:∀b,cQ β' h' b->∀o,S2 b o=w'.cell? ⟨b,o,none⟩:=fun b hb o=>acL hb;have hle:S'.le S2:=by
  intro b o v hv;by_cases hb:cQ β' h' b
  ·obtain⟨l,cs,n,h1,h2,h3⟩:=hb;obtain⟨b',x,k1,k2,k3,k5⟩:=hH.own h1 h2
   grind
  ·grind
 have hrow:∀b,b<w.heap.size->w'.heap[b]? = w.heap[b]? /\∀o,S2 b o=S b o:=by
  intro b hb;have hk:=L.keep b hb (hE b);refine⟨hk.1,fun o=>?_⟩;rw[hS2n b (fun ho=>qr)];exact hk.2 o
 have hwf:Wf S2 w':=by
  intro b o v hv;by_cases hb:cQ β' h' b
  ·grind
  ·rw[hS2n b hb]at hv;exact L.wf b o v hv
 obtain⟨hlen0,ω0,hH0⟩:=hh;have hlt0:∀b,cQ β h b->b<w.heap.size:=by
  rintro b ⟨l,cs,n,h1,h2,h3⟩;obtain⟨b',x,k1,k2,_⟩:=hH0.own h1 h2;rw[h3]at k1;cases k1;exact k2
 have hle0:S.le S2:=az.le_trans L.le hle;refine⟨S2,⟨hle0,ig.refl β,hwf,L.gro,fun b hb _=>hrow b hb,⟨hlen0,ω0,hH0.rows hle0 (ig.refl β) hlen0 fun l cs hl _=>.inl ⟨hl,fun b hb ho=>⟨ho,(hrow b hb).1,fun o h=>qr⟩⟩⟩,fun b hb=>.inl hb⟩,fun a v hv=>ym hH hle (fun b o x hb hr=>?_) 6 a v hv,fun sz v=>?_⟩
 ·rw[hS2y b hb,hr.cell]
 ·rintro⟨ad,len,cap,k1,k2,k3,k4⟩;refine⟨ad,len,cap,k1,k2,k3,k4.imp id ?_⟩
  grind
theorem Nm{w w':World}{h:Hp}{own:Option Nat}{m:List AV->M AV}{args:List AV}{en:Ending}(hw:Wf S w)(hh:dm S β w h)(hp:eS own S [] [] w (m (eB ai args) []) en w'):eS own S β h w (Ad m args h) en w':=by
 have key:=fun{S':az} {β':List bQ} {h':Hp} (L:Left (cQ [] []) S [] w S' β' w' h')=>Jt hw hh (by rintro b ⟨l,cs,n,h1,_⟩;simp at h1) L;unfold Ad;cases hm:m (eB ai args) []with
 |fail=>rw[hm]at hp;exact hp.elim
 |ok r h'=>
  rw[hm]at hp;obtain⟨S',β',v,h1,h2,h3,h4⟩:=hp;obtain⟨S2,k1,k2,k3⟩:=key h3;exact⟨S2,β,v,h1,k2 r v h2,k1,fun sz hsz=>k3 sz v (h4 sz hsz)⟩
 |pan r h'=>
  rw[hm]at hp;obtain⟨S',β',v,h1,h2,h3⟩:=hp;obtain⟨S2,k1,k2,k3⟩:=key h3;exact⟨S2,β,v,h1,k2 r v h2,k1⟩
structure GoodPg (P:Program) (p:Pg):Prop where
 tok:TOK P p.T
 funcs:∀f fn a,p.funcs f=some (fn,a)->P.funcs[f]? = some fn/\(fn.name== "runtime.NumGoroutine")=false
 other:∀f E,p.other f=some E->∀call,eh P p.own call->∀(args:List AV)(h:Hp)(S:az)(β:List bQ)(w:World)(vs:List Value),E call args h≠.fail->xg S β h w->Wf S w->dm S β w h->be S β args vs->
  Calls P f vs.toArray w (eS (p.own f) S β h w (E call args h))/\(P.funcs[f]?).any (fun fn=>fn.body.isSome&&!(fn.name== "runtime.NumGoroutine"))=true
 nw:∀f,p.nw f=true->∃E,p.other f=some E/\∀call args,D9 (E call args)
omit [Dr]in
theorem dm.nil{w:World}:dm S [] w []:=⟨rfl,fun _=>.no,fun l cs hl=>by simp at hl⟩
theorem EP{P:Program}{p:Pg}(G:GoodPg P p)(m:Nat){call:FuncId->List AV->M AV}(hC:eh P p.own call)(hI:∀n a,IsoCall (p.cx call n a)):eh P p.own (lD p call (dV m)):=by
 intro f args h S β w vs hr hg hw hh hv;unfold lD at hr |-;cases ho:p.other f with
 |some E=>rw[ho]at hr;exact G.other f E ho call hC args h S β w vs hr hg hw hh hv
 | none=>
  rw[ho]at hr;simp only at hr |-;cases hf:p.funcs f with
  |none=>rw[hf]at hr;exact absurd rfl hr
  | some x=>
   obtain⟨fn,a⟩:=x;rw[hf]at hr;simp only at hr |-;obtain⟨hf1,hf2⟩:=G.funcs f fn a hf
   have hany:fn.body.isSome=true->(P.funcs[f]?).any (fun fn=>fn.body.isSome&&!(fn.name== "runtime.NumGoroutine"))=true:=by
    intro hb;rw[hf1];simp only[Option.any_some,hb,hf2,adG,aea]
   cases hi:a.iso with
   |false=>
    rw[hi]at hr;simp only[acO]at hr |-;obtain⟨h1,h2⟩:=mz (cx:=p.cx call fn.ntmps a) G.tok hC (hI _ _) m hf1 rfl hr hg hw hh hv
    grind
   | true=>
    rw[hi]at hr;simp only[acD]at hr |-;have hr':cj (p.cx call fn.ntmps a) (dV m) fn (p.own f) (eB ai args) []≠.fail:=by
     intro hf;unfold Ad at hr;rw[hf]at hr;exact hr rfl
    obtain⟨h1,h2⟩:=mz (cx:=p.cx call fn.ntmps a) G.tok hC (hI _ _) m hf1 rfl hr' ⟨hg.1,fun b _ hb=>by obtain⟨l,_,_,h1,_⟩:=hb;simp at h1,hg.2.2⟩ hw dm.nil (Mv hv);exact⟨h1.mono fun en w' hp=>Nm hw hh hp,hany h2⟩
omit [Dr]in
theorem Hy(p:Pg)(hN:∀f,p.nw f=true->∃E,p.other f=some E/\∀call args,D9 (E call args)):∀n k a,IsoCall (p.cx (dQ p n) k a)
 |0,k,a=>⟨fun f args _=>⟨none,fun _=>rfl⟩,fun f args _ h v h' hh=>by cases hh⟩
 | n+1,k,a=>by
  refine⟨?_,fun f args hf=>?_⟩
  case refine_2=>
   obtain⟨E,hE,hn⟩:=hN f hf;have:(p.cx (dQ p (n+1)) k a).call f args=E (dQ p n) args:=by
    show lD p (dQ p n) (dV n) f args=_;unfold lD;rw[hE]
   grind
  intro f args hi;have hi':p.iso f=true:=hi;unfold Pg.iso at hi';cases ho:p.other f with
  |some E=>grind
  | none=>
   rw[ho]at hi';simp only at hi';cases hf:p.funcs f with
   |none=>grind
   |some x=>
    obtain⟨fn,b⟩:=x;rw[hf]at hi';simp only at hi';refine⟨match cj (p.cx (dQ p n) fn.ntmps b) (dV n) fn (p.own f) (eB ai args) []with|.ok r h'=>some (true,jt 6 h' r)|.pan v h'=>some (false,jt 6 h' v)|.fail=>none,fun h=>?_⟩;show lD p (dQ p n) (dV n) f args h=_;unfold lD;rw[ho];simp only;rw[hf];simp only[hi',acD,Ad]
    grind
theorem tf{P:Program}{p:Pg}(G:GoodPg P p):∀n,eh P p.own (dQ p n)
 |0=>fun _f _args _h _S _β _w _vs hr=>absurd rfl hr
 |n+1=>EP G n (tf G n) fun k a=>Hy p G.nw n k a
end Go.Av
namespace Go.Av
variable {α:Type}
def vA(a:R α)(b:Nat->R α):Prop:=(a≠.fail->∃N,∀n,N<=n->b n=a)/\∀n,b n≠.fail->b n=a
def dz(m:M α)(ms:Nat->M α):Prop:=∀h,vA (m h) fun n=>ms n h
def cB{β:Type}(f:β->M α)(fs:Nat->β->M α):Prop:=∀x,dz (f x) fun n=>fs n x
theorem vA.const(a:R α):vA a fun _=>a:=⟨fun _=>⟨0,fun _ _=>rfl⟩,fun _ _=>rfl⟩
def fo(m:M α):dz m fun _=>m:=fun _=>.const _
theorem cB.const{β:Type}(f:β->M α):cB f fun _=>f:=fun _=>fo _
def dz.bnd{β:Type}{m:M α}{ms:Nat->M α}{f:α->M β}{fs:Nat->α->M β}(hm:dz m ms)(hf:cB f fs):dz (aG m f) fun n=>aG (ms n) (fs n):=by
 intro h;obtain⟨h1,h2⟩:=hm h
 (try dsimp only at h1 h2)
 refine⟨fun hne=>?_,fun n hne=>?_⟩
 ·have hne':m h≠.fail:=fun hf=>by simp only[Av.aG]at hne;grind
  obtain⟨N,hN⟩:=h1 hne';cases hmh:m h with
  |fail=>grind
  |pan v x=>
   refine⟨N,fun n hn=>?_⟩
   grind [Av.aG]
  |ok a x=>
   have hne2:f a x≠.fail:=fun hf=>by grind [Av.aG]
   obtain⟨N2,hN2⟩:=(hf a x).1 hne2;refine⟨max N N2,fun n hn=>?_⟩
   grind [Av.aG]
 ·(try dsimp only at hne |-)
  simp only[Av.aG]at hne |-;have hne':ms n h≠.fail:=fun hf=>qr
  rw[<- h2 n hne'];cases hmh:ms n h with
  |fail=>grind
  |pan v x=>rfl
  |ok a x=>
   rw[hmh]at hne;exact (hf a x).2 n hne
def D5(m m':M α):Prop:=∀h,m h≠.fail->m h=m' h
def D5.lim{m m':M α}(h:D5 m m'):dz m' fun n=>if n=0 then m else m':=by
 intro x;refine⟨fun _=>⟨1,fun n hn=>qr⟩,fun n hne=>?_⟩
 (try dsimp only at hne |-)
 by_cases h0:n=0
 ·rw[acL h0]at hne |-;exact h x hne
 grind
def dz.le{m:M α}{ms:Nat->M α}(h:dz m ms)(n:Nat):D5 (ms n) m:=fun x hne=>(h x).2 n hne
section
variable {ρ:Type}
def Ar(F:(List AV->M ρ)->List AV->M ρ)(Fs:Nat->(List AV->M ρ)->List AV->M ρ):Prop:=∀self selfs,cB self selfs->cB (F self) fun n=>Fs n (selfs n)
def rB(F:(List AV->M ρ)->List AV->M ρ):Prop:=Ar F fun _=>F
def uk(fx:jW ρ)(fxs:Nat->jW ρ):Prop:=∀F Fs,Ar F Fs->rB F->(∀n,rB (Fs n))->cB (fx F) fun n=>fxs n (Fs n)
def D6(fx:jW ρ):Prop:=uk fx fun _=>fx
theorem rB.mono{F:(List AV->M ρ)->List AV->M ρ}(hF:rB F){s s':List AV->M ρ}(h:∀vs,D5 (s vs) (s' vs)):∀vs,D5 (F s vs) (F s' vs):=by
 intro vs x hne;have hl:cB s' (fun n=>if n=0 then s else s'):=by
  intro vs x;refine⟨fun _=>⟨1,fun n hn=>?_⟩,fun n hne=>?_⟩
  ·grind
  ·(try dsimp only at hne |-)
   by_cases h0:n=0
   ·rw[acL h0]at hne |-;exact h vs x hne
   grind
 have h0:=(hF s' _ hl vs x).2 0
 grind
theorem uF{F:(List AV->M ρ)->List AV->M ρ}(hF:rB F):∀n vs,D5 (dV n F vs) (dV (n+1) F vs)
 |0,_vs=>fun _x hne=>absurd rfl hne
 |n+1,vs=>hF.mono (uF hF n) vs
theorem D5.trans{a b c:M α}(h:D5 a b)(g:D5 b c):D5 a c:=fun x hne=>by
 have:=h x hne
 rw[this];exact g x (this▸hne)
theorem D5.refl(a:M α):D5 a a:=fun _ _=>rfl
theorem yb{F:(List AV->M ρ)->List AV->M ρ}(hF:rB F){n m:Nat}(h:n<=m)(vs:List AV):D5 (dV n F vs) (dV m F vs):=by
 induction m with
 | zero => have:n=0:=WD
           subst this;exact .refl _
 |succ m ih=>
  by_cases hn:n=m+1
  ·subst hn;exact .refl _
  ·exact (ih WD).trans (uF hF m vs)
open Classical in
noncomputable def ae(F:(List AV->M ρ)->List AV->M ρ)(vs:List AV):M ρ:=fun h=>if hx:∃n,dV n F vs h≠.fail then dV (Classical.choose hx) F vs h else .fail
theorem AP{b:Nat->R ρ}(hmono:∀n m,n<=m->b n≠.fail->b n=b m){a:R ρ}(ha:(∃n,b n≠.fail/\a=b n)\/(∀n,b n= .fail)/\a= .fail):vA a b:=by
 rcases ha with⟨n,hn,rfl⟩|⟨hn,rfl⟩
 ·refine⟨fun _=>⟨n,fun m hm=>(hmono n m hm hn).symm⟩,fun m hm=>?_⟩
  grind
 ·exact⟨fun h=>absurd rfl h,fun n h=>absurd (hn n) h⟩
theorem kS{F:(List AV->M ρ)->List AV->M ρ}(hF:rB F):cB (ae F) fun n=>dV n F:=by
 intro vs h;refine AP (fun n m hnm hne=>yb hF hnm vs h hne) ?_;unfold ae;by_cases hx:∃n,dV n F vs h≠.fail
 all_goals grind
theorem tm{F:(List AV->M ρ)->List AV->M ρ}{Fs:Nat->(List AV->M ρ)->List AV->M ρ}(h1:Ar F Fs)(n:Nat):∀k vs,D5 (dV k (Fs n) vs) (dV k F vs)
 |0,vs=>.refl _
 | k+1,vs=>by
  have ih:=tm h1 n k;have hl:cB (dV k F) fun m=>if m=n then dV k (Fs n)else dV k F:=by
   intro vs h;refine⟨fun _=>⟨n+1,fun m hm=>qr⟩,fun m hne=>?_⟩
   (try dsimp only at hne |-)
   by_cases hm:m=n
   ·rw[acL hm]at hne |-;exact ih vs h hne
   ·rw[acE hm]
  intro x hne
  have:=(h1 _ _ hl vs x).2 n
  (try dsimp only at this)
  rw[acL rfl]at this;exact this hne
theorem qe{F:(List AV->M ρ)->List AV->M ρ}{Fs:Nat->(List AV->M ρ)->List AV->M ρ}(h1:Ar F Fs):∀k,cB (dV k F) fun n=>dV k (Fs n)
 |0=>fun _ _=>.const _
 |k+1=>h1 _ _ (qe h1 k)
theorem vR:uk (ae (ρ:=ρ)) fun n=>dV n:=by
 intro F Fs h1 hF hFs vs h;refine⟨fun hne=>?_,fun n hne=>?_⟩
 ·obtain⟨N,hN⟩:=(kS hF vs h).1 hne;have hN':=hN N (acC _)
  (try dsimp only at hN')
  obtain⟨N2,hN2⟩:=(qe h1 N vs h).1 qr;refine⟨max N N2,fun n hn=>?_⟩;have h3:=hN2 n WD
  (try dsimp only at h3 |-)
  rw[<- yb (hFs n) (show N<=n by omega) vs h qr,h3,hN']
 ·(try dsimp only at hne |-)
  have h2:=tm h1 n n vs h hne;rw[h2];exact (kS hF vs h).2 n qr
theorem HF:D6 (ae (ρ:=ρ)):=by
 intro F Fs h1 hF hFs vs h;refine⟨fun hne=>?_,fun n hne=>?_⟩
 ·obtain⟨N,hN⟩:=(kS hF vs h).1 hne;have hN':=hN N (acC _)
  (try dsimp only at hN')
  obtain⟨N2,hN2⟩:=(qe h1 N vs h).1 qr;refine⟨N2,fun n hn=>?_⟩;have h3:=hN2 n hn
  (try dsimp only at h3 |-)
  have:=(kS (hFs n) vs h).2 N qr
  grind
 ·(try dsimp only at hne |-)
  obtain⟨N,hN⟩:=(kS (hFs n) vs h).1 hne;have hN':=hN N (acC _)
  (try dsimp only at hN')
  have h2:=tm h1 n N vs h qr;rw[<- hN',h2];exact (kS hF vs h).2 N qr
theorem r7(m:Nat):D6 (dV (α:=ρ) m):=fun _F _Fs h1 _hF _hFs=>qe h1 m
theorem EU(m:Nat):uk (dV (α:=ρ) (m+1)) fun n=>if n=0 then dV m else dV (m+1):=by
 intro F Fs h1 hF hFs vs h;refine⟨fun hne=>?_,fun n hne=>?_⟩
 ·obtain⟨N,hN⟩:=(qe h1 (m+1) vs h).1 hne;refine⟨max N 1,fun n hn=>?_⟩
  grind
 ·(try dsimp only at hne |-)
  by_cases h0:n=0
  ·rw[acL h0]at hne |-;exact ((tm h1 n m vs).trans (uF hF m vs)) h hne
  ·rw[acE h0]at hne |-;exact tm h1 n (m+1) vs h hne
end
def Cx.wc(cx:Cx)(call:FuncId->List AV->M AV):Cx:={ cx with call }
def li(A:Act1)(As:Nat->Act1):Prop:=
 (∀n,As n=A)\/∃m ms sh,A= .dyn m sh/\(∀n,As n= .dyn (ms n) sh)/\dz m ms
section
variable {ρ:Type} {cx:Cx} {call:FuncId->List AV->M AV} {calls:Nat->FuncId->List AV->M AV}
theorem Ig(hc:∀f,cB (call f) fun n=>calls n f)(e:Env)(gid:Nat)(o:Oper)(c:Call):li (jg (cx.wc call) e gid o c) fun n=>jg (cx.wc (calls n)) e gid o c:=by
 unfold jg;cases c.callee with
 |invoke r m=>exact .inl fun n=>rfl
 |builtin b=>cases b<;>exact .inl fun n=>rfl
 | value x=>
  have hv:li (.dyn (ba call (opnd e x) (c.args.toList.map (opnd e))) .ofV) fun n=>.dyn (ba (calls n) (opnd e x) (c.args.toList.map (opnd e))) .ofV:=by
   refine .inr ⟨_,_,_,rfl,fun n=>rfl,?_⟩;unfold ba;split
   ·exact hc _ _
   ·exact fo _
  cases x with
  | func f=>
   have h0:li (.dyn (call f (c.args.toList.map (rI (bX cx.ann.hb o.dst) e))) fun v=>match cx.own f with|some sz=>.own v gid (some sz)|none=>.ofV v) fun n=>.dyn (calls n f (c.args.toList.map (rI (bX cx.ann.hb o.dst) e))) fun v=>match cx.own f with|some sz=>.own v gid (some sz)|none=>.ofV v:=
    .inr ⟨_,_,_,rfl,fun n=>rfl,hc _ _⟩
   have key2:∀(b:Bool)(A B:Act1)(As Bs:Nat->Act1),li A As->li B Bs->li (bif b then A else B) fun n=>bif b then As n else Bs n:=by
    intro b A B As Bs hA hB;cases b with
    |true=>exact hA
    |false=>exact hB
   have key:∀b:Bool,li (bif b then .dyn (aG (call f (c.args.toList.map (opnd e))) (bif bX cx.ann.hl o.dst then tw else Jm)) .ofV else .bad) fun n=>bif b then .dyn (aG (calls n f (c.args.toList.map (opnd e))) (bif bX cx.ann.hl o.dst then tw else Jm)) .ofV else .bad:=by
    intro b;cases b with
    |false=>exact .inl fun n=>rfl
    |true=>exact .inr ⟨_,_,_,rfl,fun n=>rfl,(hc _ _).bnd (cB.const _)⟩
   have h1:li (match kR cx.ann.cm o.dst with
     |some (m,r)=>bif !(cx.iso f)&&(cx.own f).isNone then .dyn (lG m r (call f (c.args.toList.map (opnd e)))) .ofV else .bad
     |none=>.dyn (call f (c.args.toList.map (rI (bX cx.ann.hb o.dst) e))) fun v=>match cx.own f with|some sz=>.own v gid (some sz)|none=>.ofV v) fun n=>match kR cx.ann.cm o.dst with
     |some (m,r)=>bif !(cx.iso f)&&(cx.own f).isNone then .dyn (lG m r (calls n f (c.args.toList.map (opnd e)))) .ofV else .bad
     |none=>.dyn (calls n f (c.args.toList.map (rI (bX cx.ann.hb o.dst) e))) fun v=>match cx.own f with|some sz=>.own v gid (some sz)|none=>.ofV v:=by
    cases kR cx.ann.cm o.dst with
    |none=>exact h0
    | some x=>
     obtain⟨m,r⟩:=x;refine key2 _ _ _ _ _ (.inr ⟨_,_,_,rfl,fun n=>rfl,?_⟩) (.inl fun n=>rfl);intro x;obtain⟨k1,k2⟩:=hc f (c.args.toList.map (opnd e)) x;refine⟨fun hne=>?_,fun n hne=>?_⟩
     ·obtain⟨N,hN⟩:=k1 (fun hh=>hne (by unfold lG;rw[hh]));refine⟨N,fun n hn=>?_⟩
      grind [lG]
     grind [lG]
   exact key2 (bX cx.ann.fz o.dst) _ _ _ _ (key (!(cx.iso f)&&(cx.own f).isNone)) h1
  |tmp t=>exact hv
  |const t=>exact hv
  |global t=>exact hv
theorem JF(hc:∀f,cB (call f) fun n=>calls n f)(e:Env)(gid:Nat)(o:Oper):li (iK (cx.wc call) e gid o) fun n=>iK (cx.wc (calls n)) e gid o:=by
 unfold iK;cases o.op<;>first|exact .inl fun n=>rfl|exact Ig hc e gid o _
theorem IG{A:Act1}{As:Nat->Act1}(h:li A As):li (ly A) fun n=>ly (As n):=by
 rcases h with h|⟨m,ms,sh,rfl,h2,h3⟩
 ·exact .inl fun n=>qr
 ·exact .inr ⟨m,ms,_,rfl,fun n=>by(try dsimp only);rw[h2];rfl,h3⟩
theorem Kw{A:Act1}{As:Nat->Act1}(h:li A As){k:Env->M ρ}{ks:Nat->Env->M ρ}(hk:cB k ks)(e:Env)(d:Option Tmp):dz (td e d A k) fun n=>td e d (As n) (ks n):=by
 rcases h with h|⟨m,ms,sh,rfl,h2,h3⟩
 ·have:(fun n=>td e d (As n) (ks n))=fun n=>td e d A (ks n):=by funext n;rw[h]
  rw[this];cases A with
  |bad=>exact fo _
  |stat u=>exact hk _
  |dyn m sh=>exact (fo m).bnd fun v=>hk _
  |thr v=>exact fo _
 ·have:(fun n=>td e d (As n) (ks n))=fun n=>td e d (.dyn (ms n) sh) (ks n):=by funext n;rw[h2]
  rw[this];exact h3.bnd fun v=>hk _
theorem uB(hc:∀f,cB (call f) fun n=>calls n f)(base:Nat)(ops:Array Oper)(st:Bool):∀(is:List Nat)(e:Env)(k:Env->M ρ)(ks:Nat->Env->M ρ),cB k ks->
  dz (nv (cx.wc call) base ops st is e k) fun n=>nv (cx.wc (calls n)) base ops st is e (ks n)
 |[],e,k,ks,hk=>hk e
 | i:: is,e,k,ks,hk=>by
  simp only[nv];cases ops[i]? with
  |none=>exact fo _
  |some o=>
   simp only;refine Kw ?_ (fun e'=>uB hc base ops st is e' k ks hk) e o.dst;cases st with
   |true=>exact IG (JF hc e _ o)
   |false=>exact JF hc e _ o
theorem yw{c:AV}{want:Bool}{k:Nat}{m:M (List AV)}{ms:Nat->M (List AV)}(h:dz m ms):dz (dI c want k m) fun n=>dI c want k (ms n):=by
 unfold dI;cases c with
 |bool b=>
  simp only;cases b== want with
  |true=>exact h
  |false=>exact fo _
 |tup vs=>cases vs<;>exact fo _
 |_=>exact fo _
theorem oW(hc:∀f,cB (call f) fun n=>calls n f)(base:Nat)(ops:Array Oper):∀(gs:List (Option (Nat×Bool)×List Nat))(e:Env)(k:Env->M ρ)(ks:Nat->Env->M ρ),cB k ks->
  dz (gn (cx.wc call) base ops gs e k) fun n=>gn (cx.wc (calls n)) base ops gs e (ks n)
 |[],e,k,ks,hk=>hk e
 |(none,is):: gs,e,k,ks,hk=>by
  simp only[gn];exact uB hc base ops false is e _ _ fun e'=>oW hc base ops gs e' k ks hk
 | (some (j,want),is):: gs,e,k,ks,hk=>by
  simp only[gn];cases dT ops j with
  |none=>exact fo _
  | some t=>
   simp only;have hp:∀c,(is.all fun i=>match ops[i]? with|some o=>iy (cx.wc c) o&&o.dst.isSome|none=>false)=(is.all fun i=>match ops[i]? with|some o=>iy cx o&&o.dst.isSome|none=>false):=fun c=>rfl;have key:∀b:Bool,dz (bif b then aG (dI (e.av t) want (fg ops is gs).length (nv (cx.wc call) base ops true is e fun e'=>bif (fg ops is gs).all (fun t=>sk (e'.get t))then ao ((fg ops is gs).map e'.av)else gk)) fun vs=>
     gn (cx.wc call) base ops gs (jU (forget e (eu ops is)) vs 0 (fg ops is gs)) k else gk) fun n=>(bif b then aG (dI (e.av t) want (fg ops is gs).length (nv (cx.wc (calls n)) base ops true is e fun e'=>bif (fg ops is gs).all (fun t=>sk (e'.get t))then ao ((fg ops is gs).map e'.av)else gk)) fun vs=>
     gn (cx.wc (calls n)) base ops gs (jU (forget e (eu ops is)) vs 0 (fg ops is gs)) (ks n)else gk):=by
    intro b;cases b with
    |false=>exact fo _
    |true=>exact (yw (uB hc base ops true is e _ _ (cB.const _))).bnd fun vs=>oW hc base ops gs _ k ks hk
   exact key _
theorem BI{m:M α}{ms:Nat->M α}(h:dz m ms):dz (gP m) fun n=>gP (ms n):=by
 intro x;obtain⟨h1,h2⟩:=h x;refine⟨fun hne=>?_,fun n hne=>?_⟩
 ·have hne':m x≠.fail:=fun hf=>hne (by simp only[gP,hf]);obtain⟨N,hN⟩:=h1 hne';exact⟨N,fun n hn=>by grind [gP]⟩
 grind [gP]
theorem Hm(hc:∀f,cB (call f) fun n=>calls n f):∀f,cB ((iF (cx.wc call)).call f) fun n=>(iF (cx.wc (calls n))).call f:=by
 intro f args;show dz (bif cx.iso f then gP (call f args)else call f args) fun n=>(bif cx.iso f then gP (calls n f args)else calls n f args);cases cx.iso f with
 |true=>exact BI (hc f args)
 |false=>exact hc f args
theorem Ni(c:FuncId->List AV->M AV)(ops:Array Oper)(i j:Nat):tA (cx.wc c) ops i j=tA cx ops i j:=rfl
theorem yZ(c:FuncId->List AV->M AV)(ops:Array Oper)(bf:List Nat):∀l,pk (cx.wc c) ops bf l=pk cx ops bf l
 |[]=>rfl
 |i:: is=>by simp only[pk,yZ c ops bf is,Ni]
theorem Ku(c:FuncId->List AV->M AV)(ops:Array Oper)(ord:List Nat):rU (cx.wc c) ops ord=rU cx ops ord:=by
 unfold rU;rw[yZ]
theorem Kx(hc:∀f,cB (call f) fun n=>calls n f)(id:Nat)(ops:Array Oper)(draw:Bool)(e:Env){k:Env->M ρ}{ks:Nat->Env->M ρ}(hk:cB k ks):
  dz (vM (cx.wc call) id ops draw e k) fun n=>vM (cx.wc (calls n)) id ops draw e (ks n):=by
 unfold vM;simp only[Ku];have hk':cB (fun e':Env=>k { e' with nx:=e.nx+ops.size }) fun n e'=>ks n { e' with nx:=e.nx+ops.size }:=fun e'=>hk _;have key:∀b1 b2:Bool,dz (bif b1 then(bif draw then(bif b2 then gn (iF (cx.wc call)) e.nx ops (fF ops (BN cx id ops.size)) e fun e'=>k { e' with nx:=e.nx+ops.size }else gk)
   else gn (cx.wc call) e.nx ops (fF ops (List.range ops.size)) e fun e'=>k { e' with nx:=e.nx+ops.size })else gk) fun n=>(bif b1 then(bif draw then(bif b2 then gn (iF (cx.wc (calls n))) e.nx ops (fF ops (BN cx id ops.size)) e fun e'=>ks n { e' with nx:=e.nx+ops.size }else gk)
   else gn (cx.wc (calls n)) e.nx ops (fF ops (List.range ops.size)) e fun e'=>ks n { e' with nx:=e.nx+ops.size })else gk):=by
  intro b1 b2;cases b1 with
  |false=>exact fo _
  | true=>
   cases draw with
   |false=>exact oW hc _ _ _ _ _ _ hk'
   |true=>
    cases b2 with
    |false=>exact fo _
    |true=>exact oW (cx:=cx) (call:=(iF (cx.wc call)).call) (calls:=fun n=>(iF (cx.wc (calls n))).call) (Hm hc) _ _ _ _ _ _ hk'
 exact key (od cx.nt ops) (rU cx ops (BN cx id ops.size))
theorem MC{ps:List Nat}{k:Nat->M ρ}{ks:Nat->Nat->M ρ}(h:∀q,dz (k q) fun n=>ks n q):dz (CN ps k) fun n=>CN ps (ks n):=by
 intro x;cases ps with
 |nil=>exact fo (CN [] k) x
 | cons p ps=>
  unfold CN;simp only;refine⟨fun hne=>?_,fun n hne=>?_⟩
  ·by_cases hall:∀q∈ps,k q x=k p x
   ·rw[acL hall]at hne |-;have hN:∀l:List Nat,(∀q∈l,k q x=k p x)->∃N,∀n,N<=n->∀q∈l,ks n q x=k p x:=by
     intro l
     induction l with
     |nil=>simp_all
     |cons q l ih=>
      intro hl;obtain⟨N1,h1⟩:=ih fun q hq=>hl q (by simp[hq]);have hq:=hl q AI;obtain⟨N2,h2⟩:=(h q x).1 qr;refine⟨max N1 N2,fun n hn r hr=>?_⟩
      grind
    obtain⟨N,h1⟩:=hN (p:: ps) (fun q hq=>qr);refine⟨N,fun n hn=>?_⟩
    grind
   grind
  ·(try dsimp only at hne |-)
   by_cases hall:∀q∈ps,ks n q x=ks n p x
   ·rw[acL hall]at hne |-;have hp:=(h p x).2 n hne
    (try dsimp only at hp)
    have hq:∀q∈ps,k q x=k p x:=fun q hq=>by
     have:=(h q x).2 n qr
     grind
    grind
   grind
theorem Ia(x:AV)(y:Hp):(∃h',∀kf kt:M ρ,sF x kf kt y=kf h')\/
  (∃(ps:List Nat)(g:Nat->Hp->Hp),∀kf kt:M ρ,sF x kf kt y=CN ps (fun q h=>kt (g q h)) y)\/∀kf kt:M ρ,sF x kf kt y= .fail:=by
 cases x with
 | it l=>
  cases hl:y[l]? with
  |none=>grind [sF]
  | some cs=>
   by_cases h1:cs=[.tup [],.nilm]
   ·left;subst h1;exact⟨y.set l [],fun kf kt=>by simp only[sF,hl]⟩
   ·by_cases h2:∃m n qs cu,cs=[.tup [],.mp m,.int .i64 n,.sl qs,cu]
    ·obtain⟨m,n,qs,cu,rfl⟩:=h2;by_cases h3:∃es,y[m]? = some [.tup es]/\(es.length:Int)=n
     ·obtain⟨es,hm,hn⟩:=h3;cases hq:qs.map JC with
      |nil=>left;exact⟨y.set l [],fun kf kt=>by simp only[sF,hl,hm,acL hn,hq]⟩
      |cons p ps=>
       right;left;exact⟨p:: ps,fun q h=>h.set l [.tup [],.mp m,.int .i64 n,FV ((p:: ps).filter fun r=>!(Nat.beq r q)),.int .i64 (q:Nat)],fun kf kt=>by simp only[sF,hl,hm,acL hn,hq]⟩
     ·right;right;intro kf kt;simp only[sF,hl]
      grind
    grind [sF]
 |_=>right;right;intro kf kt;rfl
theorem NT{kf kt:M ρ}{kfs kts:Nat->M ρ}(h1:dz kf kfs)(h2:dz kt kts)(x:AV):dz (sF x kf kt) fun n=>sF x (kfs n) (kts n):=by
 intro y;rcases Ia (ρ:=ρ) x y with⟨h',hk⟩|⟨ps,g,hk⟩|hk
 ·simp only[hk];exact h1 h'
 ·simp only[hk];exact MC (k:=fun q h=>kt (g q h)) (ks:=fun n q h=>kts n (g q h)) (fun q z=>h2 (g q z)) y
 grind [vA.const]
theorem Hz(hc:∀f,cB (call f) fun n=>calls n f)(id:Nat)(ops:Array Oper)(draw:Bool)(e:Env){k:Env->M ρ}{ks:Nat->Env->M ρ}(hk:cB k ks):
  dz (qd (cx.wc call) id ops draw e k) fun n=>qd (cx.wc (calls n)) id ops draw e (ks n):=by
 unfold qd;cases yR ops draw with
 |none=>exact Kx hc id ops draw e hk
 | some q=>
  obtain⟨p,d,q⟩:=q;have key:∀b:Bool,dz (bif b then sF (e.av p) (k ((e.set d Ent.none).set q ⟨.val (.bool false),none⟩)) (k ((e.set d Ent.none).set q ⟨.val (.bool true),none⟩))else gk)
    fun n=>(bif b then sF (e.av p) (ks n ((e.set d Ent.none).set q ⟨.val (.bool false),none⟩)) (ks n ((e.set d Ent.none).set q ⟨.val (.bool true),none⟩))else gk):=by
   intro b;cases b with
   |false=>exact fo _
   |true=>exact NT (hk _) (hk _) _
  exact key (decide (p<1000)&&decide (d<cx.nt)&&decide (q<cx.nt))
theorem ui{ja:JA}{j:List AV->M ρ}{js:Nat->List AV->M ρ}(h:cB j js)(e:Env):dz (zJ ja j e) fun n=>zJ ja (js n) e:=by
 unfold zJ;cases pack ja e with
 |none=>exact fo _
 |some vs=>
  simp only;cases ja.fz with
  |true=>simp only[acD];exact (fo (fzL vs)).bnd h
  |false=>exact h vs
theorem U3:∀(n:Nat)(code:Code),SizeOf.sizeOf code<n->∀(call:FuncId->List AV->M AV)(calls:Nat->FuncId->List AV->M AV)(fx:jW ρ)(fxs:Nat->jW ρ),(∀f,cB (call f) fun n=>calls n f)->uk fx fxs->D6 fx->(∀n,D6 (fxs n))->
  ∀(e:Env)(kn:Env->M ρ)(kns:Nat->Env->M ρ)(kx:Nat->Env->M ρ)(kxs:Nat->Nat->Env->M ρ)(kr:Env->M ρ)(krs:Nat->Env->M ρ),cB kn kns->(∀i,cB (kx i) fun n=>kxs n i)->cB kr krs->
  dz (ev (cx.wc call) fx code e kn kx kr) fun n=>ev (cx.wc (calls n)) (fxs n) code e (kns n) (kxs n) (krs n):=by
 intro n
 induction n with
 |zero=>grind
 | succ n ih=>
  intro code hn call calls fx fxs hc hfx hfc hfcs e kn kns kx kxs kr krs hkn hkx hkr;cases code<;>(try exact fo _)
  case skip=>exact hkn e
  case exit id=>exact hkx id e
  case ret=>exact hkr e
  case region id ops draw=>exact Hz hc id ops draw e hkn
  case seq x y=>
   have hx:SizeOf.sizeOf x<n:=by simp at hn;omega
   have hy:SizeOf.sizeOf y<n:=by simp at hn;omega
   simp only[ev];have hya:∀e,dz (ev (cx.wc call) fx y e kn kx kr) fun n=>ev (cx.wc (calls n)) (fxs n) y e (kns n) (kxs n) (krs n):=fun e=>ih y hy call calls fx fxs hc hfx hfc hfcs e kn kns kx kxs kr krs hkn hkx hkr;have key:∀oj:Option JA,dz (match oj with|some ja=>jn (fun vs=>ev (cx.wc call) fx y (unpack ja vs) kn kx kr) fun j=>ev (cx.wc call) fx x e (zJ ja j) kx kr|none=>ev (cx.wc call) fx x e (fun e'=>ev (cx.wc call) fx y e' kn kx kr) kx kr)
     fun n=>(match oj with|some ja=>jn (fun vs=>ev (cx.wc (calls n)) (fxs n) y (unpack ja vs) (kns n) (kxs n) (krs n)) fun j=>ev (cx.wc (calls n)) (fxs n) x e (zJ ja j) (kxs n) (krs n)|none=>ev (cx.wc (calls n)) (fxs n) x e (fun e'=>ev (cx.wc (calls n)) (fxs n) y e' (kns n) (kxs n) (krs n)) (kxs n) (krs n)):=by
    intro oj;cases oj with
    |none=>exact ih x hx call calls fx fxs hc hfx hfc hfcs e _ (fun n e'=>ev (cx.wc (calls n)) (fxs n) y e' (kns n) (kxs n) (krs n)) kx kxs kr krs hya hkx hkr
    |some ja=>exact ih x hx call calls fx fxs hc hfx hfc hfcs e _ (fun n=>zJ ja fun vs=>ev (cx.wc (calls n)) (fxs n) y (unpack ja vs) (kns n) (kxs n) (krs n)) kx kxs kr krs (fun e'=>ui (fun vs=>hya _) e') hkx hkr
   have h:=key (match wS x with|some t=>xW cx.ann.joins t|none=>none);exact h
  case cond o x y=>
   have hx:SizeOf.sizeOf x<n:=by simp at hn;omega
   have hy:SizeOf.sizeOf y<n:=by simp at hn;omega
   cases o<;>(try exact fo _)
   case const v=>
    simp only[ev];cases cA v with
    |bool b=>
     cases b with
     |true=>exact ih x hx call calls fx fxs hc hfx hfc hfcs e kn kns kx kxs kr krs hkn hkx hkr
     |false=>exact ih y hy call calls fx fxs hc hfx hfc hfcs e kn kns kx kxs kr krs hkn hkx hkr
    |_=>exact fo _
   rename_i t;simp only[ev];cases decide (t<1000)with
   |false=>exact fo _
   | true=>
    simp only[acD];cases e.av t with
    |bool b=>
     cases b with
     |true=>exact ih x hx call calls fx fxs hc hfx hfc hfcs e kn kns kx kxs kr krs hkn hkx hkr
     |false=>exact ih y hy call calls fx fxs hc hfx hfc hfcs e kn kns kx kxs kr krs hkn hkx hkr
    |_=>exact fo _
  case block id code=>
   have hbx:∀(kx:Nat->Env->M ρ)(kxs:Nat->Nat->Env->M ρ)(kn:Env->M ρ)(kns:Nat->Env->M ρ),(∀i,cB (kx i) fun n=>kxs n i)->cB kn kns->∀i,cB (fun e'=>bif Nat.beq i id then kn e' else kx i e') fun n e'=>bif Nat.beq i id then kns n e' else kxs n i e':=by
    intro kx kxs kn kns hkx hkn i e'
    (try dsimp only)
    cases Nat.beq i id with
    |true=>exact hkn e'
    |false=>exact hkx i e'
   by_cases hcl:∃b,code= .loop b
   ·obtain⟨b,rfl⟩:=hcl;have hb:SizeOf.sizeOf b<n:=by simp at hn;omega
    have key:∀oj:Option JA,dz (match oj with|none=>gk|some ja=>zJ ja (fx fun self vs=>ev (cx.wc call) fx b (unpack ja vs) (zJ ja self) (fun i e'=>bif Nat.beq i id then kn e' else kx i e') kr) e)
      fun n=>(match oj with|none=>gk|some ja=>zJ ja (fxs n fun self vs=>ev (cx.wc (calls n)) (fxs n) b (unpack ja vs) (zJ ja self) (fun i e'=>bif Nat.beq i id then kns n e' else kxs n i e') (krs n)) e):=by
     intro oj;cases oj with
     |none=>exact fo _
     | some ja=>
      refine ui (hfx _ (fun n self vs=>ev (cx.wc (calls n)) (fxs n) b (unpack ja vs) (zJ ja self) (fun i e'=>bif Nat.beq i id then kns n e' else kxs n i e') (krs n)) ?_ ?_ ?_) e
      ·intro self selfs hs vs;exact ih b hb call calls fx fxs hc hfx hfc hfcs (unpack ja vs) _ (fun n=>zJ ja (selfs n)) _ (fun n i e'=>bif Nat.beq i id then kns n e' else kxs n i e') kr krs (fun e'=>ui hs e') (hbx kx kxs kn kns hkx hkn) hkr
      ·intro self selfs hs vs;exact ih b hb call (fun _=>call) fx (fun _=>fx) (fun f=>cB.const _) hfc hfc (fun _=>hfc) (unpack ja vs) _ (fun n=>zJ ja (selfs n)) _ (fun n i e'=>bif Nat.beq i id then kn e' else kx i e') kr (fun _=>kr) (fun e'=>ui hs e') (fun i=>cB.const _) (cB.const _)
      ·intro m self selfs hs vs;exact ih b hb (calls m) (fun _=>calls m) (fxs m) (fun _=>fxs m) (fun f=>cB.const _) (hfcs m) (hfcs m) (fun _=>hfcs m) (unpack ja vs) _ (fun n=>zJ ja (selfs n)) _ (fun n i e'=>bif Nat.beq i id then kns m e' else kxs m i e') (krs m) (fun _=>krs m) (fun e'=>ui hs e') (fun i=>cB.const _) (cB.const _)
    exact key (xW cx.ann.loops id)
   ·have hs:SizeOf.sizeOf code<n:=by simp at hn;omega
    have hev:∀(cx:Cx)(fx:jW ρ)(kn:Env->M ρ)(kx:Nat->Env->M ρ)(kr:Env->M ρ),ev cx fx (.block id code) e kn kx kr=ev cx fx code e kn (fun i e'=>bif Nat.beq i id then kn e' else kx i e') kr:=by
     intro cx fx kn kx kr;cases code<;>first|rfl|grind
    simp_all
end
def Nk{m:List AV->M AV}{ms:Nat->List AV->M AV}(h:cB m ms)(args:List AV):dz (Ad m args) fun n=>Ad (ms n) args:=by
 intro x;obtain⟨h1,h2⟩:=h (eB ai args) []
 (try dsimp only at h1 h2)
 refine⟨fun hne=>?_,fun n hne=>?_⟩
 ·have hne':m (eB ai args) []≠.fail:=fun hf=>hne (by simp only[Ad,hf]);obtain⟨N,hN⟩:=h1 hne';refine⟨N,fun n hn=>?_⟩
  grind [Ad]
 grind [Ad]
def ek(p:Pg):Prop:=∀f E,p.other f=some E->∀(call:FuncId->List AV->M AV)(calls:Nat->FuncId->List AV->M AV),(∀f,cB (call f) fun n=>calls n f)->cB (E call) fun n=>E (calls n)
variable {p:Pg}
section
variable {cx:Cx} {call:FuncId->List AV->M AV} {calls:Nat->FuncId->List AV->M AV} {fx:jW AV} {fxs:Nat->jW AV}
theorem Hx(hc:∀f,cB (call f) fun n=>calls n f)(hfx:uk fx fxs)(hfc:D6 fx)(hfcs:∀n,D6 (fxs n))(fn:Func)(own:Option Nat):
  cB (cj (cx.wc call) fx fn own) fun n=>cj (cx.wc (calls n)) (fxs n) fn own:=by
 intro args;unfold cj;cases fn.body with
 |none=>exact fo _
 | some c=>
  have key:∀b:Bool,dz (bif b then ev (cx.wc call) fx c (wL args) (oH (cx.wc call) fn own) (fun _ _=>gk) (oH (cx.wc call) fn own)else gk) fun n=>(bif b then ev (cx.wc (calls n)) (fxs n) c (wL args) (oH (cx.wc (calls n)) fn own) (fun _ _=>gk) (oH (cx.wc (calls n)) fn own)else gk):=by
   intro b;cases b with
   |false=>exact fo _
   |true=>
    have hr:cB (oH (cx.wc call) fn own) fun n=>oH (cx.wc (calls n)) fn own:=cB.const (oH cx fn own);exact U3 _ c (Nat.lt_succ_self _) call calls fx fxs hc hfx hfc hfcs (wL args) _ (fun n=>oH (cx.wc (calls n)) fn own) _ (fun _ _ _=>gk) _ (fun n=>oH (cx.wc (calls n)) fn own) hr (fun i=>cB.const _) hr
  exact key (decide (args.length<=fn.ntmps)&&decide (fn.ntmps<=1000)&&tD cx.nt cx.ann.kinds)
theorem qU(hO:ek p)(hc:∀f,cB (call f) fun n=>calls n f)(hfx:uk fx fxs)(hfc:D6 fx)(hfcs:∀n,D6 (fxs n))(f:FuncId):cB (lD p call fx f) fun n=>lD p (calls n) (fxs n) f:=by
 intro args;unfold lD;cases ho:p.other f with
 |some E=>exact hO f E ho call calls hc args
 | none=>
  simp only;cases p.funcs f with
  |none=>exact fo _
  |some x=>
   obtain⟨fn,a⟩:=x;simp only;have hb:=Hx (cx:=p.cx call fn.ntmps a) hc hfx hfc hfcs fn (p.own f);cases a.iso with
   |true=>exact Nk hb args
   |false=>exact hb args
end
theorem vL{p:Pg}(hO:ek p):∀n f args,D5 (dQ p n f args) (dQ p (n+1) f args)
 |0,f,args=>fun x hne=>absurd rfl hne
 | n+1,f,args=>by
  have hc:∀f,cB (dQ p (n+1) f) fun m=>(if m=0 then dQ p n else dQ p (n+1)) f:=by
   intro f args x;refine⟨fun _=>⟨1,fun m hm=>?_⟩,fun m hne=>?_⟩
   ·grind
   ·(try dsimp only at hne |-)
    by_cases h0:m=0
    ·rw[acL h0]at hne |-;exact vL hO n f args x hne
    grind
  have h:=qU hO hc (EU n) (r7 (n+1)) (fun m=>by
   by_cases h0:m=0
   all_goals simp_all[r7]) f args
  intro x hne
  have:=(h x).2 0
  (try dsimp only at this)
  rw[acL rfl,acL rfl]at this;exact this hne
def CS(hO:ek p){n m:Nat}(h:n<=m)(f:FuncId)(args:List AV):D5 (dQ p n f args) (dQ p m f args):=by
 induction m with
 | zero => have:n=0:=WD
           subst this;exact .refl _
 |succ m ih=>
  by_cases hn:n=m+1
  ·subst hn;exact .refl _
  ·exact (ih WD).trans (vL hO m f args)
open Classical in
noncomputable def aa(p:Pg)(f:FuncId)(args:List AV):M AV:=fun h=>if hx:∃n,dQ p n f args h≠.fail then dQ p (Classical.choose hx) f args h else .fail
def nZ(hO:ek p)(f:FuncId):cB (aa p f) fun n=>dQ p n f:=by
 intro args h;refine AP (fun n m hnm hne=>CS hO hnm f args h hne) ?_;unfold aa;by_cases hx:∃n,dQ p n f args h≠.fail
 all_goals grind
def vA.uniq{a a':R α}{b:Nat->R α}(h:vA a b)(g:vA a' fun n=>b (n+1)):a=a':=by
 by_cases ha:a= .fail
 ·by_cases ha':a'= .fail
  ·rw[ha,ha']
  ·obtain⟨N,hN⟩:=g.1 ha';have h1:=hN N (acC _)
   (try dsimp only at h1)
   exact (h.2 (N+1) qr).symm.trans h1
 ·obtain⟨N,hN⟩:=h.1 ha;have h1:=hN (N+1) WD;have h2:=g.2 N
  grind
theorem s7(hO:ek p)(f:FuncId)(args:List AV):aa p f args=lD p (aa p) ae f args:=by
 funext h;have h1:=nZ hO f args h;have h2:=qU hO (fun f=>nZ hO f) vR HF (fun n=>r7 n) f args h;exact h1.uniq h2
def nn[Dr]{P:Program}(G:GoodPg P p)(hO:ek p):eh P p.own (aa p):=by
 intro f args h S β w vs hr hg hw hh hv;obtain⟨N,hN⟩:=(nZ hO f args h).1 hr;have h1:=hN N (acC _)
 (try dsimp only at h1)
 rw[<- h1]at hr |-;exact tf G N f args h S β w vs hr hg hw hh hv
def Mm(hO:ek p){n:Nat}{f:FuncId}{args:List AV}{h:Hp}{r:R AV}(hr:dQ p n f args h=r)(hne:r≠.fail):aa p f args h=r:=by
 have:=(nZ hO f args h).2 n qr
 grind
section
variable {ρ:Type}
theorem Ji{F:(List AV->M ρ)->List AV->M ρ}(hF:rB F)(vs:List AV):ae F vs=F (ae F) vs:=by
 funext h;exact (kS hF vs h).uniq (hF _ _ (kS hF) vs h)
theorem uz{c:AV}{x y:M ρ}{xs ys:Nat->M ρ}(hx:dz x xs)(hy:dz y ys):dz (gW c x y) fun n=>gW c (xs n) (ys n):=by
 unfold gW;cases c with
 |bool b=>cases b<;>first|exact hx|exact hy
 |_=>exact fo _
theorem abw{k:List AV->M ρ}{ks:Nat->List AV->M ρ}{m:(List AV->M ρ)->M ρ}{ms:Nat->(List AV->M ρ)->M ρ}(hk:cB k ks)(hm:∀j js,cB j js->dz (m j) fun n=>ms n (js n)):dz (jn k m) fun n=>jn (ks n) (ms n):=
 hm k ks hk
theorem KE{F:(List AV->M ρ)->List AV->M ρ}{Fs:Nat->(List AV->M ρ)->List AV->M ρ}(h1:Ar F Fs)(h2:rB F)(h3:∀n,rB (Fs n)):cB (ae F) fun n=>ae (Fs n):=HF F Fs h1 h2 h3
end
def aF(m:M AV):M AV:=fun h=>match m []with
 |.ok r h'=>.ok (jt 6 h' r) h
 |.pan v h'=>.pan (jt 6 h' v) h
 |.fail=>.fail
def fw(hO:ek p){f:FuncId}{fn:Func}{a:Ann}(h1:p.other f=none)(h2:p.funcs f=some (fn,a))(h3:a.iso=true)(args:List AV):
  aa p f args=aF (cj (p.cx (aa p) fn.ntmps a) ae fn (p.own f) (eB ai args)):=by
 rw[s7 hO];unfold lD;rw[h1];simp only;rw[h2];simp only[h3,acD];rfl
def Ha(hO:ek p){f:FuncId}{fn:Func}{a:Ann}(h1:p.other f=none)(h2:p.funcs f=some (fn,a))(h3:a.iso=false)(args:List AV):
  aa p f args=cj (p.cx (aa p) fn.ntmps a) ae fn (p.own f) args:=by
 simp_all[s7,lD]
def ct(hO:ek p){f:FuncId}{E:(FuncId->List AV->M AV)->List AV->M AV}(h1:p.other f=some E)(args:List AV):aa p f args=E (aa p) args:=by
 grind [s7,lD]
def iE(T:TT)(t:TypeId):(FuncId->List AV->M AV)->List AV->M AV:=fun _ args=>match args with
 |[.sl es]=>bJ (dL T t (.sl []) (.sl es))
 |_=>gk
def eG(T:TT)(t:TypeId):(FuncId->List AV->M AV)->List AV->M AV:=fun _ args=>match args with
 |[.sl es]=>appH T t true (.sl []) (.sl es)
 |_=>gk
def DX(t:TypeId)(k:IntKind)(zero:AV):R AV->R AV
 |.ok v h'=>bif cn 4 v then .ok (.tup [.agg (ab v),.int k 0]) h' else .fail
 |.pan (.iface t' (.int k' n)) h'=>bif Nat.beq t' t&&decide (k'=k)then .ok (.tup [zero,.int k n]) h' else .fail
 |_=>.fail
def GC(t:TypeId)(k:IntKind)(zero:AV):(FuncId->List AV->M AV)->List AV->M AV:=fun call args=>match args with
 |[f]=>fun h=>DX t k zero (ba call f [] h)
 |_=>gk
def N5{m:M AV}{ms:Nat->M AV}(p:R AV->R AV)(hp:p .fail= .fail)(h:dz m ms):dz (fun x=>p (m x)) fun n=>fun x=>p (ms n x):=by
 intro x;obtain⟨h1,h2⟩:=h x;constructor
 ·intro hne;obtain⟨N,hN⟩:=h1 (fun hh=>hne qr);exact⟨N,fun n hn=>acY p (hN n hn)⟩
 ·intro n hne;exact acY p (h2 n (fun hh=>hne qr))
def xH(T:TT)(t:TypeId)(call:FuncId->List AV->M AV)(calls:Nat->FuncId->List AV->M AV):cB (iE T t call) fun n=>iE T t (calls n):=cB.const _
def xG(T:TT)(t:TypeId)(call:FuncId->List AV->M AV)(calls:Nat->FuncId->List AV->M AV):cB (eG T t call) fun n=>eG T t (calls n):=cB.const _
def OG(t:TypeId)(k:IntKind)(zero:AV)(call:FuncId->List AV->M AV)(calls:Nat->FuncId->List AV->M AV)(hc:∀f,cB (call f) fun n=>calls n f):cB (GC t k zero call) fun n=>GC t k zero (calls n):=by
 have hv:∀f,dz (ba call f []) fun n=>ba (calls n) f []:=by
  intro f;unfold ba;split
  ·exact hc _ _
  ·exact fo _
 intro args;cases args with
 |nil=>exact fo _
 |cons f r=>
  cases r with
  |nil=>exact N5 (DX t k zero) rfl (hv f)
  |cons _ _=>exact fo _
def dW{b:Bool}{x:α}{o:Option α}{y:α}(h:(bif b then some x else o)=some y):x=y\/o=some y:=by
 grind
def AU(T:TT)(t:TypeId)(call:FuncId->List AV->M AV)(args:List AV):D9 (eG T t call args):=by
 unfold eG;split
 ·rename_i y;intro h v h' hh;unfold appH at hh;split at hh
  ·cases hh
  ·split at hh
   ·split at hh
    ·cases hh
    ·split at hh
     ·cases hh
     ·rename_i bs _;revert hh;generalize (_&&_:Bool)=b1;cases b1 with
      |false=>grind
      | true=>
       simp only[acD];cases bs.isEmpty with
       |true=>simp_all
       |false=>
        grind
   ·cases hh
 ·intro h v h' hh;cases hh
end Go.Av
namespace Go.Av.Ap
abbrev aA:=List UInt8
inductive Val where
 |mk (kind n:Int) (names:List aA) (values:List Val)
instance:Inhabited Val:=⟨.mk 0 0 [] []⟩
inductive Exp where
 |mk (op n:Int) (s m:aA) (names:List aA) (args:List Exp)
instance:Inhabited Exp:=⟨.mk 0 0 [] [] [] []⟩
inductive Ty where
 |mk (kind:Int) (fields:List (aA×Ty))
instance:Inhabited Ty:=⟨.mk 0 []⟩
abbrev ca:=aA×Ty
structure Fun where
 name:aA
 pub:Bool
 params:List ca
 result:Ty
 effects:Int
 body:Exp
 deriving Inhabited
structure Mod where
 name:aA
 uses:List aA
 vars:List ca
 init:List Exp
 funcs:List Fun
 moves:Bool
 old:List ca
 forward:List Exp
 back:List Exp
 deriving Inhabited
def Val.kind:Val->Int|.mk k _ _ _=>k
def Val.n:Val->Int|.mk _ n _ _=>n
def Val.names:Val->List aA|.mk _ _ ns _=>ns
def Val.values:Val->List Val|.mk _ _ _ vs=>vs
def Exp.op:Exp->Int|.mk o _ _ _ _ _=>o
def Exp.n:Exp->Int|.mk _ n _ _ _ _=>n
def Exp.s:Exp->aA|.mk _ _ s _ _ _=>s
def Exp.m:Exp->aA|.mk _ _ _ m _ _=>m
def Exp.names:Exp->List aA|.mk _ _ _ _ ns _=>ns
def Exp.args:Exp->List Exp|.mk _ _ _ _ _ es=>es
def Ty.kind:Ty->Int|.mk k _=>k
def Ty.fields:Ty->List ca|.mk _ fs=>fs
@[simp] theorem acx(a b c d):(Val.mk a b c d).kind=a:=rfl
@[simp] theorem acy(a b c d):(Val.mk a b c d).n=b:=rfl
@[simp] theorem acb(a b c d):(Val.mk a b c d).names=c:=rfl
@[simp] theorem abX(a b c d):(Val.mk a b c d).values=d:=rfl
def Val.eta(v:Val):Val.mk v.kind v.n v.names v.values=v:=by cases v;rfl
def Exp.eta(e:Exp):Exp.mk e.op e.n e.s e.m e.names e.args=e:=by cases e;rfl
def Ty.eta(t:Ty):Ty.mk t.kind t.fields=t:=by cases t;rfl
def strs(l:List aA):AV:=.sl (l.map .str)
mutual
def Val.av:Val->AV
 |.mk k n ns vs=>.agg [qi k,qi n,strs ns,.sl (gJ vs)]
def gJ:List Val->List AV
 |[]=>[]
 |v:: vs=>v.av:: gJ vs
end
mutual
def Exp.cells:Exp->List AV
 |.mk o n s m ns es=>[qi o,qi n,.str s,.str m,strs ns,.sl (lp es)]
def lp:List Exp->List AV
 |[]=>[]
 |e:: es=>.agg e.cells:: lp es
end
def Exp.av(e:Exp):AV:=.agg e.cells
mutual
def Ty.cells:Ty->List AV
 |.mk k fs=>[qi k,.sl (gI fs)]
def gI:List (aA×Ty)->List AV
 |[]=>[]
 |f:: fs=>aR f:: gI fs
def aR:aA×Ty->AV
 |(n,t)=>.agg (.str n:: t.cells)
end
def Ty.av(t:Ty):AV:=.agg t.cells
def Fun.av(f:Fun):AV:=.agg ([.str f.name,.bool f.pub,.sl (gI f.params)]++f.result.cells++[.int .i64 f.effects]++f.body.cells)
def eL(l:List Fun):AV:=.sl (l.map Fun.av)
def Mod.av(m:Mod):AV:=.agg [.str m.name,strs m.uses,.sl (gI m.vars),.sl (lp m.init),eL m.funcs,.bool m.moves,.sl (gI m.old),.sl (lp m.forward),.sl (lp m.back)]
def vals(l:List Val):AV:=.sl (gJ l)
def bg(l:List Exp):AV:=.sl (lp l)
def aE(l:List ca):AV:=.sl (gI l)
def mods(l:List Mod):AV:=.sl (l.map Mod.av)
def ints(l:List Int):AV:=.sl (l.map (.int .i64))
structure Vars where
 module:aA
 values:List Val
 deriving Inhabited
structure Deed where
 effect:Int
 arg:Int
 answer:Int
 deriving DecidableEq,Inhabited
structure Call where
 module:aA
 func:aA
 args:List Val
 deriving Inhabited
def Vars.av(v:Vars):AV:=.agg [.str v.module,vals v.values]
def Deed.av(d:Deed):AV:=.agg [qi d.effect,qi d.arg,qi d.answer]
def Call.av(c:Call):AV:=.agg [.str c.module,.str c.func,vals c.args]
def cH(l:List Vars):AV:=.sl (l.map Vars.av)
def deeds(l:List Deed):AV:=.sl (l.map Deed.av)
def calls(l:List Call):AV:=.sl (l.map Call.av)
structure Out where
 err:Int
 value:Val
 deeds:List Deed
 calls:List Call
 state:List Vars
def Out.av(o:Out):AV:=.agg [qi o.err,qi o.value.kind,qi o.value.n,strs o.value.names,vals o.value.values,Ap.deeds o.deeds,Ap.calls o.calls,cH o.state]
theorem fT:(l:List Val)->gJ l=l.map Val.av
 |[]=>rfl
 |v:: l=>by simp[gJ,fT l]
theorem ki:(l:List Exp)->lp l=l.map Exp.av
 |[]=>rfl
 |v:: l=>by simp[lp,ki l,Exp.av]
theorem eZ:(l:List ca)->gI l=l.map aR
 |[]=>rfl
 |v:: l=>by simp[gI,eZ l]
def Val.av_eq(v:Val):v.av= .agg [qi v.kind,qi v.n,strs v.names,vals v.values]:=by cases v;rfl
theorem Exp.cells_eq(e:Exp):e.cells=[.int .i64 e.op,.int .i64 e.n,.str e.s,.str e.m,strs e.names,bg e.args]:=by cases e;rfl
theorem Ty.cells_eq(t:Ty):t.cells=[.int .i64 t.kind,aE t.fields]:=by cases t;simp[Ty.cells,aE,Ty.kind,Ty.fields]
def gE(f:ca):aR f= .agg [.str f.1,.int .i64 f.2.kind,aE f.2.fields]:=by grind [aR,Ty.cells_eq]
@[simp] theorem i7(v:Val):ab v.av=[.int .i64 v.kind,.int .i64 v.n,strs v.names,vals v.values]:=by rw[v.av_eq];rfl
@[simp] theorem bV(e:Exp):ab e.av=[.int .i64 e.op,.int .i64 e.n,.str e.s,.str e.m,strs e.names,bg e.args]:=by rw[Exp.av,e.cells_eq];rfl
@[simp] theorem kc(f:ca):ab (aR f)=[.str f.1,.int .i64 f.2.kind,aE f.2.fields]:=by rw[gE];rfl
@[simp] theorem jq(t:Ty):ab t.av=[.int .i64 t.kind,aE t.fields]:=by rw[Ty.av,t.cells_eq];rfl
@[simp] theorem oN(f:Fun):ab f.av=[.str f.name,.bool f.pub,aE f.params,.int .i64 f.result.kind,aE f.result.fields,.int .i64 f.effects,.int .i64 f.body.op,.int .i64 f.body.n,.str f.body.s,.str f.body.m,strs f.body.names,bg f.body.args]:=by
 grind [Fun.av,ab,Ty.cells_eq,Exp.cells_eq,aE]
@[simp] theorem bu(m:Mod):ab m.av=[.str m.name,strs m.uses,aE m.vars,bg m.init,eL m.funcs,.bool m.moves,aE m.old,bg m.forward,bg m.back]:=rfl
@[simp] theorem YK(v:Val):AV.agg [qi v.kind,qi v.n,strs v.names,vals v.values]=v.av:=(v.av_eq).symm
@[simp] theorem qj(e:Exp):AV.agg [qi e.op,qi e.n,.str e.s,.str e.m,strs e.names,bg e.args]=e.av:=by rw[Exp.av,e.cells_eq]
@[simp] theorem iU(t:Ty):AV.agg [qi t.kind,aE t.fields]=t.av:=by rw[Ty.av,t.cells_eq]
@[simp] theorem ye(f:ca):AV.agg [.str f.1,qi f.2.kind,aE f.2.fields]=aR f:=(gE f).symm
@[simp] theorem MY(f:Fun):AV.agg [.str f.name,.bool f.pub,aE f.params,.int .i64 f.result.kind,aE f.result.fields,.int .i64 f.effects,.int .i64 f.body.op,.int .i64 f.body.n,.str f.body.s,.str f.body.m,strs f.body.names,bg f.body.args]=f.av:=by
 simp[Fun.av,Ty.cells_eq,Exp.cells_eq,aE]
@[simp] theorem YH(m:Mod):AV.agg [.str m.name,strs m.uses,aE m.vars,bg m.init,eL m.funcs,.bool m.moves,aE m.old,bg m.forward,bg m.back]=m.av:=rfl
theorem eC{α:Type}(g:Nat->Nat->Nat->Nat->Bool->AV)(f:α->AV)(h:∀x,cl g (f x)=f x):(l:List α)->eB g (l.map f)=l.map f
 |[]=>rfl
 |x:: l=>by simp[eB,h x,eC g f h l]
@[simp] theorem lU(g:Nat->Nat->Nat->Nat->Bool->AV)(l:List aA):cl g (strs l)=strs l:=by
 simp[strs,cl,eC g AV.str (fun _=>rfl) l]
@[simp] theorem I5(g:Nat->Nat->Nat->Nat->Bool->AV)(l:List Int):cl g (ints l)=ints l:=by
 simp[ints,cl,eC g (AV.int .i64) (fun _=>rfl) l]
mutual
theorem Val.cl_av(g:Nat->Nat->Nat->Nat->Bool->AV):(v:Val)->cl g v.av=v.av
 |.mk k n ns vs=>by simp[Val.av,cl,eB,D2 g vs]
theorem D2(g:Nat->Nat->Nat->Nat->Bool->AV):(l:List Val)->eB g (gJ l)=gJ l
 |[]=>rfl
 |v:: l=>by simp[gJ,eB,Val.cl_av g v,D2 g l]
end
mutual
theorem Exp.cl_cells(g:Nat->Nat->Nat->Nat->Bool->AV):(e:Exp)->eB g e.cells=e.cells
 |.mk o n s m ns es=>by simp[Exp.cells,cl,eB,wV g es]
theorem wV(g:Nat->Nat->Nat->Nat->Bool->AV):(l:List Exp)->eB g (lp l)=lp l
 |[]=>rfl
 |e:: l=>by simp[lp,eB,cl,Exp.cl_cells g e,wV g l]
end
mutual
theorem Ty.cl_cells(g:Nat->Nat->Nat->Nat->Bool->AV):(t:Ty)->eB g t.cells=t.cells
 |.mk k fs=>by simp[Ty.cells,cl,eB,tn g fs]
theorem tn(g:Nat->Nat->Nat->Nat->Bool->AV):(l:List (aA×Ty))->eB g (gI l)=gI l
 |[]=>rfl
 |f:: l=>by simp[gI,eB,MW g f,tn g l]
theorem MW(g:Nat->Nat->Nat->Nat->Bool->AV):(f:aA×Ty)->cl g (aR f)=aR f
 |(n,t)=>by simp[aR,cl,eB,Ty.cl_cells g t]
end
@[simp] theorem Hi(g:Nat->Nat->Nat->Nat->Bool->AV)(v:Val):cl g v.av=v.av:=v.cl_av g
@[simp] theorem ta(g:Nat->Nat->Nat->Nat->Bool->AV)(l:List Val):cl g (vals l)=vals l:=by simp[vals,cl,D2]
@[simp] theorem Hg(g:Nat->Nat->Nat->Nat->Bool->AV)(e:Exp):cl g e.av=e.av:=by simp[Exp.av,cl,Exp.cl_cells]
@[simp] theorem Px(g:Nat->Nat->Nat->Nat->Bool->AV)(l:List Exp):cl g (bg l)=bg l:=by simp[bg,cl,wV]
@[simp] theorem EC(g:Nat->Nat->Nat->Nat->Bool->AV)(t:Ty):cl g t.av=t.av:=by simp[Ty.av,cl,Ty.cl_cells]
@[simp] theorem Mo(g:Nat->Nat->Nat->Nat->Bool->AV)(f:ca):cl g (aR f)=aR f:=MW g f
@[simp] theorem wR(g:Nat->Nat->Nat->Nat->Bool->AV)(l:List ca):cl g (aE l)=aE l:=by simp[aE,cl,tn]
theorem xI(g:Nat->Nat->Nat->Nat->Bool->AV):(a b:List AV)->eB g (a++b)=eB g a++eB g b
 |[],b=>rfl
 |x:: a,b=>by simp[eB,xI g a b]
@[simp] theorem Mp(g:Nat->Nat->Nat->Nat->Bool->AV)(f:Fun):cl g f.av=f.av:=by
 simp[Fun.av,cl,eB,xI,tn,Ty.cl_cells,Exp.cl_cells]
@[simp] theorem Py(g:Nat->Nat->Nat->Nat->Bool->AV)(l:List Fun):cl g (eL l)=eL l:=by grind [eL,cl,eC,Mp]
@[simp] theorem fL(g:Nat->Nat->Nat->Nat->Bool->AV)(m:Mod):cl g m.av=m.av:=by
 simp_all[Mod.av,cl,eB,tn,wV]
@[simp] theorem oT(g:Nat->Nat->Nat->Nat->Bool->AV)(l:List Mod):cl g (mods l)=mods l:=by grind [mods,cl,eC,fL]
@[simp] theorem UT(g:Nat->Nat->Nat->Nat->Bool->AV)(k:IntKind)(n:Int):cl g (.int k n)= .int k n:=rfl
@[simp] theorem ZU(g:Nat->Nat->Nat->Nat->Bool->AV)(b:Bool):cl g (.bool b)= .bool b:=rfl
@[simp] theorem Hh(g:Nat->Nat->Nat->Nat->Bool->AV)(s:aA):cl g (.str s)= .str s:=rfl
@[simp] theorem PE(g:Nat->Nat->Nat->Nat->Bool->AV)(v:Vars):cl g v.av=v.av:=by simp[Vars.av,cl,eB]
@[simp] theorem Pw(g:Nat->Nat->Nat->Nat->Bool->AV)(v:Deed):cl g v.av=v.av:=by simp[Deed.av,cl,eB]
@[simp] theorem Pv(g:Nat->Nat->Nat->Nat->Bool->AV)(v:Call):cl g v.av=v.av:=by simp[Call.av,cl,eB]
@[simp] theorem ED(g:Nat->Nat->Nat->Nat->Bool->AV)(l:List Vars):cl g (cH l)=cH l:=by grind [cH,cl,eC,PE]
@[simp] theorem Yq(g:Nat->Nat->Nat->Nat->Bool->AV)(l:List Deed):cl g (deeds l)=deeds l:=by grind [deeds,cl,eC,Pw]
@[simp] theorem Yp(g:Nat->Nat->Nat->Nat->Bool->AV)(l:List Call):cl g (calls l)=calls l:=by grind [calls,cl,eC,Pv]
@[simp] theorem ux(g:Nat->Nat->Nat->Nat->Bool->AV)(o:Out):cl g o.av=o.av:=by simp[Out.av,cl,eB]
@[simp] theorem RA(v:Vars):ab v.av=[.str v.module,vals v.values]:=rfl
@[simp] theorem Rz(v:Deed):ab v.av=[.int .i64 v.effect,.int .i64 v.arg,.int .i64 v.answer]:=rfl
@[simp] theorem Eb(v:Call):ab v.av=[.str v.module,.str v.func,vals v.args]:=rfl
@[simp] theorem SB(o:Out):ab o.av=[.int .i64 o.err,.int .i64 o.value.kind,.int .i64 o.value.n,strs o.value.names,vals o.value.values,deeds o.deeds,calls o.calls,cH o.state]:=rfl
@[simp] theorem V9(v:Vars):AV.agg [.str v.module,vals v.values]=v.av:=rfl
@[simp] theorem V7(v:Deed):AV.agg [qi v.effect,qi v.arg,qi v.answer]=v.av:=rfl
@[simp] theorem V6(v:Call):AV.agg [.str v.module,.str v.func,vals v.args]=v.av:=rfl
@[simp] theorem YI(o:Out):AV.agg [qi o.err,qi o.value.kind,qi o.value.n,strs o.value.names,vals o.value.values,deeds o.deeds,calls o.calls,cH o.state]=o.av:=rfl
@[simp] theorem Wx(v:Vars):cW v.av=some 2:=rfl
@[simp] theorem Wu(v:Deed):cW v.av=some 3:=rfl
@[simp] theorem Wt(v:Call):cW v.av=some 3:=rfl
@[simp] theorem Zp(v:Out):cW v.av=some 8:=rfl
@[simp] theorem BK(v:Vars):cn 2 v.av=true:=by simp[cn,aO,vals]
@[simp] theorem K9(v:Deed):cn 3 v.av=true:=by simp[cn,aO]
@[simp] theorem Wk(v:Call):cn 3 v.av=true:=by simp[cn,aO,vals]
@[simp] theorem Zb(v:Out):cn 8 v.av=true:=by simp[cn,aO,vals,strs,deeds,calls,cH]
def Clean(a:AV):Prop:=∀g,cl g a=a
def Clean.frz{a:AV}(h:Clean a)(d:Nat)(hp:Hp):jt d hp a=a:=by
 cases d with
 |zero=>exact h _
 |succ d=>exact h _
def aZ{a:AV}(h:Clean a):aF (ao a)=ao a:=by
 funext hp;simp only[aF,ao,h.frz]
@[simp] theorem mj(b:Bool):aF (ao (.bool b))=ao (.bool b):=aZ fun _=>rfl
@[simp] theorem tC(k:IntKind)(n:Int):aF (ao (.int k n))=ao (.int k n):=aZ fun _=>rfl
@[simp] theorem YX(s:aA):aF (ao (.str s))=ao (.str s):=aZ fun _=>rfl
@[simp] theorem YY(v:Val):aF (ao v.av)=ao v.av:=aZ fun g=>Hi g v
@[simp] theorem We(v:List Val):aF (ao (vals v))=ao (vals v):=aZ fun g=>ta g v
@[simp] theorem YT(v:Exp):aF (ao v.av)=ao v.av:=aZ fun g=>Hg g v
@[simp] theorem YU(v:Fun):aF (ao v.av)=ao v.av:=aZ fun g=>Mp g v
@[simp] theorem Zs(v:Val):cW v.av=some 4:=by rw[v.av_eq];rfl
@[simp] theorem Zl(e:Exp):cW e.av=some 6:=by rw[Exp.av,e.cells_eq];rfl
@[simp] theorem Zm(f:ca):cW (aR f)=some 3:=by rw[gE];rfl
@[simp] theorem ZY(t:Ty):cW t.av=some 2:=by rw[Ty.av,t.cells_eq];rfl
@[simp] theorem Zn(f:Fun):cW f.av=some 12:=by simp[Fun.av,cW,Ty.cells_eq,Exp.cells_eq]
@[simp] theorem Zo(m:Mod):cW m.av=some 9:=rfl
@[simp] theorem iP(v:Val):cn 4 v.av=true:=by simp[cn,aO,strs,vals]
@[simp] theorem tR(e:Exp):cn 6 e.av=true:=by simp[cn,aO,strs,bg]
@[simp] theorem oD(f:ca):cn 3 (aR f)=true:=by simp[cn,aO,aE]
@[simp] theorem yS(f:Fun):cn 12 f.av=true:=by simp[cn,aO,aE,strs,bg]
@[simp] theorem tT(m:Mod):cn 9 m.av=true:=by simp[cn,aO,aE,strs,bg,eL]
@[simp] theorem NV(s:aA):cn 1 (.str s)=true:=rfl
@[simp] theorem NU(k:IntKind)(n:Int):cn 1 (.int k n)=true:=rfl
theorem eN{α:Type}{sz:Nat}{f:α->AV}(h:∀x,cn sz (f x)=true)(l:List α):dK sz (l.map f)=true:=by simp[dK,h]
@[simp] theorem Wr(l:List aA):dK 1 (l.map AV.str)=true:=eN NV l
@[simp] theorem Lb(l:List Int):dK 1 (l.map (AV.int .i64))=true:=eN (NU .i64) l
@[simp] theorem Lg(l:List Val):dK 4 (gJ l)=true:=by grind [fT,eN,iP]
@[simp] theorem Wl(l:List Exp):dK 6 (lp l)=true:=by grind [ki,eN,tR]
@[simp] theorem Wm(l:List ca):dK 3 (gI l)=true:=by grind [eZ,eN,oD]
@[simp] theorem Wn(l:List Fun):dK 12 (l.map Fun.av)=true:=eN yS l
@[simp] theorem Wo(l:List Mod):dK 9 (l.map Mod.av)=true:=eN tT l
theorem yC{T:TT}{t e:Nat}{ti ei:TI}(ht:T t=some ti)(hk:ti.kind= .slice e)(he:T e=some ei){α:Type}{f:α->AV}(hs:∀x,cW (f x)=some ei.size){l:List α}{i:Nat}{x:α}(h:l[i]? = some x):
  ax T t (.sl (l.map f)) (qi (i:Int))=some (.ip (ab (f x))):=by
 simp_all[ax]
def bi{T:TT}{t e:Nat}{ti ei:TI}(ht:T t=some ti)(hk:ti.kind= .slice e)(he:T e=some ei){α:Type}[Inhabited α]{f:α->AV}(hs:∀x,cW (f x)=some ei.size){l:List α}{n:Int}(h0:0<=n)(h:n<(l.length:Int)):
  ax T t (.sl (l.map f)) (qi n)=some (.ip (ab (f l[n.toNat]!))):=by
 grind [yC]
def ga{T:TT}{t e:Nat}{ti ei:TI}(ht:T t=some ti)(hk:ti.kind= .slice e)(he:T e=some ei){α:Type}{f:α->AV}(hs:∀x,cn ei.size (f x)=true){a b:List α}(h:(a.length+b.length)*ei.bytes<=140737488355328)(h0:0<ei.bytes):
  dL T t (.sl (a.map f)) (.sl (b.map f))=some (.sl ((a++b).map f)):=by
 grind [dL,jX,eN,nd]
end Go.Av.Ap
namespace Go.Av
attribute [simp] aj af Mi Kh
@[simp] theorem ah{α:Type}(b:Bool)(x y:M α):gW (.bool b) x y=if b=true then x else y:=by cases b<;>rfl
def gv(b w:Bool)(y:AV):AV:=bif b== w then y else .tup []
@[simp] theorem YO(y:AV):gv false false y=y:=rfl
@[simp] theorem acj(y:AV):gv true true y=y:=rfl
@[simp] theorem ach(y:AV):gv false true y= .tup []:=rfl
@[simp] theorem aci(y:AV):gv true false y= .tup []:=rfl
@[simp high] theorem aV(b w:Bool)(y:AV):dI (.bool b) w 1 (ao [y])=ao [gv b w y]:=by cases b<;>cases w<;>rfl
@[simp high] theorem Wa(b w c w2:Bool)(y:AV):dI (gv b w (.bool c)) w2 1 (ao [y])=ao [gv b w (gv c w2 y)]:=by cases b<;>cases w<;>cases c<;>cases w2<;>rfl
@[simp high] theorem Wb(b w c e:Bool):dI (.bool b) w 1 (aG (bJ (oE (gv b w (.bool c)) (.bool true) (gv b w (gv c false (.bool e))))) fun v=>ao [v])=ao [gv b w (.bool (c||e))]:=by
 cases b<;>cases w<;>cases c<;>rfl
@[simp high] theorem U9(b w c e:Bool):dI (.bool b) w 1 (aG (bJ (oE (gv b w (.bool c)) (gv b w (gv c true (.bool e))) (.bool false))) fun v=>ao [v])=ao [gv b w (.bool (c&&e))]:=by
 cases b<;>cases w<;>cases c<;>rfl
@[simp high] theorem eW(b c:Bool):oE (.bool b) (gv b true (.bool c)) (.bool false)=some (.bool (b&&c)):=by cases b<;>rfl
@[simp high] theorem iR(b c:Bool):oE (.bool b) (.bool true) (gv b false (.bool c))=some (.bool (b||c)):=by cases b<;>rfl
@[simp] theorem PX(w:Bool)(n:Nat)(m:M (List AV)):dI (.bool !w) w n m=ao (List.replicate n (.tup [])):=by cases w<;>rfl
@[simp] theorem cD(w:Bool)(n:Nat)(m:M (List AV)):dI (.bool w) w n m=m:=by cases w<;>rfl
@[simp] theorem mh(n:Nat)(m:M (List AV)):dI (.bool false) true n m=ao (List.replicate n (.tup [])):=rfl
@[simp] theorem ot(n:Nat)(m:M (List AV)):dI (.bool true) false n m=ao (List.replicate n (.tup [])):=rfl
@[simp] theorem HK(w:Bool)(n:Nat)(m:M (List AV)):dI (.tup []) w n m=ao (List.replicate n (.tup [])):=rfl
@[simp] theorem dD(x y:AV):oE (.bool true) x y=some x:=rfl
@[simp] theorem cy(x y:AV):oE (.bool false) x y=some y:=rfl
@[simp] theorem ak(x:AV)(l:List AV):aD (x:: l) 0=x:=rfl
@[simp] theorem au(x:AV)(l:List AV)(n:Nat):aD (x:: l) (n+1)=aD l n:=rfl
@[simp] theorem qt{α:Type}(k:List AV->M α)(m:(List AV->M α)->M α):jn k m=m k:=rfl
@[simp] theorem bE{α:Type}(a:α):gP (ao a)=ao a:=rfl
@[simp] theorem b9(b:Bool):Sa .not (.bool b)=some (.bool !b):=rfl
@[simp] theorem cC(l:List AV)(i:Nat):jK (.tup l) i=l[i]?:=rfl
@[simp] theorem RZ:True:=trivial
@[simp] theorem fQ(l k:Nat):nC (.hp l k)=some (.hp l k):=rfl
@[simp] theorem VG(cs:List AV):nC (.ip cs)=some (.ip cs):=rfl
@[simp] theorem gm(s:List UInt8):ab (.str s)=[.str s]:=rfl
@[simp] theorem SA(k:IntKind)(n:Int):ab (.int k n)=[.int k n]:=rfl
@[simp] theorem cJ(cs:List AV):ab (.agg cs)=cs:=rfl
@[simp] theorem aY(T:TT)(t:Nat)(a b:Int):bN T .add t (qi a) (qi b)=some (.int .i64 (IntKind.i64.wrap (a+b))):=rfl
@[simp] theorem Cw(T:TT)(t:Nat)(a b:Int):bN T .sub t (qi a) (qi b)=some (.int .i64 (IntKind.i64.wrap (a-b))):=rfl
@[simp] theorem Pi(T:TT)(t:Nat)(a b:Int):bN T .mul t (qi a) (qi b)=some (.int .i64 (IntKind.i64.wrap (a*b))):=rfl
@[simp] theorem aC(T:TT)(t:Nat)(a b:Int):bN T .lss t (qi a) (qi b)=some (.bool (decide (a<b))):=rfl
@[simp] theorem lR(T:TT)(t:Nat)(a b:Int):bN T .leq t (qi a) (qi b)=some (.bool (decide (a<=b))):=rfl
@[simp] theorem Cv(T:TT)(t:Nat)(a b:Int):bN T .gtr t (qi a) (qi b)=some (.bool (decide (b<a))):=rfl
@[simp] theorem oQ(T:TT)(t:Nat)(a b:Int):bN T .geq t (qi a) (qi b)=some (.bool (decide (b<=a))):=rfl
@[simp] theorem ej(T:TT)(t:Nat)(a b:Int):bN T .eql t (qi a) (qi b)=some (.bool (a== b)):=rfl
@[simp] theorem jI(T:TT)(t:Nat)(a b:Int):bN T .neq t (qi a) (qi b)=some (.bool (a != b)):=rfl
@[simp] theorem Rf(T:TT)(t:Nat)(a b:List UInt8):bN T .eql t (.str a) (.str b)=some (.bool (a== b)):=rfl
@[simp] theorem Rh(T:TT)(t:Nat)(a b:List UInt8):bN T .neq t (.str a) (.str b)=some (.bool !(a== b)):=rfl
@[simp] theorem Z4(T:TT)(t:Nat)(a b:List UInt8):bN T .lss t (.str a) (.str b)=some (.bool (aU a b)):=rfl
@[simp] theorem Z2(T:TT)(t:Nat)(a b:List UInt8):bN T .geq t (.str a) (.str b)=some (.bool !(aU a b)):=rfl
@[simp] theorem bZ{n:Nat}{x:AV}(h:cn n x=true):bB n x=ao (.agg (ab x)):=by
 unfold bB oR;rw[h];rfl
@[simp] theorem cw{n:Nat}{x:AV}(h:cn n x=true):aK n [] x=ao (.agg (ab x)):=by
 unfold aK oR;rw[h];rfl
@[simp] theorem Wi(b:Bool)(x:AV):oz b [x]=some x:=by simp[oz]
@[simp] theorem Wj(b:Bool)(a c:Int):oz b [qi a,qi c]=some (.int .i64 (if b=true then max a c else min a c)):=by
 cases b
 ·simp only[oz,NM,acO]
  grind
 ·simp only[oz,NM,acD]
  grind
def aW{x:Int}(h1:-9223372036854775808<=x)(h2:x<=9223372036854775807):IntKind.i64.wrap x=x:=IntWalk.i64_in _ ⟨h1,h2⟩
def OO{n:Nat}(h:n<=4611686018427387904):IntKind.i64.wrap (n:Int)=(n:Int):=IntWalk.i64_in _ WD
def aH{n:Nat}(h:n<=4611686018427387904):IntKind.i64.wrap ((n:Int)+1)=((n+1:Nat):Int):=by
 rw[IntWalk.i64_in _ WD];omega
def Ce{n:Nat}(h:n<=4611686018427387904):IntKind.i64.wrap (((n+1:Nat):Int)-1)=(n:Int):=by
 rw[IntWalk.i64_in _ WD];omega
namespace Ap
mutual
def Val.sz:Val->Nat
 |.mk _ _ ns vs=>1+ns.length+bw vs
def bw:List Val->Nat
 |[]=>0
 |v:: vs=>v.sz+bw vs
end
theorem jl:{l:List Val} ->{v:Val} ->v∈l->v.sz<=bw l
 |w:: l,v,h=>by
  simp only[bw];rcases ac2.1 h with rfl|h
  ·omega
  ·have:=jl h;omega
def Val.sz_pos(v:Val):1<=v.sz:=by cases v;simp[Val.sz];omega
theorem kD:(l:List Val)->l.length<=bw l
 |[]=>AI
 |v:: l=>by have:=kD l;have:=v.sz_pos;grind [bw]
def Val.sz_names(v:Val):v.names.length<=v.sz:=by cases v;simp[Val.sz,Val.names];omega
def Val.sz_values(v:Val):bw v.values<v.sz:=by cases v;simp[Val.sz,Val.values];omega
def Val.sz_len(v:Val):v.values.length<v.sz:=Nat.lt_of_le_of_lt (kD _) v.sz_values
def abm{v x:Val}(h:x∈v.values):x.sz<v.sz:=Nat.lt_of_le_of_lt (jl h) v.sz_values
end Ap
end Go.Av
namespace Go.Av
def aL{α:Type}(F:α->Bool):List α->Int->Int
 |[],_=>-1
 |x:: l,i=>if F x=true then i else aL F l (i+1)
theorem Fa{α:Type}(F:α->Bool):(l:List α)->(i:Int)->0<=i->(0<=aL F l i↔l.any F=true)
 |[],i,_=>by simp[aL]
 |x:: l,i,h=>by
  simp only[aL];split
  ·grind
  ·rename_i hx;rw[Fa F l (i+1) WD];simp[hx]
theorem ou{α:Type}(F:α->Bool)(l:List α):decide (0<=aL F l 0)=l.any F:=by
 have:=Fa F l 0 WD
 grind
@[simp] theorem R6(a b:Nat):((a:Int)== (b:Int))=(a== b):=qr
@[simp] theorem QH(a:Nat):((a:Int)== 0)=(a== 0):=qr
@[simp] theorem R7(a b:Nat):((a:Int) != (b:Int))=(a != b):=qr
def bp{α β:Type}(F:α->β->Bool):List α->List β->Bool
 |x:: l,y:: r=>F x y&&bp F l r
 |[],[]=>true
 |_,_=>false
def ij{α β:Type}(F:α->β->Bool)(a:List α)(b:List β)(i:Nat)(h1:i<a.length)(h2:i<b.length):bp F (a.drop i) (b.drop i)=(F a[i] b[i]&&bp F (a.drop (i+1)) (b.drop (i+1))):=by
 rw[List.drop_eq_getElem_cons h1,List.drop_eq_getElem_cons h2];rfl
theorem cR{α β:Type}(F:α->β->Bool):(a:List α)->(b:List β)->a.length≠b.length->bp F a b=false
 |[],[],h=>absurd rfl h
 |[],_:: _,_=>rfl
 |_:: _,[],_=>rfl
 |x:: a,y:: b,h=>by
  have:=cR F a b (by simpa using h)
  simp[bp,this]
end Go.Av
namespace Go.Av
open Ap
@[simp high] theorem UO(x:Val):bB 4 (Val.av x)=ao (Val.av x):=AN
@[simp high] theorem Pr(x:Val):aK 4 [] (Val.av x)=ao (Val.av x):=AN
@[simp high] theorem UM(x:Exp):bB 6 (Exp.av x)=ao (Exp.av x):=AN
@[simp high] theorem Pm(x:Exp):aK 6 [] (Exp.av x)=ao (Exp.av x):=AN
@[simp high] theorem rS(x:ca):bB 3 (aR x)=ao (aR x):=AN
@[simp high] theorem Pn(x:ca):aK 3 [] (aR x)=ao (aR x):=AN
@[simp high] theorem mC(x:Fun):bB 12 (Fun.av x)=ao (Fun.av x):=AN
@[simp high] theorem Po(x:Fun):aK 12 [] (Fun.av x)=ao (Fun.av x):=AN
@[simp high] theorem xB(x:Mod):bB 9 (Mod.av x)=ao (Mod.av x):=AN
@[simp high] theorem iq(x:Mod):aK 9 [] (Mod.av x)=ao (Mod.av x):=AN
@[simp high] theorem RP(x:Vars):bB 2 (Vars.av x)=ao (Vars.av x):=AN
@[simp high] theorem OV(x:Vars):aK 2 [] (Vars.av x)=ao (Vars.av x):=AN
@[simp high] theorem RN(x:Deed):bB 3 (Deed.av x)=ao (Deed.av x):=AN
@[simp high] theorem OT(x:Deed):aK 3 [] (Deed.av x)=ao (Deed.av x):=AN
@[simp high] theorem Ey(x:Ap.Call):bB 3 (Ap.Call.av x)=ao (Ap.Call.av x):=AN
@[simp high] theorem OS(x:Ap.Call):aK 3 [] (Ap.Call.av x)=ao (Ap.Call.av x):=AN
@[simp high] theorem Hf(x:Ap.Out):bB 8 (Ap.Out.av x)=ao (Ap.Out.av x):=AN
@[simp high] theorem Pp(x:Ap.Out):aK 8 [] (Ap.Out.av x)=ao (Ap.Out.av x):=AN
@[simp] theorem Dk(t:Ty):cn 2 t.av=true:=by simp[cn,aO,aE]
@[simp high] theorem kg(x:Ty):bB 2 (Ty.av x)=ao (Ty.av x):=AN
@[simp high] theorem Ez(x:Ty):aK 2 [] (Ty.av x)=ao (Ty.av x):=AN
end Go.Av
namespace Go.Av
@[simp] theorem OY(c:Prop)[Decidable c](a b:Bool):(if c then(ao (.bool a):M AV)else ao (.bool b))=ao (.bool (if c then a else b)):=by split<;>rfl
@[simp] theorem P4(c:Prop)[Decidable c](a b:Int):(if c then(ao (.int .i64 a):M AV)else ao (.int .i64 b))=ao (.int .i64 (if c then a else b)):=by split<;>rfl
def wW{F:(List AV->M AV)->List AV->M AV}(hF:∀vs,ae F vs=F (ae F) vs)(st:Nat->List AV)(n:Nat)(G:Nat->Bool)(hend:F (ae F) (st n)=ao (.bool true))(hstep:∀k,k<n->F (ae F) (st k)=if G k=true then ae F (st (k+1))else ao (.bool false)):
  ∀k,k<=n->ae F (st k)=ao (.bool ((List.range' k (n-k)).all G)):=by
 have key:∀r k,n-k=r->k<=n->ae F (st k)=ao (.bool ((List.range' k r).all G)):=by
  intro r
  induction r with
  |zero=>
   grind
  |succ r ih=>
   grind [List.range'_succ]
 grind
def GU{α:Type}[Inhabited α](P:α->Bool)(l:List α):(List.range' 0 l.length).all (fun k=>P l[k]!)=l.all P:=by
 rw[aen];simp only[acQ,List.mem_range'_1];constructor
 ·intro h x hx;obtain⟨i,hi,rfl⟩:=aew hx
  grind
 grind
theorem rQ{α β:Type}[Inhabited α][Inhabited β](P:α->β->Bool):(a:List α)->(b:List β)->a.length=b.length->(List.range' 0 a.length).all (fun k=>P a[k]! b[k]!)=bp P a b
 |[],[],_=>rfl
 |x:: a,y:: b,h=>by
  have ih:=rQ P a b (by simpa using h);simp only[acR,List.range'_succ,adz,bp];congr 1;rw[<- ih];rw[aen];simp only[acQ,List.mem_range'_1]
  grind
 |[],_:: _,h=>by simp at h
 |_:: _,[],h=>by simp at h
def Lx{T:TT}{t e:Nat}{ti ei:TI}(ht:T t=some ti)(hk:ti.kind= .slice e)(he:T e=some ei)(es:List AV){n:Int}(h0:0<=n)(h1:n<=es.length):eR T t (.sl es) none (some (.int .i64 n)) none=some (.sl (es.take n.toNat)):=by
 simp_all[eR,dO]
def wz{T:TT}{t e:Nat}{ti ei:TI}(ht:T t=some ti)(hk:ti.kind= .slice e)(he:T e=some ei)(es:List AV):eR T t (.sl es) none (some (.int .i64 es.length)) (some (.int .i64 es.length))=some (.sl es):=by
 simp_all[eR,dO]
def BZ{T:TT}{t e:Nat}{ti ei:TI}(ht:T t=some ti)(hk:ti.kind= .slice e)(he:T e=some ei)(es:List AV)(hok:dK ei.size es=true){n:Int}(h0:0<=n)(h1:n<=es.length):eR T t (.sl es) (some (.int .i64 n)) none none=some (.sl (es.drop n.toNat)):=by
 simp_all[eR,dO]
end Go.Av
namespace Go.Av
variable [Dr]
theorem nr{P:Program}{cx:Cx}{own:Option Nat}(hT:TOK P cx.T)(hC:eh P cx.own cx.call)(hI:IsoCall cx){f:FuncId}{fn:Func}(hf:P.funcs[f]? = some fn)(hnt:cx.nt=fn.ntmps){E:List AV->Hp->R AV}(h0:∀h,E [] h= .ok (.sl []) h)(h1:∀e es h,cj cx (dV 0) fn own [.sl (e:: es)] h=E (e:: es) h)(h2:∀h,cj cx (dV 0) fn own [.hn] h= .ok (.sl []) h)(h3:∀l off h,cj cx (dV 0) fn own [.hs l off 0 1 false] h= .ok (.sl []) h){es:List AV}{h:Hp}{S:az}{β:List bQ}{w:World}{vs:List Value}(hr:E es h≠.fail)(hg:xg S β h w)(hw:Wf S w)(hh:dm S β w h)(hv:be S β [.sl es] vs):Calls P f vs.toArray w (eS own S β h w (E es h))/\fn.body.isSome=true:=by
 cases es with
 |cons e es=>
  grind [mz]
 | nil=>
  rw[h0];simp only[be]at hv;obtain⟨v,_,rfl,hv,rfl⟩:=hv;have hv0:=hv;simp only[VR]at hv;obtain⟨a,cap,rfl,hc,hn,hq⟩:=hv;cases a with
  |none=>
   have hcap:=hn rfl;subst hcap;have hv2:be S β [.hn] [.slice none ([]:List AV).length 0]:=by simp[be,VR]
   grind [mz]
  | some q=>
   obtain⟨hs,_⟩:=hq q rfl;have hX:dm S [(q.block,q.off+cap)] w [[]]:=⟨rfl,fun _=>.no,fun l cs hl hne=>by
    grind⟩
   have hE:∀b,¬cQ [(q.block,q.off+cap)] [[]] b:=by
    rintro b ⟨l,cs,n,k1,k2,_⟩;cases l with
    |zero=>grind
    |succ l=>simp at k1
   have hv2:be S [(q.block,q.off+cap)] [.hs 0 q.off 0 1 false] [.slice (some q) ([]:List AV).length cap]:=by
    simp only[be,VR];rcases adp cap with h0|h0
    ·grind
    ·have hq':q=⟨q.block,q.off,none⟩:=by
      have:=hs h0
      cases q;simp_all
     exact⟨_,_,rfl,.inl ⟨(q.block,q.off+cap),cap,rfl,qr,qr,acU _,AI⟩,rfl⟩
   have:=mz (own:=own) hT hC hI 0 hf hnt (args:=[.hs 0 q.off 0 1 false]) (h:=[[]]) (by rw[h3];simp) ⟨hg.1,fun b _=>hE b,hg.2.2⟩ hw hX hv2
   rw[h3]at this;refine⟨this.1.mono fun en w' hp=>?_,this.2⟩;obtain⟨S',β',v,k1,k2,k3,k4⟩:=hp;obtain⟨S2,j1,j2,j3⟩:=Jt hw hh hE k3;exact⟨S2,β,v,k1,j2 (.sl []) v k2,j1,fun sz hsz=>j3 sz v (k4 sz hsz)⟩
end Go.Av
namespace Go.Av
variable [Dr]
open Go.RowKit
section
variable {S:az} {β:List bQ} {h:Hp} {w w':World}
omit [Dr]in
theorem dm.below(hh:dm S β w h){S':az}(hb:∀b,b<w.heap.size->w'.heap[b]? = w.heap[b]? /\∀o,S' b o=S b o)(hle:S.le S'):dm S' β w' h:=by
 obtain⟨hlen,ω,hr⟩:=hh;exact⟨hlen,ω,hr.rows hle (ig.refl β) hlen fun l cs hl _=>.inl ⟨hl,fun b hlt ho=>⟨ho,(hb b hlt).1,fun o h=>qr⟩⟩⟩
theorem sr(hw:Wf S w)(hh:dm S β w h)(hb:Below w.heap.size w w')(hd:Dr.on->w.drawn<=w'.drawn){S':az}(hS:∀b,b<w.heap.size->∀o,S' b o=S b o)(hnew:∀b o v,w.heap.size<=b->S' b o=some v->w'.cell? ⟨b,o,none⟩=some v):
  Left (cQ β h) S β w S' β w' h:=by
 have hle:S.le S':=fun b o v hv=>by rw[hS b (hw.lt hv)];exact hv
 refine⟨hle,ig.refl β,fun b o v hv=>?_,⟨hb.size,hb.os,hb.output,hb.tape,hd⟩,fun b hlt _=>⟨hb.block b hlt,hS b hlt⟩,hh.below (fun b hlt=>⟨hb.block b hlt,hS b hlt⟩) hle,fun b hb=>.inl hb⟩;rcases ac9 b w.heap.size with hlt|hge
 ·rw[hS b hlt]at hv;rw[cell_of_heap (hb.block b hlt)];exact hw b o v hv
 grind
theorem gX(hw:Wf S w)(hh:dm S β w h)(hb:Below w.heap.size w w')(hd:Dr.on->w.drawn<=w'.drawn){r:AV}{v:Value}(hv:VR S β r v):eS none S β h w (.ok r h) (.returned v) w':=
 ⟨S,β,v,rfl,hv,sr hw hh hb hd (fun _ _ _=>rfl) (fun b o v hge hv=>by have:=hw.lt hv;omega),fun sz hsz=>by cases hsz⟩
theorem Kr(hw:Wf S w)(hh:dm S β w h)(hb:Below w.heap.size w w')(hd:Dr.on->w.drawn<=w'.drawn){n:Nat}{x:Array Value}(hr:Row w' n x)(hn:w.heap.size<=n){r:AV}{v:Value}(hv:VR (S.withRowTo n x.size x) β r v):eS none S β h w (.ok r h) (.returned v) w':=
 ⟨_,β,v,rfl,hv,sr hw hh hb hd (fun b hlt o=>by unfold az.withRowTo;grind) (fun b o v hge hv=>by
  by_cases hbn:b=n
  ·subst hbn;unfold az.withRowTo at hv;rw[acL rfl]at hv;split at hv
   ·rw[hr.cell];exact hv
   ·cases hv
  ·unfold az.withRowTo at hv;rw[acE hbn]at hv
   have:=hw.lt hv;omega),fun sz hsz=>by cases hsz⟩
theorem Nv(hw:Wf S w)(hh:dm S β w h)(hb:Below w.heap.size w w')(hd:Dr.on->w.drawn<=w'.drawn){bo:Nat}{es:List AV}(hbo:w.heap.size<=bo)(hm:MapAt S β w' bo es):
  Left (cQ β h) S β w S (β++[(bo,0)]) w' (h++[[.tup es]]):=by
 have hext:ig β (β++[(bo,0)]):=fun l b hb=>qr
 obtain⟨hlen,ω,hr⟩:=hh;have hω:∀b,b<w.heap.size->eJ ω bo (.heap h.length) b=ω b:=fun b hb=>by
  unfold eJ;grind
 refine⟨az.le_refl S,hext,fun b o v hv=>?_,⟨hb.size,hb.os,hb.output,hb.tape,hd⟩,fun b hlt _=>⟨hb.block b hlt,fun _=>rfl⟩,⟨by simp[hlen],eJ ω bo (.heap h.length),fun l cs hl hne=>?_⟩,fun b hb=>?_⟩
 ·rw[cell_of_heap (hb.block b (hw.lt hv))];exact hw b o v hv
 ·rcases ac9 l h.length with hlt|hge
  ·rw[ac6 hlt]at hl;rcases hr l cs hl hne with⟨b,x,k1,k2,k3,k4,k5,k6⟩|⟨b,k1,k2,k3,k4⟩
   ·have hbl:=k2.lt;exact .inl ⟨b,x,hext _ _ k1,k2.of_eq (hb.block b hbl),qr,k4.mono (az.le_refl S) hext,k5,fun t ht=>by obtain⟨y,hy⟩:=k6 t ht;exact⟨y,(hb.block b hbl).trans hy⟩⟩
   ·have hbl:=k4.lt;refine .inr ⟨b,hext _ _ k1,qr,k3,k4.keep (az.le_refl S) hext (hb.block b hbl) fun j b' es' hj he=>?_⟩;have hjl:j<h.length:=by rw[<- hlen];exact (acJ.1 hj).1
    rw[ac6 hjl]at he;obtain⟨_,_,g1,_⟩:=hr.mapRow he hj;exact⟨he,hb.block b' (acN.1 g1).1⟩
  ·rw[adh hge]at hl;have hlz:l=h.length:=by
    have:=(acJ.1 hl).1
    simp at this;omega
   subst hlz;simp only[aeF,acV,acz]at hl;subst hl;have hnew:(β++[(bo,0)])[h.length]? = some (bo,0):=by rw[<- hlen];simp
   obtain⟨ents,clock,m1,m2,m3⟩:=hm;exact .inr ⟨bo,hnew,by simp[eJ],fun o=>hw.none hbo o,.inl ⟨es,rfl,ents,clock,m1,m2.mono (az.le_refl S) hext,m3⟩⟩
 ·obtain⟨l,cs,n,k1,k2,k3⟩:=hb;rcases ac9 l h.length with hlt|hge
  ·rw[ac6 hlt]at k1;rw[ac6 qr]at k3;exact .inl ⟨l,cs,n,k1,k2,k3⟩
  grind
theorem Kq(hw:Wf S w)(hh:dm S β w h)(hb:Below w.heap.size w w')(hd:Dr.on->w.drawn<=w'.drawn){bo:Nat}{es:List AV}(hbo:w.heap.size<=bo)(hm:MapAt S β w' bo es):
  eS none S β h w (.ok (.mp h.length) (h++[[.tup es]])) (.returned (.map (some bo))) w':=
 ⟨S,β++[(bo,0)],_,rfl,by simp only[VR];exact⟨(bo,0),by rw[<- hh.1];simp,rfl,rfl⟩,Nv hw hh hb hd hbo hm,fun sz hsz=>by cases hsz⟩
end
end Go.Av
namespace Go.Av
variable [Dr]
def oc:(FuncId->List AV->M AV)->List AV->M AV:=fun _ args=>match args with
 |[.str s,.str t]=>bJ (bif decide (s.length<4294967281)then some (.bool (Lib.contains s t))else none)
 |_=>gk
def EV:AV->Option (List UInt8×Int×List AV)
 |.agg [.str n,.int .i64 k,.sl fs]=>some (n,k,fs)
 |_=>none
def kl:List AV->Option (List (List UInt8×Int×List AV))
 |[]=>some []
 |x:: r=>match EV x,kl r with
  |some z,some l=>some (z:: l)
  |_,_=>none
def dN{α:Type}(p:α->Bool):List α->Option α
 |[]=>none
 |z:: r=>match dN p r with
  |some y=>some y
  |none=>bif p z then some z else none
def HU(l:List (List UInt8×Int×List AV))(name:List UInt8):AV:=match dN (fun z=>z.1== name) l with
 |some z=>.tup [.agg [qi z.2.1,.sl z.2.2],.bool true]
 |none=>.tup [.agg [qi 0,.sl []],.bool false]
def qZ:(FuncId->List AV->M AV)->List AV->M AV:=fun _ args=>match args with
 |[.sl es,.str name]=>(match kl es with
  |some l=>bJ (bif decide (l.length<=1000000000)then some (HU l name)else none)
  |none=>gk)
 |_=>gk
omit [Dr]in
theorem Ag{α:Type}(p:α->Bool)(l:List α):dN p l=l.reverse.find? p:=by
 induction l with
 |nil=>rfl
 |cons z r ih=>
  simp only[dN,ih,List.reverse_cons,aeE]
  grind
end Go.Av
namespace Go.Av
open Go.RowKit Go.Sort Go.Proofs
section
variable [Dr]
theorem Left.grew(hd:Dr.on){S S':az}{β β':List bQ}{w w':World}{h':Hp}(L:Left (cQ [] []) S β w S' β' w' h'):∃q os,w'=grow (w.drewN q) os:=by
 have hg:=L.gro;have hd:=hg.cnt hd;have hk:∀b,b<w.heap.size->w'.heap[b]? = w.heap[b]?:=fun b hb=>(L.keep b hb (by rintro⟨l,_,_,h1,_⟩;simp at h1)).1;refine⟨w'.drawn-w.drawn,w'.heap.extract w.heap.size w'.heap.size,?_⟩;have e1:w.heap++w'.heap.extract w.heap.size w'.heap.size=w'.heap:=by
  apply Array.ext_getElem?;intro i;by_cases hi:i<w.heap.size
  ·rw[aes hi,hk i hi]
  ·rw[Array.getElem?_append_right WD,Array.getElem?_extract];split
   ·rw[show w.heap.size+(i-w.heap.size)=i by omega]
   ·rw[Array.getElem?_eq_none WD]
 have e2:w.drawn+(w'.drawn-w.drawn)=w'.drawn:=WD
 obtain⟨h1,h2,h3,h4,h5⟩:=w';obtain⟨g1,g2,g3,g4,g5⟩:=w;have a1:=hg.os;have a2:=hg.out;have a3:=hg.tape;simp only at a1 a2 a3 e1 e2;unfold grow World.drewN;simp only[e1,e2,a1,a2,a3]
end
theorem qf{α β:Type}(f:α->List β)(k:Nat)(hk:∀x,(f x).length=k)(hp:0<k):∀(l:List α)(t:Nat),(l.map f).flatten[t]? = (l[t / k]?).bind fun x=>(f x)[t % k]?
 |[],t=>AI
 | x:: l,t=>by
  simp only[ac3,aet];by_cases h:t<k
  ·rw[ac6 (by rw[hk];exact h),Nat.div_eq_of_lt h,Nat.mod_eq_of_lt h];simp
  ·rw[adh (by rw[hk];omega),hk,qf f k hk hp l (t-k)];rw[Nat.div_eq_sub_div hp (by omega:k<=t),Nat.mod_eq_sub_mod (by omega:k<=t)];simp
theorem qg{α β:Type}(f:α->List β)(k:Nat)(hk:∀x,(f x).length=k):∀(l:List α),(l.map f).flatten.length=l.length*k
 |[]=>AI
 |x:: l=>by simp only[ac3,aet,ac7,hk,qg f k hk l,acR,aeZ];omega
section
variable {α:Type} [Inhabited α]
theorem kj(enc:α->List Value)(k:Nat)(hk:∀x,(enc x).length=k)(hp:0<k)(d:Array α):(flatK enc k d).toList=(d.toList.map enc).flatten:=by
 apply adZ;intro t;rw[qf enc k hk hp];by_cases ht:t<d.size*k
 ·have hd:t / k<d.size:=by rw[Nat.div_lt_iff_lt_mul hp];exact ht
  have hm:t % k<k:=afo _ hp;have h1:=get_flatK enc k d t ht;rw[acF (flatK enc k d) t (by rw[size_flatK];exact ht),acF d _ hd,acF (enc _) _ (by rw[hk];exact hm)]at h1;rw[acH (by simpa using ht),Array.getElem_toList,h1,ads,adf hd];simp only[ad7];rw[acH (by rw[hk];exact hm)]
 ·rw[aeI (by simp only[adE,size_flatK];omega),aeI (by simp only[adE];rw[Nat.le_div_iff_mul_le hp];omega)];rfl
theorem Am(F x:Array Value)(off:Nat)(hf:off+F.size<=x.size):putCells id off F x=(x.toList.take off++F.toList++x.toList.drop (off+F.size)).toArray:=by
 apply Array.ext_getElem?;intro t;unfold putCells;simp only[Array.getElem?_mapIdx,aem];by_cases h1:t<off
 ·rw[ac6 Bk,ac6 Bk,adM,acL h1,ads,adf WD];simp only[adv];rw[acE WD]
 ·by_cases h2:t<off+F.size
  ·rw[ac6 Bk,adh Bk];have e:(x.toList.take off).length=off:=by simp;omega
   rw[e,adf (by omega:t<x.size),ads,adf (by omega:t-off<F.size)];simp only[adv,id];rw[acL ⟨WD,h2⟩,acF F _ WD]
  ·have e:(x.toList.take off++F.toList).length=off+F.size:=by simp;omega
   rw[adh (by rw[e];omega),e,ad5,ads,show off+F.size+(t-(off+F.size))=t by omega];cases x[t]? with
   |none=>rfl
   |some y=>simp only[adv];rw[acE WD]
theorem zy{w:World}{b:Nat}{x:Array Value}(hr:Row w b x)(enc:α->List Value)(k off n:Nat)(d:Array α)(os:Array Obj)(hf:off+d.size*k<=x.size):
  Row (sortWorldK enc k w b off n d os) b (x.toList.take off++(flatK enc k d).toList++x.toList.drop (off+(flatK enc k d).size)).toArray:=by
 have hlt:=hr.lt;obtain⟨e,he⟩:=hr;refine⟨e,?_⟩;rw[<- Am (flatK enc k d) x off (by rw[size_flatK];exact hf)];show ((w.heap.modify b (onCells (putCells id off (flatK enc k d))))++os)[b]? = _;rw[aes (by simpa using hlt),aeH,acL rfl,he];rfl
theorem m9{w:World}{b b':Nat}(enc:α->List Value)(k off n:Nat)(d:Array α)(os:Array Obj)(hlt:b'<w.heap.size)(hb:b'≠b):(sortWorldK enc k w b off n d os).heap[b']? = w.heap[b']?:=by
 show ((w.heap.modify b (onCells (putCells id off (flatK enc k d))))++os)[b']? = _;rw[aes (by simpa using hlt),aeH,acE (fun h=>hb h.symm)]
theorem zx[Dr]{w:World}{b:Nat}(enc:α->List Value)(k off n:Nat)(d:Array α)(os:Array Obj):Gro w (sortWorldK enc k w b off n d os):=by
 refine⟨?_,rfl,rfl,rfl,fun _=>?_⟩
 ·show _<=((w.heap.modify b (onCells (putCells id off (flatK enc k d))))++os).size;simp
 ·show w.drawn<=w.drawn+n;omega
end
section
variable [Dr] {S:az} {β:List bQ} {h:Hp} {w w':World}
theorem FA(hw:Wf S w)(hh:dm S β w h){l b nb off:Nat}{cs acs:List AV}{vs:List Value}(hcs:h[l]? = some cs)(hne:cs≠[])(hb:β[l]? = some (b,nb))(hb0:nb≠0)(hvs:be S β acs vs)(hle:off+acs.length<=cs.length)(hoc:cs.all aO=true)(hoa:acs.all aO=true)(hg:Gro w w')(hr:∀x,Row w b x->cs.length<=x.size->Row w' b (x.toList.take off++vs++x.toList.drop (off+vs.length)).toArray)(ho:∀b',b'<w.heap.size->b'≠b->w'.heap[b']? = w.heap[b']?):
  Left (cQ β h) S β w S β w' (h.set l (setCells cs off acs)):=by
 obtain⟨hlen,ω,hH⟩:=hh;obtain⟨z,j1,j2,j3,j4,j5⟩:=ge.cells hH hcs hne hb hb0;rw[hb]at j1;cases j1;have hvl:=hvs.length;have hzs:cs.length<=z.size:=by
  have:=j4.length
  simp at this;omega
 have hrow:=hr z j2 hzs;have hll:l<h.length:=by
  rcases ac9 l h.length with k|k
  ·exact k
  ·rw[aeI k]at hcs;cases hcs
 have hown:∀b',cQ β (h.set l (setCells cs off acs)) b'->cQ β h b':=by
  rintro b' ⟨l',cs',n,k1,k2,k3⟩;by_cases hl:l'=l
  ·subst hl;exact⟨l',cs,n,hcs,hne,k3⟩
  ·rw[aef (fun e=>hl e.symm)]at k1;exact⟨l',cs',n,k1,k2,k3⟩
 refine⟨az.le_refl S,ig.refl β,fun b' o v hv=>?_,hg,fun b' hb' hE=>?_,⟨by simpa using hlen,ω,ge.rows hH (az.le_refl S) (ig.refl β) hlen fun l' cs' hl' hne'=>?_⟩,fun b' hb'=>.inl (hown b' hb')⟩
 ·have hne2:b'≠b:=by rintro rfl;rw[j5]at hv;cases hv
  rw[cell_of_heap (ho b' (hw.lt hv) hne2)];exact hw b' o v hv
 ·have hne2:b'≠b:=by rintro rfl;exact hE ⟨l,cs,_,hcs,hne,hb⟩
  exact⟨ho b' hb' hne2,fun _=>rfl⟩
 ·by_cases hl:l'=l
  ·subst hl;rw[adu hll]at hl';cases hl';refine .inr ⟨b,_,?_,hrow,j3,?_,j5,fun t ht=>?_⟩
   ·rw[hb];simp;omega
   ·rw[iY _ _ _ WD];have hsp:be S β (setCells cs off acs) (((z.toList.take cs.length).take off++vs++(z.toList.take cs.length).drop (off+vs.length))):=by
     unfold setCells;rw[hvl];exact ((j4.take off).append hvs).append (j4.drop _)
    have heq:(z.toList.take off++vs++z.toList.drop (off+vs.length)).take cs.length=
      (z.toList.take cs.length).take off++vs++(z.toList.take cs.length).drop (off+vs.length):=by
     rw[aev,aev];have e1:(z.toList.take off).length=off:=by simp;omega
     rw[aeu,aeu];have e2:min cs.length off=off:=WD
     have e3:min off cs.length=off:=WD
     rw[e2,e3,e1];have e4:vs.take (cs.length-off)=vs:=adY WD;rw[e4];congr 1;rw[afl,ac7,e1];congr 2;omega
    show be S β _ (List.take _ _);rw[show (z.toList.take off++vs++z.toList.drop (off+vs.length)).toArray.toList=(z.toList.take off++vs++z.toList.drop (off+vs.length))from rfl,heq];exact hsp
   ·rcases ht.setCells with g|g
    ·exact absurd g (oB hoc t)
    ·exact absurd g (oB hoa t)
  ·rw[aef (fun e=>hl e.symm)]at hl';refine .inl ⟨hl',fun b2 hlt hω=>⟨hω,ho b2 hlt ?_,fun o=>id⟩⟩;rintro rfl;rw[j3]at hω;cases hω;exact hl rfl
end
structure Els (α:Type) where
 k:Nat
 ea:α->List AV
 ev:α->List Value
 dec:List AV->Option (List α)
structure ElsOK {α:Type} (X:Els α):Prop where
 pos:0<X.k
 la:∀x,(X.ea x).length=X.k
 lv:∀x,(X.ev x).length=X.k
 one:∀x,∀v∈X.ev x,v.oneCell'=true
 vr:∀(S:az)(β:List bQ)(x:α),be S β (X.ea x) (X.ev x)
 rv:∀(S:az)(β:List bQ)(x:α)(vs:List Value),be S β (X.ea x) vs->vs=X.ev x
 dec:∀cs l,X.dec cs=some l->cs=(l.map X.ea).flatten
theorem ElsOK.flat{α:Type}{X:Els α}(hX:ElsOK X)(S:az)(β:List bQ):∀l:List α,be S β (l.map X.ea).flatten (l.map X.ev).flatten
 |[]=>by simp[be]
 |x:: l=>by simp only[ac3,aet];exact (hX.vr S β x).append (hX.flat S β l)
theorem acv{S:az}{β:List bQ}:{ps qs:List AV} ->{vs:List Value} ->be S β (ps++qs) vs->∃u v,vs=u++v/\be S β ps u/\be S β qs v
 |[],_,vs,h=>⟨[],vs,rfl,by simp[be],h⟩
 |_:: ps,qs,vs,h=>by
  simp only[ac1,be]at h;obtain⟨x,xs,rfl,h1,h2⟩:=h;obtain⟨u,v,rfl,h3,h4⟩:=acv h2;exact⟨x:: u,v,rfl,by simp only[be];exact⟨x,u,rfl,h1,h3⟩,h4⟩
theorem ElsOK.unflat{α:Type}{X:Els α}(hX:ElsOK X){S:az}{β:List bQ}:∀(l:List α)(vs:List Value),be S β (l.map X.ea).flatten vs->vs=(l.map X.ev).flatten
 |[],vs,h=>by simpa [be]using h
 |x:: l,vs,h=>by
  simp only[ac3,aet]at h|-;obtain⟨u,v,rfl,h1,h2⟩:=acv h;rw[hX.rv S β x u h1,hX.unflat l v h2]
def wB{α:Type}(X:Els α)(g:Nat)(srt:List α->List α):(FuncId->List AV->M AV)->List AV->M AV:=fun _ args h=>match args with
 |[.sl [],.fn (.func g') [] []]=>bif Nat.beq g' g then .ok (.tup []) h else .fail
 | [.hs l off len sz _,.fn (.func g') [] []]=>match h[l]? with
  |none=>.fail
  |some cs=>match X.dec ((cs.drop off).take (len*X.k))with
   |none=>.fail
   | some xs=>bif Nat.beq g' g&&Nat.beq sz X.k&&decide (0<len)&&decide (off+len*X.k<=cs.length)&&decide (xs.length=len)&&decide (len<4611686018427387904)&&decide ((srt xs).length=len)&&cs.all aO&&((srt xs).map X.ea).flatten.all aO
     then .ok (.tup []) (h.set l (setCells cs off ((srt xs).map X.ea).flatten))else .fail
 |_=>.fail
section
variable [Dr] {α:Type} [Inhabited α] {P:Program}
theorem Re{X:Els α}(hX:ElsOK X){f g:Nat}{srt:List α->List α}(call:FuncId->List AV->M AV)
  (hcal:∀(w:World)(blk off cap:Nat)(d:Array α),GOKw w->gN<=blk->HoldsK X.ev X.k w blk off d->blk<w.heap.size->d.size<4611686018427387904->
   Calls P f #[.slice (some ⟨blk,off,none⟩) d.size cap,.func (.func g) #[] #[]] w fun e w'=>e= .returned (.tuple #[])/\∃n os,w'=sortWorldK X.ev X.k w blk off n (srt d.toList).toArray os)
  {l off len sz g':Nat} {ag:Bool} {h:Hp} {S:az} {β:List bQ} {w:World} {vs:List Value} (hr:wB X g srt call [.hs l off len sz ag,.fn (.func g') [] []] h≠.fail) (hg:xg S β h w) (hw:Wf S w) (hh:dm S β w h)
  (hv:be S β [.hs l off len sz ag,.fn (.func g') [] []] vs):Calls P f vs.toArray w (eS none S β h w (wB X g srt call [.hs l off len sz ag,.fn (.func g') [] []] h)):=by
 unfold wB at hr |-;simp only at hr |-;cases hl:h[l]? with
 |none=>rw[hl]at hr;exact absurd rfl hr
 | some cs=>
  rw[hl]at hr;simp only at hr |-;cases hd:X.dec ((cs.drop off).take (len*X.k))with
  |none=>rw[hd]at hr;exact absurd rfl hr
  | some xs=>
   rw[hd]at hr;simp only at hr |-;cases hc:(Nat.beq g' g&&Nat.beq sz X.k&&decide (0<len)&&decide (off+len*X.k<=cs.length)&&decide (xs.length=len)&&decide (len<4611686018427387904)&&decide ((srt xs).length=len)&&cs.all aO&&((srt xs).map X.ea).flatten.all aO)with
   |false=>rw[hc]at hr;exact absurd rfl hr
   | true=>
    simp only[acB,acP]at hc;obtain⟨⟨⟨⟨⟨⟨⟨⟨c1,c2⟩,c3⟩,c4⟩,c5⟩,c6⟩,c7⟩,c8⟩,c9⟩:=hc;obtain rfl:=Nat.eq_of_beq_eq_true c1;obtain rfl:=Nat.eq_of_beq_eq_true c2;simp only[acD];have hpos:=hX.pos;have hlk:0<len*X.k:=Nat.mul_pos c3 hpos;have hne:cs≠[]:=by rintro rfl;simp at c4;omega
    simp only[be]at hv;obtain⟨v1,r1,rfl,hv1,v2,r2,rfl,hv2,rfl⟩:=hv;obtain⟨⟨b,nb⟩,cap,hb,hb0,rfl,k1,k2⟩:=hv1.hs_pos c3;simp only[VR,be]at hv2;obtain⟨y1,y2,rfl,rfl,rfl⟩:=hv2;have hh':=hh;obtain⟨hlen,ω,hH⟩:=hh;obtain⟨z,j1,j2,j3,j4,j5⟩:=ge.cells hH hl hne hb hb0;rw[hb]at j1;cases j1;have hzs:cs.length<=z.size:=by
     have:=j4.length
     simp at this;omega
    have hown:cQ β h b:=⟨l,cs,_,hl,hne,hb⟩;have hgb:gN<=b:=by
     rcases ac9 b gN with k|k
     ·exact absurd hown (hg.2.1 b k)
     ·exact k
    have hxs:=hX.dec _ _ hd;have hvx:=hX.unflat (S:=S) (β:=β) xs _ (by rw[<- hxs];exact (j4.drop off).take (len*X.k));have hflat:=kj X.ev X.k hX.lv hpos xs.toArray;have hsz:(flatK X.ev X.k xs.toArray).size=len*X.k:=by rw[size_flatK];simp[c5]
    have hholds:HoldsK X.ev X.k w b off xs.toArray:=by
     intro j hj;rw[hsz]at hj;have e1:(flatK X.ev X.k xs.toArray)[j]! = z[off+j]'(WD):=by
      have h1:(flatK X.ev X.k xs.toArray).toList[j]? = z.toList[off+j]?:=by
       rw[hflat,show xs.toArray.toList=xs from rfl,<- hvx,adM,acL hj,ad5,adM,acL WD]
      rw[ads,ads,adf WD,adf WD]at h1;rw[acF _ j WD];exact adI h1
     rw[e1];refine⟨by rw[j2.cell,adf WD];rfl,?_⟩;obtain⟨e,he⟩:=j2;simp[World.frozen?,he]
    have hcall:=hcal w b off cap xs.toArray hg.1 hgb hholds j2.lt (by simpa [c5]using c6);rw[show xs.toArray.size=len by simp[c5]]at hcall;refine hcall.mono ?_;rintro e w' ⟨rfl,n,os,rfl⟩;have hfl2:=kj X.ev X.k hX.lv hpos (srt xs).toArray;have hs2:(flatK X.ev X.k (srt xs).toArray).size=len*X.k:=by rw[size_flatK];simp[c7]
    have hal:((srt xs).map X.ea).flatten.length=len*X.k:=by rw[qg X.ea X.k hX.la,c7]
    refine⟨S,β,_,rfl,by simp only[VR,be];exact⟨[],rfl,rfl⟩,FA (vs:=(flatK X.ev X.k (srt xs).toArray).toList) hw hh' hl hne hb hb0 (by rw[hfl2];exact hX.flat S β (srt xs)) (by rw[hal];exact c4) c8 c9 (zx X.ev X.k off n _ os) (fun x hx hle=>?_) (fun b' hlt hne2=>m9 X.ev X.k off n _ os hlt hne2),fun _ hsz=>by cases hsz⟩
    have:=zy hx X.ev X.k off n (srt xs).toArray os (by simp only[adn,c7];omega)
    exact this
end
end Go.Av
namespace Go.Av.Ap
open Go Go.Av
abbrev aX:=aA×aA
def dj(r:aX):AV:=.agg [.str r.1,.str r.2]
def dx(l:List aX):AV:=.sl (l.map dj)
def Im(l:List (List aX)):AV:=.sl (l.map dx)
@[simp] theorem xp(r:aX):ab (dj r)=[.str r.1,.str r.2]:=rfl
@[simp] theorem EX(r:aX):AV.agg [.str r.1,.str r.2]=dj r:=rfl
@[simp] theorem yT(r:aX):cn 2 (dj r)=true:=rfl
@[simp] theorem Lf(l:List aX):dK 2 (l.map dj)=true:=eN yT l
@[simp] theorem Mq(g:Nat->Nat->Nat->Nat->Bool->AV)(r:aX):cl g (dj r)=dj r:=rfl
@[simp] theorem I6(g:Nat->Nat->Nat->Nat->Bool->AV)(l:List aX):cl g (dx l)=dx l:=by simp[dx,cl,eC g dj (Mq g)]
@[simp] theorem Yr(g:Nat->Nat->Nat->Nat->Bool->AV)(l:List (List aX)):cl g (Im l)=Im l:=by simp[Im,cl,eC g dx (I6 g)]
section
variable {V:Type}
def kX:List (aX×V)->aX->V->List (aX×V)
 |[],k,v=>[(k,v)]
 |x:: r,k,v=>if x.1=k then(k,v):: r else x:: kX r k v
def jL:List (aX×V)->aX->Option V
 |[],_=>none
 |x:: r,k=>if x.1=k then some x.2 else jL r k
def gB(f:V->AV)(x:aX×V):AV:=.tup [dj x.1,f x.2]
def se(m:aA)(l:List (aA×V))(out:List (aX×V)):List (aX×V):=l.foldr (fun f o=>kX o (m,f.1) f.2) out
def nM:List (aA×List (aA×V))->List aA->List (aX×V)->List (aX×V)
 |[],_,out=>out
 |m:: ms,seen,out=>if m.1∈seen then nM ms seen out else nM ms (seen++[m.1]) (se m.1 m.2 out)
end
def E4:AV->Option (aA×AV)
 |.agg [.str s,.bool p,.sl l,.int .i64 k,.sl fs,.int .i64 e,.int .i64 o,.int .i64 n,.str a,.str b,.sl ns,.sl es]=>some (s,.agg [.str s,.bool p,.sl l,qi k,.sl fs,qi e,qi o,qi n,.str a,.str b,.sl ns,.sl es])
 |_=>none
def H6:AV->Option (aA×List (aA×AV))
 |.agg [.str s,.sl _,.sl _,.sl _,.sl fs,.bool _,.sl _,.sl _,.sl _]=>(fs.mapM E4).map fun l=>(s,l)
 |_=>none
def yD:(FuncId->List AV->M AV)->List AV->M AV:=fun _ args h=>match args with
 |[.sl ms]=>(match ms.mapM H6 with
  |some l=>if l.length<=1000000/\∀m∈l,m.2.length<=1000000 then .ok (.mp h.length) (h++[[.tup ((nM l [] []).map (gB id))]])else .fail
  |none=>.fail)
 |_=>.fail
def Ai(a b:aX):Bool:=aU a.1 b.1||(a.1== b.1&&aU a.2 b.2)
def Ah(a b:aX):Bool:=!(Ai b a)
def yE(x:aX):List aX->List aX
 |[]=>[x]
 |y:: l=>if Ah x y=true then x:: y:: l else y:: yE x l
def iD:List aX->List aX
 |[]=>[]
 |x:: l=>yE x (iD l)
def Fl:AV->Option aX
 |.tup [.agg [.str a,.str b],_]=>some (a,b)
 |_=>none
def rr(gs:List Nat)(o:Nat):(FuncId->List AV->M AV)->List AV->M AV:=fun _ args h=>match args with
 | [.fn (.func g) [] [.ip [x]],.fn (.func o') [] []]=>bif dM gs g&&Nat.beq o o' then
   (match mE h x with
   |some es=>(match es.mapM Fl with
    |some ks=>if ks.length<=1000000 then .ok (dx (iD ks)) h else .fail
    |none=>.fail)
   |none=>.fail)else .fail
 |_=>.fail
def xK(x y:aX):Int:=if Ai x y=true then -1 else if Ai y x=true then 1 else 0
def CK:List AV->Option (List aX)
 |[]=>some []
 |.str a:: .str b:: r=>match CK r with
  |some l=>some ((a,b):: l)
  |none=>none
 |_=>none
def Oz(s:aA):Value:=.string ⟨s.toArray⟩
def Ja(r:aX):List AV:=[.str r.1,.str r.2]
def eX(r:aX):List Value:=[Oz r.1,Oz r.2]
def kh:Els aX:=⟨2,Ja,eX,CK⟩
def str_eq{x:ByteArray}{s:aA}(h:x.data.toList=s):Value.string x=Oz s:=by
 unfold Oz;congr 1;exact ByteArray.ext (Array.ext' (by rw[h]))
def Kt:∀(cs:List AV)(l:List aX),CK cs=some l->cs=(l.map Ja).flatten:=by
 intro cs
 fun_induction CK cs with
 |case1=>intro l h;cases h;rfl
 |case2 a b r l' h ih=>
  intro l hl;simp only[acz]at hl;subst hl;rw[ih l' h];rfl
 |case3 a b r h ih=>intro l hl;cases hl
 |case4=>intro l hl;cases hl
theorem uA:ElsOK kh where
 pos:=Vc
 la:=fun _=>rfl
 lv:=fun _=>rfl
 one:=fun x v hv=>by
  simp only[kh,eX,ac2,List.not_mem_nil,or_false]at hv;rcases hv with rfl|rfl<;>rfl
 vr:=fun S β x=>by
  simp only[kh,Ja,eX,be,VR,Oz];exact⟨_,_,rfl,⟨_,rfl,AI⟩,_,_,rfl,⟨_,rfl,AI⟩,rfl⟩
 rv:=fun S β x vs h=>by
  simp only[kh,Ja,be,VR]at h;obtain⟨_,_,rfl,⟨a,rfl,ha⟩,_,_,rfl,⟨b,rfl,hb⟩,rfl⟩:=h;simp only[kh,eX,str_eq ha,str_eq hb]
 dec:=Kt
open Go.RowKit Go.Sort Go.Proofs in
def pu(l:List aX):List aX:=(pdq (ltOf xK) l.toArray 0 l.toArray.size (Lib.bitLen l.toArray.size) true true).toList
def qK(o:Nat):(FuncId->List AV->M AV)->List AV->M AV:=fun call args h=>match args with
 |[.hn,.fn (.func o') [] []]=>bif Nat.beq o' o then .ok (.tup []) h else .fail
 |args=>wB kh o pu call args h
theorem nG:∀s:aA,aU s s=false
 |[]=>rfl
 |a:: x=>by simp[aU,nG x]
theorem sN:∀a b c:aA,aU a b=true->aU b c=true->aU a c=true
 |_,[],_,h,_=>by simp[aU]at h
 |_,_:: _,[],_,h=>by simp[aU]at h
 |[],_:: _,_:: _,_,_=>rfl
 | a:: x,b:: y,c:: z,h1,h2=>by
  simp only[aU,adm,acP,acB,ada]at h1 h2 |-;rcases h1 with h1|⟨rfl,h1⟩
  ·rcases h2 with h2|⟨rfl,h2⟩
   ·exact .inl (UInt8.lt_trans h1 h2)
   ·exact .inl h1
  ·rcases h2 with h2|⟨rfl,h2⟩
   ·exact .inl h2
   ·exact .inr ⟨rfl,sN x y z h1 h2⟩
theorem kZ:∀a b:aA,aU a b=false->a≠b->aU b a=true
 |[],[],_,h=>absurd rfl h
 |[],_:: _,h,_=>by simp[aU]at h
 |_:: _,[],_,_=>rfl
 | a:: x,b:: y,h,hn=>by
  simp only[aU,aeb,aeh,aeU,acM,adm,acP,acB,ada]at h|-;by_cases hab:a=b
  ·subst hab;rcases h.2 with h2|h2
   ·exact absurd rfl h2
   ·exact .inr ⟨rfl,kZ x y h2 (fun e=>hn (by rw[e]))⟩
  ·left;have h1:=h.1;rw[UInt8.not_lt]at h1;exact UInt8.lt_of_le_of_ne h1 (fun e=>hab e.symm)
def Jv(a:aX):Ai a a=false:=by simp[Ai,nG]
variable {a b:aX}
def HY{c:aX}(h1:Ai a b=true)(h2:Ai b c=true):Ai a c=true:=by
 simp only[Ai,adm,acB,ada]at *;rcases h1 with h1|⟨e1,h1⟩<;>rcases h2 with h2|⟨e2,h2⟩
 ·exact .inl (sN _ _ _ h1 h2)
 ·exact .inl (by rw[<- e2];exact h1)
 ·exact .inl (by rw[e1];exact h2)
 ·exact .inr ⟨by rw[e1,e2],sN _ _ _ h1 h2⟩
def Jw(h:Ai a b=false)(hn:a≠b):Ai b a=true:=by
 simp only[Ai,aeb,aeU,acM,adm,acB,ada]at *;by_cases e:a.1=b.1
 ·rcases h.2 with h2|h2
  ·exact absurd e h2
  ·exact .inr ⟨e.symm,kZ _ _ h2 (fun e2=>hn (Prod.ext e e2))⟩
 ·exact .inl (kZ _ _ h.1 e)
def NK(h:Ai a b=true):Ai b a=false:=by
 cases hb:Ai b a with
 |false=>rfl
 |true=>have:=HY h hb;rw[Jv]at this;cases this
def Nt{c:aX}(h1:Ah a b=true)(h2:Ah b c=true):Ah a c=true:=by
 simp only[Ah,ade]at *;cases h3:Ai c a with
 |false=>rfl
 | true=>
  by_cases e:b=c
  ·subst e;rw[h3]at h1;cases h1
  ·have:=Jw h2 (fun e'=>e e'.symm)
   have:=HY this h3
   rw[this]at h1;cases h1
def P9(a b:aX):(Ah a b||Ah b a)=true:=by
 simp only[Ah,adm,ade];cases h:Ai b a with
 |false=>exact .inl rfl
 |true=>exact .inr (NK h)
def Ns(h1:Ah a b=true)(h2:Ah b a=true):a=b:=by
 simp only[Ah,ade]at *;by_cases e:a=b
 ·exact e
 ·have:=Jw h2 e
  rw[this]at h1;cases h1
theorem sg(x:aX):∀l:List aX,(yE x l).Perm (x:: l)
 |[]=>.refl _
 |y:: l=>by
  simp only[yE];split
  ·exact .refl _
  ·exact ((sg x l).cons y).trans (.swap x y l)
theorem gu:∀l:List aX,(iD l).Perm l
 |[]=>.refl _
 |x:: l=>(sg x (iD l)).trans ((gu l).cons x)
theorem tB(x:aX):∀l:List aX,l.Pairwise (fun a b=>Ah a b=true)->(yE x l).Pairwise fun a b=>Ah a b=true
 |[],_=>by simp[yE]
 | y:: l,h=>by
  obtain⟨h1,h2⟩:=aeA.1 h;simp only[yE];split
  ·rename_i hxy;refine aeA.2 ⟨fun z hz=>?_,h⟩;rcases ac2.1 hz with rfl|hz
   ·exact hxy
   ·exact Nt hxy (h1 z hz)
  ·rename_i hxy;refine aeA.2 ⟨fun z hz=>?_,tB x l h2⟩;rcases ac2.1 ((sg x l).mem_iff.1 hz)with rfl|hz
   ·have:=P9 y z
    rw[adm]at this;exact this.resolve_right hxy
   ·exact h1 z hz
theorem mc:∀l:List aX,(iD l).Pairwise fun a b=>Ah a b=true
 |[]=>.nil
 |x:: l=>tB x _ (mc l)
def zA{l l':List aX}(hp:l.Perm l')(h:l.Pairwise fun a b=>Ah a b=true)(h':l'.Pairwise fun a b=>Ah a b=true):l=l':=
 hp.eq_of_pairwise (fun _ _ _ _ h1 h2=>Ns h1 h2) h h'
def Aq{l l':List aX}(hp:l.Perm l'):iD l=iD l':=
 zA ((gu l).trans (hp.trans (gu l').symm)) (mc l) (mc l')
open Go.RowKit Go.Sort Go.Proofs in
def ra(x y:aX):ltOf xK x y=Ai x y:=by
 unfold ltOf xK;cases h:Ai x y with
 |true=>simp
 |false=>cases h2:Ai y x<;>simp
open Go.RowKit Go.Sort Go.Proofs in
def ZA:SWO (ltOf xK) where
 irrefl:=fun x=>by rw[ra];exact Jv x
 trans:=fun x y z h1 h2=>by rw[ra]at *;exact HY h1 h2
 ntrans:=fun x y z h1 h2=>by
  rw[ra]at *
  have:=Nt (a:=z) (b:=y) (c:=x) (by simp[Ah,h2]) (by simp[Ah,h1])
  simpa [Ah]using this
open Go.RowKit Go.Sort Go.Proofs in
def B8(l:List aX):(pu l).Perm l/\(pu l).Pairwise (fun a b=>Ah a b=true):=by
 have h:=pdq_sorts (ltOf xK) ZA l.toArray 0 l.toArray.size (Lib.bitLen l.toArray.size) true true (acU _) (acC _) (Or.inl rfl);obtain⟨⟨hs,_,hp⟩,ho⟩:=h;unfold pu;generalize pdq (ltOf xK) l.toArray 0 l.toArray.size (Lib.bitLen l.toArray.size) true true=d at hs hp ho;refine⟨?_,?_⟩
 ·rw[<- hs,Array.extract_size,hs,Array.extract_size]at hp;exact hp
 ·rw[List.pairwise_iff_getElem];intro i j hi hj hij;simp only[adE]at hi hj
  have:=ho i j (acU _) hij WD
  rw[acF d i hi,acF d j hj,ra]at this;simp only[Array.getElem_toList,Ah,this];rfl
def LC(l:List aX):pu l=iD l:=zA ((B8 l).1.trans (gu l).symm) (B8 l).2 (mc l)
theorem u9(l:List aX):(iD l).length=l.length:=(gu l).length_eq
end Go.Av.Ap
namespace Go.Av
open Go.RowKit Go.Sort Go.Proofs
def gh{α:Type}(k:Nat)(l:List α)(i:Nat):List α:=(l.drop (i*k)).take k
def AQ{α:Type}{k n:Nat}{l:List α}(h:l.length=n*k){i:Nat}(hi:i<n):(gh k l i).length=k:=by
 have:i*k+k<=n*k:=by rw[<- aeZ];exact ac4 _ hi
 simp only[gh,aei,afd,h];omega
theorem xD{α:Type}{k:Nat}:(n:Nat)->{l:List α} ->l.length=n*k->((List.range n).map fun i=>gh k l i).flatten=l
 |0,l,h=>by simp at h;simp[h]
 | n+1,l,h=>by
  rw[List.range_succ_eq_map,ac3,adW,aet];have e:((fun i=>gh k l i) ∘ Nat.succ)=fun i=>gh k (l.drop k) i:=by
   funext i;simp only[Function.comp,gh,List.drop_drop,aeZ];congr 2;omega
  rw[e,xD n (l:=l.drop k) (by rw[afd,h,aeZ];omega)];simp[gh,List.take_append_drop]
def be.chunk{S:az}{β:List bQ}{cs:List AV}{vs:List Value}(h:be S β cs vs)(k i:Nat):be S β (gh k cs i) (gh k vs i):=(h.drop (i*k)).take k
def uJ:List AV->Option (List UInt8)
 |.str s:: _=>some s
 |_=>none
def uy(x y:List UInt8):Int:=if aU x y=true then -1 else if aU y x=true then 1 else 0
def OW(keys:List (List UInt8))(n:Nat)(i j:Nat):Int:=uy keys[i % n]! keys[j % n]!
def jZ(keys:List (List UInt8)):List Nat:=(pdq (ltOf (OW keys keys.length)) (Array.range keys.length) 0 (Array.range keys.length).size (Lib.bitLen (Array.range keys.length).size) true true).toList
def yH:List (List AV)->Option (List (List UInt8))
 |[]=>some []
 | c:: r=>match uJ c with
  |none=>none
  |some s=>match yH r with
   |none=>none
   |some l=>some (s:: l)
theorem Bl:{cs:List (List AV)} ->{ks:List (List UInt8)} ->yH cs=some ks->ks.length=cs.length/\∀(i:Nat)(c:List AV),cs[i]? = some c->uJ c=some ks[i]!
 |[],ks,h=>by
  cases h;exact⟨rfl,fun i c hc=>by simp at hc⟩
 | c:: r,ks,h=>by
  unfold yH at h;cases hc:uJ c with
  |none=>rw[hc]at h;cases h
  | some s=>
   rw[hc]at h;simp only at h;cases hr:yH r with
   |none=>rw[hr]at h;cases h
   |some l=>
    rw[hr]at h;cases h;obtain⟨h1,h2⟩:=Bl hr;refine⟨by simp[h1],fun i d hd=>?_⟩;cases i with
    |zero=>simp at hd;subst hd;simpa using hc
    |succ i=>simpa using h2 i d (by simpa using hd)
theorem Fo{nm:List AV->List UInt8}:{cs:List (List AV)} ->(∀c∈cs,uJ c=some (nm c))->yH cs=some (cs.map nm)
 |[],_=>rfl
 |c:: r,h=>by simp[yH,h c AI,Fo (cs:=r) fun d hd=>h d (by simp[hd])]
def keysOf(k n:Nat)(row:List AV):Option (List (List UInt8)):=yH ((List.range n).map fun i=>gh k row i)
def km(k g:Nat):(FuncId->List AV->M AV)->List AV->M AV:=fun _ args h=>match args with
 |[.sl [],.fn (.func g') [] []]=>bif Nat.beq g' g then .ok (.tup []) h else .fail
 |[.hn,.fn (.func g') [] []]=>bif Nat.beq g' g then .ok (.tup []) h else .fail
 | [.hs l off len sz _,.fn (.func g') [] []]=>match h[l]? with
  |none=>.fail
  |some cs=>match keysOf k len ((cs.drop off).take (len*k))with
   |none=>.fail
   | some keys=>bif Nat.beq g' g&&Nat.beq sz k&&decide (0<len)&&decide (0<k)&&decide (off+len*k<=cs.length)&&decide (keys.length=len)&&decide (len<4611686018427387904)&&decide ((jZ keys).length=len)&&cs.all aO
     then .ok (.tup []) (h.set l (setCells cs off ((jZ keys).map fun i=>gh k ((cs.drop off).take (len*k)) (i % len)).flatten))else .fail
 |_=>.fail
section
variable [Dr] {P:Program}
omit [Dr]in
theorem KX{S:az}{β:List bQ}{c:List AV}{s:List UInt8}{vs:List Value}(h:uJ c=some s)(hv:be S β c vs):∃(x:ByteArray)(r:List Value),vs= .string x:: r/\x.data.toList=s:=by
 unfold uJ at h;split at h
 ·cases h;simp only[be,VR]at hv;obtain⟨v,r,rfl,⟨x,rfl,hx⟩,_⟩:=hv;exact⟨x,r,rfl,hx⟩
 ·cases h
omit [Dr]in
theorem AF{k i:Nat}{l:List AV}{p:AV->Bool}(h:l.all p=true):(gh k l i).all p=true:=by
 rw[acQ]at h|-;exact fun x hx=>h x (List.mem_of_mem_drop (ae0 hx))
theorem Nc{f k g:Nat}(call:FuncId->List AV->M AV)
  (hcal:∀(w:World)(blk off cap:Nat)(keys:List (List UInt8))(ev:Nat->List Value),0<keys.length->(∀i,(ev i).length=k)->(∀i,∀v∈ev i,v.oneCell'=true)->(∀i,∃(x:ByteArray)(r:List Value),ev i= .string x:: r/\x.data.toList=keys[i % keys.length]!)->
   GOKw w->gN<=blk->HoldsK ev k w blk off (Array.range keys.length)->blk<w.heap.size->keys.length<4611686018427387904->
   Calls P f #[.slice (some ⟨blk,off,none⟩) keys.length cap,.func (.func g) #[] #[]] w fun e w'=>e= .returned (.tuple #[])/\∃n os,w'=sortWorldK ev k w blk off n (jZ keys).toArray os)
  {l off len sz g':Nat} {ag:Bool} {h:Hp} {S:az} {β:List bQ} {w:World} {vs:List Value} (hr:km k g call [.hs l off len sz ag,.fn (.func g') [] []] h≠.fail) (hg:xg S β h w) (hw:Wf S w) (hh:dm S β w h)
  (hv:be S β [.hs l off len sz ag,.fn (.func g') [] []] vs):Calls P f vs.toArray w (eS none S β h w (km k g call [.hs l off len sz ag,.fn (.func g') [] []] h)):=by
 unfold km at hr |-;simp only at hr |-;cases hl:h[l]? with
 |none=>rw[hl]at hr;exact absurd rfl hr
 | some cs=>
  rw[hl]at hr;simp only at hr |-;generalize hrow:(cs.drop off).take (len*k)=row at hr |-;cases hd:keysOf k len row with
  |none=>rw[hd]at hr;exact absurd rfl hr
  | some keys=>
   rw[hd]at hr;simp only at hr |-;cases hc:(Nat.beq g' g&&Nat.beq sz k&&decide (0<len)&&decide (0<k)&&decide (off+len*k<=cs.length)&&decide (keys.length=len)&&decide (len<4611686018427387904)&&decide ((jZ keys).length=len)&&cs.all aO)with
   |false=>rw[hc]at hr;exact absurd rfl hr
   | true=>
    simp only[acB,acP]at hc;obtain⟨⟨⟨⟨⟨⟨⟨⟨c1,c2⟩,c3⟩,hpos⟩,c4⟩,c5⟩,c6⟩,c7⟩,c8⟩:=hc;obtain rfl:=Nat.eq_of_beq_eq_true c1;obtain rfl:=Nat.eq_of_beq_eq_true c2;simp only[acD];have hlk:0<len*sz:=Nat.mul_pos c3 hpos;have hne:cs≠[]:=by rintro rfl;simp at c4;omega
    simp only[be]at hv;obtain⟨v1,r1,rfl,hv1,v2,r2,rfl,hv2,rfl⟩:=hv;obtain⟨⟨b,nb⟩,cap,hb,hb0,rfl,k1,k2⟩:=hv1.hs_pos c3;simp only[VR,be]at hv2;obtain⟨y1,y2,rfl,rfl,rfl⟩:=hv2;have hh':=hh;obtain⟨hlen,ω,hH⟩:=hh;obtain⟨z,j1,j2,j3,j4,j5⟩:=ge.cells hH hl hne hb hb0;rw[hb]at j1;cases j1;have hzs:cs.length<=z.size:=by
     have:=j4.length
     simp at this;omega
    have hown:cQ β h b:=⟨l,cs,_,hl,hne,hb⟩;have hgb:gN<=b:=by
     rcases ac9 b gN with k|k
     ·exact absurd hown (hg.2.1 b k)
     ·exact k
    have hrl:row.length=len*sz:=by rw[<- hrow,aei,afd];omega
    have hvx:=(j4.drop off).take (len*sz);rw[hrow]at hvx;generalize hvr:(((z.toList.take cs.length).drop off).take (len*sz))=vr at hvx;have hvl:vr.length=len*sz:=by rw[hvx.length,hrl]
    have hro:row.all aO=true:=by
     rw[acQ]at c8 |-;rw[<- hrow];exact fun x hx=>c8 x (List.mem_of_mem_drop (ae0 hx))
    have hmod:∀i,i % len<len:=fun i=>afo _ c3;obtain⟨hk1,hk2⟩:=Bl hd;let ev:Nat->List Value:=fun i=>gh sz vr (i % len);have hev:∀i,(ev i).length=sz:=fun i=>AQ hvl (hmod i);have hea:∀i,(gh sz row (i % len)).length=sz:=fun i=>AQ hrl (hmod i);have hre:∀i,be S β (gh sz row (i % len)) (ev i):=fun i=>hvx.chunk sz (i % len);have hrange:(List.range len).map ev=(List.range len).map fun i=>gh sz vr i:=ad0 fun i hi=>by
     show gh sz vr (i % len)=_;rw[Nat.mod_eq_of_lt (List.mem_range.1 hi)]
    have hflat:(flatK ev sz (Array.range keys.length)).toList=vr:=by
     rw[kj ev sz hev hpos,Array.toList_range,c5,hrange,xD len hvl]
    have hsz:(flatK ev sz (Array.range keys.length)).size=len*sz:=by rw[size_flatK];simp[c5]
    have hholds:HoldsK ev sz w b off (Array.range keys.length):=by
     intro j hj;rw[hsz]at hj;have e1:(flatK ev sz (Array.range keys.length))[j]! = z[off+j]'(WD):=by
      have h1:(flatK ev sz (Array.range keys.length)).toList[j]? = z.toList[off+j]?:=by
       rw[hflat,<- hvr,adM,acL hj,ad5,adM,acL WD]
      rw[ads,ads,adf WD,adf WD]at h1;rw[acF _ j WD];exact adI h1
     rw[e1];refine⟨by rw[j2.cell,adf WD];rfl,?_⟩;obtain⟨e,he⟩:=j2;simp[World.frozen?,he]
    have hkey:∀i,∃(x:ByteArray)(r:List Value),ev i= .string x:: r/\x.data.toList=keys[i % keys.length]!:=fun i=>by
     refine KX ?_ (hre i);rw[c5];exact hk2 (i % len) _ (by rw[adK,List.getElem?_range (hmod i)];rfl)
    have hone:∀i,∀v∈ev i,v.oneCell'=true:=fun i=>NX (hre i) (AF hro);have hcall:=hcal w b off cap keys ev WD hev hone hkey hg.1 hgb hholds j2.lt WD;rw[c5]at hcall;refine hcall.mono ?_;rintro e w' ⟨rfl,n,os,rfl⟩;have hfl2:=kj ev sz hev hpos (jZ keys).toArray;have hs2:(flatK ev sz (jZ keys).toArray).size=len*sz:=by rw[size_flatK];simp[c7]
    have hal:((jZ keys).map fun i=>gh sz row (i % len)).flatten.length=len*sz:=by rw[qg (fun i=>gh sz row (i % len)) sz hea,c7]
    have hvv:∀p:List Nat,be S β (p.map fun i=>gh sz row (i % len)).flatten (p.map ev).flatten:=by
     intro p
     induction p with
     |nil=>simp[be]
     |cons i p ih=>simp only[ac3,aet];exact (hre i).append ih
    have hok:((jZ keys).map fun i=>gh sz row (i % len)).flatten.all aO=true:=by
     rw[List.all_flatten,ae1];exact acQ.2 fun i _=>AF hro
    refine⟨S,β,_,rfl,by simp only[VR,be];exact⟨[],rfl,rfl⟩,FA (vs:=(flatK ev sz (jZ keys).toArray).toList) hw hh' hl hne hb hb0 (by rw[hfl2];exact hvv _) (by rw[hal];exact c4) c8 hok (zx ev sz off n _ os) (fun x hx hle=>?_) (fun b' hlt hne2=>m9 ev sz off n _ os hlt hne2),fun _ hsz=>by cases hsz⟩
    have:=zy hx ev sz off n (jZ keys).toArray os (by simp only[adn,c7];omega)
    exact this
end
end Go.Av
namespace Go.Av.Ap
def kN(l:List Ty):AV:=.sl (l.map Ty.av)
structure Sig where
 name:aA
 params:List Ty
 result:Ty
 effects:Int
 deriving Inhabited
structure Face where
 module:aA
 funcs:List Sig
 deriving Inhabited
structure Vsn where
 major:Int
 minor:Int
 patch:Int
 deriving Inhabited,DecidableEq
def Sig.cells(s:Sig):List AV:=[.str s.name,kN s.params,qi s.result.kind,aE s.result.fields,qi s.effects]
def Sig.av(s:Sig):AV:=.agg s.cells
def sigs(l:List Sig):AV:=.sl (l.map Sig.av)
def Face.cells(f:Face):List AV:=[.str f.module,sigs f.funcs]
def Face.av(f:Face):AV:=.agg f.cells
def faces(l:List Face):AV:=.sl (l.map Face.av)
def Vsn.av(v:Vsn):AV:=.agg [qi v.major,qi v.minor,qi v.patch]
@[simp] theorem rP(s:Sig):ab s.av=[.str s.name,kN s.params,qi s.result.kind,aE s.result.fields,qi s.effects]:=rfl
@[simp] theorem Ec(f:Face):ab f.av=[.str f.module,sigs f.funcs]:=rfl
@[simp] theorem SC(v:Vsn):ab v.av=[.int .i64 v.major,.int .i64 v.minor,.int .i64 v.patch]:=rfl
@[simp] theorem YJ(s:Sig):AV.agg [.str s.name,kN s.params,qi s.result.kind,aE s.result.fields,qi s.effects]=s.av:=rfl
@[simp] theorem V8(f:Face):AV.agg [.str f.module,sigs f.funcs]=f.av:=rfl
@[simp] theorem YL(v:Vsn):AV.agg [qi v.major,qi v.minor,qi v.patch]=v.av:=rfl
@[simp] theorem Dk(t:Ty):cn 2 t.av=true:=by simp[cn,aO,aE]
@[simp] theorem Zd(l:List Ty):dK 2 (l.map Ty.av)=true:=eN Dk l
@[simp] theorem Zr(s:Sig):cW s.av=some 5:=rfl
@[simp] theorem Wv(s:Face):cW s.av=some 2:=rfl
@[simp] theorem Zu(s:Vsn):cW s.av=some 3:=rfl
@[simp] theorem yV(s:Sig):cn 5 s.av=true:=by simp[cn,aO,aE,kN]
@[simp] theorem La(s:Face):cn 2 s.av=true:=by simp[cn,aO,sigs]
@[simp] theorem Zc(s:Vsn):cn 3 s.av=true:=rfl
@[simp] theorem Wq(l:List Sig):dK 5 (l.map Sig.av)=true:=eN yV l
@[simp] theorem VI(l:List Face):dK 2 (l.map Face.av)=true:=eN La l
@[simp] theorem Mt(g:Nat->Nat->Nat->Nat->Bool->AV)(l:List Ty):cl g (kN l)=kN l:=by grind [kN,cl,eC,EC]
@[simp] theorem CG(g:Nat->Nat->Nat->Nat->Bool->AV)(s:Sig):cl g s.av=s.av:=by unfold Sig.av Sig.cells;simp only[cl,eB,Mt,wR]
@[simp] theorem PD(g:Nat->Nat->Nat->Nat->Bool->AV)(l:List Sig):cl g (sigs l)=sigs l:=by grind [sigs,cl,eC,CG]
@[simp] theorem CE(g:Nat->Nat->Nat->Nat->Bool->AV)(s:Face):cl g s.av=s.av:=by grind [Face.av,Face.cells,cl,eB,PD]
@[simp] theorem xF(g:Nat->Nat->Nat->Nat->Bool->AV)(l:List Face):cl g (faces l)=faces l:=by grind [faces,cl,eC,CE]
@[simp] theorem aaZ(g:Nat->Nat->Nat->Nat->Bool->AV)(s:Vsn):cl g s.av=s.av:=by unfold Vsn.av;simp only[cl,eB]
@[simp] theorem ZV(v:Ty):aF (ao v.av)=ao v.av:=aZ fun g=>EC g v
@[simp] theorem YW(v:Sig):aF (ao v.av)=ao v.av:=aZ fun g=>CG g v
@[simp] theorem Wc(v:Face):aF (ao v.av)=ao v.av:=aZ fun g=>CE g v
end Go.Av.Ap
namespace Go.Av
open Go.Av.Ap
def Rr:Nat->AV->Bool
 |0,_=>false
 |d+1,.agg [.int .i64 _,.sl fs]=>decide (fs.length<=100)&&fs.all fun f=>match f with
  |.agg [.str _,.int .i64 k,.sl gs]=>Rr d (.agg [qi k,.sl gs])
  |_=>false
 |_,_=>false
def qR:(FuncId->List AV->M AV)->List AV->M AV:=fun _ args=>match args with
 |[v]=>bJ (bif Rr 5 v then some v else none)
 |_=>gk
def mM:(FuncId->List AV->M AV)->List AV->M AV:=fun _ args=>match args with
 |[.hn,.int .i64 n]=>bJ (bif decide (0<=n)&&decide (n<=1000000)then some (.sl [])else none)
 |_=>gk
def FH:Nat->Ty->Prop
 |0,_=>False
 |d+1,t=>t.fields.length<=100/\∀f∈t.fields,FH d f.2
theorem NJ:∀(d:Nat)(t:Ty),FH d t->FH (d+1) t
 |0,_,h=>h.elim
 |d+1,_t,h=>⟨h.1,fun f hf=>NJ d f.2 (h.2 f hf)⟩
theorem OK:∀(d:Nat)(t:Ty),FH d t->Rr d t.av=true
 |0,_,h=>h.elim
 | d+1,t,h=>by
  cases t with
  |mk k fs=>
   show Rr (d+1) (.agg [qi k,.sl (gI fs)])=true;simp only[Rr,acB,acP,acQ];refine⟨by rw[eZ,adJ];exact h.1,fun v hv=>?_⟩;rw[eZ]at hv;obtain⟨f,hf,rfl⟩:=adj.1 hv;rw[gE];show Rr d (.agg [qi f.2.kind,.sl (gI f.2.fields)])=true
   have:=OK d f.2 (h.2 f hf)
   cases hf2:f.2 with
   |mk k2 gs=>rw[hf2]at this;exact this
theorem xQ{α β:Type}{f:β->α}{P:β->Prop}:(l:List α)->(∀a∈l,∃b,a=f b/\P b)->∃m:List β,l=m.map f/\∀b∈m,P b
 |[],_=>⟨[],rfl,AI⟩
 |a:: l,h=>by
  obtain⟨b,rfl,hb⟩:=h a ad8;obtain⟨m,rfl,hm⟩:=xQ l fun a ha=>h a (adA _ ha);exact⟨b:: m,rfl,fun c hc=>by rcases ac2.1 hc with rfl|hc;exact hb;exact hm c hc⟩
theorem GH:∀(d:Nat)(v:AV),Rr d v=true->∃t:Ty,v=t.av/\FH d t
 |0,_,h=>by cases h
 | d + 1,v,h=>by
  unfold Rr at h;split at h
  ·cases h
  ·rename_i k fs e;obtain rfl:=Nat.succ.inj e;simp only[acB,acP,acQ]at h;have key:∀a∈fs,∃f:ca,a=aR f/\FH d f.2:=by
    intro a ha;have h2:=h.2 a ha;split at h2
    ·rename_i n k' gs;obtain⟨t,h3,h4⟩:=GH d _ h2;refine⟨(n,t),?_,h4⟩;rw[gE];have h5:t.av= .agg [qi t.kind,aE t.fields]:=by cases t;rfl
     rw[h5]at h3;simp only[AV.agg.injEq,adN,aeq]at h3;rw[<- h3.1,<- h3.2]
    ·cases h2
   obtain⟨m,rfl,hm⟩:=xQ fs key;refine⟨.mk k m,?_,?_,hm⟩
   ·show _=AV.agg [qi k,.sl (gI m)];rw[eZ]
   ·have:=h.1
    rw[adJ]at this;exact this
  ·cases h
end Go.Av
namespace Go.Av.Ap
open Go Go.Av
def Val.limN:Nat->Val->Prop
 |0,_=>True
 |n+1,v=>v.names.length<=140737488355328/\v.values.length<=140737488355328/\∀x∈v.values,x.limN n
def Val.Lim(v:Val):Prop:=∀n,v.limN n
def Exp.limN:Nat->Exp->Prop
 |0,_=>True
 |n+1,v=>v.names.length<=8796093022208/\v.args.length<=140737488355328/\∀x∈v.args,x.limN n
def Exp.Lim(v:Exp):Prop:=∀n,v.limN n
def Ty.limN:Nat->Ty->Prop
 |0,_=>True
 |n+1,v=>v.fields.length<=140737488355328/\∀x∈v.fields,x.2.limN n
def Ty.Lim(v:Ty):Prop:=∀n,v.limN n
def Val.Lim.names{v:Val}(h:v.Lim):v.names.length<=140737488355328:=(h 1).1
def Val.Lim.len{v:Val}(h:v.Lim):v.values.length<=140737488355328:=(h 1).2.1
def Val.Lim.kid{v:Val}(h:v.Lim){x:Val}(hx:x∈v.values):x.Lim:=fun n=>(h (n+1)).2.2 x hx
def Exp.Lim.names{v:Exp}(h:v.Lim):v.names.length<=8796093022208:=(h 1).1
def Exp.Lim.len{v:Exp}(h:v.Lim):v.args.length<=140737488355328:=(h 1).2.1
def Exp.Lim.kid{v:Exp}(h:v.Lim){x:Exp}(hx:x∈v.args):x.Lim:=fun n=>(h (n+1)).2.2 x hx
def Ty.Lim.len{v:Ty}(h:v.Lim):v.fields.length<=140737488355328:=(h 1).1
def Ty.Lim.kid{v:Ty}(h:v.Lim){x:ca}(hx:x∈v.fields):x.2.Lim:=fun n=>(h (n+1)).2 x hx
structure Fun.Lim (f:Fun):Prop where
 params:f.params.length<=140737488355328
 pty:∀x∈f.params,x.2.Lim
 result:f.result.Lim
 body:f.body.Lim
structure Mod.Lim (m:Mod):Prop where
 uses:m.uses.length<=140737488355328
 vars:m.vars.length<=140737488355328
 vty:∀x∈m.vars,x.2.Lim
 init:m.init.length<=140737488355328
 ies:∀e∈m.init,e.Lim
 funcs:m.funcs.length<=140737488355328
 fns:∀f∈m.funcs,f.Lim
 old:m.old.length<=140737488355328
 oty:∀x∈m.old,x.2.Lim
 forward:m.forward.length<=140737488355328
 fes:∀e∈m.forward,e.Lim
 back:m.back.length<=140737488355328
 bes:∀e∈m.back,e.Lim
end Go.Av.Ap
