/- The abstract evaluator and plain laws, part 3. Condition: the table of types is the program's. -/
import Derived.Test.YtighgcgmocboaaaGreatDoorLb
import Derived.KernelRfl
import Derived.IntWalk
import Derived.Below
import Derived.Lib.IndexMore
import Derived.Lib.Fields
import Derived.Lib.AtoiAll
import Derived.Lib.SplitLaws
import Derived.Shelf.SlSortCmp.WholeK
import Derived.Lib.Bytealg
import Derived.ChangeSame
import Derived.OpenShut
import Derived.ChangeReads
import Derived.ReadAgain
import Derived.Deep.Slices
import Derived.WideShapes
import Derived.SizedLaws
set_option linter.defProp false
set_option linter.unusedSimpArgs false
set_option linter.unusedVariables false
namespace Go.Av
variable [Dr]
section
variable {cx:Cx} {ops:Array Oper} {base:Nat}
structure Ind (cx:Cx) (ops:Array Oper) (i j:Nat) (a b:Oper):Prop where
 ha:ops[i]? = some a
 hb:ops[j]? = some b
 piv:(ar cx a).piv=false
 l1:(ar cx a).wl=true->(ar cx b).rl=false/\(ar cx b).wl=false
 l2:(ar cx a).rl=true->(ar cx b).wl=false\/((∃t p,a.op= .load t (.tmp p))/\(∃t,b.op= .alloc t)/\b.guard=none)
 h1:(ar cx a).wh=true->(ar cx b).rh=false/\(ar cx b).wh=false
 h2:(ar cx a).rh=true->(ar cx b).wh=false\/(ar cx b).nw=true
 g1:(ar cx a).dr=true->(ar cx b).dr=false/\(ar cx b).ad=false
 g2:(ar cx a).ad=true->(ar cx b).dr=false
 g3:(ar cx a).ad=true->(ar cx b).ad=true->(ar cx a).wl=false/\(ar cx b).wl=false
 r1:∀t∈dj ops j,a.dst≠some t
 r2:∀t∈dj ops i,b.dst≠some t
 s1:∀t∈dj ops j,bZ a≠some t
 s2:∀t∈dj ops i,bZ b≠some t
 c1:∀t,bZ a=some t->b.dst≠some t
 c2:∀t,a.dst=some t->bZ b≠some t
 c3:∀t,a.dst=some t->b.dst≠some t
section
omit [Dr]
theorem Ar{i j:Nat}(h:nh cx ops i j=true):(∃a b,Ind cx ops i j a b)\/∃a b,ops[i]? = some a/\ops[j]? = some b/\(wQ cx a b=true\/xa cx a b=true\/qJ cx a b=true):=by
 unfold nh at h;split at h
 ·rename_i a b ha hb;cases hs:wQ cx a b with
  |true=>grind
  |false=>
  cases ht:xa cx a b with
  |true=>grind
  |false=>
  cases hl:qJ cx a b with
  |true=>grind
  |false=>
  refine .inl ⟨a,b,?_⟩;rw[hs,ht,hl]at h;simp only[PP,M5,NR]at h;obtain⟨⟨⟨⟨⟨⟨⟨⟨⟨⟨⟨⟨⟨⟨k1,k2⟩,k3⟩,k4⟩,k5⟩,k6⟩,k7⟩,k8⟩,k9⟩,k10⟩,k11⟩,k12⟩,k13⟩,k14⟩,k15⟩:=h;refine⟨ha,hb,k1,fun q=>?_,fun q=>?_,fun q=>?_,fun q=>?_,fun q=>?_,fun q=>?_,fun q q'=>?_,nu k9,nu k10,nu k11,nu k12,oz k13,oz k14,oz k15⟩
  ·grind
  ·rw[q]at k3;cases hw:(ar cx b).wl with
   |false=>exact .inl rfl
   | true=>
    rw[hw]at k3;simp only[Nx,M5,NR,Bool.not_eq_false']at k3;refine .inr ⟨?_,?_⟩
    ·grind [Ke]
    ·have h1:=k3.2;unfold Kd at h1;split at h1
     all_goals simp_all
  all_goals grind
 ·cases h
theorem ru{T:TT}{t l o:Nat}{v r:AV}{h h':Hp}(hh:da T t (.hp l o) v h= .ok r h'):r= .tup []/\∃ti cs,T t=some ti/\h[l]? = some cs/\(cM ti.size v&&decide (o+ti.size<=cs.length)&&decide (0<ti.size))=true/\h'=h.set l (setCells cs o (af v)):=by
 unfold da at hh
 grind
theorem tz{T:TT}{t l o:Nat}{v:AV}{h:Hp}{ti:TI}{cs:List AV}(ht:T t=some ti)(hl:h[l]? = some cs)(hc:(cM ti.size v&&decide (o+ti.size<=cs.length)&&decide (0<ti.size))=true):da T t (.hp l o) v h= .ok (.tup []) (h.set l (setCells cs o (af v))):=by
 simp_all[da]
theorem wP{T:TT}{b:Bool}{t:Nat}{a v r:AV}{h h':Hp}(hh:nE T b t a v h= .ok r h'):∃l o,a= .hp l o/\(Nat.beq (l+1) h.length== b)=true/\da T t (.hp l o) v h= .ok r h':=by
 unfold nE at hh
 grind
theorem nI{i:Nat}{a:Oper}(ha:ops[i]? = some a){t p:Nat}{y:Operand}(ho:a.op= .store t (.tmp p) y)(hd:a.dst=none)(hg:a.guard=none)(hp:rn cx p=true)(e:Env)(h:Hp):
  stepG cx base ops i e h=match (e.get p).v with
   |.loc _ _=>.fail
   |.val A=>match nE cx.T (cW cx.ann.sl1 p) t A (opnd e y) h with
    |.ok _ h'=>.ok e h'
    |.pan v h'=>.pan v h'
    |.fail=>.fail:=by
 have hdo:cK ops i=none:=by simp[cK,ha,hd]
 unfold stepG eU;rw[ha,hdo];simp only[hg];unfold fE;rw[ho,hd];simp only[hp,M6];unfold tm;cases (e.get p).v with
 |loc B off=>rfl
 |val A=>
  simp only[dm,ap];cases nE cx.T (cW cx.ann.sl1 p) t A (opnd e y) h with
  |ok v h'=>rfl
  |pan v h'=>rfl
  |fail=>rfl
theorem Dh{i j:Nat}{a b:Oper}(ha:ops[i]? = some a)(hb:ops[j]? = some b)(hs:wQ cx a b=true)(e:Env)(h:Hp):
  RE (ap (stepG cx base ops i e) (stepG cx base ops j) h) (ap (stepG cx base ops j e) (stepG cx base ops i) h):=by
 unfold wQ at hs;split at hs
 ·rename_i t p y t' q z ho ho' hd hd' hg hg';have hpq:rn cx p=true/\rn cx q=true/\cW cx.ann.sl1 p≠cW cx.ann.sl1 q:=by
   unfold rn;simp only[NU,M5,NR]at hs;rcases hs with⟨⟨h1,h2⟩,h3⟩|⟨⟨h1,h2⟩,h3⟩
   ·grind
   ·grind
  obtain⟨k1,k2,k3⟩:=hpq;simp only[ap];rw[nI ha ho hd hg k1 e h,nI hb ho' hd' hg' k2 e h];cases hA:(e.get p).v with
  |loc B off=>trivial
  | val A=>
   simp only;cases hx:nE cx.T (cW cx.ann.sl1 p) t A (opnd e y) h with
   |fail=>trivial
   |pan v h'=>exact absurd hx (oB _ _ _ _ _ _ _ _)
   | ok r h1=>
    simp only;rw[nI hb ho' hd' hg' k2 e h1];cases hB:(e.get q).v with
    |loc B off=>trivial
    | val B=>
     simp only;cases hy:nE cx.T (cW cx.ann.sl1 q) t' B (opnd e z) h1 with
     |fail=>trivial
     |pan v h'=>exact absurd hy (oB _ _ _ _ _ _ _ _)
     | ok r2 h2=>
      obtain⟨l,o,rfl,c1,s1⟩:=wP hx;obtain⟨l',o',rfl,c2,s2⟩:=wP hy;obtain⟨_,ti,cs,t1,g1,w1,rfl⟩:=ru s1;obtain⟨_,ti',cs',t2,g2,w2,rfl⟩:=ru s2;rw[OH]at c2;have hne:l≠l':=fun hll=>by
       grind
      rw[Pv hne]at g2;have e1:nE cx.T (cW cx.ann.sl1 q) t' (.hp l' o') (opnd e z) h= .ok (.tup []) (h.set l' (setCells cs' o' (af (opnd e z)))):=by
       unfold nE;simp only[c2,M6];exact tz t2 g2 w2
      simp only[e1];rw[nI ha ho hd hg k1 e _,hA];have e2:nE cx.T (cW cx.ann.sl1 p) t (.hp l o) (opnd e y) (h.set l' (setCells cs' o' (af (opnd e z))))= .ok (.tup []) ((h.set l' (setCells cs' o' (af (opnd e z)))).set l (setCells cs o (af (opnd e y)))):=by
       unfold nE;simp only[OH,c1,M6];exact tz t1 (by grind) w1
      simp only[e2];refine⟨e,?_,.refl e⟩;rw[List.set_comm _ _ (fun h=>hne h)]
 ·cases hs
end
def mS(s:Nat)(zs:List AV)(n:Nat):Upd:={ ent:=⟨.loc (aH s) 0,none⟩,ls:=iE (aH s) zs [] 0 n,add:=[],lb:=some (aH s,n) }
section
omit [Dr]
theorem zE{i:Nat}{a:Oper}(ha:ops[i]? = some a){t s:Nat}(ho:a.op= .alloc t)(hd:a.dst=some s)(hg:a.guard=none)(hw:(ar cx a).wl=true)(hn:(eR cx.ann.nils s).isEmpty=true):
  ∃(c:Bool)(zs:List AV)(n:Nat),(c=true->n<1000)/\∀e h,stepG cx base ops i e h=bif c&&aM e.sl (aH s)then .ok (e.upd (some s) (mS s zs n)) h else .fail:=by
 have hdo:cK ops i=some s:=by simp[cK,ha,hd]
 have hnn:eR cx.ann.nils s=[]:=by simpa using hn
 have hstep:∀e h,stepG cx base ops i e h=ap (dm (eP cx e ((base+i)*1000) s t)) (fun u=>am (e.upd (some s) u)) h:=fun e h=>by
  simp_all[stepG,eU,fE]
 cases ht:cx.T t with
 |none=>
  refine⟨false,[],0,(fun h=>by cases h),fun e h=>?_⟩;rw[hstep];unfold eP;rw[ht];rfl
 | some ti=>
  have hk:cj cx.ann.kinds s .L≠.F/\cj cx.ann.kinds s .L≠.H/\cj cx.ann.kinds s .L≠.B:=by
   unfold ar at hw;rw[ho,hd]at hw;simp only at hw;refine⟨fun h=>?_,fun h=>?_,fun h=>?_⟩<;>rw[h]at hw<;>cases hw
  refine⟨decide (ti.size<1000)&&ge (cr true ti) [] ti.size,cr (cW cx.ann.hb s) ti,ti.size,fun h=>by grind,fun e h=>?_⟩;rw[hstep];unfold eP;rw[ht];simp only[hnn];have key:∀b:Bool,(ap (dm (bif decide (ti.size<1000)&&b&&ge (cr true ti) [] ti.size then Act1.stat { ent:=⟨.loc (aH s) 0,none⟩,ls:=iE (aH s) (cr (cW cx.ann.hb s) ti) [] ((base+i)*1000) ti.size,add:=oh [] ((base+i)*1000),lb:=some (aH s,ti.size) }else .bad)) (fun u=>am (e.upd (some s) u)) h:R Env)=bif decide (ti.size<1000)&&ge (cr true ti) [] ti.size&&b then .ok (e.upd (some s) (mS s (cr (cW cx.ann.hb s) ti) ti.size)) h else .fail:=by
   intro b;cases decide (ti.size<1000)<;>cases b<;>cases ge (cr true ti) [] ti.size<;>rfl
  cases hkk:cj cx.ann.kinds s .L with
  |F=>grind
  |H=>grind
  |B=>grind
  |L=>exact key _
  |S=>exact key _
theorem wo{s t:Nat}(h:s≠t):aH s≠aH t:=by unfold aH;omega
theorem qK{e:Env}{s t:Nat}(h:s≠t)(zs:List AV)(n:Nat):aM (e.upd (some s) (mS s zs n)).sl (aH t)=aM e.sl (aH t):=by
 have h1:Nat.beq (aH s) (aH t)=false:=by
  rw[Ow];exact fun hh=>wo h (Nat.eq_of_beq_eq_true hh)
 have h2:aM (iE (aH s) zs [] 0 n) (aH t)=true:=by
  unfold aM iE;rw[Nl];intro x hx;simp only[Ou]at hx;obtain⟨k,_,rfl⟩:=hx;rfl
 show aM (nG (some s) (mS s zs n).ent ((mS s zs n).ls++e.sl)) (aH t)=_;rw[dR,fh];show ((false||lJ ⟨.loc (aH s) 0,none⟩ (aH t))&&(aM (iE (aH s) zs [] 0 n) (aH t)&&aM e.sl (aH t)))=_;rw[h2];show ((false||!(Nat.beq (aH s) (aH t)))&&(true&&aM e.sl (aH t)))=_;rw[h1];rfl
theorem DC{e:Env}{s t:Nat}(h:s≠t)(hs:s<1000)(ht:t<1000)(zs ys:List AV){n m:Nat}(hn:n<1000)(hm:m<1000):EqE ((e.upd (some s) (mS s zs n)).upd (some t) (mS t ys m)) ((e.upd (some t) (mS t ys m)).upd (some s) (mS s zs n)):=by
 have rs:∀x∈(mS s zs n).ls,aH s<=x.1/\x.1<aH s+n:=mF;have rt:∀x∈(mS t ys m).ls,aH t<=x.1/\x.1<aH t+m:=mF;have hb:aH s=1000*(s+1):=rfl;have hb':aH t=1000*(t+1):=rfl;refine⟨fun k=>?_,fun g=>rfl,fun B=>?_,fun B=>?_⟩
 ·rw [bV,bV];show (if some s=some k then(mS s zs n).ent else bM ((mS s zs n).ls++nG (some t) (mS t ys m).ent ((mS t ys m).ls++e.sl)) k)=if some t=some k then(mS t ys m).ent else bM ((mS t ys m).ls++nG (some s) (mS s zs n).ent ((mS s zs n).ls++e.sl)) k;by_cases h1:s=k
  ·subst h1;rw[Nn rfl,M9 (fun hh=>h (Of hh).symm),eO _ (fun x hx=>by grind),eu,Nn rfl]
  ·rw[M9 (fun hh=>h1 (Of hh))];by_cases h2:t=k
   ·subst h2;rw[Nn rfl,eO _ (fun x hx=>by grind),eu,Nn rfl]
   ·rw[M9 (fun hh=>h2 (Of hh))];by_cases h3:aH s<=k/\k<aH s+n
    ·have e1:∀x∈(mS t ys m).ls,x.1≠k:=fun x hx=>by grind
     rw[eO _ e1,eu,M9 (fun hh=>h1 (Of hh))];exact ju (by rw[eu,M9 (fun hh=>h2 (Of hh)),eO _ e1])
    ·have e1:∀x∈(mS s zs n).ls,x.1≠k:=fun x hx=>by grind
     rw[eO _ e1,eu,M9 (fun hh=>h2 (Of hh))];exact (ju (by rw[eu,M9 (fun hh=>h1 (Of hh)),eO _ e1])).symm
 ·show aS ((aH s,n):: (aH t,m):: e.lb) B=aS ((aH t,m):: (aH s,n):: e.lb) B;have hne:=wo h;simp only[aS];cases h1:Nat.beq (aH s) B with
  |false=>rfl
  | true=>
   have:=Nat.eq_of_beq_eq_true h1
   subst this;have h2:Nat.beq (aH t) (aH s)=false:=by
    rw[Ow];exact fun hh=>hne (Nat.eq_of_beq_eq_true hh).symm
   rw[h2];rfl
 ·show aM (nG (some s) (mS s zs n).ent ((mS s zs n).ls++nG (some t) (mS t ys m).ent ((mS t ys m).ls++e.sl))) B=aM (nG (some t) (mS t ys m).ent ((mS t ys m).ls++nG (some s) (mS s zs n).ent ((mS s zs n).ls++e.sl))) B
  grind [dR,fh]
theorem EX{i j:Nat}{a b:Oper}(ha:ops[i]? = some a)(hb:ops[j]? = some b)(hs:xa cx a b=true)(e:Env)(h:Hp):
  RE (ap (stepG cx base ops i e) (stepG cx base ops j) h) (ap (stepG cx base ops j e) (stepG cx base ops i) h):=by
 unfold xa at hs;split at hs
 ·rename_i t t' s s' ho ho' hd hd' hg hg';simp only[M5,NR,M8]at hs;obtain⟨⟨⟨⟨⟨⟨h0,h1⟩,h2⟩,h3⟩,h4⟩,h5⟩,h6⟩:=hs;have hne:s≠s':=fun hh=>by simp_all
  obtain⟨c,zs,n,hn,f1⟩:=zE (base:=base) ha ho hd hg h3 h5;obtain⟨c',ys,m,hm,f2⟩:=zE (base:=base) hb ho' hd' hg' h4 h6;simp only[ap];rw[f1,f2];cases hc:c&&aM e.sl (aH s)with
  |false=>trivial
  | true=>
   simp only[M6];rw[f2,qK hne];cases hc':c'&&aM e.sl (aH s')with
   |false=>trivial
   |true=>
    simp only[M6];rw[f1,qK (fun hh=>hne hh.symm),hc];simp only[M5]at hc hc';exact⟨_,rfl,DC hne h1 h2 zs ys (hn hc.1) (hm hc'.1)⟩
 ·cases hs
end
omit [Dr]in
mutual
theorem xF:(a b:AV)->tT a b=true->a=b
 |.agg a,.agg b,h=>by simp only[tT]at h;rw[kl a b h]
 |.tup a,.tup b,h=>by simp only[tT]at h;rw[kl a b h]
 |.sl a,.sl b,h=>by simp only[tT]at h;rw[kl a b h]
 |.ip a,.ip b,h=>by simp only[tT]at h;rw[kl a b h]
 |.fn f a c,.fn f' a' c',h=>by
  simp only[tT,M5,M8]at h;rw[h.1.1,kl a a' h.1.2,kl c c' h.2]
 |.iface t a,.iface t' b,h=>by
  simp only[tT,M5]at h;rw[Nat.eq_of_beq_eq_true h.1,xF a b h.2]
 |.hp l o,.hp l' o',h=>by
  simp_all[tT]
 |.hs l o n s g,.hs l' o' n' s' g',h=>by
  simp_all[tT]
 |.any,b,h=>by cases b<;>first|rfl|cases h
 |.bool a,b,h=>by cases b<;>first|simp_all[tT]|cases h
 |.int k a,b,h=>by cases b<;>first|simp_all[tT]|cases h
 |.str a,b,h=>by cases b<;>first|simp_all[tT]|cases h
 |.nilp,b,h=>by cases b<;>first|rfl|cases h
 |.nilf,b,h=>by cases b<;>first|rfl|cases h
 |.nili,b,h=>by cases b<;>first|rfl|cases h
 |.hn,b,h=>by cases b<;>first|rfl|cases h
 |.nilm,b,h=>by cases b<;>first|rfl|cases h
 |.he,b,h=>by cases b<;>first|rfl|cases h
 |.mp l,b,h=>by cases b<;>first|(simp only[tT]at h;rw[Nat.eq_of_beq_eq_true h];done)|cases h
 |.nilb l,b,h=>by cases b<;>first|(simp only[tT]at h;rw[Nat.eq_of_beq_eq_true h];done)|cases h
 |.it l,b,h=>by cases b<;>first|(simp only[tT]at h;rw[Nat.eq_of_beq_eq_true h];done)|cases h
 |.byt t n,b,h=>by cases b<;>first|simp_all[tT]|cases h
theorem kl:(a b:List AV)->qk a b=true->a=b
 |[],[],_=>rfl
 |a:: l,b:: r,h=>by
  simp only[qk,M5]at h;rw[xF a b h.1,kl l r h.2]
 |[],_:: _,h=>by simp[qk]at h
 |_:: _,[],h=>by simp[qk]at h
end
section
omit [Dr]
theorem zu{m r:Nat}:∀ {cs ds:List AV} {b o:Nat} {v:AV},yw m r b cs ds=true->Nat.beq ((b+o) % m) r=true->cs[o]? = some v->ds[o]? = some v
 |[],_,_,_,_,_,_,h=>by simp at h
 |_:: _,[],_,_,_,h,_,_=>by simp[yw]at h
 |c:: cs,d:: ds,b,0,v,h,hm,hv=>by
  simp only[yw,M5]at h;simp only[O0]at hm
  grind [xF]
 |c:: cs,d:: ds,b,o+1,v,h,hm,hv=>by
  simp only[yw,M5]at h;simp only[NX]at hv |-;exact zu h.2 (by grind) hv
theorem wg{m r:Nat}:∀ {h h':Hp} {l:Nat} {cs:List AV},mf m r h h'=true->h[l]? = some cs->∃ds,h'[l]? = some ds/\yw m r 0 cs ds=true
 |[],_,_,_,_,h=>by simp at h
 |_:: _,[],_,_,h,_=>by simp[mf]at h
 |c:: t,d:: t',0,cs,h,hl=>by
  simp only[mf,M5]at h
  grind
 |c:: t,d:: t',l+1,cs,h,hl=>by
  simp only[mf,M5]at h;exact wg (l:=l) h.2 (by simpa using hl)
theorem t7{T:TT}{m r:Nat}{t:TypeId}{x v:AV}{h h1 h':Hp}(hh:fu T m r t x h= .ok v h1)(hk:mf m r h h'=true):h1=h/\fu T m r t x h'= .ok v h':=by
 unfold fu at hh |-;split at hh
 ·rename_i l off ti ht;cases hb:Nat.beq (off % m) r&&!ti.agg with
  |false=>grind
  | true=>
   rw[hb]at hh;simp only[M6]at hh |-;simp only[M5,NR]at hb;unfold eI at hh |-;simp only[ht]at hh |-;cases hl:h[l]? with
   |none=>grind
   | some cs=>
    rw[hl]at hh;simp only[hb.2,Nh]at hh;cases hc:cs[off]? with
    |none=>grind
    |some w=>
     rw[hc]at hh;simp only at hh;cases hh;obtain⟨ds,g1,g2⟩:=wg hk hl;have g3:=zu (b:=0) g2 (by grind) hc
     grind
 ·cases hh
theorem EY(hS:Small ops){i j:Nat}{a b:Oper}(ha:ops[i]? = some a)(hb:ops[j]? = some b)(hs:qJ cx a b=true)(e:Env)(h:Hp):
  RE (ap (stepG cx base ops i e) (stepG cx base ops j) h) (ap (stepG cx base ops j e) (stepG cx base ops i) h):=by
 unfold qJ at hs;split at hs
 ·rename_i t p c s u ho ho' hd hd' hg hg';split at hs
  ·rename_i f hcal;simp only[M5,NR,M8]at hs;obtain⟨⟨⟨⟨⟨⟨h0,h1⟩,h2⟩,h3⟩,h4⟩,h5⟩,h6⟩:=hs;have hsu:s≠u:=fun hh=>by simp_all
   have hup:u≠p:=fun hh=>by simp_all
   have hsb:∀x∈fS b,x≠s:=fun x hx hh=>by
    grind [gd]
   obtain⟨m,r,hlm,hcm⟩:∃m r,hJ cx.ann.lm a.dst=some (m,r)/\hJ cx.ann.cm b.dst=some (m,r):=by
    split at h6
    all_goals simp_all
   rw[hd]at hlm;rw[hd']at hcm h5;have hdi:cK ops i=some s:=by simp[cK,ha,hd]
   have hdj:cK ops j=some u:=by simp[cK,hb,hd']
   -- the load
   have fa:∀(e:Env)(h:Hp),stepG cx base ops i e h=match (e.get p).v with
     |.loc _ _=>.fail
     |.val A=>match fu cx.T m r t A h with
      |.ok v h'=>.ok (e.upd (some s) (.ofV v)) h'
      |.pan v h'=>.pan v h'
      |.fail=>.fail:=fun e h=>by
    unfold stepG eU;rw[ha,hdi];simp only[hg];unfold fE;rw[ho,hd];simp only[hlm];cases (e.get p).v with
    |loc B off=>rfl
    |val A=>
     simp only[dm,ap];cases fu cx.T m r t A h<;>rfl
   -- the call
   have fb:∀(e:Env)(h:Hp),stepG cx base ops j e h=bif !(cx.iso f)&&(cx.own f).isNone then(match iy m r (cx.call f (c.args.toList.map (opnd e))) h with
      |.ok v h'=>.ok (e.upd (some u) (.ofV v)) h'
      |.pan v h'=>.pan v h'
      |.fail=>.fail)else .fail:=fun e h=>by
    unfold stepG eU;rw[hb,hdj];simp only[hg'];unfold fE;rw[ho',hd'];simp only;unfold fR;rw[hcal,hd'];simp only[h5,Nh,hcm];cases !(cx.iso f)&&(cx.own f).isNone with
    |false=>rfl
    |true=>
     simp only[M6,dm,ap];cases iy m r (cx.call f (c.args.toList.map (opnd e))) h<;>rfl
   have hargs:∀v,c.args.toList.map (opnd (e.upd (some s) (.ofV v)))=c.args.toList.map (opnd e):=fun v=>by
    refine OK fun x hx=>?_;cases x with
    | tmp k=>
     have hk:k∈fS b:=by
      unfold fS;rw[ho',Ph];exact⟨.tmp k,by grind [Op.operands,Call.operands],rfl⟩
     have hks:=hsb k hk;simp only[opnd];have:(e.upd (some s) (.ofV v)).get k=e.get k:=by
      rw[bV,M9 (fun hh=>hks (Of hh).symm)];rfl
     unfold Env.av;rw[this]
    |_=>rfl
   simp only[ap];rw[fa];cases hA:(e.get p).v with
   |loc B off=>trivial
   | val A=>
    simp only;cases hx:fu cx.T m r t A h with
    |fail=>trivial
    |pan v h'=>exact absurd hx ((kq _ _ _ _ _).stay _ _ _)
    | ok v h1=>
     simp only;rw[fb,hargs,fb];cases hi:!(cx.iso f)&&(cx.own f).isNone with
     |false=>trivial
     | true=>
      simp only[M6];have hh1:h1=h:=by
       rcases kq cx.T m r t A h with k|⟨w,k⟩<;>rw[hx]at k<;>cases k;rfl
      subst hh1;unfold iy;cases hy:cx.call f (c.args.toList.map (opnd e)) h1 with
      |fail=>trivial
      |pan v' h'=>exact rfl
      | ok v' h'=>
       simp only;cases hk:mf m r h1 h' with
       |false=>trivial
       | true=>
        simp only[M6];rw[fa];have hp:((e.upd (some u) (.ofV v')).get p).v= .val A:=by
         rw[bV,M9 (fun hh=>hup (Of hh))];exact hA
        rw[hp];simp only[(t7 hx hk).2];refine⟨_,rfl,?_⟩;exact rE (gi:=0) (gj:=1) (x:={}) (y:={}) (si:=none) (sj:=none) (Shape.ofV e 0 {} none v) (Shape.ofV e 1 {} none v') rfl (fun t ht=>by grind) (fun t ht hh=>by grind) (fun t ht=>by cases ht) (by decide) (fun h=>by cases h) (fun h=>by cases h) (fun h=>by cases h)
  ·cases hs
 ·cases hs
theorem swap(hI:IsoPure cx)(hS:Small ops){i j:Nat}(hij:nh cx ops i j=true)(hne:i≠j)(e:Env)(h:Hp):
  RE (ap (stepG cx base ops i e) (stepG cx base ops j) h) (ap (stepG cx base ops j e) (stepG cx base ops i) h):=by
 rcases Ar hij with⟨a,b,I⟩|⟨a,b,ha,hb,hs|hs|hs⟩
 case inr.inl=>exact Dh ha hb hs e h
 case inr.inr.inl=>exact EX ha hb hs e h
 case inr.inr.inr=>exact EY hS ha hb hs e h
 have hda:cK ops i=a.dst:=by simp[cK,I.ha]
 have hdb:cK ops j=b.dst:=by simp[cK,I.hb]
 unfold stepG;rw[hda,hdb];simp only[ap,am];cases hri:eU cx base ops i e h with
 |fail=>trivial
 |pan v h'=>exact absurd hri (ke (p:=@ek) (fun _ g=>g.read.stay) (fun _ f g=>g.bnd f) I.ha ((fv hI e _ a).stay I.piv) h v h')
 | ok u h1=>
  simp only;have shu:=pP I.ha hri;have hra:=gM (ops:=ops) I.ha;have hrb:=gM (ops:=ops) I.hb;have hbo:∀t∈fS b,a.dst≠some t/\bZ a≠some t/\t<1000:=fun t ht=>⟨I.r1 t (by grind),I.s1 t (by grind),hS.src j b I.hb t ht⟩;have hao:∀t∈fS a,b.dst≠some t/\bZ b≠some t/\t<1000:=fun t ht=>⟨I.r2 t (by grind),I.s2 t (by grind),hS.src i a I.ha t ht⟩;have Abwd:Agree cx b (e.upd a.dst u) e:=zL shu (hS.dst i a I.ha) hbo (fun q=>by
   cases hw:(ar cx a).wl with
   |false=>rfl
   |true=>obtain⟨q1,q2⟩:=I.l1 hw;grind) (fun q=>by
   constructor
   ·cases hw:(ar cx a).ad with
    |false=>rfl
    |true=>have:=I.g2 hw;grind
   ·cases hw:(ar cx a).dr with
    |false=>rfl
    |true=>have:=(I.g1 hw).1;grind)
  have hgb:∀t∈fq ops b,e.get t=(e.upd a.dst u).get t:=fun t ht=>by
   have htr:t∈dj ops j:=by rw[hrb];simp[ht]
   exact (lN shu (I.r1 t htr) (I.s1 t htr) (hS.reads I.hb t htr)).symm
  -- the second, after the first
  cases hrj:eU cx base ops j (e.upd a.dst u) h1 with
  |fail=>trivial
  | pan v h2=>
   have hj:=gy (base:=base) I.hb hgb Abwd (h:=h1) (by rw[hrj];simp);rw[hrj]at hj
   -- j leaves: so it may write, and i did not touch the heap
   have hwb:(ar cx b).wh=true:=by
    cases hw:(ar cx b).wh with
    |true=>rfl
    |false=>exact absurd hj ((ke (p:=@dL) (fun _ g=>g.read) (fun _ f g=>g.bnd f) I.hb ((fv hI e _ b).read hw)).stay _ _ _)
   have hwa:(ar cx a).wh=false:=by
    cases hw:(ar cx a).wh with
    |false=>rfl
    |true=>have:=(I.h1 hw).2;grind
   have hh:h1=h:=by
    have hR:dL (eU cx base ops i e):=ke (p:=@dL) (fun _ g=>g.read) (fun _ f g=>g.bnd f) I.ha ((fv hI e _ a).read hwa);rcases hR h with hx|⟨u',hx⟩<;>rw[hri]at hx<;>cases hx;rfl
   subst hh;rw[hj];exact rfl
  | ok v h2=>
   have hj:=gy (base:=base) I.hb hgb Abwd (h:=h1) (by rw[hrj];simp);rw[hrj]at hj;have shv:=pP I.hb hj
   have Afwd:Agree cx a e (e.upd b.dst v):=by
     by_cases hla:(ar cx b).wl=true/\(ar cx a).rl=true
     ·rcases I.l2 hla.2 with hw|⟨⟨t,p,ho⟩,⟨t',ho'⟩,hgd⟩
      ·grind
      ·have hr':dm (fE cx e ((base+j)*1000) b) h1= .ok v h2:=by
        have:=hj
        unfold eU at this;rw[I.hb]at this;simp only[hgd]at this;exact this
       exact uR shv ho ho' (hS.dst j b I.hb) hao hr'
     exact sf shv (hS.dst j b I.hb) hao (fun q=>by
    cases hw:(ar cx b).wl with
    |false=>rfl
    | true=>
     exfalso;cases hrl:(ar cx a).rl with
     |true=>grind
     |false=>
      rw[hrl]at q;have hwl:(ar cx a).wl=true:=by simpa using q
      have:=(I.l1 hwl).2
      grind) (fun q=>⟨(I.g1 q).2,(I.g1 q).1⟩)
   have hga:∀t∈fq ops a,(e.upd b.dst v).get t=e.get t:=fun t ht=>by
    have htr:t∈dj ops i:=by rw[hra];simp[ht]
    exact lN shv (I.r2 t htr) (I.s2 t htr) (hS.reads I.ha t htr)
   have hcomm:EqE ((e.upd a.dst u).upd b.dst v) ((e.upd b.dst v).upd a.dst u):=by
    have hgij:(base+i)*1000≠(base+j)*1000:=by omega
    cases hwb:(ar cx b).wl with
    |false=>
     exact rE shu shv hwb (hS.dst j b I.hb) I.c3 I.c1 hgij I.g1 I.g2 (fun q q'=>(I.g3 q q').1)
    | true=>
     have hwa:(ar cx a).wl=false:=by
      cases hw:(ar cx a).wl with
      |false=>rfl
      |true=>have:=(I.l1 hw).2;grind
     refine (rE shv shu hwa (hS.dst i a I.ha) (fun t ht hh=>I.c3 t hh ht) (fun t ht hh=>I.c2 t hh ht) (PL hgij) (fun q=>⟨?_,?_⟩) (fun q=>?_) (fun q q'=>?_)).symm
     ·cases hw:(ar cx a).dr with
      |false=>rfl
      |true=>have:=(I.g1 hw).1;grind
     ·cases hw:(ar cx a).ad with
      |false=>rfl
      |true=>have:=I.g2 hw;grind
     ·cases hw:(ar cx a).dr with
      |false=>rfl
      |true=>have:=(I.g1 hw).2;grind
     ·have:=(I.g3 q' q).2;grind
   cases hwa:(ar cx a).wh with
   | false=>
    have hR:dL (eU cx base ops i e):=ke (p:=@dL) (fun _ g=>g.read) (fun _ f g=>g.bnd f) I.ha ((fv hI e _ a).read hwa);have hh:h1=h:=by
     rcases hR h with hx|⟨u',hx⟩<;>rw[hri]at hx<;>cases hx;rfl
    subst hh;rw[hj];simp only;have hi2:eU cx base ops i e h2= .ok u h2:=by
     cases hra':(ar cx a).rh with
     |false=>
      obtain⟨q,hq⟩:bj (eU cx base ops i e):=ke (p:=@bj) (fun _ g=>g) (fun _ f g=>g.bnd f) I.ha ((fv hI e _ a).pure hwa hra');rw[hq]at hri |-;cases q with
      |none=>cases hri
      |some u'=>cases hri;rfl
     | true=>
      rcases I.h2 hra' with hwb|hnw
      case inr=>
       have hNw:uO (eU cx base ops j e):=ke (p:=@uO) (fun _ g=>g.nw) (fun _ f g=>g.bnd f) I.hb ((fv hI e _ b).nw hnw);have hAp:kQ (eU cx base ops i e)/\dL (eU cx base ops i e):=ke (p:=fun m=>kQ m/\dL m) (fun _ g=>⟨g.app,g.read⟩) (fun _ f g=>kQ.bnd g f) I.ha ((fv hI e _ a).app hwa);obtain⟨t,rfl⟩:=hNw _ _ _ hj;exact hAp.1 _ t _ hri
      have hRb:dL (eU cx base ops j e):=ke (p:=@dL) (fun _ g=>g.read) (fun _ f g=>g.bnd f) I.hb ((fv hI e _ b).read hwb);rcases hRb h1 with hx|⟨u',hx⟩<;>rw[hj]at hx<;>cases hx;exact hri
    rw[gy I.ha hga Afwd (by rw[hi2];simp),hi2];exact⟨_,rfl,hcomm⟩
   | true=>
    obtain⟨hrb',hwb⟩:=I.h1 hwa;obtain⟨q,hq⟩:bj (eU cx base ops j e):=ke (p:=@bj) (fun _ g=>g) (fun _ f g=>g.bnd f) I.hb ((fv hI e _ b).pure hwb hrb');rw[hq]at hj |-;cases q with
    |none=>cases hj
    |some u'=>
     cases hj;simp only[bF];rw[gy I.ha hga Afwd (by rw[hri];simp),hri];exact⟨_,rfl,hcomm⟩
theorem Fh(hI:IsoPure cx)(hS:Small ops){i:Nat}(q:List Nat):∀(p:List Nat),(∀x∈p,nh cx ops x i=true/\x≠i)->∀(e:Env)(h:Hp),RE (aY cx base ops (p++i:: q) e h) (aY cx base ops (i:: (p++q)) e h)
 |[],_,e,h=>RE.refl _
 | x:: p,hp,e,h=>by
  have ih:=fun e h=>Fh hI hS q p (fun y hy=>hp y (by simp[hy])) e h;have h1:RE (aY cx base ops (x:: (p++i:: q)) e h) (aY cx base ops (x:: i:: (p++q)) e h):=by
   simp only[aY,ap]at ih |-;cases stepG cx base ops x e h with
   |ok e' h'=>exact ih e' h'
   |pan v h'=>exact rfl
   |fail=>trivial
  refine h1.trans ?_;have e1:aY cx base ops (x:: i:: (p++q)) e=ap (ap (stepG cx base ops x e) (stepG cx base ops i)) (aY cx base ops (p++q)):=by rw[bK];rfl
  have e2:aY cx base ops (i:: x:: (p++q)) e=ap (ap (stepG cx base ops i e) (stepG cx base ops x)) (aY cx base ops (p++q)):=by rw[bK];rfl
  show RE (aY cx base ops (x:: i:: (p++q)) e h) (aY cx base ops (i:: x:: (p++q)) e h);simp_all[RE.bind,swap,nD]
end
end
omit [Dr]in
theorem CW{a b:Option (Nat×Bool)}(h:zy a b=true):a=b:=by
 unfold zy at h;split at h
 all_goals simp_all
def ix(gs:List (Option (Nat×Bool)×List Nat)):List Nat:=gs.flatMap (·.2)
section
omit [Dr]
theorem jw(ops:Array Oper):∀l:List Nat,ix (dP ops l)=l/\∀g∈dP ops l,∀i∈g.2,guardOf ops i=g.1
 |[]=>⟨rfl,by simp[dP]⟩
 | i :: is=>by
  obtain⟨h1,h2⟩:=jw ops is;simp only[dP];cases hg:dP ops is with
  |nil=>
   rw[hg]at h1;have:is=[]:=by simpa [ix]using h1.symm
   subst this;exact⟨rfl,by simp⟩
  | cons x r=>
   obtain⟨g,js⟩:=x;rw[hg]at h1 h2;simp only;cases hs:zy (guardOf ops i) g with
   | true=>
    refine⟨?_,fun y hy=>?_⟩
    ·simp_all[ix]
    ·simp only[M6,NT]at hy;rcases hy with rfl|hy
     ·intro k hk;simp only[NT]at hk;rcases hk with rfl|hk
      ·exact CW hs
      simp_all
     grind
   |false=>
    refine⟨?_,fun y hy=>?_⟩
    ·simp_all[ix]
    grind
theorem vA{ρ:Type}(e:Env)(d:Option Tmp)(A:Act1)(k:Env->M ρ):mZ e d A k=ap (dm A) fun u=>k (e.upd d u):=by
 cases A with
 |bad=>rfl
 |stat u=>rfl
 |dyn m sh=>grind [mZ,dm,bK,ai]
 |thr v=>rfl
theorem zS{α β:Type}{m:M α}{f g:α->M β}{h:Hp}(hfg:∀u h',m h= .ok u h'->f u h'=g u h'):ap m f h=ap m g h:=by
 grind [ap]
end
section
variable {cx:Cx} {ops:Array Oper} {base:Nat}
section
omit [Dr]
theorem zK{i:Nat}{o:Oper}(ho:ops[i]? = some o)(hg:guardOf ops i=none)(e:Env):eU cx base ops i e=dm (fE cx e ((base+i)*1000) o):=by
 simp_all[guardOf,eU]
theorem nQ{i j t:Nat}{want:Bool}{o:Oper}(ho:ops[i]? = some o)(hg:guardOf ops i=some (j,want))(hj:cK ops j=some t)(hp:fw cx o=true)(e:Env):
  eU cx base ops i e=kG (e.av t) want (dm (iu (fE cx e ((base+i)*1000) o))):=by
 simp_all[guardOf,eU]
theorem wK{ρ:Type}:∀(is:List Nat)(e:Env)(k:Env->M ρ)(_:∀i∈is,guardOf ops i=none),jr cx base ops false is e k=ap (aY cx base ops is e) k
 |[],e,k,_=>rfl
 | i:: is,e,k,hg=>by
  simp only[jr,aY];unfold stepG;cases ho:ops[i]? with
  |none=>unfold eU;rw[ho];rfl
  |some o=>
   simp only;rw[vA,zK ho (hg i (by simp)),bK,bK];have hd:cK ops i=o.dst:=by simp[cK,ho]
   rw[hd];congr 1;funext u;simp only[ai];exact wK is _ k fun j hj=>hg j (by simp[hj])
end
structure Turned (ds:List Nat) (e e':Env):Prop where
 get:∀t,t ∉ ds->e'.get t=e.get t
 al:e'.al=e.al
 lb:e'.lb=e.lb
 lf:∀B,aM e.sl B=true->aM e'.sl B=true
 ng:∀t∈ds,(e'.get t).g=none
section
omit [Dr]
theorem Turned.step{ds:List Nat}{e e':Env}(H:Turned ds e e'){u:Upd}{d:Option Nat}(hls:u.ls=[])(hadd:u.add=[])(hdrop:u.drop=none)(hlb:u.lb=none)(hunlb:u.unlb=none)(hg:u.ent.g=none)(hloc:∀C off,u.ent.v= .loc C off->∃t off',(e'.get t).v= .loc C off'):Turned (d.toList++ds) e (e'.upd d u):=by
 have hget:∀t,(e'.upd d u).get t=if d=some t then u.ent else e'.get t:=fun t=>by rw[bV,hls];rfl
 refine⟨fun t ht=>?_,?_,?_,fun B hB=>?_,fun t ht=>?_⟩
 ·simp only[N5,not_or,Option.mem_toList]at ht;rw[hget,M9 ht.1];exact H.get t ht.2
 ·show u.add++eY e'.al u.drop=e.al;rw[hadd,hdrop];exact H.al
 ·show kT (dY e'.lb u.unlb) u.lb=e.lb;rw[hlb,hunlb];exact H.lb
 ·have h1:=H.lf B hB;show aM (nG d u.ent (u.ls++e'.sl)) B=true;rw[hls,dR,NF,h1,Pp];have:lJ u.ent B=true:=by
   unfold lJ;split
   ·rename_i C off hv;obtain⟨t,off',ht⟩:=hloc C off hv
    have:=ku h1 ht
    simp_all[Ow]
   ·rfl
  grind
 ·rw[hget];split
  ·exact hg
  ·rename_i hd;simp only[N5,Option.mem_toList]at ht;rcases ht with ht|ht
   ·grind
   ·exact H.ng t ht
theorem Turned.refl(e:Env):Turned [] e e:=⟨fun _ _=>rfl,rfl,rfl,fun _ h=>h,fun t h=>by simp at h⟩
theorem Turned.sub{ds ds':List Nat}{e e':Env}(H:Turned ds e e')(h:∀t,t∈ds↔t∈ds'):Turned ds' e e':=
 ⟨fun t ht=>H.get t fun hh=>ht ((h t).1 hh),H.al,H.lb,H.lf,fun t ht=>H.ng t ((h t).2 ht)⟩
end
structure GroupOk (cx:Cx) (ops:Array Oper) (j:Nat) (want:Bool) (t:Nat) (is:List Nat):Prop where
 hj:cK ops j=some t
 each:∀i∈is,∃o,ops[i]? = some o/\guardOf ops i=some (j,want)/\fw cx o=true
 nt:t ∉ cU ops is
section
omit [Dr]
theorem jp(i:Nat)(is:List Nat):∀t,t∈cU ops (i:: is)↔cK ops i=some t\/t∈cU ops is:=by
 simp_all[cU]
theorem GroupOk.tail{j:Nat}{want:Bool}{t i:Nat}{is:List Nat}(G:GroupOk cx ops j want t (i:: is)):GroupOk cx ops j want t is:=
 ⟨G.hj,fun k hk=>G.each k (by simp[hk]),fun h=>G.nt ((jp i is t).2 (.inr h))⟩
theorem GroupOk.ne{j:Nat}{want:Bool}{t i:Nat}{is:List Nat}(G:GroupOk cx ops j want t (i:: is)):cK ops i≠some t:=fun h=>G.nt ((jp i is t).2 (.inl h))
theorem kE{A:Act1}{h h':Hp}{u:Upd}(hr:dm (iu A) h= .ok u h'):∃u0,dm A h= .ok u0 h'/\u=gS u0:=by
 grind [oH]
theorem tr{ρ:Type}{j:Nat}{want:Bool}{t:Nat}:∀(is:List Nat)(e:Env)(k:Env->M ρ)(h:Hp),GroupOk cx ops j want t is->e.av t= .bool want->jr cx base ops true is e k h=ap (aY cx base ops is e) k h
 |[],e,k,h,_,_=>rfl
 |i:: is,e,k,h,G,hc=>by
  obtain⟨o,ho,hg,hp⟩:=G.each i (by simp);have hd:cK ops i=o.dst:=by simp[cK,ho]
  simp only[jr,aY,ho,M6];rw[vA];unfold stepG;rw[nQ ho hg G.hj hp,hc,bK,bK];simp only[kG,O5,M6,ai,hd];refine zS fun u h' hu=>?_;obtain⟨u0,hu0,rfl⟩:=kE hu;refine tr is _ k h' G.tail ?_;have:(e.upd o.dst (gS u0)).get t=e.get t:=by rw[bV,M9 (by rw[<- hd];exact G.ne)];rfl
  simp only[Env.av,this];exact hc
theorem nM{j:Nat}{want:Bool}{t:Nat}:∀(is:List Nat)(e e':Env)(h h':Hp),GroupOk cx ops j want t is->e.av t= .bool want->aY cx base ops is e h= .ok e' h'->Turned (cU ops is) e e':=by
 have key:∀(is:List Nat)(e0 e e':Env)(ds:List Nat)(h h':Hp),GroupOk cx ops j want t is->e.av t= .bool want->Turned ds e0 e->aY cx base ops is e h= .ok e' h'->Turned (cU ops is++ds) e0 e':=by
  intro is
  induction is with
  |nil=>
   intro e0 e e' ds h h' _ _ H hr;cases hr;exact H
  | cons i is ih=>
   intro e0 e e' ds h h' G hc H hr;obtain⟨o,ho,hg,hp⟩:=G.each i (by simp);have hd:cK ops i=o.dst:=by simp[cK,ho]
   simp only[aY]at hr;unfold stepG at hr;rw[nQ ho hg G.hj hp,hc,bK]at hr;simp only[kG,O5,M6,hd,ap]at hr;cases hx:dm (iu (fE cx e ((base+i)*1000) o)) h with
   |fail=>grind
   |pan v hh=>grind
   | ok u hh=>
    rw[hx]at hr;simp only at hr;obtain⟨u0,hu0,rfl⟩:=kE hx;have hsh:=lG (lS cx e ((base+i)*1000) o) hu0;simp only[fw,M5,NR]at hp;have H2:=H.step (u:=gS u0) (d:=o.dst) rfl rfl rfl rfl rfl rfl (hsh.loc hp.1);refine (ih e0 _ e' _ hh h' G.tail ?_ H2 hr).sub fun s=>?_
    ·have:(e.upd o.dst (gS u0)).get t=e.get t:=by rw[bV,M9 (by rw[<- hd];exact G.ne)];rfl
     grind [Env.av]
    grind [jp]
 intro is e e' h h' G hc hr;exact (key is e e e' [] h h' G hc (.refl e) hr).sub (by simp)
end
def Off(c:AV)(want:Bool):Prop:=c= .tup []\/∃b,c= .bool b/\(b== want)=false
omit [Dr]in
theorem Off.look{c:AV}{want:Bool}(h:Off c want)(m:M Upd):kG c want m=am (.ofV (.tup [])):=by
 rcases h with rfl|⟨b,rfl,hb⟩
 ·rfl
 ·simp only[kG,hb,Nh]
omit [Dr]in
theorem EK{j:Nat}{want:Bool}{t:Nat}:∀(is:List Nat)(e:Env)(h:Hp),GroupOk cx ops j want t is->Off (e.av t) want->∃e',aY cx base ops is e h= .ok e' h/\Turned (cU ops is) e e'/\∀s∈cU ops is,e'.get s=⟨.val (.tup []),none⟩:=by
 have key:∀(is:List Nat)(e0 e:Env)(ds:List Nat)(h:Hp),GroupOk cx ops j want t is->Off (e.av t) want->Turned ds e0 e->(∀s∈ds,e.get s=⟨.val (.tup []),none⟩)->
   ∃e',aY cx base ops is e h= .ok e' h/\Turned (cU ops is++ds) e0 e'/\∀s∈cU ops is++ds,e'.get s=⟨.val (.tup []),none⟩:=by
  intro is
  induction is with
  |nil=>exact fun e0 e ds h _ _ H hds=>⟨e,rfl,H,hds⟩
  | cons i is ih=>
   intro e0 e ds h G hc H hds;obtain⟨o,ho,hg,hp⟩:=G.each i (by simp);have hd:cK ops i=o.dst:=by simp[cK,ho]
   have hget:∀s,(e.upd o.dst (.ofV (.tup []))).get s=if o.dst=some s then⟨.val (.tup []),none⟩else e.get s:=fun s=>by rw[bV];rfl
   have H2:=H.step (u:=.ofV (.tup [])) (d:=o.dst) rfl rfl rfl rfl rfl rfl (fun C off hh=>by cases hh);have hav:(e.upd o.dst (.ofV (.tup []))).av t=e.av t:=by
    have:(e.upd o.dst (.ofV (.tup []))).get t=e.get t:=by rw[hget,M9 (by rw[<- hd];exact G.ne)]
    simp only[Env.av,this]
   obtain⟨e',h1,h2,h3⟩:=ih e0 (e.upd o.dst (.ofV (.tup []))) (o.dst.toList++ds) h G.tail (by grind) H2 (fun s hs=>by
    grind)
   have hiff:∀s,s∈cU ops is++(o.dst.toList++ds)↔s∈cU ops (i:: is)++ds:=fun s=>by
    grind [jp]
   refine⟨e',?_,h2.sub hiff,fun s hs=>h3 s ((hiff s).2 hs)⟩;simp only[aY];unfold stepG;rw[nQ ho hg G.hj hp,hc.look,hd];exact h1
 intro is e h G hc;obtain⟨e',h1,h2,h3⟩:=key is e e [] h G hc (.refl e) (by simp)
 grind
end
section
variable {cx:Cx} {ops:Array Oper} {base:Nat}
structure Rel (ops:Array Oper) (L:List Nat) (e2 e:Env):Prop where
 get:∀t,e2.get t=e.get t\/(e2.get t=Ent.none/\t<1000/\∀i∈L,t ∉ dj ops i)
 al:∀g,aK e2.al g=aK e.al g
 lb:∀B,aS e2.lb B=aS e.lb B
 lf:∀B,aM e2.sl B=true->aM e.sl B=true
section
omit [Dr]
theorem Rel.refl(ops:Array Oper)(L:List Nat)(e:Env):Rel ops L e e:=⟨fun _=>.inl rfl,fun _=>rfl,fun _=>rfl,fun _ h=>h⟩
theorem Rel.sub{L L':List Nat}{e2 e:Env}(H:Rel ops L e2 e)(h:∀i∈L',i∈L):Rel ops L' e2 e:=
 ⟨fun t=>(H.get t).imp id fun⟨h1,h2,h3⟩=>⟨h1,h2,fun i hi=>h3 i (h i hi)⟩,H.al,H.lb,H.lf⟩
theorem Rel.read{L:List Nat}{e2 e:Env}(H:Rel ops L e2 e){i t:Nat}(hi:i∈L)(ht:t∈dj ops i):e.get t=e2.get t:=by
 rcases H.get t with h|⟨_,_,h⟩
 all_goals grind
theorem Rel.agree{L:List Nat}{e2 e:Env}(H:Rel ops L e2 e){i:Nat}{o:Oper}(hi:i∈L)(ho:ops[i]? = some o):Agree cx o e2 e:=by
 refine⟨fun t ht=>H.read hi (by rw[gM ho];simp[ht]),fun _=>.inl ⟨fun t ht=>?_,fun B=>(H.lb B).symm⟩,fun _ g=>(H.al g).symm,fun _ s _ hl=>H.lf _ hl⟩;rcases H.get t with h|⟨_,h,_⟩
 all_goals grind
theorem Rel.upd{L:List Nat}{e2 e:Env}(H:Rel ops L e2 e)(d:Option Tmp)(u:Upd):Rel ops L (e2.upd d u) (e.upd d u):=by
 refine⟨fun t=>?_,fun g=>?_,fun B=>?_,fun B hB=>?_⟩
 ·rw[bV,bV];split
  ·exact .inl rfl
  ·rw[jT,jT];split
   ·exact .inl rfl
   ·exact H.get t
 ·show aK (u.add++eY e2.al u.drop) g=aK (u.add++eY e.al u.drop) g;have:aK (eY e2.al u.drop) g=aK (eY e.al u.drop) g:=by
   cases u.drop with
   |none=>exact H.al g
   |some k=>simp only[eY,kU,H.al g]
  rw[fe,fe,this]
 ·show aS (kT (dY e2.lb u.unlb) u.lb) B=aS (kT (dY e.lb u.unlb) u.lb) B;have:aS (dY e2.lb u.unlb) B=aS (dY e.lb u.unlb) B:=by
   cases u.unlb with
   |none=>exact H.lb B
   |some k=>simp only[dY,np,H.lb B]
  cases u.lb with
  |none=>exact this
  |some x=>
   grind [kT,dQ]
 ·have hB':aM (nG d u.ent (u.ls++e2.sl)) B=true:=hB;show aM (nG d u.ent (u.ls++e.sl)) B=true;rw[dR,fh]at hB' |-;simp only[M5]at hB' |-;exact⟨hB'.1,hB'.2.1,H.lf B hB'.2.2⟩
theorem Rel.run:∀(is:List Nat){L:List Nat}{e2 e:Env}(_:Rel ops L e2 e)(_:∀i∈is,i∈L)(h:Hp),aY cx base ops is e2 h≠.fail->
  (∃e2' e' h',aY cx base ops is e2 h= .ok e2' h'/\aY cx base ops is e h= .ok e' h'/\Rel ops L e2' e')\/∃v h',aY cx base ops is e2 h= .pan v h'/\aY cx base ops is e h= .pan v h'
 |[],L,e2,e,H,_,h,_=>.inl ⟨e2,e,h,rfl,rfl,H⟩
 | i:: is,L,e2,e,H,hL,h,hr=>by
  simp only[aY]at hr |-;unfold stepG at hr |-;simp only[ap,am]at hr |-;cases hx:eU cx base ops i e2 h with
  |fail=>grind
  | _ =>
   have ho:∃o,ops[i]? = some o:=by
    cases ho:ops[i]? with
    |none=>unfold eU at hx;rw[ho]at hx;cases hx
    |some o=>grind
   obtain⟨o,ho⟩:=ho;have hi:=hL i (by simp);have hy:eU cx base ops i e h=eU cx base ops i e2 h:=gy ho (fun t ht=>H.read hi (by rw[gM ho];simp[ht])) (H.agree hi ho) (by rw[hx];simp);rw[hy,hx]
   first
    | rw[hx]at hr
      exact Rel.run is (H.upd _ _) (fun k hk=>hL k (by simp[hk])) _ hr
    |exact .inr ⟨_,_,rfl,rfl⟩
theorem qw(e:Env):∀(ds:List Nat)(t:Nat),(forget e ds).get t=if t∈ds then Ent.none else e.get t
 |[],t=>by simp[forget]
 | d:: ds,t=>by
  show bM ((d,Ent.none):: (forget e ds).sl) t=_;rw[cn];by_cases hd:d=t
  ·subst hd;simp
  ·rw[M9 hd]
   have:=qw e ds t
   grind [Env.get]
theorem oY(e:Env):∀(ds:List Nat),(forget e ds).al=e.al/\(forget e ds).lb=e.lb/\∀B,aM (forget e ds).sl B=aM e.sl B
 |[]=>⟨rfl,rfl,fun _=>rfl⟩
 |_d:: ds=>oY e ds
theorem pj(e:Env)(f:Nat->AV):∀(outs:List Nat)(pre:List AV)(t:Nat),(gg e (pre++outs.map f) pre.length outs).get t=if t∈outs then⟨.val (f t),none⟩else e.get t
 |[],pre,t=>by simp[gg]
 | d:: ds,pre,t=>by
  show bM ((d,⟨.val (aa (pre++(d:: ds).map f) pre.length),none⟩):: (gg e (pre++(d:: ds).map f) (pre.length+1) ds).sl) t=_;rw[cn];have hn:aa (pre++(d:: ds).map f) pre.length=f d:=by simp[aa]
  by_cases hd:d=t
  ·grind
  ·rw[M9 hd]
   have:=pj e f ds (pre++[f d]) t
   grind [Env.get]
theorem nF(e:Env)(vs:List AV):∀(outs:List Nat)(i:Nat),(gg e vs i outs).al=e.al/\(gg e vs i outs).lb=e.lb/\∀B,aM (gg e vs i outs).sl B=aM e.sl B
 |[],_i=>⟨rfl,rfl,fun _=>rfl⟩
 |_d:: ds,i=>nF e vs ds (i+1)
theorem yH(gs:List (Option (Nat×Bool)×List Nat))(t:Nat):yG ops gs t=true↔∃i∈ix gs,t∈dj ops i:=by
 grind [yG,ix,gd]
theorem Rel.close{is:List Nat}{gs:List (Option (Nat×Bool)×List Nat)}{e2 e e':Env}(H:Rel ops (is++ix gs) e2 e)(hS:Small ops)(T:Turned (cU ops is) e e'){vs:List AV}{f:Nat->AV}(hvs:vs=(dy ops is gs).map f)(hf:∀t∈dy ops is gs,e'.get t=⟨.val (f t),none⟩\/(f t= .any/\t<1000/\∀i∈ix gs,t ∉ dj ops i)):Rel ops (ix gs) (gg (forget e2 (cU ops is)) vs 0 (dy ops is gs)) e':=by
 have hr:=nF (forget e2 (cU ops is)) vs (dy ops is gs) 0;have hr2:=oY e2 (cU ops is);refine⟨fun t=>?_,fun g=>?_,fun B=>?_,fun B hB=>?_⟩
 ·have hg:=pj (forget e2 (cU ops is)) f (dy ops is gs) [] t;simp only[NF,Nu]at hg;rw[hvs,hg];split
  ·rename_i ht;rcases hf t ht with h|⟨h1,h2,h3⟩
   ·grind
   ·exact .inr ⟨by rw[h1];rfl,h2,h3⟩
  ·rename_i ht;rw[qw];split
   ·rename_i hd;refine .inr ⟨rfl,?_,fun i hi hti=>ht ?_⟩
    ·unfold cU at hd;simp only[Ph]at hd;obtain⟨i,hi,hd⟩:=hd;unfold cK at hd;cases hoi:ops[i]? with
     |none=>grind
     |some o=>rw[hoi]at hd;exact hS.dst i o hoi t hd
    grind [dy,yH]
   ·rename_i hd;rw[T.get t hd];rcases H.get t with h|⟨h1,h2,h3⟩
    all_goals grind
 ·rw[hr.1,hr2.1,T.al];exact H.al g
 ·rw[hr.2.1,hr2.2.1,T.lb];exact H.lb B
 ·rw[hr.2.2,hr2.2.2]at hB;exact T.lf B (H.lf B hB)
theorem ri(l m:List Nat):∀e:Env,aY cx base ops (l++m) e=ap (aY cx base ops l e) (aY cx base ops m):=by
 induction l with
 |nil=>intro e;rfl
 |cons i l ih=>
  intro e;show ap (stepG cx base ops i e) (aY cx base ops (l++m))=ap (ap (stepG cx base ops i e) (aY cx base ops l)) (aY cx base ops m);rw[bK];congr 1
  grind
theorem D9{x:Ent}(h1:my x=true)(h2:x.g=none):x=⟨.val x.av,none⟩:=by
 obtain⟨v,g⟩:=x;cases v with
 |val a=>simp only at h2;subst h2;rfl
 |loc B off=>cases h1
theorem jO{ρ:Type}(hS:Small ops):∀(gs:List (Option (Nat×Bool)×List Nat))(e2 e:Env)(k:Env->M ρ)(h:Hp),(∀g∈gs,∀i∈g.2,guardOf ops i=g.1)->Rel ops (ix gs) e2 e->eN cx base ops gs e2 k h≠.fail->
  (∃e2' e' h',eN cx base ops gs e2 k h=k e2' h'/\aY cx base ops (ix gs) e h= .ok e' h'/\Rel ops [] e2' e')\/∃v h',eN cx base ops gs e2 k h= .pan v h'/\aY cx base ops (ix gs) e h= .pan v h'
 |[],e2,e,k,h,_,H,_=>.inl ⟨e2,e,h,rfl,rfl,H⟩
 | (none,is):: gs,e2,e,k,h,hg,H,hr=>by
  have hg0:∀i∈is,guardOf ops i=none:=hg (none,is) (by simp);have hfl:ix ((none,is):: gs)=is++ix gs:=rfl;rw[hfl]at H |-;rw[ri];simp only[eN]at hr |-;rw[wK is e2 _ hg0]at hr |-;simp only[ap]at hr |-;have hr2:aY cx base ops is e2 h≠.fail:=fun hf=>by grind
  rcases H.run (base:=base) (cx:=cx) is (fun i hi=>by simp[hi]) h hr2 with⟨e2',e',h',h1,h2,H'⟩|⟨v,h',h1,h2⟩
  ·rw[h1]at hr |-;rw[h2];exact jO hS gs e2' e' k h' (fun g hgg=>hg g (by simp[hgg])) (H'.sub fun i hi=>by simp[hi]) hr
  grind
 | (some (j,want),is):: gs,e2,e,k,h,hg,H,hr=>by
  have hg0:∀i∈is,guardOf ops i=some (j,want):=hg (some (j,want),is) (by simp);have hfl:ix ((some (j,want),is):: gs)=is++ix gs:=rfl;rw[hfl]at H |-;rw[ri];simp only[eN]at hr |-;cases hdj:cK ops j with
  |none=>rw[hdj]at hr;exact absurd rfl hr
  | some t=>
   rw[hdj]at hr;simp only at hr |-;revert hr;cases hc:((is.all fun i=>match ops[i]? with|some o=>fw cx o&&o.dst.isSome|none=>false)&&!(cW (cU ops is) t))with
   |false=>intro hr;exact absurd rfl hr
   | true=>
    intro hr;simp only[M6]at hr |-;simp only[M5,NR,Nl]at hc;have G:GroupOk cx ops j want t is:=by
     refine⟨hdj,fun i hi=>?_,fun ht=>?_⟩
     ·grind
     ·rw[(gd _ _).2 ht]at hc
      grind
    have htr:∀i∈is,t∈dj ops i:=fun i hi=>by
     obtain⟨o,ho,hgi,_⟩:=G.each i hi;rw[gM ho];have:o.guard=some (j,want):=by simpa [guardOf,ho]using hgi
     have:t∈fq ops o:=by
      unfold fq;rw[this];simp only;rw[show (ops[j]?).bind (·.dst)=some t from hdj];simp
     simp[this]
    -- the guard says yes
    cases is with
    | nil=>
     have hrn:∀e,aY cx base ops [] e=am e:=fun _=>rfl;rw[hrn,ai];have ho:dy ops [] gs=[]:=rfl;have hd:cU ops []=[]:=rfl;rw[ho,hd]at hr |-;have hpure:∀ {q:AV} {m:M (List AV)},m h= .ok [] h->bc q want ([]:List Nat).length m h≠.fail->bc q want ([]:List Nat).length m h= .ok [] h:=by
      intro q m hm hne;cases q with
      |bool b=>
       simp only[bc];cases b== want with
       |true=>exact hm
       |false=>rfl
      |tup vs=>
       cases vs with
       |nil=>rfl
       |cons v vs=>exact absurd rfl hne
      |_=>exact absurd rfl hne
     simp only[ap]at hr |-;have hp:=hpure (q:=e2.av t) (m:=jr cx base ops true [] e2 fun e'=>bif ([]:List Nat).all (fun t=>my (e'.get t))then am (([]:List Nat).map e'.av)else fA) rfl (fun hf=>by grind);rw[hp]at hr |-;exact jO hS gs e2 e k h (fun g hgg=>hg g (by simp[hgg])) (H.sub fun i hi=>by simp[hi]) hr
    |cons i0 is0=>
    have hav:e.av t=e2.av t:=by
     have:=H.read (i:=i0) (by simp) (htr i0 (by simp))
     simp only[Env.av,this]
    generalize hiseq:i0:: is0=is at *;have hoff:Off (e2.av t) want->(bc (e2.av t) want (dy ops is gs).length (jr cx base ops true is e2 fun e'=>bif (dy ops is gs).all (fun t=>my (e'.get t))then am ((dy ops is gs).map e'.av)else fA))=am (List.replicate (dy ops is gs).length (.tup [])):=by
     rintro (hq|⟨b,hq,hb⟩)
     ·rw[hq];rfl
     ·rw[hq];simp only[bc,hb,Nh]
    have hcase:Off (e2.av t) want\/e2.av t= .bool want:=by
     cases hq:e2.av t with
     |bool b=>
      cases hb:(b== want)with
      |true=>grind
      |false=>exact .inl (.inr ⟨b,rfl,hb⟩)
     |tup vs=>
      cases vs with
      |nil=>exact .inl (.inl rfl)
      |cons v vs=>rw[hq]at hr;exact absurd rfl hr
     |_=>rw[hq]at hr;exact absurd rfl hr
    rcases hcase with ho|hy
    ·rw[hoff ho,ai]at hr |-;obtain⟨e',h1,T,h2⟩:=EK (base:=base) is e h G (by grind);simp only[ap];rw[h1];refine jO hS gs _ e' k h (fun g hgg=>hg g (by simp[hgg])) (H.close hS T (f:=fun _=>.tup []) ?_ fun s hs=>.inl ?_) hr
     all_goals grind [List.map_const',dy]
    ·rw[hy]at hr |-;simp only[bc,O5,M6,ap]at hr |-;rw[tr is e2 _ h G hy]at hr |-;simp only[ap]at hr |-;have hr2:aY cx base ops is e2 h≠.fail:=fun hf=>by grind
     rcases H.run (base:=base) (cx:=cx) is (fun i hi=>by simp[hi]) h hr2 with⟨e2',e',h',h1,h2,H'⟩|⟨v,h',h1,h2⟩
     ·rw[h1]at hr |-;rw[h2];simp only at hr |-;have T2:=nM is e2 e2' h h' G hy h1;have T:=nM is e e' h h' G (by grind) h2;cases hv:(dy ops is gs).all (fun t=>my (e2'.get t))with
      |false=>rw[hv]at hr;exact absurd rfl hr
      |true=>
       rw[hv]at hr;simp only[M6,am]at hr |-;refine jO hS gs _ e' k h' (fun g hgg=>hg g (by simp[hgg])) (H.close hS T (f:=e2'.av) rfl fun s hs=>?_) hr;have hsd:s∈cU ops is:=by unfold dy at hs;exact (List.mem_filter.1 hs).1
       have hval:=D9 (Nl.1 hv s hs) (T2.ng s hsd);rcases H'.get s with h3|⟨h3,h4,h5⟩
       ·left;rw[<- h3];exact hval
       ·right;exact⟨by simp only[Env.av,h3];rfl,h4,fun i hi=>h5 i (by simp[hi])⟩
     grind
end
end
omit [Dr]in
theorem kv(acc:List Nat):∀(es:List Edge)(x:Nat),(jx acc es).testBit x=true↔∃e∈es,Region.binds .any e=true/\(e.on=x\/(acc.getD e.on 0).testBit x=true)
 |[],x=>by simp[jx]
 | e:: es,x=>by
  simp only[jx];cases hb:Region.binds .any e with
  |false=>
   simp only[Nh,kv acc es x,NT]
   grind
  |true=>
   simp only[M6,Nat.testBit_or,NU,kv acc es x,NT,Nat.testBit_two_pow,M8]
   grind
omit [Dr]in
theorem sy:∀(os:List Oper)(acc:List Nat),∃r:List Nat,xl os acc=acc++r/\r.length=os.length/\∀(k:Nat)(o:Oper),os[k]? = some o->r[k]? = some (jx (acc++r.take k) o.after.toList)
 |[],acc=>⟨[],by simp[xl],rfl,by simp⟩
 | o:: os,acc=>by
  obtain⟨r,h1,h2,h3⟩:=sy os (acc++[jx acc o.after.toList]);refine⟨jx acc o.after.toList:: r,by simp[xl,h1],by simp[h2],fun k o' ho=>?_⟩;cases k with
  |zero=>grind
  |succ k=>
   grind
section
variable {ops:Array Oper}
def l7(ops:Array Oper):List Nat:=xl ops.toList []
omit [Dr]in
theorem Bn{j:Nat}{o:Oper}(ho:ops[j]? = some o):(l7 ops).length=ops.size/\(l7 ops).getD j 0=jx ((l7 ops).take j) o.after.toList:=by
 obtain⟨r,h1,h2,h3⟩:=sy ops.toList []
 grind [l7]
omit [Dr]in
theorem zR{listed:Nat->Prop}(hcl:∀(j:Nat)(o:Oper),ops[j]? = some o->listed j->∀e∈o.after.toList,Region.binds .any e=true->listed e.on):
  ∀(j:Nat)(o:Oper),ops[j]? = some o->(∀e∈o.after.toList,Region.binds .any e=true->listed e.on)->∀x,((l7 ops).getD j 0).testBit x=true->listed x:=by
 intro j
 induction j using Nat.strongRecOn with
 | _ j ih=>
  intro o ho hl x hx;obtain⟨hlen,hget⟩:=Bn ho;rw[hget,kv]at hx;obtain⟨e,he,hb,hx|hx⟩:=hx
  ·grind
  ·by_cases hj:e.on<j
   ·have hjs:j<ops.size:=(Ob.1 ho).1;have hos:ops[e.on]? = some ops[e.on]:=NY (by omega);have h1:((l7 ops).take j).getD e.on 0=(l7 ops).getD e.on 0:=by
     rw[Ot,Ot,Oa,Nn hj]
    grind
   grind
def Be(cx:Cx)(ops:Array Oper)(i j:Nat):Prop:=((l7 ops).getD i 0).testBit j=false/\(((l7 ops).getD j 0).testBit i=true\/nh cx ops i j=true)
omit [Dr]in
theorem pe{cx:Cx}:∀ {l:List Nat},kz cx ops (l7 ops) l=true->l.Pairwise (Be cx ops)/\∀i∈l,((l7 ops).getD i 0).testBit i=false
 |[],_=>⟨.nil,by simp⟩
 |i:: l,h=>by
  simp only[kz,M5,NR,Nl,NU]at h;obtain⟨⟨h1,h2⟩,h3⟩:=h;obtain⟨h4,h5⟩:=pe h3;refine⟨.cons (fun j hj=>h2 j hj) h4,fun k hk=>?_⟩
  grind
omit [Dr]in
theorem lc:∀ {l:List Nat},distinct l=true->l.Nodup
 |[],_=>.nil
 |i:: l,h=>by
  simp only[distinct,M5,NR]at h;refine List.nodup_cons.2 ⟨fun hi=>?_,lc h.2⟩;rw[(gd _ _).2 hi]at h
  grind
variable {P:Program} {cx:Cx} {c:Entry} {N base:Nat}
theorem vt(hT:TOK P cx.T)(hC:db P cx.own cx.call)(hI:IsoPure cx)(hO:OpsOk N cx ops)(hS:Small ops)(hbit:∀i x,((l7 ops).getD i 0).testBit x=true->x<ops.size)(hself:∀i,i<ops.size->((l7 ops).getD i 0).testBit i=false){Q:Exit->Act->World->Prop}:∀(n:Nat)(rest:List Nat)(listed:Array Bool)(D:List Nat)(e:Env)(h:Hp)(a:Act)(w:World),rest.length=n->listed.size=ops.size->rest.Nodup->
  (∀i,i∈rest↔i<ops.size/\listed.getD i true=false)->(∀i∈rest,i ∉ D)->(∀i∈D,i<ops.size)->
  (∀(j:Nat)(o:Oper),ops[j]? = some o->listed.getD j false=true->∀e∈o.after.toList,Region.binds .any e=true->listed.getD e.on false=true)->rest.Pairwise (Be cx ops)->
  eE c N (UD base D) e h a w->aY cx base ops rest e h≠.fail->
  (∀e0 e' h' a' w',aY cx base ops rest e h= .ok e0 h'->EqE e0 e'->eE c N (UR base ops.size) e' h' a' w'->a'.defers=a.defers->Q .normal a' w')->
  (∀pv h' v w' a',aY cx base ops rest e h= .pan pv h'->ml c pv h' v w'->a'.defers=a.defers->Q (.panic [{ v,recovered:=false }]) a' w')->wpAny P .any ops Q n listed a w
 |0,rest,listed,D,e,h,a,w,hlen,hsz,hnd,hmem,hdis,hD,hcl,hpw,H,hr,hn,hp=>by
  have:rest=[]:=NN hlen;subst this;refine⟨?_,hn e e h a w rfl (.refl e) (H.wider (E4 hD)) rfl⟩;refine List.eq_nil_iff_forall_not_mem.2 fun i hi=>?_
  grind [mem_ready]
 | n + 1,rest,listed,D,e,h,a,w,hlen,hsz,hnd,hmem,hdis,hD,hcl,hpw,H,hr,hn,hp=>by
  have hgd:∀i,i<ops.size->listed.getD i true=listed.getD i false:=fun i hi=>by
   grind
  refine⟨fun hemp=>?_,fun i hi=>?_⟩
  ·exfalso;cases rest with
   |nil=>simp at hlen
   | cons r0 tl=>
    have hr0:=(hmem r0).1 (by simp);have hor:ops[r0]? = some ops[r0]:=NY hr0.1;have:r0∈Region.ready .any ops listed:=by
     refine mem_ready.2 ⟨hr0.2,_,hor,fun ed hed hb=>?_⟩;have hbt:((l7 ops).getD r0 0).testBit ed.on=true:=by
      rw[(Bn hor).2,kv];exact⟨ed,by simpa using hed,hb,.inl rfl⟩
     have hlt:=hbit r0 ed.on hbt;cases hl:listed.getD ed.on false with
     |true=>rfl
     | false=>
      have hin:=(hmem ed.on).2 ⟨hlt,by grind⟩;simp only[NT]at hin;rcases hin with hin|hin
      ·grind
      ·have:=(OY.1 hpw).1 ed.on hin
       rw[this.1]at hbt;cases hbt
    grind
  ·obtain⟨h0,o,ho,hall⟩:=mem_ready.1 hi;have hlt:i<ops.size:=(Ob.1 ho).1;have hin:=(hmem i).2 ⟨hlt,h0⟩;obtain⟨p,q,rfl⟩:=List.append_of_mem hin;have hnd':=hnd;rw[List.nodup_append]at hnd';have hni:i ∉ p++q:=by
    intro hm;rw[N5]at hm;rcases hm with hm|hm
    ·grind
    ·grind
   have hclo:=zR (ops:=ops) (listed:=fun j=>listed.getD j false=true) (fun j o ho hj ed hed hb=>hcl j o ho hj ed hed hb) i o ho (fun ed hed hb=>hall ed (by simpa using hed) hb);have hfront:∀x∈p,nh cx ops x i=true/\x≠i:=by
    intro x hx;have hpr:=(OQ.1 hpw).2.2 x hx i (by simp);refine⟨?_,fun hxi=>hni (by grind)⟩;rcases hpr.2 with h1|h1
    ·grind
    ·exact h1
   have hRE:=Fh (base:=base) hI hS q p hfront e h;have hr':aY cx base ops (i:: (p++q)) e h≠.fail:=by
    intro hf;rw[hf]at hRE;cases hx:aY cx base ops (p++i:: q) e h with
    |fail=>exact hr hx
    |ok e0 h0=>rw[hx]at hRE;obtain⟨_,h1,_⟩:=hRE;cases h1
    |pan v h0=>rw[hx]at hRE;cases hRE
   simp only[aY,ap]at hr';have hstep:∀ {r:R Env},aY cx base ops (i:: (p++q)) e h=r->aY cx base ops (i:: (p++q)) e h=r:=fun h=>h;simp only[aY,ap]at hRE;refine rr hT hC hO (hdis i hin) H (fun hf=>by grind) (fun e1 h1 a1 w1 hst hs hdf=>?_) (fun pv h1 v w1 hst hps=>?_)
   ·rw [hst]at hr' hRE;simp only at hr' hRE;refine vt hT hC hI hO hS hbit hself n (p++q) (listed.setIfInBounds i true) (i:: D) e1 h1 a1 w1 ?_ (by simp[hsz]) ?_ (fun k=>?_) (fun k hk=>?_) (fun k hk=>?_) (fun k o' ho' hk ed hed hb=>?_) ?_ hs hr' (fun e0 e' h' a' w' hok heq hsat hdf'=>?_) (fun pv h' v w' a' hok hps hdf'=>?_)
    ·grind
    ·grind
    ·have hset:k≠i->(listed.setIfInBounds i true).getD k true=listed.getD k true:=fun hk=>by
      simp_all[PL]
     constructor
     ·grind
     ·rintro⟨h1,h2⟩;have hki:k≠i:=by
       rintro rfl;rw[Oj,Array.getElem?_setIfInBounds_self]at h2;rw[Nn (by omega)]at h2;simp at h2
      grind
    ·grind
    ·grind
    ·have hmono:∀x,listed.getD x false=true->(listed.setIfInBounds i true).getD x false=true:=fun x hx=>getD_set_true hx;by_cases hki:k=i
     ·grind
     ·refine hmono _ (hcl k o' ho' ?_ ed hed hb);simp_all[PL]
    ·grind
    ·rw[hok]at hRE;cases hx:aY cx base ops (p++i:: q) e h with
     |fail=>grind
     |ok ex hx'=>
      rw[hx]at hRE;obtain⟨e0',h2,h3⟩:=hRE;cases h2;exact hn ex e' _ a' w' hx (h3.trans heq) hsat (hdf'.trans hdf)
     |pan v h0=>rw[hx]at hRE;cases hRE
    ·rw[hok]at hRE;cases hx:aY cx base ops (p++i:: q) e h with
     |fail=>grind
     |ok ex hx'=>rw[hx]at hRE;obtain⟨_,h1,_⟩:=hRE;cases h1
     |pan v0 h0=>
      rw[hx]at hRE;cases hRE
      grind
   ·rw[hst]at hRE;cases hx:aY cx base ops (p++i:: q) e h with
    |fail=>grind
    |ok ex hx'=>rw[hx]at hRE;obtain⟨_,h1,_⟩:=hRE;cases h1
    |pan v0 h0=>
     rw[hx]at hRE;cases hRE
     grind
end
structure IsoCall (cx:Cx):Prop where
 iso:∀f args,cx.iso f=true->∃x:Option (Bool×AV),∀h,cx.call f args h=(match x with|none=>.fail|some (true,v)=>.ok v h|some (false,v)=>.pan v h)
 nw:∀f args,cx.nw f=true->uO (cx.call f args)
omit [Dr]in
theorem IsoCall.draw{cx:Cx}(h:IsoCall cx):IsoPure (fC cx):=by
 refine⟨?_,fun f args hf=>?_⟩
 case refine_2=>
  have hn:=h.nw f args hf;show uO (bif cx.iso f then bH (cx.call f args)else cx.call f args);cases cx.iso f with
  |false=>exact hn
  |true=>
   intro hp v h' hh;simp only[M6,bH]at hh;cases hq:cx.call f args hp with
   |ok a b=>rw[hq]at hh;cases hh;exact hn _ _ _ hq
   |pan a b=>grind
   |fail=>grind
 intro f args hf;have hf':cx.iso f=true:=hf;obtain⟨x,hx⟩:=h.iso f args hf';refine⟨match x with|some (true,v)=>some v|_=>none,?_⟩;show (bif cx.iso f then bH (cx.call f args)else cx.call f args)=_;rw[hf'];funext hp;simp only[M6,bH,hx];rcases x with _|⟨b,v⟩
 ·rfl
 ·cases b<;>rfl
theorem db.draw{P:Program}{cx:Cx}(h:db P cx.own cx.call):db P (fC cx).own (fC cx).call:=by
 intro f args hp S β w vs hr hg hw hh hv;have hcall:(fC cx).call f args hp=(bif cx.iso f then bH (cx.call f args) hp else cx.call f args hp):=by
  show (bif cx.iso f then bH (cx.call f args)else cx.call f args) hp=_;cases cx.iso f<;>rfl
 rw[hcall]at hr |-
 have key:∀r,r=cx.call f args hp->r≠.fail->Calls P f vs.toArray w (eh ((fC cx).own f) S β hp w r)/\(P.funcs[f]?).any (fun fn=>fn.body.isSome&&!(fn.name== "runtime.NumGoroutine"))=true:=by
  intro r hr1 hr2;subst hr1;exact h f args hp S β w vs hr2 hg hw hh hv
 cases hi:cx.iso f with
 |false=>grind
 |true=>
  rw[hi]at hr;simp only[M6,bH]at hr |-
  grind
def kL(c:Entry)(N:Nat)(e:Env)(h:Hp)(a:Act)(w:World):Prop:=eE c N (fun g=>g<e.nx*1000) e h a w
theorem eE.rel{c:Entry}{N:Nat}{U:Nat->Prop}{e2 e:Env}{h:Hp}{a:Act}{w:World}{ops:Array Oper}(H:eE c N U e h a w)(R:Rel ops [] e2 e):eE c N U e2 h a w:=by
 obtain⟨S,β,γ,lam,ω,F⟩:=H;refine⟨S,β,γ,lam,ω,F.weak (fun t=>?_) (fun t g hg=>?_) (fun g z hz=>by rw[R.al]at hz;exact hz) (fun B n hB=>by rw[R.lb]at hB;exact hB)⟩
 ·rcases R.get t with h|⟨h1,h2,_⟩
  ·grind
  ·exact .inr ⟨by rw[h1];rfl,h2⟩
 ·rcases R.get t with h|⟨h1,_⟩
  ·grind
  ·rw[h1]at hg;cases hg
theorem eE.eqE{c:Entry}{N:Nat}{U:Nat->Prop}{e2 e:Env}{h:Hp}{a:Act}{w:World}(H:eE c N U e h a w)(R:EqE e e2):eE c N U e2 h a w:=by
 obtain⟨S,β,γ,lam,ω,F⟩:=H;exact⟨S,β,γ,lam,ω,F.weak (fun t=>.inl (by rw[R.get])) (fun t g hg=>by rw[R.get]at hg;exact hg) (fun g z hz=>by rw[R.al]at hz;exact hz) (fun B n hB=>by rw[R.lb]at hB;exact hB)⟩
theorem eE.nx{c:Entry}{N:Nat}{U:Nat->Prop}{e:Env}{h:Hp}{a:Act}{w:World}(n:Nat)(H:eE c N U e h a w):eE c N U { e with nx:=n } h a w:=by
 obtain⟨S,β,γ,lam,ω,F⟩:=H;exact⟨S,β,γ,lam,ω,F.weak (fun t=>.inl rfl) (fun t g hg=>hg) (fun g z hz=>hz) (fun B n hB=>hB)⟩
section
variable {P:Program} {cx:Cx} {c:Entry} {e:Env} {h:Hp} {a:Act} {w:World} {ops:Array Oper} {id:Nat}
omit [Dr]in
theorem rN{n:Nat}(hn:n<=1000)(hd:jL n ops=true)(hk:∀p,Aw (cj cx.ann.kinds p .L)=true->p<n):OpsOk n cx ops/\Small ops:=by
 unfold jL at hd;rw[Array.all_eq_true_iff_forall_mem]at hd;have h1:∀(i:Nat)(o:Oper),ops[i]? = some o->(∀t,o.dst=some t->t<n)/\∀t∈fS o,t<1000:=by
  intro i o ho
  have:=hd o (Array.mem_of_getElem? ho)
  simp only[M5,Nl,M8]at this;refine⟨fun t ht=>?_,this.2⟩;have h2:=this.1;rw[ht]at h2;simpa using h2
 refine⟨⟨fun i o ho=>(h1 i o ho).1,fun i o ho x hx t hxt=>(h1 i o ho).2 t ?_,hk⟩,⟨fun i o ho t ht=>Nat.lt_of_lt_of_le ((h1 i o ho).1 t ht) hn,fun i o ho=>(h1 i o ho).2⟩⟩;subst hxt;exact Ph.2 ⟨_,hx,rfl⟩
theorem AX{ρ:Type}(hT:TOK P cx.T)(hC:db P cx.own cx.call)(hI:IsoCall cx)(hk:∀p,Aw (cj cx.ann.kinds p .L)=true->p<cx.nt){draw:Bool}{k:Env->M ρ}(H:kL c cx.nt e h a w)(hr:oR cx id ops draw e k h≠.fail){Q:Exit->Act->World->Prop}(hn:∀e' h' a' w',oR cx id ops draw e k h=k e' h'->kL c cx.nt e' h' a' w'->a'.defers=a.defers->Q .normal a' w')(hp:∀pv h' v w' a',oR cx id ops draw e k h= .pan pv h'->ml c pv h' v w'->a'.defers=a.defers->Q (.panic [{ v,recovered:=false }]) a' w'):
  (Code.region id ops draw).wp P Q a w:=by
 have hN:cx.nt<=1000:=by obtain⟨S,β,γ,lam,ω,F⟩:=H;exact F.tsz.2
 have H0:eE c cx.nt (UD e.nx []) e h a w:=H.wider fun g hg=>.inl hg;unfold oR at hr hn hp;cases hds:jL cx.nt ops with
 |false=>rw[hds]at hr;exact absurd rfl hr
 | true=>
  obtain⟨hO,hS⟩:=rN (cx:=cx) hN hds hk;rw[hds]at hr hn hp;simp only[M6]at hr hn hp;cases draw with
  | false=>
   simp only[Nh]at hr hn hp;obtain⟨hfl,hgs⟩:=jw ops (List.range ops.size);refine wp_region (tv hT hC hO (List.range ops.size) [] e h a w List.nodup_range (by simp) H0 ?_ ?_ ?_)
   all_goals
    have hseq:=jO (cx:=cx) (base:=e.nx) hS (dP ops (List.range ops.size)) e e _ h hgs (.refl ops _ e) hr;rw[hfl]at hseq
   ·rcases hseq with⟨_,_,_,_,h2,_⟩|⟨_,_,_,h2⟩<;>rw[h2]<;>simp
   ·intro e' h' a' w' hok hsat hdf;rcases hseq with⟨e2',e'',h'',h1,h2,hR⟩|⟨_,_,_,h2⟩
    ·rw[h2]at hok;cases hok;refine hn _ _ a' w' h1 (eE.nx _ ((hsat.wider (E4 ?_)).rel hR)) hdf;intro i hi;simpa using hi
    ·rw[h2]at hok;cases hok
   ·intro pv h' v w' a' hok hps hdf;rcases hseq with⟨e2',e'',h'',h1,h2,hR⟩|⟨_,_,h1,h2⟩
    ·rw[h2]at hok;cases hok
    ·rw[h2]at hok;cases hok;exact hp _ _ v w' a' h1 hps hdf
  | true=>
   simp only[M6]at hr hn hp;generalize tn cx id ops.size=ord at hr hn hp;cases hdo:mu cx ops ord with
   |false=>rw[hdo]at hr;exact absurd rfl hr
   | true=>
    rw[hdo]at hr hn hp;simp only[M6]at hr hn hp;simp only[mu,CJ,M5,Nl,M8]at hdo;obtain⟨⟨⟨⟨⟨hlen,hmem⟩,hdist⟩,hlt⟩,hbits⟩,hpairs⟩:=hdo;have hlen':ord.length=ops.size:=Nat.eq_of_beq_eq_true hlen;obtain⟨hpw,hself⟩:=pe (cx:=cx) (ops:=ops) hpairs;have hpw':ord.Pairwise (Be (fC cx) ops):=hpw;have hO':OpsOk cx.nt (fC cx) ops:=⟨hO.dst,hO.src,hO.kin⟩;obtain⟨hfl,hgs⟩:=jw ops ord;have hseq:=jO (cx:=fC cx) (base:=e.nx) hS (dP ops ord) e e _ h hgs (.refl ops _ e) hr;rw[hfl]at hseq;refine wp_region_draw fun t=>?_;have hsch:Region.schedule (P.follows .mixedOrders) ops t=Region.linearise .any ops t:=by
     simp only[Region.schedule,hT.mix,Bool.true_or,Nj]
    rw[hsch];have hmem':∀i,i∈ord↔i<ops.size:=fun i=>⟨fun hi=>hlt i hi,fun hi=>(gd _ _).1 (hmem i (by simpa using hi))⟩;refine wpAny_sound ops.size t _ a _ (vt (cx:=fC cx) (c:=c) (N:=cx.nt) (base:=e.nx) hT hC.draw hI.draw hO' hS ?_ ?_ ops.size ord (Array.replicate ops.size false) [] e h a w.drew hlen' (by simp) (lc hdist) ?_ (by simp) (by simp) ?_ hpw' ?_ ?_ ?_ ?_)
    ·intro i x hx;rcases NE x ops.size with h'|h'
     ·exact h'
     ·have hm:(l7 ops).getD i 0<2 ^ ops.size:=by
       rw[Ot];cases hi:(l7 ops)[i]? with
       |none=>grind
       |some m=>exact hbits m (Oy hi)
      grind [Nat.testBit_lt_two_pow,Nat.lt_of_lt_of_le,Nat.pow_le_pow_right]
    ·grind
    ·simp_all
    ·intro j o ho hj;exfalso;rw[Oj,Array.getElem?_replicate]at hj
     grind
    ·obtain⟨S,β,γ,lam,ω,F⟩:=H0;exact⟨S,β,γ,lam,ω,F.drew⟩
    ·grind
    ·intro e0 e' h' a' w' hok heq hsat hdf;rcases hseq with⟨e2',e'',h'',h1,h2,hR⟩|⟨_,_,_,h2⟩
     ·rw[h2]at hok;cases hok;exact hn _ _ a' w' h1 (eE.nx _ ((hsat.eqE heq.symm).rel hR)) hdf
     grind
    grind
end
section
variable {P:Program} {cx:Cx} {c:Entry} {e:Env} {h:Hp} {a:Act} {w:World} {ops:Array Oper} {id:Nat}
theorem yt{ρ:Type}(hT:TOK P cx.T)(hC:db P cx.own cx.call)(hI:IsoCall cx)(hk:∀p,Aw (cj cx.ann.kinds p .L)=true->p<cx.nt){draw:Bool}{k:Env->M ρ}(H:kL c cx.nt e h a w)(hr:nY cx id ops draw e k h≠.fail){Q:Exit->Act->World->Prop}(hn:∀e' h' a' w',nY cx id ops draw e k h=k e' h'->kL c cx.nt e' h' a' w'->a'.defers=a.defers->Q .normal a' w')(hp:∀pv h' v w' a',nY cx id ops draw e k h= .pan pv h'->ml c pv h' v w'->a'.defers=a.defers->Q (.panic [{ v,recovered:=false }]) a' w'):
  (Code.region id ops draw).wp P Q a w:=AX hT hC hI hk H hr hn hp
end
section
omit [Dr]
theorem ky{e:Env}:∀(l:List (Nat×Option Nat))(used:List Nat)(vs:List AV),hQ e l used=some vs->vs.length=l.length/\
  (∀(i:Nat)(t:Nat)(z:Option Nat),l[i]? = some (t,z)->∃a,vs[i]? = some a/\(e.get t).v= .val a/\∀sz,z=some sz->∃g z0,(e.get t).g=some g/\aK e.al g=some z0/\(z0=none\/z0=some sz)/\g ∉ used)/\
  ∀(i j:Nat)(t t' sz sz':Nat),i<j->l[i]? = some (t,some sz)->l[j]? = some (t',some sz')->(e.get t).g≠(e.get t').g
 |[],used,vs,h=>by
  simp only[hQ,M4]at h
  grind
 | (t,none):: r,used,vs,h=>by
  simp only[hQ]at h;split at h
  ·rename_i a ha;split at h
   ·rename_i vs' hvs;simp only[M4]at h;subst h;obtain⟨h1,h2,h3⟩:=ky r used vs' hvs;refine⟨by simp[h1],fun i t' z hi=>?_,fun i j t1 t2 sz1 sz2 hij hi hj=>?_⟩
    ·grind
    ·cases i with
     |zero=>simp at hi
     |succ i=>
      cases j with
      |zero=>omega
      |succ j=>grind
   ·cases h
  ·cases h
 | (t, some sz):: r,used,vs,h=>by
  simp only[hQ]at h;split at h
  ·rename_i a g ha hg;split at h
   ·cases h
   ·rename_i z0 hz0;have hcond:uF z0 (some sz)=true/\cW used g=false/\(match hQ e r (g:: used)with|some vs=>some (a:: vs)|none=>none)=some vs:=by
     cases hm:cW used g with
     |true=>
      grind
     | false=>
      rw[hm]at h;cases z0 with
      |none=>exact⟨rfl,rfl,h⟩
      |some n=>
       simp only at h;cases hb:Nat.beq n sz with
       |true=>rw[hb]at h;exact⟨hb,rfl,h⟩
       |false=>grind
    obtain⟨hc1,hc2,h⟩:=hcond;have hc:=And.intro hc1 hc2
    ·split at h
     ·rename_i vs' hvs;simp only[M4]at h;subst h;have hgu:g ∉ used:=fun hm=>by
       rw[(gd _ _).2 hm]at hc
       grind
      have hz:z0=none\/z0=some sz:=by
       cases z0 with
       |none=>exact .inl rfl
       |some n=>grind [Nat.eq_of_beq_eq_true]
      obtain⟨h1,h2,h3⟩:=ky r (g:: used) vs' hvs;refine⟨by simp[h1],fun i t' z hi=>?_,fun i j t1 t2 sz1 sz2 hij hi hj=>?_⟩
      ·cases i with
       |zero=>
        grind
       |succ i=>
        obtain⟨a',k1,k2,k3⟩:=h2 i t' z (by simpa using hi);refine⟨a',by simpa using k1,k2,fun sz' hsz=>?_⟩;obtain⟨g',z',m1,m2,m3,m4⟩:=k3 sz' hsz
        grind
      ·cases i with
       | zero=>
        cases j with
        |zero=>omega
        |succ j=>
         simp only[ND,M4,N9]at hi
         grind
       |succ i=>
        cases j with
        |zero=>omega
        |succ j=>grind
     ·cases h
  ·cases h
theorem kJ(vs:List AV)(r:List (Nat×Ent))(t:Nat):∀(l:List (Nat×Option Nat))(k:Nat),
  (∃(i:Nat)(z:Option Nat),l[i]? = some (t,z)/\bM (cN vs k l++r) t=⟨.val (aa vs (k+i)),z.map fun _=>k+i⟩)\/
  ((∀(i:Nat)(z:Option Nat),l[i]? ≠some (t,z))/\bM (cN vs k l++r) t=bM r t)
 |[],k=>.inr ⟨by simp,rfl⟩
 | (s,z):: l,k=>by
  have hh:cN vs k ((s,z):: l)=(s,⟨.val (aa vs k),z.map fun _=>k⟩):: cN vs (k+1) l:=by cases z<;>rfl
  rw[hh,NQ,cn];by_cases hs:s=t
  ·subst hs;rw[Nn rfl];exact .inl ⟨0,z,rfl,rfl⟩
  ·rw[M9 hs];rcases kJ vs r t l (k+1)with⟨i,z',h1,h2⟩|⟨h1,h2⟩
   ·refine .inl ⟨i+1,z',by simpa using h1,?_⟩
    grind
   grind
theorem gZ:∀(l:List (Nat×Option Nat))(k g:Nat)(y:Option Nat),aK (kb k l) g=some y->∃(i t sz:Nat),l[i]? = some (t,some sz)/\g=k+i/\y=some sz
 |[],k,g,y,h=>by simp[kb,aK]at h
 |(s,none):: l,k,g,y,h=>by
  obtain⟨i,t,sz,h1,h2,h3⟩:=gZ l (k+1) g y h;exact⟨i+1,t,sz,by simpa using h1,by omega,h3⟩
 | (s,some n):: l,k,g,y,h=>by
  simp only[kb,cg]at h;split at h
  ·rename_i hk;simp only[M4]at h;exact⟨0,s,n,rfl,by omega,h.symm⟩
  ·obtain⟨i,t,sz,h1,h2,h3⟩:=gZ l (k+1) g y h;exact⟨i+1,t,sz,by simpa using h1,by omega,h3⟩
theorem ow(t:Nat):∀(l:List (Nat×Nat×Nat)),(∃B off,(t,B,off)∈l/\bM (l.map fun x=>(x.1,(⟨.loc x.2.1 x.2.2,none⟩:Ent))) t=⟨.loc B off,none⟩)\/bM (l.map fun x=>(x.1,(⟨.loc x.2.1 x.2.2,none⟩:Ent))) t=Ent.none
 |[]=>.inr rfl
 | (s,B,off):: l=>by
  rw[NL,cn];by_cases hs:s=t
  ·grind
  ·rw[M9 hs];rcases ow t l with⟨B',off',h1,h2⟩|h
   all_goals grind
theorem qM{e:Env}:∀ {l:List (Nat×Nat×Nat)},qL e l=true->∀t B off,(t,B,off)∈l->(e.get t).v= .loc B off
 |[],_,t,B,off,h=>by simp at h
 | (s,B0,off0):: l,h,t,B,off,hm=>by
  simp only[qL,M5]at h;simp only[NT,N9]at hm;rcases hm with⟨rfl,rfl,rfl⟩|hm
  ·have h1:=h.1;split at h1
   all_goals simp_all
  ·exact qM h.2 t B off hm
theorem s8{e:Env}:∀ {l:List (Nat×Nat)},wq e l=true->∀B n,aS l B=some n->aS e.lb B=some n
 |[],_,B,n,h=>by simp[aS]at h
 |(B0,n0):: l,h,B,n,hm=>by
  simp only[wq,M5]at h;rw[dQ]at hm;split at hm
  ·grind [Nat.eq_of_beq_eq_true]
  ·exact s8 h.2 B n hm
end
section
variable {c:Entry} {N:Nat} {e:Env} {h:Hp} {a:Act} {w:World}
open Classical in
theorem uJ{ja:JA}{vs:List AV}(H:kL c N e h a w)(hp:pack ja e=some vs):kL c N (unpack ja vs) h a w:=by
 obtain⟨S,β,γ,lam,ω,F⟩:=H;unfold pack at hp;cases hlo:(qL e ja.locs&&wq e ja.lbs)with
 |false=>grind
 | true=>
  rw[hlo]at hp;simp only[M6]at hp;simp only[M5]at hlo;obtain⟨hlen,hval,hdis⟩:=ky ja.vals [] vs hp
  -- the groups carried
  let gOf:Nat->Option Nat:=fun i=>match ja.vals[i]? with|some (t,some _)=>(e.get t).g|_=>none
  have hg1:∀i t sz,ja.vals[i]? = some (t,some sz)->∃g z0,gOf i=some g/\(e.get t).g=some g/\aK e.al g=some z0/\(z0=none\/z0=some sz):=by
   intro i t sz hi;obtain⟨a',_,_,h3⟩:=hval i t (some sz) hi;obtain⟨g,z0,k1,k2,k3,_⟩:=h3 sz rfl;refine⟨g,z0,?_,k1,k2,k3⟩;show (match ja.vals[i]? with|some (t,some _)=>(e.get t).g|_=>none)=some g;rw[hi];exact k1
  have hg2:∀i j g,gOf i=some g->gOf j=some g->i=j:=by
   have hex:∀i g,gOf i=some g->∃t sz,ja.vals[i]? = some (t,some sz)/\(e.get t).g=some g:=by
    intro i g hi;have hi':(match ja.vals[i]? with|some (t,some _)=>(e.get t).g|_=>none)=some g:=hi;split at hi'
    ·grind
    ·cases hi'
   intro i j g hi hj;obtain⟨t,sz,k1,k2⟩:=hex i g hi;obtain⟨t',sz',m1,m2⟩:=hex j g hj;rcases Nat.lt_trichotomy i j with hlt|heq|hlt
   ·grind
   ·exact heq
   ·grind
  let γ':Nat->Value:=fun i=>match gOf i with|some g=>γ g|none=>undef
  let ω':Nat->Owner:=fun b=>match ω b with
   |.grp g=>if hx:∃i,gOf i=some g then .grp (Classical.choose hx)else .no
   |o=>o
  have hωg:∀b g i,ω b= .grp g->gOf i=some g->ω' b= .grp i:=by
   intro b g i hb hi;show (match ω b with|.grp g=>if hx:∃i,gOf i=some g then Owner.grp (Classical.choose hx)else .no|o=>o)= .grp i;rw[hb];simp only;have hx:∃i,gOf i=some g:=⟨i,hi⟩;rw[dif_pos hx,hg2 _ _ g (Classical.choose_spec hx) hi]
  have hωo:∀b,(∀g,ω b≠.grp g)->ω' b=ω b:=by
   intro b hb;show (match ω b with|.grp g=>if hx:∃i,gOf i=some g then Owner.grp (Classical.choose hx)else .no|o=>o)=ω b;cases ho:ω b with
   |grp g=>grind
   |_=>rfl
  have hωn:∀b,ω' b≠.no->ω b≠.no:=by
   intro b hb ho;refine hb ?_;rw[hωo b (fun g hg=>by grind),ho]
  have hωx:∀b g,ω' b= .grp g->∃g',ω b= .grp g':=by
   intro b g hg;cases ho:ω b with
   |grp g'=>grind
   |_=>grind
  -- the slots
  have hget:∀t,(∃(i:Nat)(z:Option Nat)(a':AV),ja.vals[i]? = some (t,z)/\(e.get t).v= .val a'/\(unpack ja vs).get t=⟨.val a',z.map fun _=>i⟩)\/(∃B off,(e.get t).v= .loc B off/\(unpack ja vs).get t=⟨.loc B off,none⟩)\/(unpack ja vs).get t=Ent.none:=by
   intro t;have hu:(unpack ja vs).get t=bM (cN vs 0 ja.vals++ja.locs.map fun x=>(x.1,(⟨.loc x.2.1 x.2.2,none⟩:Ent))) t:=rfl;rcases kJ vs (ja.locs.map fun x=>(x.1,(⟨.loc x.2.1 x.2.2,none⟩:Ent))) t ja.vals 0 with⟨i,z,h1,h2⟩|⟨h1,h2⟩
   ·obtain⟨a',k1,k2,_⟩:=hval i t z h1;refine .inl ⟨i,z,a',h1,k2,?_⟩;rw[hu,h2,NB]
    grind [aa]
   ·grind [ow,qM]
  have hgg:∀t g,((unpack ja vs).get t).g=some g->∃sz,ja.vals[g]? = some (t,some sz):=by
   intro t g hg;rcases hget t with⟨i,z,a',h1,_,h3⟩|⟨_,_,_,h3⟩|h3
   ·rw[h3]at hg;cases z with
    |none=>simp at hg
    |some sz=>grind
   ·grind
   ·rw[h3]at hg;cases hg
  have hγ:∀t g,((unpack ja vs).get t).g=some g->∃g0 z0,(e.get t).g=some g0/\aK e.al g0=some z0/\γ' g=γ g0:=by
   intro t g hg;obtain⟨sz,h1⟩:=hgg t g hg;obtain⟨g0,z0,k1,k2,k3,_⟩:=hg1 g t sz h1;refine⟨g0,z0,k2,k3,?_⟩;show (match gOf g with|some g=>γ g|none=>undef)=γ g0;rw[k1]
  refine⟨S,β,γ',lam,ω',⟨F.wf,F.gro,F.keep,F.le,F.ext,F.hlen,fun l cs hl hcs=>?_,F.tsz,fun t ht=>?_,fun t g z ht hg hz=>?_,fun B n hB=>?_,fun g z hz=>?_,fun b hb=>⟨(F.mine b (hωn b hb)).1.imp (fun hE=>⟨hE.1,fun g hg=>by grind⟩) id,(F.mine b (hωn b hb)).2⟩,fun t g hg=>?_,fun g z hz=>?_⟩⟩
  ·rcases F.heap l cs hl hcs with⟨b,x,h1,h2,h3,h4⟩|⟨b,h1,h3,h4⟩
   all_goals grind
  ·have hs:=F.slots t ht
   grind [Ent.none,fU,VR]
  ·obtain⟨g0,z0,k1,k2,k3⟩:=hγ t g hg;rw[k3];exact F.grps t g0 z0 ht k1 k2
  ·obtain⟨k1,k2,k3,b,x,k4,k5,k6,k7,k8⟩:=F.lblk B n (s8 hlo.2 B n hB);refine⟨k1,k2,k3,b,x,k4,k5,by grind,k7,fun i hi=>?_⟩;obtain⟨v,a',m1,m2,m3,m4⟩:=k8 i hi;have hgr:∀g z,((unpack ja vs).get (B+i)).g=some g->aK (unpack ja vs).al g=some z->v=γ' g:=by
    intro g z hg _;obtain⟨g0,z0,p1,p2,p3⟩:=hγ _ g hg;rw[p3];exact m4 g0 z0 p1 p2
   rcases hget (B+i)with⟨j,z,a2,_,h2,h3⟩|⟨B',off,h2,h3⟩|h3
   ·grind
   ·grind
   ·exact⟨v,.any,m1,by rw[h3];rfl,by simp[VR],hgr⟩
  ·obtain⟨i,t,sz,h1,h2,h3⟩:=gZ ja.vals 0 g z hz;rw[NB]at h2;subst h2;obtain⟨g0,z0,k1,k2,k3,k4⟩:=hg1 g t sz h1;have hγ':γ' g=γ g0:=by
    show (match gOf g with|some g=>γ g|none=>undef)=γ g0;rw[k1]
   rw[hγ'];obtain⟨ad,len,cap,m1,m2,m3,m4⟩:=F.free g0 z0 k3;refine⟨ad,len,cap,m1,m2,m3,m4.imp id ?_⟩
   grind
  ·obtain⟨sz,h1⟩:=hgg t g hg;have:g<ja.vals.length:=by
    rcases NE g ja.vals.length with h|h
    ·exact h
    ·grind
   show g<ja.vals.length*1000;omega
  ·obtain⟨i,t,sz,h1,h2,h3⟩:=gZ ja.vals 0 g z hz;have:i<ja.vals.length:=by
    rcases NE i ja.vals.length with h|h
    ·exact h
    ·grind
   show g<ja.vals.length*1000;omega
omit [Dr]in
theorem Ea(d:Nat)(h:Hp):gG d h .any= .any:=by cases d<;>rfl
omit [Dr]in
theorem zn(g:AV->AV)(hg:g .any= .any)(vs:List AV)(i:Nat):aa (vs.map g) i=g (aa vs i):=by
 unfold aa
 grind
structure Reval (g:AV->AV) (x y:Ent):Prop where
 gr:y.g=x.g
 v:(∃a,x.v= .val a/\y.v= .val (g a))\/(∃B off,x.v= .loc B off/\y.v= .loc B off)
omit [Dr]in
theorem gV(g:AV->AV)(hg:g .any= .any)(vs:List AV)(r:List (Nat×Ent))(hr:∀t,Reval g (bM r t) (bM r t))(t:Nat):∀(l:List (Nat×Option Nat))(k:Nat),
  Reval g (bM (cN vs k l++r) t) (bM (cN (vs.map g) k l++r) t)
 |[],k=>by simpa [cN]using hr t
 |(s,none):: l,k=>by
  simp only[cN,NQ,bM];cases Nat.beq s t with
  |true=>exact⟨rfl,.inl ⟨_,rfl,by simp_all[zn]⟩⟩
  |false=>exact gV g hg vs r hr t l (k+1)
 |(s,some z):: l,k=>by
  simp only[cN,NQ,bM];cases Nat.beq s t with
  |true=>exact⟨rfl,.inl ⟨_,rfl,by simp_all[zn]⟩⟩
  |false=>exact gV g hg vs r hr t l (k+1)
omit [Dr]in
theorem uI(g:AV->AV)(hg:g .any= .any)(ja:JA)(vs:List AV)(t:Nat):Reval g ((unpack ja vs).get t) ((unpack ja (vs.map g)).get t):=by
 refine gV g hg vs _ (fun t=>?_) t ja.vals 0;rcases ow t ja.locs with⟨B,off,_,k2⟩|k
 ·rw[k2];exact⟨rfl,.inr ⟨B,off,rfl,rfl⟩⟩
 ·rw[k];exact⟨rfl,.inl ⟨.any,rfl,by simp[Ent.none,hg]⟩⟩
theorem FR.reval{U:Nat->Prop}{S:ay}{β:List bI}{γ:Nat->Value}{lam:Nat->Option Nat}{ω:Nat->Owner}{e2:Env}{h2:Hp}{S2:ay}{ω2:Nat->Owner}{g:AV->AV}(F:FR c N U e h a w S β γ lam ω)(F2:FR c N U e h2 a w S2 β γ lam ω2)(hg:∀x v,VR S β x v->VR S2 β (g x) v)(hr:∀t,Reval g (e.get t) (e2.get t))(hal:e2.al=e.al)(hlb:e2.lb=e.lb):FR c N U e2 h2 a w S2 β γ lam ω2:=by
 refine⟨F2.wf,F2.gro,F2.keep,F2.le,F2.ext,F2.hlen,F2.heap,F2.tsz,fun t ht=>?_,fun t k z ht hk hz=>?_,fun B n hB=>?_,fun k z hz=>F2.free k z (by grind),F2.mine,fun t k hk=>?_,fun k z hz=>F2.used.2 k z (by grind)⟩
 ·have h1:=F.slots t ht;rcases (hr t).v with⟨x,q1,q2⟩|⟨B,off,q1,q2⟩
  ·rw[q1]at h1;rw[q2];exact hg _ _ h1
  ·rw[q1]at h1;rw[q2];exact h1
 ·rw[(hr t).gr]at hk;rw[hal]at hz;exact F2.grps t k z ht hk hz
 ·rw[hlb]at hB;obtain⟨k1,k2,k3,b,x,k4,k5,k6,k7,k8⟩:=F2.lblk B n hB;obtain⟨_,_,_,b',x',j4,j5,j6,j7,j8⟩:=F.lblk B n hB;rw[k4]at j4;cases j4;cases k5.inj j5;refine⟨k1,k2,k3,b,x,k4,k5,k6,k7,fun i hi=>?_⟩;obtain⟨v,a',m1,m2,m3,m4⟩:=k8 i hi;obtain⟨v',a'',n1,n2,n3,_⟩:=j8 i hi;rw[m1]at n1;cases n1;rcases (hr (B+i)).v with⟨y,q1,q2⟩|⟨B',off,q1,q2⟩
  ·rw[n2]at q1;cases q1;refine⟨v,g a'',m1,q2,hg _ _ n3,fun k z hk hz=>?_⟩;rw[(hr (B+i)).gr]at hk
   grind
  grind
 ·rw[(hr t).gr]at hk;exact F2.used.1 t k hk
theorem rQ{ja:JA}{vs:List AV}(H:kL c N (unpack ja vs) h a w):kL c N (unpack ja (vs.map (gG 6 h))) (h.map fun _=>[]) a w:=by
 obtain⟨S,β,γ,lam,ω,F⟩:=H;obtain⟨S2,ω2,F2,hf⟩:=F.freeze;have F3:=F.reval F2 (g:=gG 6 h) (fun x v hx=>hf _ _ hx) (uI _ (Ea 6 h) ja vs) (e2:=unpack ja (vs.map (gG 6 h))) rfl rfl;exact⟨S2,β,γ,lam,ω2,F3⟩
end
section
variable {P:Program} {Q:Exit->Act->World->Prop} {b:Code}
def kS(P:Program)(c:Code)(Q:Exit->Act->World->Prop)(a:Act)(w:World):Prop:=
 ∀(b:Frame)(k:List Item)(cs:List Frame),∃e a' w',Q e a' w'/\Arrives P (lone (b.at a (.code c:: .inLoop c:: k)) cs w) b k cs e a' w'
omit [Dr]in
theorem kS.loop{a:Act}{w:World}(h:kS P b Q a w):(Code.loop b).wp P Q a w:=
 fun f k cs=>let ⟨e,a',w',q,r⟩:=h f k cs;⟨e,a',w',q,.of_steps (.one step_loop) r⟩
omit [Dr]in
theorem kS.round{a:Act}{w:World}(h:b.wp P (Exit.then (kS P b Q) Q) a w):kS P b Q a w:=by
 intro f k cs;obtain⟨e,a₁,w₁,hq,harr⟩:=h f (.inLoop b:: k) cs;cases e with
 |normal=>
  obtain⟨e₂,a₂,w₂,hq₂,harr₂⟩:=hq f k cs;exact⟨e₂,a₂,w₂,hq₂,.of_steps (Steps.trans harr (.one step_inLoop)) harr₂⟩
 |exit id=>exact⟨_,a₁,w₁,hq,.pass (x:=.inLoop b) rfl (fun _ _=>.inl (by simp)) harr⟩
 |goto l=>exact⟨_,a₁,w₁,hq,.pass (x:=.inLoop b) rfl (fun _ _=>.inl (by simp)) harr⟩
 |ret=>exact⟨_,a₁,w₁,hq,.pass (x:=.inLoop b) rfl (fun _ _=>.inl (by simp)) harr⟩
 |panic ch=>exact⟨_,a₁,w₁,hq,.pass (x:=.inLoop b) rfl (fun _ _=>.inl (by simp)) harr⟩
 |outgrown=>exact⟨_,a₁,w₁,hq,.pass (x:=.inLoop b) rfl (fun _ _=>.inl (by simp)) harr⟩
end
section
variable {P:Program} {cx:Cx} {c:Entry} {ρ:Type}
omit [Dr]in
theorem BN{fx:bi ρ}{id:Nat}{code:Code}{e:Env}{kn kr:Env->M ρ}{kx:Nat->Env->M ρ}(hc:∀b,code≠.loop b):
  ev cx fx (.block id code) e kn kx kr=ev cx fx code e kn (fun i e'=>bif Nat.beq i id then kn e' else kx i e') kr:=by
 cases code<;>first|rfl|grind
def xX(cx:Cx)(x:Code):Option JA:=match px x with
 |some t=>qo cx.ann.joins t
 |none=>none
omit [Dr]in
theorem Gx{fx:bi ρ}{x y:Code}{e:Env}{kn kr:Env->M ρ}{kx:Nat->Env->M ρ}:ev cx fx (.seq x y) e kn kx kr=(match xX cx x with
  |some ja=>jn (fun vs=>ev cx fx y (unpack ja vs) kn kx kr) fun j=>ev cx fx x e (rC ja j) kx kr
  |none=>ev cx fx x e (fun e'=>ev cx fx y e' kn kx kr) kx kr):=by
 unfold xX;simp only[ev]
 grind
structure Posts (c:Entry) (N:Nat) (r:R ρ) (a:Act) (kn:Env->M ρ) (kx:Nat->Env->M ρ) (kr:Env->M ρ) (Q:Exit->Act->World->Prop):Prop where
 nrm:∀e' h' a' w',r=kn e' h'->kL c N e' h' a' w'->a'.defers=a.defers->Q .normal a' w'
 ext:∀i e' h' a' w',r=kx i e' h'->kL c N e' h' a' w'->a'.defers=a.defers->Q (.exit i) a' w'
 ret:∀e' h' a' w',r=kr e' h'->kL c N e' h' a' w'->a'.defers=a.defers->Q .ret a' w'
 pan:∀pv h' v w' a',r= .pan pv h'->ml c pv h' v w'->a'.defers=a.defers->Q (.panic [{ v,recovered:=false }]) a' w'
theorem uH{ja:JA}{j:List AV->M ρ}{e:Env}{h:Hp}{N:Nat}{a:Act}{w:World}(H:kL c N e h a w)(hr:rC ja j e h≠.fail):∃vs h',rC ja j e h=j vs h'/\kL c N (unpack ja vs) h' a w:=by
 unfold rC at hr |-;cases hp:pack ja e with
 |none=>rw[hp]at hr;exact absurd rfl hr
 |some vs=>
  have hs:=uJ H hp;simp only;cases ja.fz with
  |false=>grind
  |true=>exact⟨_,_,rfl,rQ hs⟩
theorem BO(hT:TOK P cx.T)(hC:db P cx.own cx.call)(hI:IsoCall cx)(hk:∀p,Aw (cj cx.ann.kinds p .L)=true->p<cx.nt)(m:Nat):∀(n:Nat)(code:Code),SizeOf.sizeOf code<n->
  ∀(e:Env)(h:Hp)(a:Act)(w:World)(kn:Env->M ρ)(kx:Nat->Env->M ρ)(kr:Env->M ρ)(Q:Exit->Act->World->Prop),kL c cx.nt e h a w->ev cx (dx m) code e kn kx kr h≠.fail->
  Posts c cx.nt (ev cx (dx m) code e kn kx kr h) a kn kx kr Q->code.wp P Q a w:=by
 intro n
 induction n with
 |zero=>grind
 | succ n ih=>
  intro code hn e h a w kn kx kr Q H hr hp;cases code<;>(try exact absurd rfl hr)
  case skip=>exact wp_skip (hp.nrm e h a w rfl H rfl)
  case exit id=>exact wp_exit (hp.ext id e h a w rfl H rfl)
  case ret=>exact wp_ret (hp.ret e h a w rfl H rfl)
  case region id ops draw=>exact yt hT hC hI hk H hr hp.nrm hp.pan
  case seq x y=>
   have hx:SizeOf.sizeOf x<n:=by simp at hn;omega
   have hy:SizeOf.sizeOf y<n:=by simp at hn;omega
   refine wp_seq ?_;rw[Gx]at hr hp;generalize xX cx x=oj at hr hp;cases oj with
   |none=>
    simp only at hr hp;refine ih x hx e h a w _ kx kr _ H hr ⟨fun e' h' a' w' hok hs hd=>?_,fun i e' h' a' w' hok hs hd=>hp.ext i e' h' a' w' hok hs hd,fun e' h' a' w' hok hs hd=>hp.ret e' h' a' w' hok hs hd,fun pv h' v w' a' hok hs hd=>hp.pan pv h' v w' a' hok hs hd⟩;rw[hok]at hr hp;exact ih y hy e' h' a' w' kn kx kr Q hs hr ⟨fun e2 h2 a2 w2 k1 k2 k3=>hp.nrm e2 h2 a2 w2 k1 k2 (k3.trans hd),fun i e2 h2 a2 w2 k1 k2 k3=>hp.ext i e2 h2 a2 w2 k1 k2 (k3.trans hd),fun e2 h2 a2 w2 k1 k2 k3=>hp.ret e2 h2 a2 w2 k1 k2 (k3.trans hd),fun pv h2 v w2 a2 k1 k2 k3=>hp.pan pv h2 v w2 a2 k1 k2 (k3.trans hd)⟩
   |some ja=>
    simp only[jn]at hr hp;refine ih x hx e h a w _ kx kr _ H hr ⟨fun e' h' a' w' hok hs hd=>?_,fun i e' h' a' w' hok hs hd=>hp.ext i e' h' a' w' hok hs hd,fun e' h' a' w' hok hs hd=>hp.ret e' h' a' w' hok hs hd,fun pv h' v w' a' hok hs hd=>hp.pan pv h' v w' a' hok hs hd⟩;rw[hok]at hr hp;obtain⟨vs,h3,hj,hs3⟩:=uH hs hr;rw[hj]at hr hp;exact ih y hy (unpack ja vs) h3 a' w' kn kx kr Q hs3 hr ⟨fun e2 h2 a2 w2 k1 k2 k3=>hp.nrm e2 h2 a2 w2 k1 k2 (k3.trans hd),fun i e2 h2 a2 w2 k1 k2 k3=>hp.ext i e2 h2 a2 w2 k1 k2 (k3.trans hd),fun e2 h2 a2 w2 k1 k2 k3=>hp.ret e2 h2 a2 w2 k1 k2 (k3.trans hd),fun pv h2 v w2 a2 k1 k2 k3=>hp.pan pv h2 v w2 a2 k1 k2 (k3.trans hd)⟩
  case cond o x y=>
   have hx:SizeOf.sizeOf x<n:=by simp at hn;omega
   have hy:SizeOf.sizeOf y<n:=by simp at hn;omega
   cases o<;>(try exact absurd rfl hr)
   case const v=>
    simp only[ev]at hr hp
    have hav:∀b,cA v= .bool b->a.eval (.const v)= .bool b:=by
     intro b hb;show v= .bool b;cases v with
     |bool c=>grind [cA,yP]
     |tuple vs=>grind [cA]
     |pointer p=>grind [cA,yP]
     |map p=>grind [cA,yP]
     | slice p n m=>
      have hs:yP (.slice p n m)= .sl []\/yP (.slice p n m)= .any:=by
       cases p with
       |some q=>exact .inr rfl
       | none=>cases n with
        |succ n=>exact .inr rfl
        |zero=>cases m with
         |succ m=>exact .inr rfl
         |zero=>exact .inl rfl
      grind [cA]
     |_=>simp only[cA,yP]at hb;cases hb
    cases hq:cA v<;>rw[hq]at hr hp<;>(try exact absurd rfl hr);rename_i b;cases b with
    |true=>exact wp_cond (hav true hq) (ih x hx e h a w kn kx kr Q H hr hp)
    |false=>exact wp_cond (hav false hq) (ih y hy e h a w kn kx kr Q H hr hp)
   rename_i t;simp only[ev]at hr hp;cases ht:decide (t<1000)with
   |false=>rw[ht]at hr;exact absurd rfl hr
   | true=>
    rw[ht]at hr hp;simp only[M6]at hr hp;have htl:t<1000:=by simpa using ht
    have hav:∀b,e.av t= .bool b->a.eval (.tmp t)= .bool b:=by
     intro b hb;obtain⟨S,β,γ,lam,ω,F⟩:=H;have hs:=F.slots t htl;simp only[Env.av,Ent.av]at hb;cases hv:(e.get t).v with
     |val av=>
      rw[hv]at hs hb;simp only at hb;subst hb;simp only[fU,VR]at hs;exact hs
     |loc B off=>grind
    cases hq:e.av t<;>rw[hq]at hr hp<;>(try exact absurd rfl hr);rename_i b;cases b with
    |true=>exact wp_cond (hav true hq) (ih x hx e h a w kn kx kr Q H hr hp)
    |false=>exact wp_cond (hav false hq) (ih y hy e h a w kn kx kr Q H hr hp)
  case block id code=>
   refine wp_block ?_;by_cases hc:∃b,code= .loop b
   ·obtain⟨b,rfl⟩:=hc;have hb:SizeOf.sizeOf b<n:=by simp at hn;omega
    simp only[ev]at hr hp;cases hja:qo cx.ann.loops id with
    |none=>rw[hja]at hr;exact absurd rfl hr
    | some ja=>
     rw[hja]at hr hp;simp only at hr hp;refine kS.loop ?_;obtain⟨vs,h3,hj,hs3⟩:=uH H hr;rw[hj]at hr hp;have key:∀(k:Nat)(vs:List AV)(h:Hp)(a1:Act)(w:World),kL c cx.nt (unpack ja vs) h a1 w->a1.defers=a.defers->
       dx k (fun self vs=>ev cx (dx m) b (unpack ja vs) (rC ja self) (fun i e'=>bif Nat.beq i id then kn e' else kx i e') kr) vs h≠.fail->
       Posts c cx.nt (dx k (fun self vs=>ev cx (dx m) b (unpack ja vs) (rC ja self) (fun i e'=>bif Nat.beq i id then kn e' else kx i e') kr) vs h) a kn kx kr Q->kS P b (Exit.inBlock id Q) a1 w:=by
      intro k
      induction k with
      |zero=>intro vs h a1 w _ _ hr _;exact absurd rfl hr
      | succ k ihk=>
       intro vs h a1 w hs hd hr hp;simp only[dx]at hr hp;refine kS.round (ih b hb (unpack ja vs) h a1 w _ _ kr _ hs hr ⟨fun e' h' a' w' hok hs' hd'=>?_,fun i e' h' a' w' hok hs' hd'=>?_,fun e' h' a' w' hok hs' hd'=>hp.ret e' h' a' w' hok hs' (hd'.trans hd),fun pv h' v w' a' hok hs' hd'=>hp.pan pv h' v w' a' hok hs' (hd'.trans hd)⟩)
       ·rw[hok]at hr hp;obtain⟨vs',h4,hj',hs4⟩:=uH hs' hr;rw[hj']at hr hp;exact ihk vs' h4 a' w' hs4 (hd'.trans hd) hr hp
       ·cases hi:Nat.beq i id with
        |true=>
         rw[hi]at hok
         have:=Nat.eq_of_beq_eq_true hi
         subst this;show Exit.inBlock i Q (.exit i) a' w';simp only[Exit.inBlock,Nj];exact hp.nrm e' h' a' w' hok hs' (hd'.trans hd)
        |false=>
         rw[hi]at hok;have hne:i≠id:=fun hh=>by simp_all
         show Exit.inBlock id Q (.exit i) a' w';simp only[Exit.inBlock,M9 hne];exact hp.ext i e' h' a' w' hok hs' (hd'.trans hd)
     grind
   ·have hc':∀b,code≠.loop b:=fun b hb=>hc ⟨b,hb⟩;rw[BN hc']at hr hp;have hs:SizeOf.sizeOf code<n:=by simp at hn;omega
    refine ih code hs e h a w kn _ kr _ H hr ⟨fun e' h' a' w' hok hs' hd'=>hp.nrm e' h' a' w' hok hs' hd',fun i e' h' a' w' hok hs' hd'=>?_,fun e' h' a' w' hok hs' hd'=>hp.ret e' h' a' w' hok hs' hd',fun pv h' v w' a' hok hs' hd'=>hp.pan pv h' v w' a' hok hs' hd'⟩;cases hi:Nat.beq i id with
    |true=>
     rw[hi]at hok
     have:=Nat.eq_of_beq_eq_true hi
     subst this;show Exit.inBlock i Q (.exit i) a' w';simp only[Exit.inBlock,Nj];exact hp.nrm e' h' a' w' hok hs' hd'
    |false=>
     rw[hi]at hok;have hne:i≠id:=fun hh=>by simp_all
     show Exit.inBlock id Q (.exit i) a' w';simp only[Exit.inBlock,M9 hne];exact hp.ext i e' h' a' w' hok hs' hd'
end
omit [Dr]in
theorem pU:∀(args:List AV)(i t:Nat),bM (uY i args) t=if i<=t/\t<i+args.length then⟨.val (aa args (t-i)),none⟩else Ent.none
 |[],i,t=>by
  simp_all[uY,bM,M9]
 | a:: as0,i,t=>by
  simp only[uY,cn,Nr];by_cases h:i=t
  ·subst h;rw[Nn rfl,Nn (by omega)];simp[aa]
  ·rw[M9 h,pU as0 (i+1) t];by_cases h2:i+1<=t/\t<i+1+as0.length
   ·rw[Nn h2,Nn (by omega)]
    grind [aa]
   grind
section
variable {P:Program} {cx:Cx}
open Classical in
theorem yB{w:World}{S:ay}{β:List bI}{h:Hp}{args:List AV}{vs:List Value}{n:Nat}(hg:pt S β h w)(hw:Wf S w)(hh:cS S β w h)(hv:aV S β args vs)(hn:args.length<=n)(hn2:n<=1000):
  ∃γ lam ω,FR { w,S,β,E:=ci β h,gok:=hg } n (fun g=>g<(pq args).nx*1000) (pq args) h { tmps:=vs.toArray++Array.replicate (n-vs.toArray.size) undef,defers:=[] } w S β γ lam ω:=by
 obtain⟨hlen,ω0,hr⟩:=hh;have hvl:=hv.length;have hget:∀t,(pq args).get t=if t<args.length then⟨.val (aa args t),none⟩else Ent.none:=fun t=>by
  have:=pU args 0 t
  simp only[Nz,Pw,NB,OI]at this;exact this
 let ω:Nat->Owner:=fun b=>if ci β h b then ω0 b else .no;refine⟨fun _=>undef,fun _=>none,ω,⟨hw,Gro.refl _,fun b _ _=>⟨rfl,fun _=>rfl⟩,ay.le_refl S,fN.refl β,hlen,fun l cs hl hcs=>?_,⟨?_,hn2⟩,fun t ht=>?_,fun t g z ht hg=>?_,fun B m hB=>?_,fun g z hz=>?_,fun b hb=>?_,fun t g hg=>?_,fun g z hz=>?_⟩⟩
 ·have hown:∀b n,β[l]? = some (b,n)->ω0 b= .heap l->ω b= .heap l:=fun b n h1 h3=>by
   show (if ci β h b then ω0 b else .no)=_;rw[Nn ⟨l,cs,_,hl,hcs,h1⟩];exact h3
  rcases hr l cs hl hcs with⟨b,x,h1,h2,h3,h4⟩|⟨b,h1,h3,h4⟩
  all_goals grind
 ·simp;omega
 ·rw[hget];split
  ·rename_i hlt;have hx:args[t]? = some (aa args t):=by simp[aa,hlt]
   obtain⟨v,h1,h2⟩:=hv.get hx;have:(vs.toArray++Array.replicate (n-vs.toArray.size) undef).getD t undef=v:=by
    rw[Oj,OC (by simp;omega)];simp[h1]
   rw[this];exact h2
  ·simp[Ent.none,fU,VR]
 ·rw[hget]at hg;split at hg<;>cases hg
 ·cases hB
 ·cases hz
 ·have hb':ci β h b:=by
   by_cases ho:ci β h b
   ·exact ho
   ·grind
  obtain⟨l,cs,m,h1,h2,h3⟩:=hb';obtain⟨b',x,k1,k2,k3,_⟩:=hr.own h1 h2;rw[h3]at k1;cases k1;have hω:ω b= .heap l:=by
   show (if ci β h b then ω0 b else .no)=_;rw[Nn ⟨l,cs,_,h1,h2,h3⟩];exact k3
  exact⟨.inl ⟨⟨l,cs,_,h1,h2,h3⟩,fun g=>by rw[hω];simp⟩,k2⟩
 ·rw[hget]at hg;split at hg<;>cases hg
 ·cases hz
theorem start{w:World}{S:ay}{β:List bI}{h:Hp}{args:List AV}{vs:List Value}{n:Nat}(hg:pt S β h w)(hw:Wf S w)(hh:cS S β w h)(hv:aV S β args vs)(hn:args.length<=n)(hn2:n<=1000):
  kL { w,S,β,E:=ci β h,gok:=hg } n (pq args) h { tmps:=vs.toArray++Array.replicate (n-vs.toArray.size) undef,defers:=[] } w:=⟨S,β,yB hg hw hh hv hn hn2⟩
def iH(tmps:Array Value):ResultVar->Sem Value
 |.tmp t=>pure (tmps.getD t undef)
 |.cell p t=>do loadVar t (<- asAddr (tmps.getD p undef))
omit [Dr]in
theorem re(fn:Func)(tmps:Array Value):results fn tmps=(do let vs <- fn.results.mapM (iH tmps);pure (if h:vs.size=1 then vs[0]else .tuple vs)):=by
 unfold results;congr 1
theorem Hn{c:Entry}{N:Nat}{U:Nat->Prop}{e:Env}{h:Hp}{a:Act}{w:World}{S:ay}{β:List bI}{γ:Nat->Value}{lam:Nat->Option Nat}{ω:Nat->Owner}(hT:TOK P cx.T)(F:FR c N U e h a w S β γ lam ω){r:ResultVar}{v:AV}(hr:wH cx.T e r=some v):∃u,(iH a.tmps r).run P w= .ok u w/\VR S β v u:=by
 cases r with
 | tmp t=>
  simp only[wH]at hr;cases ht:decide (t<1000)with
  |false=>grind
  | true=>
   rw[ht]at hr;simp only[M6]at hr;have hs:=F.slots t (by simpa using ht);cases hv:(e.get t).v with
   |loc B off=>grind
   |val av=>
    rw[hv]at hr hs;simp only[M4]at hr;subst hr;exact⟨_,by simp only[iH,Sem.run_pure],hs⟩
 | cell p t=>
  simp only[wH]at hr;cases hp:decide (p<1000)with
  |false=>grind
  | true=>
   rw[hp]at hr;simp only[M6]at hr;have hs:=F.slots p (by simpa using hp);cases hv:(e.get p).v with
   | loc B off=>
    rw[hv]at hr hs;cases ht:cx.T t with
    |none=>grind
    | some ti=>
     rw[ht]at hr;simp only at hr;cases hin:jh e B off ti.size with
     |false=>grind
     | true=>
      rw[hin]at hr;simp only[M6]at hr;simp only[fU]at hs;obtain⟨b,hlam,hpv⟩:=hs;obtain⟨b',x,m,hm,hle,hlam',hrow,hms,hcells⟩:=F.locals hin;rw[hlam]at hlam';cases hlam';let f:Nat->Value:=fun i=>(x[off+i]?).getD undef;have hf:∀i,i<ti.size->x[off+i]? = some (f i):=fun i hi=>by
       grind
      have hload:=pc hT ht hrow f hf;have hexec:∀v,(loadVar t ⟨b,off,none⟩).run P w= .ok v w->(iH a.tmps (.cell p t)).run P w= .ok v w:=fun v hv'=>by
       grind [iH,asAddr]
      cases hag:ti.agg with
      |true=>
       rw[hag]at hr;simp only[M6,M4]at hr;subst hr;refine⟨_,hexec _ (hload.1 hag),?_⟩;simp only[VR];refine⟨_,rfl,qz ti.size fun i hi=>?_⟩
       grind [Env.av,Ent.av]
      | false=>
       rw[hag]at hr;simp only[Nh]at hr;cases hone:decide (ti.size=1)with
       |false=>grind
       |true=>
        rw[hone]at hr;simp only[M6,M4]at hr;subst hr;have hone':ti.size=1:=by simpa using hone
        obtain⟨v,a',g1,g2,g3,g4⟩:=hcells 0 (by omega);simp_all[Env.av,Ent.av]
   | val av=>
    rw[hv]at hr hs;cases ht:cx.T t with
    |none=>grind
    |some ti=>
     rw[ht]at hr;simp only at hr;obtain⟨v,h1,h2⟩:=ua hT F.wf hr hs;refine⟨v,?_,h2⟩;unfold aX at hr
     grind [fU,VR,iH,Instr.loadAt,Instr.sureAddr,asAddr]
theorem yu{c:Entry}{N:Nat}{U:Nat->Prop}{e:Env}{h:Hp}{a:Act}{w:World}{S:ay}{β:List bI}{γ:Nat->Value}{lam:Nat->Option Nat}{ω:Nat->Owner}(hT:TOK P cx.T)(F:FR c N U e h a w S β γ lam ω){fn:Func}{vs:List AV}(hr:gO cx.T e fn.results.toList=some vs):∃u,(results fn a.tmps).run P w= .ok u w/\VR S β (mj vs) u:=by
 have key:∀(l:List ResultVar)(vs:List AV),gO cx.T e l=some vs->∃us:List Value,(l.mapM (iH a.tmps)).run P w= .ok us w/\aV S β vs us:=by
  intro l
  induction l with
  |nil=>simp_all[gO,aV]
  | cons r rs ih=>
   intro vs h;simp only[gO]at h;cases h1:wH cx.T e r with
   |none=>grind
   | some v=>
    cases h2:gO cx.T e rs with
    |none=>grind
    |some vs'=>
     rw[h1,h2]at h;simp only[M4]at h;subst h;obtain⟨u,k1,k2⟩:=Hn hT F h1;obtain⟨us,m1,m2⟩:=ih vs' h2;refine⟨u:: us,?_,by simp only[aV];grind⟩;simp_all
 obtain⟨us,k1,k2⟩:=key _ _ hr;have hlen:=k2.length;have hrun:(fn.results.mapM (iH a.tmps)).run P w= .ok us.toArray w:=by
  rw[PC];rw[map_eq_pure_bind,Sem.run_bind,k1,Result.andThen_ok,Sem.run_pure]
 refine⟨if h:us.toArray.size=1 then us.toArray[0]else .tuple us.toArray,?_,?_⟩
 ·grind [re,Sem.run_bind,Result.andThen_ok,Sem.run_pure]
 ·unfold mj;split
  ·grind [aV]
  ·rename_i hne;rw[dif_neg]
   ·simp only[VR];grind
   ·intro h1;have:vs.length=1:=by rw[<- hlen];simpa using h1
    match vs,this with
    |[v],_=>exact hne v rfl
end
omit [Dr]in
theorem wj{n:Nat}{ks:List (Nat×Kind)}(h:nj n ks=true):∀p,Aw (cj ks p .L)=true->p<n:=by
 intro p hp
 induction ks with
 |nil=>simp[cj,Aw]at hp
 | cons x ks ih=>
  obtain⟨k,y⟩:=x;unfold nj at h;simp only[N0,M5]at h;simp only[cj]at hp;cases hk:Nat.beq k p with
  |true=>
   simp_all
  |false=>
   rw[hk]at hp;exact ih h.2 hp
section
variable {P:Program} {cx:Cx}
theorem Hj{c:Entry}{N:Nat}{U:Nat->Prop}{e:Env}{h:Hp}{a:Act}{w:World}{S:ay}{β:List bI}{γ:Nat->Value}{lam:Nat->Option Nat}{ω:Nat->Owner}(F:FR c N U e h a w S β γ lam ω){fn:Func}{sz:Nat}(ho:um fn e sz=true){u:Value}(hu:(results fn a.tmps).run P w= .ok u w):tI c.w.heap.size S β w h sz u:=by
 unfold um at ho;split at ho
 ·rename_i t hres;cases ht:decide (t<1000)with
  |false=>grind
  | true=>
   rw[ht]at ho;simp only[Nx]at ho;split at ho
   ·rename_i g hg;split at ho
    ·rename_i z hz;have hgr:=F.grps t g z (by simpa using ht) hg hz;obtain⟨ad,len,cap,h1,h2,h3,h4⟩:=F.free g z hz;have hue:u=a.tmps.getD t undef:=by
      have hr:fn.results= #[.tmp t]:=by apply Array.ext';simpa using hres
      rw[re,hr]at hu;simp[iH]at hu;simpa using hu.symm
     rw[hue,hgr];refine⟨ad,len,cap,h1,h2,h3,h4.imp id ?_⟩;rintro⟨sz',b,off,x,k1,k2,k3,k4,k5,k6⟩;have hsz:sz'=sz:=by
      rw[k1]at ho;simp only[uF]at ho;exact Nat.eq_of_beq_eq_true ho
     subst hsz;refine⟨b,off,x,k2,k3,k4,(F.mine b (by rw[k5];simp)).1.grp k5,fun hb=>?_,k6⟩;obtain⟨l,_,hl,_⟩:=F.hown hb
     grind
    ·cases ho
   ·cases ho
 ·cases ho
omit [Dr]in
theorem CR{fn:Func}{own:Option Nat}{e:Env}{h:Hp}(hr:j0 cx fn own e h≠.fail):∃rs,gO cx.T e fn.results.toList=some rs/\(j0 cx fn own e h= .ok (mj rs) h\/(own=none/\j0 cx fn own e h= .ok (gG 6 h (mj rs)) (h.map fun _=>[])))/\∀sz,own=some sz->um fn e sz=true:=by
 have key:∀b z:Bool,(bif b then ap (bF ((gO cx.T e fn.results.toList).map mj)) (bif z then(bif own.isSome then fun _=>fA else yX)else am)else fA:M AV) h≠.fail->b=true/\∃rs,gO cx.T e fn.results.toList=some rs/\
   ((bif b then ap (bF ((gO cx.T e fn.results.toList).map mj)) (bif z then(bif own.isSome then fun _=>fA else yX)else am)else fA:M AV) h= .ok (mj rs) h\/
    (own=none/\(bif b then ap (bF ((gO cx.T e fn.results.toList).map mj)) (bif z then(bif own.isSome then fun _=>fA else yX)else am)else fA:M AV) h= .ok (gG 6 h (mj rs)) (h.map fun _=>[]))):=by
  intro b z hr;cases b with
  |false=>exact absurd rfl hr
  | true=>
   refine⟨rfl,?_⟩;cases hres:gO cx.T e fn.results.toList with
   |none=>rw[hres]at hr;exact absurd rfl hr
   | some rs=>
    rw[hres]at hr;cases z with
    |false=>exact⟨rs,rfl,.inl rfl⟩
    |true=>
     cases own with
     |none=>exact⟨rs,rfl,.inr ⟨rfl,rfl⟩⟩
     |some sz=>exact absurd rfl hr
 unfold j0 at hr |-;cases own with
 |none=>
  obtain⟨_,rs,h1,h2⟩:=key true _ hr
  grind
 |some sz=>
  obtain⟨h0,rs,h1,h2⟩:=key _ _ hr
  grind
theorem iQ(hT:TOK P cx.T)(hC:db P cx.own cx.call)(hI:IsoCall cx)(m:Nat){f:FuncId}{fn:Func}(hf:P.funcs[f]? = some fn)(hnt:cx.nt=fn.ntmps){own:Option Nat}{args:List AV}{h:Hp}{S:ay}{β:List bI}{w:World}{vs:List Value}(hr:cB cx (dx m) fn own args h≠.fail)(hg:pt S β h w)(hw:Wf S w)(hh:cS S β w h)(hv:aV S β args vs):Calls P f vs.toArray w (eh own S β h w (cB cx (dx m) fn own args h))/\fn.body.isSome=true:=by
 unfold cB at hr |-;cases hb:fn.body with
 |none=>rw[hb]at hr;exact absurd rfl hr
 | some code=>
  rw[hb]at hr;simp only at hr |-;refine⟨?_,rfl⟩;cases hc:(decide (args.length<=fn.ntmps)&&decide (fn.ntmps<=1000)&&nj cx.nt cx.ann.kinds)with
  |false=>rw[hc]at hr;exact absurd rfl hr
  | true=>
   rw[hc]at hr;simp only[M6]at hr |-;simp only[M5,M8]at hc;obtain⟨⟨hc1,hc2⟩,hc3⟩:=hc;have H:kL { w,S,β,E:=ci β h,gok:=hg } cx.nt (pq args) h { tmps:=vs.toArray++Array.replicate (fn.ntmps-vs.toArray.size) undef,defers:=[] } w:=by
    rw[hnt];exact start hg hw hh hv hc1 hc2
   have hret:∀(e':Env)(h':Hp)(a':Act)(w':World),ev cx (dx m) code (pq args) (j0 cx fn own) (fun _ _=>fA) (j0 cx fn own) h=j0 cx fn own e' h'->
     kL { w,S,β,E:=ci β h,gok:=hg } cx.nt e' h' a' w'->∃v,(results fn a'.tmps).run P w'= .ok v w'/\eh own S β h w (ev cx (dx m) code (pq args) (j0 cx fn own) (fun _ _=>fA) (j0 cx fn own) h) (.returned v) w':=by
    intro e' h' a' w' hok hs;rw[hok]at hr |-;obtain⟨rs,hres,hret,hown⟩:=CR hr;obtain⟨S',β',γ,lam,ω,F⟩:=hs;obtain⟨u,hu1,hu2⟩:=yu (P:=P) hT F hres;rcases hret with hret|⟨rfl,hret⟩
    ·rw[hret];exact⟨u,hu1,S',β',u,rfl,hu2,F.out,fun sz hsz=>Hj F (hown sz hsz) hu1⟩
    ·rw[hret];obtain⟨S2,ω2,F2,hf⟩:=F.freeze;exact⟨u,hu1,S2,β',u,rfl,hf _ _ hu2,F2.out,fun sz hsz=>by cases hsz⟩
   refine calls_of_wp hf hb (BO hT hC hI (wj hc3) m _ code (Nat.lt_succ_self _) (pq args) h _ w _ _ _ _ H hr ⟨fun e' h' a' w' hok hs hd=>?_,fun i e' h' a' w' hok hs hd=>?_,fun e' h' a' w' hok hs hd=>?_,fun pv h' v w' a' hok hs hd=>?_⟩)
   ·exact⟨hd,hret e' h' a' w' hok hs⟩
   ·rw[hok]at hr;exact absurd rfl hr
   ·exact⟨hd,hret e' h' a' w' hok hs⟩
   ·refine⟨hd,?_⟩;rw[hok];obtain⟨S',β',hout,hvr⟩:=hs;exact⟨S',β',v,rfl,hvr,hout⟩
end
open Classical in
theorem zc{S:ay}{β:List bI}{w w':World}{h:Hp}(_hw:Wf S w)(hh:cS S β w h){β0:List bI}{h0:Hp}(hE:∀b,¬ci β0 h0 b){S':ay}{β':List bI}{h':Hp}(L:Left (ci β0 h0) S β0 w S' β' w' h'):∃S2,Left (ci β h) S β w S2 β w' h/\(∀a v,VR S' β' a v->VR S2 β (gG 6 h' a) v)/\∀sz v,tI w.heap.size S' β' w' h' sz v->tI w.heap.size S2 β w' h sz v:=by
 obtain⟨hlen,ω,hH⟩:=L.heap;have hnew:∀b,ci β' h' b->w.heap.size<=b:=fun b hb=>(L.owned b hb).resolve_left (hE b);let S2:ay:=fun b o=>if ci β' h' b then w'.cell? ⟨b,o,none⟩else S' b o;have hS2n:∀b,¬ci β' h' b->∀o,S2 b o=S' b o:=fun b hb o=>M9 hb;have hS2y:∀b,ci β' h' b->∀o,S2 b o=w'.cell? ⟨b,o,none⟩:=fun b hb o=>Nn hb;have hle:S'.le S2:=by
  intro b o v hv;by_cases hb:ci β' h' b
  ·obtain⟨l,cs,n,h1,h2,h3⟩:=hb;obtain⟨b',x,k1,k2,k3,k5⟩:=hH.own h1 h2
   grind
  ·grind
 have hrow:∀b,b<w.heap.size->w'.heap[b]? = w.heap[b]? /\∀o,S2 b o=S b o:=by
  intro b hb;have hk:=L.keep b hb (hE b);refine⟨hk.1,fun o=>?_⟩;rw[hS2n b (fun ho=>by grind)];exact hk.2 o
 have hwf:Wf S2 w':=by
  intro b o v hv;by_cases hb:ci β' h' b
  ·grind
  ·rw[hS2n b hb]at hv;exact L.wf b o v hv
 obtain⟨hlen0,ω0,hH0⟩:=hh;have hlt0:∀b,ci β h b->b<w.heap.size:=by
  rintro b ⟨l,cs,n,h1,h2,h3⟩;obtain⟨b',x,k1,k2,_⟩:=hH0.own h1 h2;rw[h3]at k1;cases k1;exact k2
 have hle0:S.le S2:=ay.le_trans L.le hle;refine⟨S2,⟨hle0,fN.refl β,hwf,L.gro,fun b hb _=>hrow b hb,⟨hlen0,ω0,hH0.rows hle0 (fN.refl β) hlen0 fun l cs hl _=>.inl ⟨hl,fun b hb ho=>⟨ho,(hrow b hb).1,fun o h=>by grind⟩⟩⟩,fun b hb=>.inl hb⟩,fun a v hv=>qy hH hle (fun b o x hb hr=>?_) 6 a v hv,fun sz v=>?_⟩
 ·rw[hS2y b hb,hr.cell]
 ·rintro⟨ad,len,cap,k1,k2,k3,k4⟩;refine⟨ad,len,cap,k1,k2,k3,k4.imp id ?_⟩
  grind
theorem Cg{S:ay}{β:List bI}{w w':World}{h:Hp}{own:Option Nat}{m:List AV->M AV}{args:List AV}{en:Ending}(hw:Wf S w)(hh:cS S β w h)(hp:eh own S [] [] w (m (fo aA args) []) en w'):eh own S β h w (rS m args h) en w':=by
 have key:=fun{S':ay} {β':List bI} {h':Hp} (L:Left (ci [] []) S [] w S' β' w' h')=>zc hw hh (by rintro b ⟨l,cs,n,h1,_⟩;simp at h1) L;unfold rS;cases hm:m (fo aA args) []with
 |fail=>rw[hm]at hp;exact hp.elim
 |ok r h'=>
  rw[hm]at hp;obtain⟨S',β',v,h1,h2,h3,h4⟩:=hp;obtain⟨S2,k1,k2,k3⟩:=key h3;exact⟨S2,β,v,h1,k2 r v h2,k1,fun sz hsz=>k3 sz v (h4 sz hsz)⟩
 |pan r h'=>
  rw[hm]at hp;obtain⟨S',β',v,h1,h2,h3⟩:=hp;obtain⟨S2,k1,k2,k3⟩:=key h3;exact⟨S2,β,v,h1,k2 r v h2,k1⟩
structure GoodPg (P:Program) (p:Pg):Prop where
 tok:TOK P p.T
 funcs:∀f fn a,p.funcs f=some (fn,a)->P.funcs[f]? = some fn/\(fn.name== "runtime.NumGoroutine")=false
 other:∀f E,p.other f=some E->∀call,db P p.own call->∀(args:List AV)(h:Hp)(S:ay)(β:List bI)(w:World)(vs:List Value),E call args h≠.fail->pt S β h w->Wf S w->cS S β w h->aV S β args vs->
  Calls P f vs.toArray w (eh (p.own f) S β h w (E call args h))/\(P.funcs[f]?).any (fun fn=>fn.body.isSome&&!(fn.name== "runtime.NumGoroutine"))=true
 nw:∀f,p.nw f=true->∃E,p.other f=some E/\∀call args,uO (E call args)
omit [Dr]in
theorem cS.nil{S:ay}{w:World}:cS S [] w []:=⟨rfl,fun _=>.no,fun l cs hl=>by simp at hl⟩
theorem vB{P:Program}{p:Pg}(G:GoodPg P p)(m:Nat){call:FuncId->List AV->M AV}(hC:db P p.own call)(hI:∀n a,IsoCall (p.cx call n a)):db P p.own (jq p call (dx m)):=by
 intro f args h S β w vs hr hg hw hh hv;unfold jq at hr |-;cases ho:p.other f with
 |some E=>rw[ho]at hr;exact G.other f E ho call hC args h S β w vs hr hg hw hh hv
 | none=>
  rw[ho]at hr;simp only at hr |-;cases hf:p.funcs f with
  |none=>rw[hf]at hr;exact absurd rfl hr
  | some x=>
   obtain⟨fn,a⟩:=x;rw[hf]at hr;simp only at hr |-;obtain⟨hf1,hf2⟩:=G.funcs f fn a hf
   have hany:fn.body.isSome=true->(P.funcs[f]?).any (fun fn=>fn.body.isSome&&!(fn.name== "runtime.NumGoroutine"))=true:=by
    intro hb;rw[hf1];simp only[Option.any_some,hb,hf2,Nw,O9]
   cases hi:a.iso with
   |false=>
    rw[hi]at hr;simp only[Nh]at hr |-;obtain⟨h1,h2⟩:=iQ (cx:=p.cx call fn.ntmps a) G.tok hC (hI _ _) m hf1 rfl hr hg hw hh hv
    grind
   | true=>
    rw[hi]at hr;simp only[M6]at hr |-;have hr':cB (p.cx call fn.ntmps a) (dx m) fn (p.own f) (fo aA args) []≠.fail:=by
     intro hf;unfold rS at hr;rw[hf]at hr;exact hr rfl
    obtain⟨h1,h2⟩:=iQ (cx:=p.cx call fn.ntmps a) G.tok hC (hI _ _) m hf1 rfl hr' ⟨hg.1,fun b _ hb=>by obtain⟨l,_,_,h1,_⟩:=hb;simp at h1,hg.2.2⟩ hw cS.nil (BC hv);exact⟨h1.mono fun en w' hp=>Cg hw hh hp,hany h2⟩
omit [Dr]in
theorem xH(p:Pg)(hN:∀f,p.nw f=true->∃E,p.other f=some E/\∀call args,uO (E call args)):∀n k a,IsoCall (p.cx (dZ p n) k a)
 |0,k,a=>⟨fun f args _=>⟨none,fun _=>rfl⟩,fun f args _ h v h' hh=>by cases hh⟩
 | n+1,k,a=>by
  refine⟨?_,fun f args hf=>?_⟩
  case refine_2=>
   obtain⟨E,hE,hn⟩:=hN f hf;have:(p.cx (dZ p (n+1)) k a).call f args=E (dZ p n) args:=by
    show jq p (dZ p n) (dx n) f args=_;unfold jq;rw[hE]
   grind
  intro f args hi;have hi':p.iso f=true:=hi;unfold Pg.iso at hi';cases ho:p.other f with
  |some E=>grind
  | none=>
   rw[ho]at hi';simp only at hi';cases hf:p.funcs f with
   |none=>grind
   |some x=>
    obtain⟨fn,b⟩:=x;rw[hf]at hi';simp only at hi';refine⟨match cB (p.cx (dZ p n) fn.ntmps b) (dx n) fn (p.own f) (fo aA args) []with|.ok r h'=>some (true,gG 6 h' r)|.pan v h'=>some (false,gG 6 h' v)|.fail=>none,fun h=>?_⟩;show jq p (dZ p n) (dx n) f args h=_;unfold jq;rw[ho];simp only;rw[hf];simp only[hi',M6,rS]
    grind
theorem m5{P:Program}{p:Pg}(G:GoodPg P p):∀n,db P p.own (dZ p n)
 |0=>fun _f _args _h _S _β _w _vs hr=>absurd rfl hr
 |n+1=>vB G n (m5 G n) fun k a=>xH p G.nw n k a
end Go.Av
namespace Go.Av
def pN{α:Type}(a:R α)(b:Nat->R α):Prop:=(a≠.fail->∃N,∀n,N<=n->b n=a)/\∀n,b n≠.fail->b n=a
def cQ{α:Type}(m:M α)(ms:Nat->M α):Prop:=∀h,pN (m h) fun n=>ms n h
def bR{α β:Type}(f:β->M α)(fs:Nat->β->M α):Prop:=∀x,cQ (f x) fun n=>fs n x
def pN.const{α:Type}(a:R α):pN a fun _=>a:=⟨fun _=>⟨0,fun _ _=>rfl⟩,fun _ _=>rfl⟩
def eC{α:Type}(m:M α):cQ m fun _=>m:=fun _=>.const _
def bR.const{α β:Type}(f:β->M α):bR f fun _=>f:=fun _=>eC _
def cQ.bnd{α β:Type}{m:M α}{ms:Nat->M α}{f:α->M β}{fs:Nat->α->M β}(hm:cQ m ms)(hf:bR f fs):cQ (ap m f) fun n=>ap (ms n) (fs n):=by
 intro h;obtain⟨h1,h2⟩:=hm h
 (try dsimp only at h1 h2)
 refine⟨fun hne=>?_,fun n hne=>?_⟩
 ·have hne':m h≠.fail:=fun hf=>by simp only[Av.ap]at hne;grind
  obtain⟨N,hN⟩:=h1 hne';cases hmh:m h with
  |fail=>grind
  |pan v x=>
   refine⟨N,fun n hn=>?_⟩
   grind [Av.ap]
  |ok a x=>
   have hne2:f a x≠.fail:=fun hf=>by grind [Av.ap]
   obtain⟨N2,hN2⟩:=(hf a x).1 hne2;refine⟨max N N2,fun n hn=>?_⟩
   grind [Av.ap]
 ·(try dsimp only at hne |-)
  simp only[Av.ap]at hne |-;have hne':ms n h≠.fail:=fun hf=>by grind
  rw[<- h2 n hne'];cases hmh:ms n h with
  |fail=>grind
  |pan v x=>rfl
  |ok a x=>
   rw[hmh]at hne;exact (hf a x).2 n hne
def yI{α:Type}(m m':M α):Prop:=∀h,m h≠.fail->m h=m' h
def cQ.le{α:Type}{m:M α}{ms:Nat->M α}(h:cQ m ms)(n:Nat):yI (ms n) m:=fun x hne=>(h x).2 n hne
section
variable {ρ:Type}
def r9(F:(List AV->M ρ)->List AV->M ρ)(Fs:Nat->(List AV->M ρ)->List AV->M ρ):Prop:=∀self selfs,bR self selfs->bR (F self) fun n=>Fs n (selfs n)
def mc(F:(List AV->M ρ)->List AV->M ρ):Prop:=r9 F fun _=>F
def nO(fx:bi ρ)(fxs:Nat->bi ρ):Prop:=∀F Fs,r9 F Fs->mc F->(∀n,mc (Fs n))->bR (fx F) fun n=>fxs n (Fs n)
def uM(fx:bi ρ):Prop:=nO fx fun _=>fx
theorem mc.mono{F:(List AV->M ρ)->List AV->M ρ}(hF:mc F){s s':List AV->M ρ}(h:∀vs,yI (s vs) (s' vs)):∀vs,yI (F s vs) (F s' vs):=by
 intro vs x hne;have hl:bR s' (fun n=>if n=0 then s else s'):=by
  intro vs x;refine⟨fun _=>⟨1,fun n hn=>?_⟩,fun n hne=>?_⟩
  ·grind
  ·(try dsimp only at hne |-)
   by_cases h0:n=0
   ·rw[Nn h0]at hne |-;exact h vs x hne
   grind
 have h0:=(hF s' _ hl vs x).2 0
 grind
theorem oe{F:(List AV->M ρ)->List AV->M ρ}(hF:mc F):∀n vs,yI (dx n F vs) (dx (n+1) F vs)
 |0,_vs=>fun _x hne=>absurd rfl hne
 |n+1,vs=>hF.mono (oe hF n) vs
theorem yI.trans{α:Type}{a b c:M α}(h:yI a b)(g:yI b c):yI a c:=fun x hne=>by
 have:=h x hne
 rw[this];exact g x (this▸hne)
theorem yI.refl{α:Type}(a:M α):yI a a:=fun _ _=>rfl
theorem qq{F:(List AV->M ρ)->List AV->M ρ}(hF:mc F){n m:Nat}(h:n<=m)(vs:List AV):yI (dx n F vs) (dx m F vs):=by
 induction m with
 | zero => have:n=0:=by omega
           subst this;exact .refl _
 |succ m ih=>
  by_cases hn:n=m+1
  ·subst hn;exact .refl _
  ·exact (ih (by omega)).trans (oe hF m vs)
open Classical in
noncomputable def ak(F:(List AV->M ρ)->List AV->M ρ)(vs:List AV):M ρ:=fun h=>if hx:∃n,dx n F vs h≠.fail then dx (Classical.choose hx) F vs h else .fail
theorem sG{b:Nat->R ρ}(hmono:∀n m,n<=m->b n≠.fail->b n=b m){a:R ρ}(ha:(∃n,b n≠.fail/\a=b n)\/(∀n,b n= .fail)/\a= .fail):pN a b:=by
 rcases ha with⟨n,hn,rfl⟩|⟨hn,rfl⟩
 ·refine⟨fun _=>⟨n,fun m hm=>(hmono n m hm hn).symm⟩,fun m hm=>?_⟩
  grind
 ·exact⟨fun h=>absurd rfl h,fun n h=>absurd (hn n) h⟩
theorem hM{F:(List AV->M ρ)->List AV->M ρ}(hF:mc F):bR (ak F) fun n=>dx n F:=by
 intro vs h;refine sG (fun n m hnm hne=>qq hF hnm vs h hne) ?_;unfold ak;by_cases hx:∃n,dx n F vs h≠.fail
 all_goals grind
theorem na{F:(List AV->M ρ)->List AV->M ρ}{Fs:Nat->(List AV->M ρ)->List AV->M ρ}(h1:r9 F Fs)(n:Nat):∀k vs,yI (dx k (Fs n) vs) (dx k F vs)
 |0,vs=>.refl _
 | k+1,vs=>by
  have ih:=na h1 n k;have hl:bR (dx k F) fun m=>if m=n then dx k (Fs n)else dx k F:=by
   intro vs h;refine⟨fun _=>⟨n+1,fun m hm=>by grind⟩,fun m hne=>?_⟩
   (try dsimp only at hne |-)
   by_cases hm:m=n
   ·rw[Nn hm]at hne |-;exact ih vs h hne
   ·rw[M9 hm]
  intro x hne
  have:=(h1 _ _ hl vs x).2 n
  (try dsimp only at this)
  rw[Nn rfl]at this;exact this hne
theorem li{F:(List AV->M ρ)->List AV->M ρ}{Fs:Nat->(List AV->M ρ)->List AV->M ρ}(h1:r9 F Fs):∀k,bR (dx k F) fun n=>dx k (Fs n)
 |0=>fun _ _=>.const _
 |k+1=>h1 _ _ (li h1 k)
theorem vG:nO (ak (ρ:=ρ)) fun n=>dx n:=by
 intro F Fs h1 hF hFs vs h;refine⟨fun hne=>?_,fun n hne=>?_⟩
 ·obtain⟨N,hN⟩:=(hM hF vs h).1 hne;have hN':=hN N (M7 _)
  (try dsimp only at hN')
  obtain⟨N2,hN2⟩:=(li h1 N vs h).1 (by grind);refine⟨max N N2,fun n hn=>?_⟩;have h3:=hN2 n (by omega)
  (try dsimp only at h3 |-)
  rw[<- qq (hFs n) (show N<=n by omega) vs h (by grind),h3,hN']
 ·(try dsimp only at hne |-)
  have h2:=na h1 n n vs h hne;rw[h2];exact (hM hF vs h).2 n (by grind)
theorem BW:uM (ak (ρ:=ρ)):=by
 intro F Fs h1 hF hFs vs h;refine⟨fun hne=>?_,fun n hne=>?_⟩
 ·obtain⟨N,hN⟩:=(hM hF vs h).1 hne;have hN':=hN N (M7 _)
  (try dsimp only at hN')
  obtain⟨N2,hN2⟩:=(li h1 N vs h).1 (by grind);refine⟨N2,fun n hn=>?_⟩;have h3:=hN2 n hn
  (try dsimp only at h3 |-)
  have:=(hM (hFs n) vs h).2 N (by grind)
  grind
 ·(try dsimp only at hne |-)
  obtain⟨N,hN⟩:=(hM (hFs n) vs h).1 hne;have hN':=hN N (M7 _)
  (try dsimp only at hN')
  have h2:=na h1 n N vs h (by grind);rw[<- hN',h2];exact (hM hF vs h).2 N (by grind)
theorem xN(m:Nat):uM (dx (α:=ρ) m):=fun _F _Fs h1 _hF _hFs=>li h1 m
theorem vH(m:Nat):nO (dx (α:=ρ) (m+1)) fun n=>if n=0 then dx m else dx (m+1):=by
 intro F Fs h1 hF hFs vs h;refine⟨fun hne=>?_,fun n hne=>?_⟩
 ·obtain⟨N,hN⟩:=(li h1 (m+1) vs h).1 hne;refine⟨max N 1,fun n hn=>?_⟩
  grind
 ·(try dsimp only at hne |-)
  by_cases h0:n=0
  ·rw[Nn h0]at hne |-;exact ((na h1 n m vs).trans (oe hF m vs)) h hne
  ·rw[M9 h0]at hne |-;exact na h1 n (m+1) vs h hne
end
def Cx.wc(cx:Cx)(call:FuncId->List AV->M AV):Cx:={ cx with call }
def ij(A:Act1)(As:Nat->Act1):Prop:=
 (∀n,As n=A)\/∃m ms sh,A= .dyn m sh/\(∀n,As n= .dyn (ms n) sh)/\cQ m ms
section
variable {ρ:Type} {cx:Cx} {call:FuncId->List AV->M AV} {calls:Nat->FuncId->List AV->M AV}
theorem ym(hc:∀f,bR (call f) fun n=>calls n f)(e:Env)(gid:Nat)(o:Oper)(c:Call):ij (fR (cx.wc call) e gid o c) fun n=>fR (cx.wc (calls n)) e gid o c:=by
 unfold fR;cases c.callee with
 |invoke r m=>exact .inl fun n=>rfl
 |builtin b=>cases b<;>exact .inl fun n=>rfl
 | value x=>
  have hv:ij (.dyn (dO call (opnd e x) (c.args.toList.map (opnd e))) .ofV) fun n=>.dyn (dO (calls n) (opnd e x) (c.args.toList.map (opnd e))) .ofV:=by
   refine .inr ⟨_,_,_,rfl,fun n=>rfl,?_⟩;unfold dO;split
   ·exact hc _ _
   ·exact eC _
  cases x with
  | func f=>
   have h0:ij (.dyn (call f (c.args.toList.map (mh (bC cx.ann.hb o.dst) e))) fun v=>match cx.own f with|some sz=>.own v gid (some sz)|none=>.ofV v) fun n=>.dyn (calls n f (c.args.toList.map (mh (bC cx.ann.hb o.dst) e))) fun v=>match cx.own f with|some sz=>.own v gid (some sz)|none=>.ofV v:=
    .inr ⟨_,_,_,rfl,fun n=>rfl,hc _ _⟩
   have key2:∀(b:Bool)(A B:Act1)(As Bs:Nat->Act1),ij A As->ij B Bs->ij (bif b then A else B) fun n=>bif b then As n else Bs n:=by
    intro b A B As Bs hA hB;cases b with
    |true=>exact hA
    |false=>exact hB
   have key:∀b:Bool,ij (bif b then .dyn (ap (call f (c.args.toList.map (opnd e))) (bif bC cx.ann.hl o.dst then nd else yX)) .ofV else .bad) fun n=>bif b then .dyn (ap (calls n f (c.args.toList.map (opnd e))) (bif bC cx.ann.hl o.dst then nd else yX)) .ofV else .bad:=by
    intro b;cases b with
    |false=>exact .inl fun n=>rfl
    |true=>exact .inr ⟨_,_,_,rfl,fun n=>rfl,(hc _ _).bnd (bR.const _)⟩
   have h1:ij (match hJ cx.ann.cm o.dst with
     |some (m,r)=>bif !(cx.iso f)&&(cx.own f).isNone then .dyn (iy m r (call f (c.args.toList.map (opnd e)))) .ofV else .bad
     |none=>.dyn (call f (c.args.toList.map (mh (bC cx.ann.hb o.dst) e))) fun v=>match cx.own f with|some sz=>.own v gid (some sz)|none=>.ofV v) fun n=>match hJ cx.ann.cm o.dst with
     |some (m,r)=>bif !(cx.iso f)&&(cx.own f).isNone then .dyn (iy m r (calls n f (c.args.toList.map (opnd e)))) .ofV else .bad
     |none=>.dyn (calls n f (c.args.toList.map (mh (bC cx.ann.hb o.dst) e))) fun v=>match cx.own f with|some sz=>.own v gid (some sz)|none=>.ofV v:=by
    cases hJ cx.ann.cm o.dst with
    |none=>exact h0
    | some x=>
     obtain⟨m,r⟩:=x;refine key2 _ _ _ _ _ (.inr ⟨_,_,_,rfl,fun n=>rfl,?_⟩) (.inl fun n=>rfl);intro x;obtain⟨k1,k2⟩:=hc f (c.args.toList.map (opnd e)) x;refine⟨fun hne=>?_,fun n hne=>?_⟩
     ·obtain⟨N,hN⟩:=k1 (fun hh=>hne (by unfold iy;rw[hh]));refine⟨N,fun n hn=>?_⟩
      grind [iy]
     grind [iy]
   exact key2 (bC cx.ann.fz o.dst) _ _ _ _ (key (!(cx.iso f)&&(cx.own f).isNone)) h1
  |tmp t=>exact hv
  |const t=>exact hv
  |global t=>exact hv
theorem zp(hc:∀f,bR (call f) fun n=>calls n f)(e:Env)(gid:Nat)(o:Oper):ij (fE (cx.wc call) e gid o) fun n=>fE (cx.wc (calls n)) e gid o:=by
 unfold fE;cases o.op<;>first|exact .inl fun n=>rfl|exact ym hc e gid o _
theorem yF{A:Act1}{As:Nat->Act1}(h:ij A As):ij (iu A) fun n=>iu (As n):=by
 rcases h with h|⟨m,ms,sh,rfl,h2,h3⟩
 ·exact .inl fun n=>by grind
 ·exact .inr ⟨m,ms,_,rfl,fun n=>by(try dsimp only);rw[h2];rfl,h3⟩
theorem Ac{A:Act1}{As:Nat->Act1}(h:ij A As){k:Env->M ρ}{ks:Nat->Env->M ρ}(hk:bR k ks)(e:Env)(d:Option Tmp):cQ (mZ e d A k) fun n=>mZ e d (As n) (ks n):=by
 rcases h with h|⟨m,ms,sh,rfl,h2,h3⟩
 ·have:(fun n=>mZ e d (As n) (ks n))=fun n=>mZ e d A (ks n):=by funext n;rw[h]
  rw[this];cases A with
  |bad=>exact eC _
  |stat u=>exact hk _
  |dyn m sh=>exact (eC m).bnd fun v=>hk _
  |thr v=>exact eC _
 ·have:(fun n=>mZ e d (As n) (ks n))=fun n=>mZ e d (.dyn (ms n) sh) (ks n):=by funext n;rw[h2]
  rw[this];exact h3.bnd fun v=>hk _
theorem nZ(hc:∀f,bR (call f) fun n=>calls n f)(base:Nat)(ops:Array Oper)(st:Bool):∀(is:List Nat)(e:Env)(k:Env->M ρ)(ks:Nat->Env->M ρ),bR k ks->
  cQ (jr (cx.wc call) base ops st is e k) fun n=>jr (cx.wc (calls n)) base ops st is e (ks n)
 |[],e,k,ks,hk=>hk e
 | i:: is,e,k,ks,hk=>by
  simp only[jr];cases ops[i]? with
  |none=>exact eC _
  |some o=>
   simp only;refine Ac ?_ (fun e'=>nZ hc base ops st is e' k ks hk) e o.dst;cases st with
   |true=>exact yF (zp hc e _ o)
   |false=>exact zp hc e _ o
theorem qA{c:AV}{want:Bool}{k:Nat}{m:M (List AV)}{ms:Nat->M (List AV)}(h:cQ m ms):cQ (bc c want k m) fun n=>bc c want k (ms n):=by
 unfold bc;cases c with
 |bool b=>
  simp only;cases b== want with
  |true=>exact h
  |false=>exact eC _
 |tup vs=>cases vs<;>exact eC _
 |_=>exact eC _
theorem km(hc:∀f,bR (call f) fun n=>calls n f)(base:Nat)(ops:Array Oper):∀(gs:List (Option (Nat×Bool)×List Nat))(e:Env)(k:Env->M ρ)(ks:Nat->Env->M ρ),bR k ks->
  cQ (eN (cx.wc call) base ops gs e k) fun n=>eN (cx.wc (calls n)) base ops gs e (ks n)
 |[],e,k,ks,hk=>hk e
 |(none,is):: gs,e,k,ks,hk=>by
  simp only[eN];exact nZ hc base ops false is e _ _ fun e'=>km hc base ops gs e' k ks hk
 | (some (j,want),is):: gs,e,k,ks,hk=>by
  simp only[eN];cases cK ops j with
  |none=>exact eC _
  | some t=>
   simp only;have hp:∀c,(is.all fun i=>match ops[i]? with|some o=>fw (cx.wc c) o&&o.dst.isSome|none=>false)=(is.all fun i=>match ops[i]? with|some o=>fw cx o&&o.dst.isSome|none=>false):=fun c=>rfl;have key:∀b:Bool,cQ (bif b then ap (bc (e.av t) want (dy ops is gs).length (jr (cx.wc call) base ops true is e fun e'=>bif (dy ops is gs).all (fun t=>my (e'.get t))then am ((dy ops is gs).map e'.av)else fA)) fun vs=>
     eN (cx.wc call) base ops gs (gg (forget e (cU ops is)) vs 0 (dy ops is gs)) k else fA) fun n=>(bif b then ap (bc (e.av t) want (dy ops is gs).length (jr (cx.wc (calls n)) base ops true is e fun e'=>bif (dy ops is gs).all (fun t=>my (e'.get t))then am ((dy ops is gs).map e'.av)else fA)) fun vs=>
     eN (cx.wc (calls n)) base ops gs (gg (forget e (cU ops is)) vs 0 (dy ops is gs)) (ks n)else fA):=by
    intro b;cases b with
    |false=>exact eC _
    |true=>exact (qA (nZ hc base ops true is e _ _ (bR.const _))).bnd fun vs=>km hc base ops gs _ k ks hk
   exact key _
theorem tg{α:Type}{m:M α}{ms:Nat->M α}(h:cQ m ms):cQ (bH m) fun n=>bH (ms n):=by
 intro x;obtain⟨h1,h2⟩:=h x;refine⟨fun hne=>?_,fun n hne=>?_⟩
 ·have hne':m x≠.fail:=fun hf=>hne (by simp only[bH,hf]);obtain⟨N,hN⟩:=h1 hne';exact⟨N,fun n hn=>by grind [bH]⟩
 grind [bH]
theorem xB(hc:∀f,bR (call f) fun n=>calls n f):∀f,bR ((fC (cx.wc call)).call f) fun n=>(fC (cx.wc (calls n))).call f:=by
 intro f args;show cQ (bif cx.iso f then bH (call f args)else call f args) fun n=>(bif cx.iso f then bH (calls n f args)else calls n f args);cases cx.iso f with
 |true=>exact tg (hc f args)
 |false=>exact hc f args
theorem Cb(c:FuncId->List AV->M AV)(ops:Array Oper)(i j:Nat):nh (cx.wc c) ops i j=nh cx ops i j:=rfl
theorem qY(c:FuncId->List AV->M AV)(ops:Array Oper)(bf:List Nat):∀l,kz (cx.wc c) ops bf l=kz cx ops bf l
 |[]=>rfl
 |i:: is=>by simp only[kz,qY c ops bf is,Cb]
theorem Aa(c:FuncId->List AV->M AV)(ops:Array Oper)(ord:List Nat):mu (cx.wc c) ops ord=mu cx ops ord:=by
 unfold mu;rw[qY]
theorem Ad(hc:∀f,bR (call f) fun n=>calls n f)(id:Nat)(ops:Array Oper)(draw:Bool)(e:Env){k:Env->M ρ}{ks:Nat->Env->M ρ}(hk:bR k ks):
  cQ (oR (cx.wc call) id ops draw e k) fun n=>oR (cx.wc (calls n)) id ops draw e (ks n):=by
 unfold oR;simp only[Aa];have hk':bR (fun e':Env=>k { e' with nx:=e.nx+ops.size }) fun n e'=>ks n { e' with nx:=e.nx+ops.size }:=fun e'=>hk _;have key:∀b1 b2:Bool,cQ (bif b1 then(bif draw then(bif b2 then eN (fC (cx.wc call)) e.nx ops (dP ops (tn cx id ops.size)) e fun e'=>k { e' with nx:=e.nx+ops.size }else fA)
   else eN (cx.wc call) e.nx ops (dP ops (List.range ops.size)) e fun e'=>k { e' with nx:=e.nx+ops.size })else fA) fun n=>(bif b1 then(bif draw then(bif b2 then eN (fC (cx.wc (calls n))) e.nx ops (dP ops (tn cx id ops.size)) e fun e'=>ks n { e' with nx:=e.nx+ops.size }else fA)
   else eN (cx.wc (calls n)) e.nx ops (dP ops (List.range ops.size)) e fun e'=>ks n { e' with nx:=e.nx+ops.size })else fA):=by
  intro b1 b2;cases b1 with
  |false=>exact eC _
  | true=>
   cases draw with
   |false=>exact km hc _ _ _ _ _ _ hk'
   |true=>
    cases b2 with
    |false=>exact eC _
    |true=>exact km (cx:=cx) (call:=(fC (cx.wc call)).call) (calls:=fun n=>(fC (cx.wc (calls n))).call) (xB hc) _ _ _ _ _ _ hk'
 exact key (jL cx.nt ops) (mu cx ops (tn cx id ops.size))
theorem xI(hc:∀f,bR (call f) fun n=>calls n f)(id:Nat)(ops:Array Oper)(draw:Bool)(e:Env){k:Env->M ρ}{ks:Nat->Env->M ρ}(hk:bR k ks):
  cQ (nY (cx.wc call) id ops draw e k) fun n=>nY (cx.wc (calls n)) id ops draw e (ks n):=Ad hc id ops draw e hk
theorem nN{ja:JA}{j:List AV->M ρ}{js:Nat->List AV->M ρ}(h:bR j js)(e:Env):cQ (rC ja j e) fun n=>rC ja (js n) e:=by
 unfold rC;cases pack ja e with
 |none=>exact eC _
 |some vs=>
  simp only;cases ja.fz with
  |true=>simp only[M6];exact (eC (L4 vs)).bnd h
  |false=>exact h vs
theorem Gw:∀(n:Nat)(code:Code),SizeOf.sizeOf code<n->∀(call:FuncId->List AV->M AV)(calls:Nat->FuncId->List AV->M AV)(fx:bi ρ)(fxs:Nat->bi ρ),(∀f,bR (call f) fun n=>calls n f)->nO fx fxs->uM fx->(∀n,uM (fxs n))->
  ∀(e:Env)(kn:Env->M ρ)(kns:Nat->Env->M ρ)(kx:Nat->Env->M ρ)(kxs:Nat->Nat->Env->M ρ)(kr:Env->M ρ)(krs:Nat->Env->M ρ),bR kn kns->(∀i,bR (kx i) fun n=>kxs n i)->bR kr krs->
  cQ (ev (cx.wc call) fx code e kn kx kr) fun n=>ev (cx.wc (calls n)) (fxs n) code e (kns n) (kxs n) (krs n):=by
 intro n
 induction n with
 |zero=>grind
 | succ n ih=>
  intro code hn call calls fx fxs hc hfx hfc hfcs e kn kns kx kxs kr krs hkn hkx hkr;cases code<;>(try exact eC _)
  case skip=>exact hkn e
  case exit id=>exact hkx id e
  case ret=>exact hkr e
  case region id ops draw=>exact xI hc id ops draw e hkn
  case seq x y=>
   have hx:SizeOf.sizeOf x<n:=by simp at hn;omega
   have hy:SizeOf.sizeOf y<n:=by simp at hn;omega
   simp only[ev];have hya:∀e,cQ (ev (cx.wc call) fx y e kn kx kr) fun n=>ev (cx.wc (calls n)) (fxs n) y e (kns n) (kxs n) (krs n):=fun e=>ih y hy call calls fx fxs hc hfx hfc hfcs e kn kns kx kxs kr krs hkn hkx hkr;have key:∀oj:Option JA,cQ (match oj with|some ja=>jn (fun vs=>ev (cx.wc call) fx y (unpack ja vs) kn kx kr) fun j=>ev (cx.wc call) fx x e (rC ja j) kx kr|none=>ev (cx.wc call) fx x e (fun e'=>ev (cx.wc call) fx y e' kn kx kr) kx kr)
     fun n=>(match oj with|some ja=>jn (fun vs=>ev (cx.wc (calls n)) (fxs n) y (unpack ja vs) (kns n) (kxs n) (krs n)) fun j=>ev (cx.wc (calls n)) (fxs n) x e (rC ja j) (kxs n) (krs n)|none=>ev (cx.wc (calls n)) (fxs n) x e (fun e'=>ev (cx.wc (calls n)) (fxs n) y e' (kns n) (kxs n) (krs n)) (kxs n) (krs n)):=by
    intro oj;cases oj with
    |none=>exact ih x hx call calls fx fxs hc hfx hfc hfcs e _ (fun n e'=>ev (cx.wc (calls n)) (fxs n) y e' (kns n) (kxs n) (krs n)) kx kxs kr krs hya hkx hkr
    |some ja=>exact ih x hx call calls fx fxs hc hfx hfc hfcs e _ (fun n=>rC ja fun vs=>ev (cx.wc (calls n)) (fxs n) y (unpack ja vs) (kns n) (kxs n) (krs n)) kx kxs kr krs (fun e'=>nN (fun vs=>hya _) e') hkx hkr
   have h:=key (match px x with|some t=>qo cx.ann.joins t|none=>none);exact h
  case cond o x y=>
   have hx:SizeOf.sizeOf x<n:=by simp at hn;omega
   have hy:SizeOf.sizeOf y<n:=by simp at hn;omega
   cases o<;>(try exact eC _)
   case const v=>
    simp only[ev];cases cA v with
    |bool b=>
     cases b with
     |true=>exact ih x hx call calls fx fxs hc hfx hfc hfcs e kn kns kx kxs kr krs hkn hkx hkr
     |false=>exact ih y hy call calls fx fxs hc hfx hfc hfcs e kn kns kx kxs kr krs hkn hkx hkr
    |_=>exact eC _
   rename_i t;simp only[ev];cases decide (t<1000)with
   |false=>exact eC _
   | true=>
    simp only[M6];cases e.av t with
    |bool b=>
     cases b with
     |true=>exact ih x hx call calls fx fxs hc hfx hfc hfcs e kn kns kx kxs kr krs hkn hkx hkr
     |false=>exact ih y hy call calls fx fxs hc hfx hfc hfcs e kn kns kx kxs kr krs hkn hkx hkr
    |_=>exact eC _
  case block id code=>
   have hbx:∀(kx:Nat->Env->M ρ)(kxs:Nat->Nat->Env->M ρ)(kn:Env->M ρ)(kns:Nat->Env->M ρ),(∀i,bR (kx i) fun n=>kxs n i)->bR kn kns->∀i,bR (fun e'=>bif Nat.beq i id then kn e' else kx i e') fun n e'=>bif Nat.beq i id then kns n e' else kxs n i e':=by
    intro kx kxs kn kns hkx hkn i e'
    (try dsimp only)
    cases Nat.beq i id with
    |true=>exact hkn e'
    |false=>exact hkx i e'
   by_cases hcl:∃b,code= .loop b
   ·obtain⟨b,rfl⟩:=hcl;have hb:SizeOf.sizeOf b<n:=by simp at hn;omega
    have key:∀oj:Option JA,cQ (match oj with|none=>fA|some ja=>rC ja (fx fun self vs=>ev (cx.wc call) fx b (unpack ja vs) (rC ja self) (fun i e'=>bif Nat.beq i id then kn e' else kx i e') kr) e)
      fun n=>(match oj with|none=>fA|some ja=>rC ja (fxs n fun self vs=>ev (cx.wc (calls n)) (fxs n) b (unpack ja vs) (rC ja self) (fun i e'=>bif Nat.beq i id then kns n e' else kxs n i e') (krs n)) e):=by
     intro oj;cases oj with
     |none=>exact eC _
     | some ja=>
      refine nN (hfx _ (fun n self vs=>ev (cx.wc (calls n)) (fxs n) b (unpack ja vs) (rC ja self) (fun i e'=>bif Nat.beq i id then kns n e' else kxs n i e') (krs n)) ?_ ?_ ?_) e
      ·intro self selfs hs vs;exact ih b hb call calls fx fxs hc hfx hfc hfcs (unpack ja vs) _ (fun n=>rC ja (selfs n)) _ (fun n i e'=>bif Nat.beq i id then kns n e' else kxs n i e') kr krs (fun e'=>nN hs e') (hbx kx kxs kn kns hkx hkn) hkr
      ·intro self selfs hs vs;exact ih b hb call (fun _=>call) fx (fun _=>fx) (fun f=>bR.const _) hfc hfc (fun _=>hfc) (unpack ja vs) _ (fun n=>rC ja (selfs n)) _ (fun n i e'=>bif Nat.beq i id then kn e' else kx i e') kr (fun _=>kr) (fun e'=>nN hs e') (fun i=>bR.const _) (bR.const _)
      ·intro m self selfs hs vs;exact ih b hb (calls m) (fun _=>calls m) (fxs m) (fun _=>fxs m) (fun f=>bR.const _) (hfcs m) (hfcs m) (fun _=>hfcs m) (unpack ja vs) _ (fun n=>rC ja (selfs n)) _ (fun n i e'=>bif Nat.beq i id then kns m e' else kxs m i e') (krs m) (fun _=>krs m) (fun e'=>nN hs e') (fun i=>bR.const _) (bR.const _)
    exact key (qo cx.ann.loops id)
   ·have hs:SizeOf.sizeOf code<n:=by simp at hn;omega
    have hev:∀(cx:Cx)(fx:bi ρ)(kn:Env->M ρ)(kx:Nat->Env->M ρ)(kr:Env->M ρ),ev cx fx (.block id code) e kn kx kr=ev cx fx code e kn (fun i e'=>bif Nat.beq i id then kn e' else kx i e') kr:=by
     intro cx fx kn kx kr;cases code<;>first|rfl|grind
    simp_all
end
def Cf{m:List AV->M AV}{ms:Nat->List AV->M AV}(h:bR m ms)(args:List AV):cQ (rS m args) fun n=>rS (ms n) args:=by
 intro x;obtain⟨h1,h2⟩:=h (fo aA args) []
 (try dsimp only at h1 h2)
 refine⟨fun hne=>?_,fun n hne=>?_⟩
 ·have hne':m (fo aA args) []≠.fail:=fun hf=>hne (by simp only[rS,hf]);obtain⟨N,hN⟩:=h1 hne';refine⟨N,fun n hn=>?_⟩
  grind [rS]
 grind [rS]
def dK(p:Pg):Prop:=∀f E,p.other f=some E->∀(call:FuncId->List AV->M AV)(calls:Nat->FuncId->List AV->M AV),(∀f,bR (call f) fun n=>calls n f)->bR (E call) fun n=>E (calls n)
section
variable {cx:Cx} {call:FuncId->List AV->M AV} {calls:Nat->FuncId->List AV->M AV} {fx:bi AV} {fxs:Nat->bi AV}
theorem xG(hc:∀f,bR (call f) fun n=>calls n f)(hfx:nO fx fxs)(hfc:uM fx)(hfcs:∀n,uM (fxs n))(fn:Func)(own:Option Nat):
  bR (cB (cx.wc call) fx fn own) fun n=>cB (cx.wc (calls n)) (fxs n) fn own:=by
 intro args;unfold cB;cases fn.body with
 |none=>exact eC _
 | some c=>
  have key:∀b:Bool,cQ (bif b then ev (cx.wc call) fx c (pq args) (j0 (cx.wc call) fn own) (fun _ _=>fA) (j0 (cx.wc call) fn own)else fA) fun n=>(bif b then ev (cx.wc (calls n)) (fxs n) c (pq args) (j0 (cx.wc (calls n)) fn own) (fun _ _=>fA) (j0 (cx.wc (calls n)) fn own)else fA):=by
   intro b;cases b with
   |false=>exact eC _
   |true=>
    have hr:bR (j0 (cx.wc call) fn own) fun n=>j0 (cx.wc (calls n)) fn own:=bR.const (j0 cx fn own);exact Gw _ c (Nat.lt_succ_self _) call calls fx fxs hc hfx hfc hfcs (pq args) _ (fun n=>j0 (cx.wc (calls n)) fn own) _ (fun _ _ _=>fA) _ (fun n=>j0 (cx.wc (calls n)) fn own) hr (fun i=>bR.const _) hr
  exact key (decide (args.length<=fn.ntmps)&&decide (fn.ntmps<=1000)&&nj cx.nt cx.ann.kinds)
theorem sP{p:Pg}(hO:dK p)(hc:∀f,bR (call f) fun n=>calls n f)(hfx:nO fx fxs)(hfc:uM fx)(hfcs:∀n,uM (fxs n))(f:FuncId):bR (jq p call fx f) fun n=>jq p (calls n) (fxs n) f:=by
 intro args;unfold jq;cases ho:p.other f with
 |some E=>exact hO f E ho call calls hc args
 | none=>
  simp only;cases p.funcs f with
  |none=>exact eC _
  |some x=>
   obtain⟨fn,a⟩:=x;simp only;have hb:=xG (cx:=p.cx call fn.ntmps a) hc hfx hfc hfcs fn (p.own f);cases a.iso with
   |true=>exact Cf hb args
   |false=>exact hb args
end
theorem oQ{p:Pg}(hO:dK p):∀n f args,yI (dZ p n f args) (dZ p (n+1) f args)
 |0,f,args=>fun x hne=>absurd rfl hne
 | n+1,f,args=>by
  have hc:∀f,bR (dZ p (n+1) f) fun m=>(if m=0 then dZ p n else dZ p (n+1)) f:=by
   intro f args x;refine⟨fun _=>⟨1,fun m hm=>?_⟩,fun m hne=>?_⟩
   ·grind
   ·(try dsimp only at hne |-)
    by_cases h0:m=0
    ·rw[Nn h0]at hne |-;exact oQ hO n f args x hne
    grind
  have h:=sP hO hc (vH n) (xN (n+1)) (fun m=>by
   by_cases h0:m=0
   all_goals simp_all[xN]) f args
  intro x hne
  have:=(h x).2 0
  (try dsimp only at this)
  rw[Nn rfl,Nn rfl]at this;exact this hne
def tV{p:Pg}(hO:dK p){n m:Nat}(h:n<=m)(f:FuncId)(args:List AV):yI (dZ p n f args) (dZ p m f args):=by
 induction m with
 | zero => have:n=0:=by omega
           subst this;exact .refl _
 |succ m ih=>
  by_cases hn:n=m+1
  ·subst hn;exact .refl _
  ·exact (ih (by omega)).trans (oQ hO m f args)
open Classical in
noncomputable def ab(p:Pg)(f:FuncId)(args:List AV):M AV:=fun h=>if hx:∃n,dZ p n f args h≠.fail then dZ p (Classical.choose hx) f args h else .fail
def lH{p:Pg}(hO:dK p)(f:FuncId):bR (ab p f) fun n=>dZ p n f:=by
 intro args h;refine sG (fun n m hnm hne=>tV hO hnm f args h hne) ?_;unfold ab;by_cases hx:∃n,dZ p n f args h≠.fail
 all_goals grind
def pN.uniq{α:Type}{a a':R α}{b:Nat->R α}(h:pN a b)(g:pN a' fun n=>b (n+1)):a=a':=by
 by_cases ha:a= .fail
 ·by_cases ha':a'= .fail
  ·rw[ha,ha']
  ·obtain⟨N,hN⟩:=g.1 ha';have h1:=hN N (M7 _)
   (try dsimp only at h1)
   exact (h.2 (N+1) (by grind)).symm.trans h1
 ·obtain⟨N,hN⟩:=h.1 ha;have h1:=hN (N+1) (by omega);have h2:=g.2 N
  grind
theorem p7{p:Pg}(hO:dK p)(f:FuncId)(args:List AV):ab p f args=jq p (ab p) ak f args:=by
 funext h;have h1:=lH hO f args h;have h2:=sP hO (fun f=>lH hO f) vG BW (fun n=>xN n) f args h;exact h1.uniq h2
def kX[Dr]{P:Program}{p:Pg}(G:GoodPg P p)(hO:dK p):db P p.own (ab p):=by
 intro f args h S β w vs hr hg hw hh hv;obtain⟨N,hN⟩:=(lH hO f args h).1 hr;have h1:=hN N (M7 _)
 (try dsimp only at h1)
 rw[<- h1]at hr |-;exact m5 G N f args h S β w vs hr hg hw hh hv
def Bw{p:Pg}(hO:dK p){n:Nat}{f:FuncId}{args:List AV}{h:Hp}{r:R AV}(hr:dZ p n f args h=r)(hne:r≠.fail):ab p f args h=r:=by
 have:=(lH hO f args h).2 n (by grind)
 grind
section
variable {ρ:Type}
theorem yW{F:(List AV->M ρ)->List AV->M ρ}(hF:mc F)(vs:List AV):ak F vs=F (ak F) vs:=by
 funext h;exact (hM hF vs h).uniq (hF _ _ (hM hF) vs h)
theorem nX{c:AV}{x y:M ρ}{xs ys:Nat->M ρ}(hx:cQ x xs)(hy:cQ y ys):cQ (aD c x y) fun n=>aD c (xs n) (ys n):=by
 unfold aD;cases c with
 |bool b=>cases b<;>first|exact hx|exact hy
 |_=>exact eC _
theorem LI{k:List AV->M ρ}{ks:Nat->List AV->M ρ}{m:(List AV->M ρ)->M ρ}{ms:Nat->(List AV->M ρ)->M ρ}(hk:bR k ks)(hm:∀j js,bR j js->cQ (m j) fun n=>ms n (js n)):cQ (jn k m) fun n=>jn (ks n) (ms n):=
 hm k ks hk
theorem Af{F:(List AV->M ρ)->List AV->M ρ}{Fs:Nat->(List AV->M ρ)->List AV->M ρ}(h1:r9 F Fs)(h2:mc F)(h3:∀n,mc (Fs n)):bR (ak F) fun n=>ak (Fs n):=BW F Fs h1 h2 h3
end
def aP(m:M AV):M AV:=fun h=>match m []with
 |.ok r h'=>.ok (gG 6 h' r) h
 |.pan v h'=>.pan (gG 6 h' v) h
 |.fail=>.fail
def iJ{p:Pg}(hO:dK p){f:FuncId}{fn:Func}{a:Ann}(h1:p.other f=none)(h2:p.funcs f=some (fn,a))(h3:a.iso=true)(args:List AV):
  ab p f args=aP (cB (p.cx (ab p) fn.ntmps a) ak fn (p.own f) (fo aA args)):=by
 rw[p7 hO];unfold jq;rw[h1];simp only;rw[h2];simp only[h3,M6];rfl
def xq{p:Pg}(hO:dK p){f:FuncId}{fn:Func}{a:Ann}(h1:p.other f=none)(h2:p.funcs f=some (fn,a))(h3:a.iso=false)(args:List AV):
  ab p f args=cB (p.cx (ab p) fn.ntmps a) ak fn (p.own f) args:=by
 simp_all[p7,jq]
def cE{p:Pg}(hO:dK p){f:FuncId}{E:(FuncId->List AV->M AV)->List AV->M AV}(h1:p.other f=some E)(args:List AV):ab p f args=E (ab p) args:=by
 grind [p7,jq]
def dX(T:TT)(t:TypeId):(FuncId->List AV->M AV)->List AV->M AV:=fun _ args=>match args with
 |[.sl es]=>appH T t true (.sl []) (.sl es)
 |_=>fA
def qb(T:TT)(t:TypeId)(call:FuncId->List AV->M AV)(calls:Nat->FuncId->List AV->M AV):bR (dX T t call) fun n=>dX T t (calls n):=bR.const _
def dH{α:Type}{b:Bool}{x:α}{o:Option α}{y:α}(h:(bif b then some x else o)=some y):x=y\/o=some y:=by
 grind
def sK(T:TT)(t:TypeId)(call:FuncId->List AV->M AV)(args:List AV):uO (dX T t call args):=by
 unfold dX;split
 ·rename_i y;intro h v h' hh;unfold appH at hh;split at hh
  ·cases hh
  ·split at hh
   ·split at hh
    ·cases hh
    ·split at hh
     ·cases hh
     ·rename_i bs _;revert hh;generalize (_&&_:Bool)=b1;cases b1 with
      |false=>grind
      | true=>
       simp only[M6];cases bs.isEmpty with
       |true=>simp_all
       |false=>
        grind
   ·cases hh
 ·intro h v h' hh;cases hh
end Go.Av
namespace Go.Av.Ap
abbrev aQ:=List UInt8
inductive Val where
 |mk (kind n:Int) (names:List aQ) (values:List Val)
instance:Inhabited Val:=⟨.mk 0 0 [] []⟩
inductive Exp where
 |mk (op n:Int) (s m:aQ) (names:List aQ) (args:List Exp)
instance:Inhabited Exp:=⟨.mk 0 0 [] [] [] []⟩
inductive Ty where
 |mk (kind:Int) (fields:List (aQ×Ty))
instance:Inhabited Ty:=⟨.mk 0 []⟩
abbrev cO:=aQ×Ty
structure Fun where
 name:aQ
 pub:Bool
 params:List cO
 result:Ty
 effects:Int
 body:Exp
 deriving Inhabited
structure Mod where
 name:aQ
 uses:List aQ
 vars:List cO
 init:List Exp
 funcs:List Fun
 moves:Bool
 old:List cO
 forward:List Exp
 back:List Exp
 deriving Inhabited
def Val.kind:Val->Int|.mk k _ _ _=>k
def Val.n:Val->Int|.mk _ n _ _=>n
def Val.names:Val->List aQ|.mk _ _ ns _=>ns
def Val.values:Val->List Val|.mk _ _ _ vs=>vs
def Exp.op:Exp->Int|.mk o _ _ _ _ _=>o
def Exp.n:Exp->Int|.mk _ n _ _ _ _=>n
def Exp.s:Exp->aQ|.mk _ _ s _ _ _=>s
def Exp.m:Exp->aQ|.mk _ _ _ m _ _=>m
def Exp.names:Exp->List aQ|.mk _ _ _ _ ns _=>ns
def Exp.args:Exp->List Exp|.mk _ _ _ _ _ es=>es
def Ty.kind:Ty->Int|.mk k _=>k
def Ty.fields:Ty->List cO|.mk _ fs=>fs
@[simp] theorem M2(a b c d):(Val.mk a b c d).kind=a:=rfl
@[simp] theorem Val.n_mk(a b c d):(Val.mk a b c d).n=b:=rfl
@[simp] theorem M1(a b c d):(Val.mk a b c d).names=c:=rfl
@[simp] theorem M0(a b c d):(Val.mk a b c d).values=d:=rfl
def Val.eta(v:Val):Val.mk v.kind v.n v.names v.values=v:=by cases v;rfl
def Exp.eta(e:Exp):Exp.mk e.op e.n e.s e.m e.names e.args=e:=by cases e;rfl
def Ty.eta(t:Ty):Ty.mk t.kind t.fields=t:=by cases t;rfl
def strs(l:List aQ):AV:=.sl (l.map .str)
mutual
def Val.av:Val->AV
 |.mk k n ns vs=>.agg [.int .i64 k,.int .i64 n,strs ns,.sl (kD vs)]
def kD:List Val->List AV
 |[]=>[]
 |v:: vs=>v.av:: kD vs
end
mutual
def Exp.cells:Exp->List AV
 |.mk o n s m ns es=>[.int .i64 o,.int .i64 n,.str s,.str m,strs ns,.sl (im es)]
def im:List Exp->List AV
 |[]=>[]
 |e:: es=>.agg e.cells:: im es
end
def Exp.av(e:Exp):AV:=.agg e.cells
mutual
def Ty.cells:Ty->List AV
 |.mk k fs=>[.int .i64 k,.sl (eV fs)]
def eV:List (aQ×Ty)->List AV
 |[]=>[]
 |f:: fs=>bm f:: eV fs
def bm:aQ×Ty->AV
 |(n,t)=>.agg (.str n:: t.cells)
end
def Ty.av(t:Ty):AV:=.agg t.cells
def Fun.av(f:Fun):AV:=.agg ([.str f.name,.bool f.pub,.sl (eV f.params)]++f.result.cells++[.int .i64 f.effects]++f.body.cells)
def iC(l:List Fun):AV:=.sl (l.map Fun.av)
def Mod.av(m:Mod):AV:=.agg [.str m.name,strs m.uses,.sl (eV m.vars),.sl (im m.init),iC m.funcs,.bool m.moves,.sl (eV m.old),.sl (im m.forward),.sl (im m.back)]
def vals(l:List Val):AV:=.sl (kD l)
def dC(l:List Exp):AV:=.sl (im l)
def aO(l:List cO):AV:=.sl (eV l)
def Ha(l:List Mod):AV:=.sl (l.map Mod.av)
def ints(l:List Int):AV:=.sl (l.map (.int .i64))
structure Vars where
 module:aQ
 values:List Val
 deriving Inhabited
structure Deed where
 effect:Int
 arg:Int
 answer:Int
 deriving DecidableEq,Inhabited
structure Call where
 module:aQ
 func:aQ
 args:List Val
 deriving Inhabited
def Vars.av(v:Vars):AV:=.agg [.str v.module,vals v.values]
def Deed.av(d:Deed):AV:=.agg [.int .i64 d.effect,.int .i64 d.arg,.int .i64 d.answer]
def Call.av(c:Call):AV:=.agg [.str c.module,.str c.func,vals c.args]
def rG(l:List Vars):AV:=.sl (l.map Vars.av)
def deeds(l:List Deed):AV:=.sl (l.map Deed.av)
def calls(l:List Call):AV:=.sl (l.map Call.av)
structure Out where
 err:Int
 value:Val
 deeds:List Deed
 calls:List Call
 state:List Vars
def Out.av(o:Out):AV:=.agg [.int .i64 o.err,.int .i64 o.value.kind,.int .i64 o.value.n,strs o.value.names,vals o.value.values,Ap.deeds o.deeds,Ap.calls o.calls,rG o.state]
theorem rF:(l:List Val)->kD l=l.map Val.av
 |[]=>rfl
 |v:: l=>by simp[kD,rF l]
theorem iU:(l:List Exp)->im l=l.map Exp.av
 |[]=>rfl
 |v:: l=>by simp[im,iU l,Exp.av]
theorem de:(l:List cO)->eV l=l.map bm
 |[]=>rfl
 |v:: l=>by simp[eV,de l]
def Val.av_eq(v:Val):v.av= .agg [.int .i64 v.kind,.int .i64 v.n,strs v.names,vals v.values]:=by cases v;rfl
theorem Exp.cells_eq(e:Exp):e.cells=[.int .i64 e.op,.int .i64 e.n,.str e.s,.str e.m,strs e.names,dC e.args]:=by cases e;rfl
theorem Ty.cells_eq(t:Ty):t.cells=[.int .i64 t.kind,aO t.fields]:=by cases t;simp[Ty.cells,aO,Ty.kind,Ty.fields]
def fg(f:cO):bm f= .agg [.str f.1,.int .i64 f.2.kind,aO f.2.fields]:=by grind [bm,Ty.cells_eq]
@[simp] theorem FC(v:Val):af v.av=[.int .i64 v.kind,.int .i64 v.n,strs v.names,vals v.values]:=by rw[v.av_eq];rfl
@[simp] theorem gu(e:Exp):af e.av=[.int .i64 e.op,.int .i64 e.n,.str e.s,.str e.m,strs e.names,dC e.args]:=by rw[Exp.av,e.cells_eq];rfl
@[simp] theorem ck(f:cO):af (bm f)=[.str f.1,.int .i64 f.2.kind,aO f.2.fields]:=by rw[fg];rfl
@[simp] theorem bd(t:Ty):af t.av=[.int .i64 t.kind,aO t.fields]:=by rw[Ty.av,t.cells_eq];rfl
@[simp] theorem xe(f:Fun):af f.av=[.str f.name,.bool f.pub,aO f.params,.int .i64 f.result.kind,aO f.result.fields,.int .i64 f.effects,.int .i64 f.body.op,.int .i64 f.body.n,.str f.body.s,.str f.body.m,strs f.body.names,dC f.body.args]:=by
 grind [Fun.av,af,Ty.cells_eq,Exp.cells_eq,aO]
@[simp] theorem gx(m:Mod):af m.av=[.str m.name,strs m.uses,aO m.vars,dC m.init,iC m.funcs,.bool m.moves,aO m.old,dC m.forward,dC m.back]:=rfl
@[simp] theorem J6(v:Val):AV.agg [.int .i64 v.kind,.int .i64 v.n,strs v.names,vals v.values]=v.av:=(v.av_eq).symm
@[simp] theorem lj(e:Exp):AV.agg [.int .i64 e.op,.int .i64 e.n,.str e.s,.str e.m,strs e.names,dC e.args]=e.av:=by rw[Exp.av,e.cells_eq]
@[simp] theorem cq(t:Ty):AV.agg [.int .i64 t.kind,aO t.fields]=t.av:=by rw[Ty.av,t.cells_eq]
@[simp] theorem lk(f:cO):AV.agg [.str f.1,.int .i64 f.2.kind,aO f.2.fields]=bm f:=(fg f).symm
@[simp] theorem B4(f:Fun):AV.agg [.str f.name,.bool f.pub,aO f.params,.int .i64 f.result.kind,aO f.result.fields,.int .i64 f.effects,.int .i64 f.body.op,.int .i64 f.body.n,.str f.body.s,.str f.body.m,strs f.body.names,dC f.body.args]=f.av:=by
 simp[Fun.av,Ty.cells_eq,Exp.cells_eq,aO]
@[simp] theorem J3(m:Mod):AV.agg [.str m.name,strs m.uses,aO m.vars,dC m.init,iC m.funcs,.bool m.moves,aO m.old,dC m.forward,dC m.back]=m.av:=rfl
theorem fp{α:Type}(g:Nat->Nat->Nat->Nat->Bool->AV)(f:α->AV)(h:∀x,cl g (f x)=f x):(l:List α)->fo g (l.map f)=l.map f
 |[]=>rfl
 |x:: l=>by simp[fo,h x,fp g f h l]
@[simp] theorem D4(g:Nat->Nat->Nat->Nat->Bool->AV)(l:List aQ):cl g (strs l)=strs l:=by
 simp[strs,cl,fp g AV.str (fun _=>rfl) l]
@[simp] theorem KU(g:Nat->Nat->Nat->Nat->Bool->AV)(l:List Int):cl g (ints l)=ints l:=by
 simp[ints,cl,fp g (AV.int .i64) (fun _=>rfl) l]
mutual
theorem Val.cl_av(g:Nat->Nat->Nat->Nat->Bool->AV):(v:Val)->cl g v.av=v.av
 |.mk k n ns vs=>by simp[Val.av,cl,fo,uK g vs]
theorem uK(g:Nat->Nat->Nat->Nat->Bool->AV):(l:List Val)->fo g (kD l)=kD l
 |[]=>rfl
 |v:: l=>by simp[kD,fo,Val.cl_av g v,uK g l]
end
mutual
theorem Exp.cl_cells(g:Nat->Nat->Nat->Nat->Bool->AV):(e:Exp)->fo g e.cells=e.cells
 |.mk o n s m ns es=>by simp[Exp.cells,cl,fo,py g es]
theorem py(g:Nat->Nat->Nat->Nat->Bool->AV):(l:List Exp)->fo g (im l)=im l
 |[]=>rfl
 |e:: l=>by simp[im,fo,cl,Exp.cl_cells g e,py g l]
end
mutual
theorem Ty.cl_cells(g:Nat->Nat->Nat->Nat->Bool->AV):(t:Ty)->fo g t.cells=t.cells
 |.mk k fs=>by simp[Ty.cells,cl,fo,nc g fs]
theorem nc(g:Nat->Nat->Nat->Nat->Bool->AV):(l:List (aQ×Ty))->fo g (eV l)=eV l
 |[]=>rfl
 |f:: l=>by simp[eV,fo,BX g f,nc g l]
theorem BX(g:Nat->Nat->Nat->Nat->Bool->AV):(f:aQ×Ty)->cl g (bm f)=bm f
 |(n,t)=>by simp[bm,cl,fo,Ty.cl_cells g t]
end
@[simp] theorem Gs(g:Nat->Nat->Nat->Nat->Bool->AV)(v:Val):cl g v.av=v.av:=v.cl_av g
@[simp] theorem D5(g:Nat->Nat->Nat->Nat->Bool->AV)(l:List Val):cl g (vals l)=vals l:=by simp[vals,cl,uK]
@[simp] theorem nU(g:Nat->Nat->Nat->Nat->Bool->AV)(e:Exp):cl g e.av=e.av:=by simp[Exp.av,cl,Exp.cl_cells]
@[simp] theorem yQ(g:Nat->Nat->Nat->Nat->Bool->AV)(l:List Exp):cl g (dC l)=dC l:=by simp[dC,cl,py]
@[simp] theorem jI(g:Nat->Nat->Nat->Nat->Bool->AV)(t:Ty):cl g t.av=t.av:=by simp[Ty.av,cl,Ty.cl_cells]
@[simp] theorem xv(g:Nat->Nat->Nat->Nat->Bool->AV)(f:cO):cl g (bm f)=bm f:=BX g f
@[simp] theorem kk(g:Nat->Nat->Nat->Nat->Bool->AV)(l:List cO):cl g (aO l)=aO l:=by simp[aO,cl,nc]
theorem qe(g:Nat->Nat->Nat->Nat->Bool->AV):(a b:List AV)->fo g (a++b)=fo g a++fo g b
 |[],b=>rfl
 |x:: a,b=>by simp[fo,qe g a b]
@[simp] theorem BB(g:Nat->Nat->Nat->Nat->Bool->AV)(f:Fun):cl g f.av=f.av:=by
 simp[Fun.av,cl,fo,qe,nc,Ty.cl_cells,Exp.cl_cells]
@[simp] theorem KT(g:Nat->Nat->Nat->Nat->Bool->AV)(l:List Fun):cl g (iC l)=iC l:=by grind [iC,cl,fp,BB]
@[simp] theorem nW(g:Nat->Nat->Nat->Nat->Bool->AV)(m:Mod):cl g m.av=m.av:=by
 simp_all[Mod.av,cl,fo,nc,py]
@[simp] theorem KV(g:Nat->Nat->Nat->Nat->Bool->AV)(l:List Mod):cl g (Ha l)=Ha l:=by grind [Ha,cl,fp,nW]
@[simp] theorem nV(g:Nat->Nat->Nat->Nat->Bool->AV)(k:IntKind)(n:Int):cl g (.int k n)= .int k n:=rfl
@[simp] theorem KS(g:Nat->Nat->Nat->Nat->Bool->AV)(b:Bool):cl g (.bool b)= .bool b:=rfl
@[simp] theorem qa(g:Nat->Nat->Nat->Nat->Bool->AV)(s:aQ):cl g (.str s)= .str s:=rfl
@[simp] theorem D6(g:Nat->Nat->Nat->Nat->Bool->AV)(v:Vars):cl g v.av=v.av:=by simp[Vars.av,cl,fo]
@[simp] theorem D1(g:Nat->Nat->Nat->Nat->Bool->AV)(v:Deed):cl g v.av=v.av:=by simp[Deed.av,cl,fo]
@[simp] theorem DZ(g:Nat->Nat->Nat->Nat->Bool->AV)(v:Call):cl g v.av=v.av:=by simp[Call.av,cl,fo]
@[simp] theorem JR(g:Nat->Nat->Nat->Nat->Bool->AV)(l:List Vars):cl g (rG l)=rG l:=by grind [rG,cl,fp,D6]
@[simp] theorem JO(g:Nat->Nat->Nat->Nat->Bool->AV)(l:List Deed):cl g (deeds l)=deeds l:=by grind [deeds,cl,fp,D1]
@[simp] theorem JN(g:Nat->Nat->Nat->Nat->Bool->AV)(l:List Call):cl g (calls l)=calls l:=by grind [calls,cl,fp,DZ]
@[simp] theorem Ls(g:Nat->Nat->Nat->Nat->Bool->AV)(o:Out):cl g o.av=o.av:=by simp[Out.av,cl,fo]
@[simp] theorem E7(v:Vars):af v.av=[.str v.module,vals v.values]:=rfl
@[simp] theorem E6(v:Deed):af v.av=[.int .i64 v.effect,.int .i64 v.arg,.int .i64 v.answer]:=rfl
@[simp] theorem E5(v:Call):af v.av=[.str v.module,.str v.func,vals v.args]:=rfl
@[simp] theorem FA(o:Out):af o.av=[.int .i64 o.err,.int .i64 o.value.kind,.int .i64 o.value.n,strs o.value.names,vals o.value.values,deeds o.deeds,calls o.calls,rG o.state]:=rfl
@[simp] theorem Hy(v:Vars):AV.agg [.str v.module,vals v.values]=v.av:=rfl
@[simp] theorem Hx(v:Deed):AV.agg [.int .i64 v.effect,.int .i64 v.arg,.int .i64 v.answer]=v.av:=rfl
@[simp] theorem Hw(v:Call):AV.agg [.str v.module,.str v.func,vals v.args]=v.av:=rfl
@[simp] theorem J4(o:Out):AV.agg [.int .i64 o.err,.int .i64 o.value.kind,.int .i64 o.value.n,strs o.value.names,vals o.value.values,deeds o.deeds,calls o.calls,rG o.state]=o.av:=rfl
@[simp] theorem HY(v:Vars):dA v.av=some 2:=rfl
@[simp] theorem HW(v:Deed):dA v.av=some 3:=rfl
@[simp] theorem HV(v:Call):dA v.av=some 3:=rfl
@[simp] theorem KI(v:Out):dA v.av=some 8:=rfl
@[simp] theorem HL(v:Vars):cM 2 v.av=true:=by simp[cM,bh,vals]
@[simp] theorem HK(v:Deed):cM 3 v.av=true:=by simp[cM,bh]
@[simp] theorem HJ(v:Call):cM 3 v.av=true:=by simp[cM,bh,vals]
@[simp] theorem Kq(v:Out):cM 8 v.av=true:=by simp[cM,bh,vals,strs,deeds,calls,rG]
def Clean(a:AV):Prop:=∀g,cl g a=a
def Clean.frz{a:AV}(h:Clean a)(d:Nat)(hp:Hp):gG d hp a=a:=by
 cases d with
 |zero=>exact h _
 |succ d=>exact h _
def bD{a:AV}(h:Clean a):aP (am a)=am a:=by
 funext hp;simp only[aP,am,h.frz]
@[simp] theorem gJ(b:Bool):aP (am (.bool b))=am (.bool b):=bD fun _=>rfl
@[simp] theorem wb(k:IntKind)(n:Int):aP (am (.int k n))=am (.int k n):=bD fun _=>rfl
@[simp] theorem ni(s:aQ):aP (am (.str s))=am (.str s):=bD fun _=>rfl
@[simp] theorem Ki(v:Val):aP (am v.av)=am v.av:=bD fun g=>Gs g v
@[simp] theorem HC(v:List Val):aP (am (vals v))=am (vals v):=bD fun g=>D5 g v
@[simp] theorem Kf(v:Exp):aP (am v.av)=am v.av:=bD fun g=>nU g v
@[simp] theorem Kg(v:Fun):aP (am v.av)=am v.av:=bD fun g=>BB g v
@[simp] theorem KL(v:Val):dA v.av=some 4:=by rw[v.av_eq];rfl
@[simp] theorem KE(e:Exp):dA e.av=some 6:=by rw[Exp.av,e.cells_eq];rfl
@[simp] theorem KF(f:cO):dA (bm f)=some 3:=by rw[fg];rfl
@[simp] theorem K2(t:Ty):dA t.av=some 2:=by rw[Ty.av,t.cells_eq];rfl
@[simp] theorem KG(f:Fun):dA f.av=some 12:=by simp[Fun.av,dA,Ty.cells_eq,Exp.cells_eq]
@[simp] theorem KH(m:Mod):dA m.av=some 9:=rfl
@[simp] theorem CG(v:Val):cM 4 v.av=true:=by simp[cM,bh,strs,vals]
@[simp] theorem Cw(e:Exp):cM 6 e.av=true:=by simp[cM,bh,strs,dC]
@[simp] theorem qU(f:cO):cM 3 (bm f)=true:=by simp[cM,bh,aO]
@[simp] theorem Cy(f:Fun):cM 12 f.av=true:=by simp[cM,bh,aO,strs,dC]
@[simp] theorem CB(m:Mod):cM 9 m.av=true:=by simp[cM,bh,aO,strs,dC,iC]
@[simp] theorem CF(s:aQ):cM 1 (.str s)=true:=rfl
@[simp] theorem Cz(k:IntKind)(n:Int):cM 1 (.int k n)=true:=rfl
theorem ey{α:Type}{sz:Nat}{f:α->AV}(h:∀x,cM sz (f x)=true)(l:List α):dS sz (l.map f)=true:=by simp[dS,h]
@[simp] theorem HT(l:List aQ):dS 1 (l.map AV.str)=true:=ey CF l
@[simp] theorem HP(l:List Int):dS 1 (l.map (AV.int .i64))=true:=ey (Cz .i64) l
@[simp] theorem HU(l:List Val):dS 4 (kD l)=true:=by grind [rF,ey,CG]
@[simp] theorem HM(l:List Exp):dS 6 (im l)=true:=by grind [iU,ey,Cw]
@[simp] theorem HN(l:List cO):dS 3 (eV l)=true:=by grind [de,ey,qU]
@[simp] theorem HO(l:List Fun):dS 12 (l.map Fun.av)=true:=ey Cy l
@[simp] theorem HQ(l:List Mod):dS 9 (l.map Mod.av)=true:=ey CB l
theorem qF{T:TT}{t e:Nat}{ti ei:TI}(ht:T t=some ti)(hk:ti.kind= .slice e)(he:T e=some ei){α:Type}{f:α->AV}(hs:∀x,dA (f x)=some ei.size){l:List α}{i:Nat}{x:α}(h:l[i]? = some x):
  aL T t (.sl (l.map f)) (.int .i64 (i:Int))=some (.ip (af (f x))):=by
 simp_all[aL]
def eq{T:TT}{t e:Nat}{ti ei:TI}(ht:T t=some ti)(hk:ti.kind= .slice e)(he:T e=some ei){α:Type}[Inhabited α]{f:α->AV}(hs:∀x,dA (f x)=some ei.size){l:List α}{n:Int}(h0:0<=n)(h:n<(l.length:Int)):
  aL T t (.sl (l.map f)) (.int .i64 n)=some (.ip (af (f l[n.toNat]!))):=by
 grind [qF]
def mV{T:TT}{t e:Nat}{ti ei:TI}(ht:T t=some ti)(hk:ti.kind= .slice e)(he:T e=some ei){α:Type}{f:α->AV}(hs:∀x,cM ei.size (f x)=true){a b:List α}(h:(a.length+b.length)*ei.bytes<=140737488355328)(h0:0<ei.bytes):
  fB T t (.sl (a.map f)) (.sl (b.map f))=some (.sl ((a++b).map f)):=by
 grind [fB,iv,ey,lz]
end Go.Av.Ap
namespace Go.Av
attribute [simp] ai ae Bq zT
@[simp] theorem ah{α:Type}(b:Bool)(x y:M α):aD (.bool b) x y=if b=true then x else y:=by cases b<;>rfl
def gv(b w:Bool)(y:AV):AV:=bif b== w then y else .tup []
@[simp] theorem Mi(y:AV):gv false false y=y:=rfl
@[simp] theorem Ml(y:AV):gv true true y=y:=rfl
@[simp] theorem Mj(y:AV):gv false true y= .tup []:=rfl
@[simp] theorem Mk(y:AV):gv true false y= .tup []:=rfl
@[simp high] theorem aF(b w:Bool)(y:AV):bc (.bool b) w 1 (am [y])=am [gv b w y]:=by cases b<;>cases w<;>rfl
@[simp high] theorem Hz(b w c w2:Bool)(y:AV):bc (gv b w (.bool c)) w2 1 (am [y])=am [gv b w (gv c w2 y)]:=by cases b<;>cases w<;>cases c<;>cases w2<;>rfl
@[simp high] theorem HA(b w c e:Bool):bc (.bool b) w 1 (ap (bF (ia (gv b w (.bool c)) (.bool true) (gv b w (gv c false (.bool e))))) fun v=>am [v])=am [gv b w (.bool (c||e))]:=by
 cases b<;>cases w<;>cases c<;>rfl
@[simp high] theorem GF(b w c e:Bool):bc (.bool b) w 1 (ap (bF (ia (gv b w (.bool c)) (gv b w (gv c true (.bool e))) (.bool false))) fun v=>am [v])=am [gv b w (.bool (c&&e))]:=by
 cases b<;>cases w<;>cases c<;>rfl
@[simp high] theorem bJ(b c:Bool):ia (.bool b) (gv b true (.bool c)) (.bool false)=some (.bool (b&&c)):=by cases b<;>rfl
@[simp high] theorem cX(b c:Bool):ia (.bool b) (.bool true) (gv b false (.bool c))=some (.bool (b||c)):=by cases b<;>rfl
@[simp] theorem Ed(w:Bool)(n:Nat)(m:M (List AV)):bc (.bool !w) w n m=am (List.replicate n (.tup [])):=by cases w<;>rfl
@[simp] theorem au(w:Bool)(n:Nat)(m:M (List AV)):bc (.bool w) w n m=m:=by cases w<;>rfl
@[simp] theorem bn(n:Nat)(m:M (List AV)):bc (.bool false) true n m=am (List.replicate n (.tup [])):=rfl
@[simp] theorem dF(n:Nat)(m:M (List AV)):bc (.bool true) false n m=am (List.replicate n (.tup [])):=rfl
@[simp] theorem qB(w:Bool)(n:Nat)(m:M (List AV)):bc (.tup []) w n m=am (List.replicate n (.tup [])):=rfl
@[simp] theorem aw(x y:AV):ia (.bool true) x y=some x:=rfl
@[simp] theorem aC(x y:AV):ia (.bool false) x y=some y:=rfl
@[simp] theorem aj(x:AV)(l:List AV):aa (x:: l) 0=x:=rfl
@[simp] theorem ao(x:AV)(l:List AV)(n:Nat):aa (x:: l) (n+1)=aa l n:=rfl
@[simp] theorem LH{α:Type}(k:List AV->M α)(m:(List AV->M α)->M α):jn k m=m k:=rfl
@[simp] theorem bQ{α:Type}(a:α):bH (am a)=am a:=rfl
@[simp] theorem bp(b:Bool):E1 .not (.bool b)=some (.bool !b):=rfl
@[simp] theorem cR(l:List AV)(i:Nat):dw (.tup l) i=l[i]?:=rfl
@[simp] theorem Fl:True:=trivial
@[simp] theorem Hc(l k:Nat):iF (.hp l k)=some (.hp l k):=rfl
@[simp] theorem Hd(cs:List AV):iF (.ip cs)=some (.ip cs):=rfl
@[simp] theorem kd(s:List UInt8):af (.str s)=[.str s]:=rfl
@[simp] theorem Fz(k:IntKind)(n:Int):af (.int k n)=[.int k n]:=rfl
@[simp] theorem dW(cs:List AV):af (.agg cs)=cs:=rfl
@[simp] theorem ba(T:TT)(t:Nat)(a b:Int):bo T .add t (.int .i64 a) (.int .i64 b)=some (.int .i64 (IntKind.i64.wrap (a+b))):=rfl
@[simp] theorem fl(T:TT)(t:Nat)(a b:Int):bo T .sub t (.int .i64 a) (.int .i64 b)=some (.int .i64 (IntKind.i64.wrap (a-b))):=rfl
@[simp] theorem DJ(T:TT)(t:Nat)(a b:Int):bo T .mul t (.int .i64 a) (.int .i64 b)=some (.int .i64 (IntKind.i64.wrap (a*b))):=rfl
@[simp] theorem ax(T:TT)(t:Nat)(a b:Int):bo T .lss t (.int .i64 a) (.int .i64 b)=some (.bool (decide (a<b))):=rfl
@[simp] theorem bY(T:TT)(t:Nat)(a b:Int):bo T .leq t (.int .i64 a) (.int .i64 b)=some (.bool (decide (a<=b))):=rfl
@[simp] theorem KQ(T:TT)(t:Nat)(a b:Int):bo T .gtr t (.int .i64 a) (.int .i64 b)=some (.bool (decide (b<a))):=rfl
@[simp] theorem pw(T:TT)(t:Nat)(a b:Int):bo T .geq t (.int .i64 a) (.int .i64 b)=some (.bool (decide (b<=a))):=rfl
@[simp] theorem dN(T:TT)(t:Nat)(a b:Int):bo T .eql t (.int .i64 a) (.int .i64 b)=some (.bool (a== b)):=rfl
@[simp] theorem DK(T:TT)(t:Nat)(a b:Int):bo T .neq t (.int .i64 a) (.int .i64 b)=some (.bool (a != b)):=rfl
@[simp] theorem nJ(T:TT)(t:Nat)(a b:List UInt8):bo T .eql t (.str a) (.str b)=some (.bool (a== b)):=rfl
@[simp] theorem K7(T:TT)(t:Nat)(a b:List UInt8):bo T .neq t (.str a) (.str b)=some (.bool !(a== b)):=rfl
@[simp] theorem K6(T:TT)(t:Nat)(a b:List UInt8):bo T .lss t (.str a) (.str b)=some (.bool (aG a b)):=rfl
@[simp] theorem K3(T:TT)(t:Nat)(a b:List UInt8):bo T .geq t (.str a) (.str b)=some (.bool !(aG a b)):=rfl
@[simp] theorem zZ{n:Nat}{x:AV}(h:cM n x=true):cy n x=am (.agg (af x)):=by
 unfold cy ki;rw[h];rfl
@[simp] theorem fW{n:Nat}{x:AV}(h:cM n x=true):aI n [] x=am (.agg (af x)):=by
 unfold aI ki;rw[h];rfl
@[simp] theorem HH(b:Bool)(x:AV):iz b [x]=some x:=by simp[iz]
@[simp] theorem HI(b:Bool)(a c:Int):iz b [.int .i64 a,.int .i64 c]=some (.int .i64 (if b=true then max a c else min a c)):=by
 cases b
 ·simp only[iz,AD,Nh]
  grind
 ·simp only[iz,AD,M6]
  grind
def bE{x:Int}(h1:-9223372036854775808<=x)(h2:x<=9223372036854775807):IntKind.i64.wrap x=x:=IntWalk.i64_in _ ⟨h1,h2⟩
def Do{n:Nat}(h:n<=4611686018427387904):IntKind.i64.wrap (n:Int)=(n:Int):=IntWalk.i64_in _ (by omega)
def aE{n:Nat}(h:n<=4611686018427387904):IntKind.i64.wrap ((n:Int)+1)=((n+1:Nat):Int):=by
 rw[IntWalk.i64_in _ (by omega)];omega
def eS{n:Nat}(h:n<=4611686018427387904):IntKind.i64.wrap (((n+1:Nat):Int)-1)=(n:Int):=by
 rw[IntWalk.i64_in _ (by omega)];omega
namespace Ap
mutual
def Val.sz:Val->Nat
 |.mk _ _ ns vs=>1+ns.length+Dl vs
def Dl:List Val->Nat
 |[]=>0
 |v:: vs=>v.sz+Dl vs
end
end Ap
end Go.Av
namespace Go.Av
def cV{α:Type}(F:α->Bool):List α->Int->Int
 |[],_=>-1
 |x:: l,i=>if F x=true then i else cV F l (i+1)
theorem vS{α:Type}(F:α->Bool):(l:List α)->(i:Int)->0<=i->(0<=cV F l i↔l.any F=true)
 |[],i,_=>by simp[cV]
 |x:: l,i,h=>by
  simp only[cV];split
  ·grind
  ·rename_i hx;rw[vS F l (i+1) (by omega)];simp[hx]
def oi{α:Type}(F:α->Bool)(l:List α):decide (0<=cV F l 0)=l.any F:=by
 have:=vS F l 0 (by omega)
 grind
@[simp] theorem Fo(a b:Nat):((a:Int)== (b:Int))=(a== b):=by grind
@[simp] theorem EC(a:Nat):((a:Int)== 0)=(a== 0):=by grind
@[simp] theorem Fp(a b:Nat):((a:Int) != (b:Int))=(a != b):=by grind
def eK{α β:Type}(F:α->β->Bool):List α->List β->Bool
 |x:: l,y:: r=>F x y&&eK F l r
 |[],[]=>true
 |_,_=>false
def iI{α β:Type}(F:α->β->Bool)(a:List α)(b:List β)(i:Nat)(h1:i<a.length)(h2:i<b.length):eK F (a.drop i) (b.drop i)=(F a[i] b[i]&&eK F (a.drop (i+1)) (b.drop (i+1))):=by
 rw[Ng h1,Ng h2];rfl
theorem eF{α β:Type}(F:α->β->Bool):(a:List α)->(b:List β)->a.length≠b.length->eK F a b=false
 |[],[],h=>absurd rfl h
 |[],_:: _,_=>rfl
 |_:: _,[],_=>rfl
 |x:: a,y:: b,h=>by
  have:=eF F a b (by simpa using h)
  simp[eK,this]
end Go.Av
namespace Go.Av
open Ap
@[simp high] theorem Gp(x:Val):cy 4 (Val.av x)=am (Val.av x):=by simp_all
@[simp high] theorem DY(x:Val):aI 4 [] (Val.av x)=am (Val.av x):=by simp_all
@[simp high] theorem Gk(x:Exp):cy 6 (Exp.av x)=am (Exp.av x):=by simp_all
@[simp high] theorem DT(x:Exp):aI 6 [] (Exp.av x)=am (Exp.av x):=by simp_all
@[simp high] theorem mn(x:cO):cy 3 (bm x)=am (bm x):=by simp_all
@[simp high] theorem DU(x:cO):aI 3 [] (bm x)=am (bm x):=by simp_all
@[simp high] theorem Gl(x:Fun):cy 12 (Fun.av x)=am (Fun.av x):=by simp_all
@[simp high] theorem DV(x:Fun):aI 12 [] (Fun.av x)=am (Fun.av x):=by simp_all
@[simp high] theorem Gm(x:Mod):cy 9 (Mod.av x)=am (Mod.av x):=by simp_all
@[simp high] theorem DW(x:Mod):aI 9 [] (Mod.av x)=am (Mod.av x):=by simp_all
@[simp high] theorem Ff(x:Vars):cy 2 (Vars.av x)=am (Vars.av x):=by simp_all
@[simp high] theorem Dt(x:Vars):aI 2 [] (Vars.av x)=am (Vars.av x):=by simp_all
@[simp high] theorem Fe(x:Deed):cy 3 (Deed.av x)=am (Deed.av x):=by simp_all
@[simp high] theorem Ds(x:Deed):aI 3 [] (Deed.av x)=am (Deed.av x):=by simp_all
@[simp high] theorem Fc(x:Ap.Call):cy 3 (Ap.Call.av x)=am (Ap.Call.av x):=by simp_all
@[simp high] theorem Dq(x:Ap.Call):aI 3 [] (Ap.Call.av x)=am (Ap.Call.av x):=by simp_all
@[simp high] theorem Gn(x:Ap.Out):cy 8 (Ap.Out.av x)=am (Ap.Out.av x):=by simp_all
@[simp high] theorem DX(x:Ap.Out):aI 8 [] (Ap.Out.av x)=am (Ap.Out.av x):=by simp_all
@[simp] theorem ny(t:Ty):cM 2 t.av=true:=by simp[cM,bh,aO]
@[simp high] theorem gB(x:Ty):cy 2 (Ty.av x)=am (Ty.av x):=by simp_all
@[simp high] theorem cp(x:Ty):aI 2 [] (Ty.av x)=am (Ty.av x):=by simp_all
end Go.Av
namespace Go.Av
@[simp] theorem Dv(c:Prop)[Decidable c](a b:Bool):(if c then(am (.bool a):M AV)else am (.bool b))=am (.bool (if c then a else b)):=by split<;>rfl
@[simp] theorem Eg(c:Prop)[Decidable c](a b:Int):(if c then(am (.int .i64 a):M AV)else am (.int .i64 b))=am (.int .i64 (if c then a else b)):=by split<;>rfl
def ko{F:(List AV->M AV)->List AV->M AV}(hF:∀vs,ak F vs=F (ak F) vs)(st:Nat->List AV)(n:Nat)(G:Nat->Bool)(hend:F (ak F) (st n)=am (.bool true))(hstep:∀k,k<n->F (ak F) (st k)=if G k=true then ak F (st (k+1))else am (.bool false)):
  ∀k,k<=n->ak F (st k)=am (.bool ((List.range' k (n-k)).all G)):=by
 have key:∀r k,n-k=r->k<=n->ak F (st k)=am (.bool ((List.range' k r).all G)):=by
  intro r
  induction r with
  |zero=>
   grind
  |succ r ih=>
   grind [List.range'_succ]
 grind
def mm{α:Type}[Inhabited α](P:α->Bool)(l:List α):(List.range' 0 l.length).all (fun k=>P l[k]!)=l.all P:=by
 rw[N1];simp only[Nl,List.mem_range'_1];constructor
 ·intro h x hx;obtain⟨i,hi,rfl⟩:=List.getElem_of_mem hx
  grind
 grind
theorem pR{α β:Type}[Inhabited α][Inhabited β](P:α->β->Bool):(a:List α)->(b:List β)->a.length=b.length->(List.range' 0 a.length).all (fun k=>P a[k]! b[k]!)=eK P a b
 |[],[],_=>rfl
 |x:: a,y:: b,h=>by
  have ih:=pR P a b (by simpa using h);simp only[Nr,List.range'_succ,N0,eK];congr 1;rw[<- ih];rw[N1];simp only[Nl,List.mem_range'_1]
  grind
 |[],_:: _,h=>by simp at h
 |_:: _,[],h=>by simp at h
def A5{T:TT}{t e:Nat}{ti ei:TI}(ht:T t=some ti)(hk:ti.kind= .slice e)(he:T e=some ei)(es:List AV){n:Int}(h0:0<=n)(h1:n<=es.length):dl T t (.sl es) none (some (.int .i64 n)) none=some (.sl (es.take n.toNat)):=by
 simp_all[dl,ct]
end Go.Av
namespace Go.Av
variable [Dr]
theorem oO{P:Program}{cx:Cx}{own:Option Nat}(hT:TOK P cx.T)(hC:db P cx.own cx.call)(hI:IsoCall cx){f:FuncId}{fn:Func}(hf:P.funcs[f]? = some fn)(hnt:cx.nt=fn.ntmps){E:List AV->Hp->R AV}(h0:∀h,E [] h= .ok (.sl []) h)(h1:∀e es h,cB cx (dx 0) fn own [.sl (e:: es)] h=E (e:: es) h)(h2:∀h,cB cx (dx 0) fn own [.hn] h= .ok (.sl []) h)(h3:∀l off h,cB cx (dx 0) fn own [.hs l off 0 1 false] h= .ok (.sl []) h){es:List AV}{h:Hp}{S:ay}{β:List bI}{w:World}{vs:List Value}(hr:E es h≠.fail)(hg:pt S β h w)(hw:Wf S w)(hh:cS S β w h)(hv:aV S β [.sl es] vs):Calls P f vs.toArray w (eh own S β h w (E es h))/\fn.body.isSome=true:=by
 cases es with
 |cons e es=>
  grind [iQ]
 | nil=>
  rw[h0];simp only[aV]at hv;obtain⟨v,_,rfl,hv,rfl⟩:=hv;have hv0:=hv;simp only[VR]at hv;obtain⟨a,cap,rfl,hc,hn,hq⟩:=hv;cases a with
  |none=>
   have hcap:=hn rfl;subst hcap;have hv2:aV S β [.hn] [.slice none ([]:List AV).length 0]:=by simp[aV,VR]
   grind [iQ]
  | some q=>
   obtain⟨hs,_⟩:=hq q rfl;have hX:cS S [(q.block,q.off+cap)] w [[]]:=⟨rfl,fun _=>.no,fun l cs hl hne=>by
    grind⟩
   have hE:∀b,¬ci [(q.block,q.off+cap)] [[]] b:=by
    rintro b ⟨l,cs,n,k1,k2,_⟩;cases l with
    |zero=>grind
    |succ l=>simp at k1
   have hv2:aV S [(q.block,q.off+cap)] [.hs 0 q.off 0 1 false] [.slice (some q) ([]:List AV).length cap]:=by
    simp only[aV,VR];rcases NO cap with h0|h0
    ·grind
    ·have hq':q=⟨q.block,q.off,none⟩:=by
      have:=hs h0
      cases q;simp_all
     exact⟨_,_,rfl,.inl ⟨(q.block,q.off+cap),cap,rfl,(by grind),by grind,Nz _,by simp⟩,rfl⟩
   have:=iQ (own:=own) hT hC hI 0 hf hnt (args:=[.hs 0 q.off 0 1 false]) (h:=[[]]) (by rw[h3];simp) ⟨hg.1,fun b _=>hE b,hg.2.2⟩ hw hX hv2
   rw[h3]at this;refine⟨this.1.mono fun en w' hp=>?_,this.2⟩;obtain⟨S',β',v,k1,k2,k3,k4⟩:=hp;obtain⟨S2,j1,j2,j3⟩:=zc hw hh hE k3;exact⟨S2,β,v,k1,j2 (.sl []) v k2,j1,fun sz hsz=>j3 sz v (k4 sz hsz)⟩
end Go.Av
namespace Go.Av
variable [Dr]
open Go.RowKit
section
variable {S:ay} {β:List bI} {h:Hp} {w w':World}
omit [Dr]in
theorem cS.below(hh:cS S β w h){S':ay}(hb:∀b,b<w.heap.size->w'.heap[b]? = w.heap[b]? /\∀o,S' b o=S b o)(hle:S.le S'):cS S' β w' h:=by
 obtain⟨hlen,ω,hr⟩:=hh;exact⟨hlen,ω,hr.rows hle (fN.refl β) hlen fun l cs hl _=>.inl ⟨hl,fun b hlt ho=>⟨ho,(hb b hlt).1,fun o h=>by grind⟩⟩⟩
theorem xY(hw:Wf S w)(hh:cS S β w h)(hb:Below w.heap.size w w')(hd:Dr.on->w.drawn<=w'.drawn){S':ay}(hS:∀b,b<w.heap.size->∀o,S' b o=S b o)(hnew:∀b o v,w.heap.size<=b->S' b o=some v->w'.cell? ⟨b,o,none⟩=some v):
  Left (ci β h) S β w S' β w' h:=by
 have hle:S.le S':=fun b o v hv=>by rw[hS b (hw.lt hv)];exact hv
 refine⟨hle,fN.refl β,fun b o v hv=>?_,⟨hb.size,hb.os,hb.output,hb.tape,hd⟩,fun b hlt _=>⟨hb.block b hlt,hS b hlt⟩,hh.below (fun b hlt=>⟨hb.block b hlt,hS b hlt⟩) hle,fun b hb=>.inl hb⟩;rcases NE b w.heap.size with hlt|hge
 ·rw[hS b hlt]at hv;rw[cell_of_heap (hb.block b hlt)];exact hw b o v hv
 grind
theorem cF(hw:Wf S w)(hh:cS S β w h)(hb:Below w.heap.size w w')(hd:Dr.on->w.drawn<=w'.drawn){r:AV}{v:Value}(hv:VR S β r v):eh none S β h w (.ok r h) (.returned v) w':=
 ⟨S,β,v,rfl,hv,xY hw hh hb hd (fun _ _ _=>rfl) (fun b o v hge hv=>by have:=hw.lt hv;omega),fun sz hsz=>by cases hsz⟩
end
end Go.Av
namespace Go.Av
variable [Dr]
def jJ:(FuncId->List AV->M AV)->List AV->M AV:=fun _ args=>match args with
 |[.str s,.str t]=>bF (bif decide (s.length<4294967281)then some (.bool (Lib.contains s t))else none)
 |_=>fA
def Ao:List AV->Option Nat
 |[.hp l off]=>bif Nat.beq off 0 then some l else none
 |_=>none
omit [Dr]in
theorem vR{args:List AV}{l:Nat}(h:Ao args=some l):args=[.hp l 0]:=by
 unfold Ao at h;split at h
 ·rename_i l' off;cases ho:Nat.beq off 0 with
  |false=>grind
  |true=>
   simp_all
 ·cases h
def JL(ok:List (Nat×Nat))(l:Nat):List AV->Option (List AV)
 |.nilb t:: x:: r=>bif ok.any (fun p=>Nat.beq p.1 t&&Nat.ble p.2 (r.length+2))then some (.hp l 0:: x:: r)else none
 |.hp l' k:: r=>bif Nat.beq l' l&&Nat.beq k 0 then some (.hp l' k:: r)else none
 |_=>none
omit [Dr]in
theorem DO{ok:List (Nat×Nat)}{l:Nat}{cs cs':List AV}(h:JL ok l cs=some cs'):(∃t x r,cs= .nilb t:: x:: r/\cs'= .hp l 0:: x:: r/\∃n,(t,n)∈ok/\n<=r.length+2)\/(∃r,cs= .hp l 0:: r/\cs'=cs):=by
 unfold JL at h;split at h
 ·rename_i t x r;cases ho:ok.any (fun p=>Nat.beq p.1 t&&Nat.ble p.2 (r.length+2))with
  |false=>grind
  |true=>
   rw[ho]at h;cases h;obtain⟨p,hp,hq⟩:=List.any_eq_true.1 ho;rw[M5]at hq;refine .inl ⟨t,x,r,rfl,rfl,p.2,?_,Nat.le_of_ble_eq_true hq.2⟩
   grind [Nat.eq_of_beq_eq_true]
 ·rename_i l' k r;cases ho:(Nat.beq l' l&&Nat.beq k 0)with
  |false=>grind
  |true=>
   simp_all
 ·cases h
def iT(ok:List (Nat×Nat)):(FuncId->List AV->M AV)->List AV->M AV:=fun _ args h=>match Ao args with
 | some l=>(match h[l]? with
  |some cs=>(match JL ok l cs with
   |some cs'=>.ok (.tup []) (h.set l cs')
   |none=>.fail)
  |none=>.fail)
 |none=>.fail
def sE(e:Nat):AV->Option UInt8
 |.byt t n=>bif Nat.beq t e&&decide (0<=n)&&decide (n<256)then some (UInt8.ofNat n.toNat)else none
 |_=>none
def jv(e:Nat):List AV->Option (List UInt8)
 |[]=>some []
 |x:: r=>match sE e x,jv e r with
  |some b,some l=>some (b:: l)
  |_,_=>none
def stA:List AV->Option (Option (Nat×Nat))
 |.hp _ _:: .hs lb off len sz ag:: _=>bif Nat.beq off 0&&Nat.beq sz 1&&!ag&&Nat.blt 0 len&&Nat.ble len 140737488355328 then some (some (lb,len))else none
 |_:: .hn:: _=>some none
 |_=>none
omit [Dr]in
theorem Dd{cs:List AV}{lb len:Nat}(h:stA cs=some (some (lb,len))):∃x r,cs=x:: .hs lb 0 len 1 false:: r/\0<len/\len<=140737488355328:=by
 unfold stA at h;split at h
 ·rename_i l k lb' off len' sz ag r;cases ho:(Nat.beq off 0&&Nat.beq sz 1&&!ag&&Nat.blt 0 len'&&Nat.ble len' 140737488355328)with
  |false=>grind
  |true=>
   simp_all
 all_goals grind
omit [Dr]in
theorem Dc{cs:List AV}(h:stA cs=some none):∃x r,cs=x:: .hn:: r:=by
 unfold stA at h
 grind
def ff(e:Nat):(FuncId->List AV->M AV)->List AV->M AV:=fun _ args h=>match Ao args with
 | some l=>(match h[l]? with
  | some cs=>(match stA cs with
   |some none=>.ok (.str []) h
   | some (some (lb,len))=>(match h[lb]? with
    |some bs=>(match (bif Nat.ble len bs.length then jv e (bs.take len)else none)with
     |some s=>.ok (.str s) (h.set lb [])
     |none=>.fail)
    |none=>.fail)
   |none=>.fail)
  |none=>.fail)
 |none=>.fail
def vI:AV->Option (List UInt8×Int×List AV)
 |.agg [.str n,.int .i64 k,.sl fs]=>some (n,k,fs)
 |_=>none
def gF:List AV->Option (List (List UInt8×Int×List AV))
 |[]=>some []
 |x:: r=>match vI x,gF r with
  |some z,some l=>some (z:: l)
  |_,_=>none
def cC{α:Type}(p:α->Bool):List α->Option α
 |[]=>none
 |z:: r=>match cC p r with
  |some y=>some y
  |none=>bif p z then some z else none
def yc(l:List (List UInt8×Int×List AV))(name:List UInt8):AV:=match cC (fun z=>z.1== name) l with
 |some z=>.tup [.agg [.int .i64 z.2.1,.sl z.2.2],.bool true]
 |none=>.tup [.agg [.int .i64 0,.sl []],.bool false]
def lP:(FuncId->List AV->M AV)->List AV->M AV:=fun _ args=>match args with
 |[.sl es,.str name]=>(match gF es with
  |some l=>bF (bif decide (l.length<=1000000000)then some (yc l name)else none)
  |none=>fA)
 |_=>fA
omit [Dr]in
theorem rT{α:Type}(p:α->Bool)(l:List α):cC p l=l.reverse.find? p:=by
 induction l with
 |nil=>rfl
 |cons z r ih=>
  simp only[cC,ih,List.reverse_cons,List.find?_append]
  grind
end Go.Av
namespace Go.Av
variable [Dr]
open Go.RowKit
def dt:Nat->Nat->List UInt8
 |0,_=>[]
 |f+1,u=>bif decide (u<10)then[UInt8.ofNat (48+u)]else dt f (u / 10)++[UInt8.ofNat (48+u % 10)]
omit [Dr]in
theorem tP:∀(f u:Nat),u<10 ^ (f+1)->dt (f+1) u=Lib.decDigits u
 | f,u,h=>by
  rw[Lib.decDigits];rw[show dt (f+1) u=bif decide (u<10)then[UInt8.ofNat (48+u)]else dt f (u / 10)++[UInt8.ofNat (48+u % 10)]from rfl];by_cases h10:u<10
  ·rw[dif_pos h10,NJ h10];rfl
  ·rw[dif_neg h10,NV h10];cases f with
   |zero=>omega
   |succ f=>rw[tP f (u / 10) (by rw[O3]at h;omega)];rfl
def bG(n:Int):List UInt8:=bif decide (n<0)then 45:: dt 20 n.natAbs else dt 20 n.toNat
omit [Dr]in
theorem Ch{n:Int}(h0:-9223372036854775808<=n)(h1:n<=9223372036854775807):bG n=Lib.itoa n:=by
 unfold bG Lib.itoa;by_cases h:n<0
 ·rw[NJ h,Nn h];simp only[M6];rw[tP 19 n.natAbs (by omega)]
 ·rw[NV h,M9 h];simp only[Nh];rw[tP 19 n.toNat (by omega)]
def sZ:(FuncId->List AV->M AV)->List AV->M AV:=fun _ args=>match args with
 |[.int .i64 n]=>bF (bif decide (-9223372036854775808<=n)&&decide (n<=9223372036854775807)then some (.str (bG n))else none)
 |_=>fA
def oK(t:TypeId)(s:List UInt8):AV:=match Lib.atoiAll s with
 |.ok v=>.tup [.int .i64 v,.nili]
 |.range=>.tup [.int .i64 (Lib.atoiSat s),.iface t .any]
 |_=>.tup [.int .i64 0,.iface t .any]
def sr(t:TypeId):(FuncId->List AV->M AV)->List AV->M AV:=fun _ args=>match args with
 |[.str s]=>bF (bif decide (s.length<=281474976710656)then some (oK t s)else none)
 |_=>fA
end Go.Av
namespace Go.Av
open Go.RowKit Go.Sort Go.Proofs
section
variable [Dr]
theorem Left.grew(hd:Dr.on){S S':ay}{β β':List bI}{w w':World}{h':Hp}(L:Left (ci [] []) S β w S' β' w' h'):∃q os,w'=grow (w.drewN q) os:=by
 have hg:=L.gro;have hd:=hg.cnt hd;have hk:∀b,b<w.heap.size->w'.heap[b]? = w.heap[b]?:=fun b hb=>(L.keep b hb (by rintro⟨l,_,_,h1,_⟩;simp at h1)).1;refine⟨w'.drawn-w.drawn,w'.heap.extract w.heap.size w'.heap.size,?_⟩;have e1:w.heap++w'.heap.extract w.heap.size w'.heap.size=w'.heap:=by
  apply Array.ext_getElem?;intro i;by_cases hi:i<w.heap.size
  ·rw[OC hi,hk i hi]
  ·rw[Array.getElem?_append_right (by omega),Array.getElem?_extract];split
   ·rw[show w.heap.size+(i-w.heap.size)=i by omega]
   ·rw[Array.getElem?_eq_none (by omega)]
 have e2:w.drawn+(w'.drawn-w.drawn)=w'.drawn:=by omega
 obtain⟨h1,h2,h3,h4,h5⟩:=w';obtain⟨g1,g2,g3,g4,g5⟩:=w;have a1:=hg.os;have a2:=hg.out;have a3:=hg.tape;simp only at a1 a2 a3 e1 e2;unfold grow World.drewN;simp only[e1,e2,a1,a2,a3]
end
theorem oV{α β:Type}(f:α->List β)(k:Nat)(hk:∀x,(f x).length=k)(hp:0<k):∀(l:List α)(t:Nat),(l.map f).flatten[t]? = (l[t / k]?).bind fun x=>(f x)[t % k]?
 |[],t=>by simp
 | x:: l,t=>by
  simp only[NL,Pk];by_cases h:t<k
  ·rw[N4 (by rw[hk];exact h),Nat.div_eq_of_lt h,Nat.mod_eq_of_lt h];simp
  ·rw[NS (by rw[hk];omega),hk,oV f k hk hp l (t-k)];rw[Nat.div_eq_sub_div hp (by omega:k<=t),Nat.mod_eq_sub_mod (by omega:k<=t)];simp
theorem oW{α β:Type}(f:α->List β)(k:Nat)(hk:∀x,(f x).length=k):∀(l:List α),(l.map f).flatten.length=l.length*k
 |[]=>by simp
 |x:: l=>by simp only[NL,Pk,Np,hk,oW f k hk l,Nr,Pi];omega
section
variable {α:Type} [Inhabited α]
theorem qt(enc:α->List Value)(k:Nat)(hk:∀x,(enc x).length=k)(hp:0<k)(d:Array α):(flatK enc k d).toList=(d.toList.map enc).flatten:=by
 apply OP;intro t;rw[oV enc k hk hp];by_cases ht:t<d.size*k
 ·have hd:t / k<d.size:=by rw[Nat.div_lt_iff_lt_mul hp];exact ht
  have hm:t % k<k:=PO _ hp;have h1:=get_flatK enc k d t ht;rw[Nt (flatK enc k d) t (by rw[size_flatK];exact ht),Nt d _ hd,Nt (enc _) _ (by rw[hk];exact hm)]at h1;rw[Ns (by simpa using ht),Array.getElem_toList,h1,Oi,NY hd];simp only[OV];rw[Ns (by rw[hk];exact hm)]
 ·rw[Oq (by simp only[NZ,size_flatK];omega),Oq (by simp only[NZ];rw[Nat.le_div_iff_mul_le hp];omega)];rfl
theorem rX(F x:Array Value)(off:Nat)(hf:off+F.size<=x.size):putCells id off F x=(x.toList.take off++F.toList++x.toList.drop (off+F.size)).toArray:=by
 apply Array.ext_getElem?;intro t;unfold putCells;simp only[Array.getElem?_mapIdx,ON];by_cases h1:t<off
 ·rw[N4 (by simp;omega),N4 (by simp;omega),Oa,Nn h1,Oi,NY (by omega)];simp only[OB];rw[M9 (by omega)]
 ·by_cases h2:t<off+F.size
  ·rw[N4 (by simp;omega),NS (by simp;omega)];have e:(x.toList.take off).length=off:=by simp;omega
   rw[e,NY (by omega:t<x.size),Oi,NY (by omega:t-off<F.size)];simp only[OB,id];rw[Nn ⟨by omega,h2⟩,Nt F _ (by omega)]
  ·have e:(x.toList.take off++F.toList).length=off+F.size:=by simp;omega
   rw[NS (by rw[e];omega),e,Ox,Oi,show off+F.size+(t-(off+F.size))=t by omega];cases x[t]? with
   |none=>rfl
   |some y=>simp only[OB];rw[M9 (by omega)]
theorem Da{w:World}{b:Nat}{x:Array Value}(hr:Row w b x)(enc:α->List Value)(k off n:Nat)(d:Array α)(os:Array Obj)(hf:off+d.size*k<=x.size):
  Row (sortWorldK enc k w b off n d os) b (x.toList.take off++(flatK enc k d).toList++x.toList.drop (off+(flatK enc k d).size)).toArray:=by
 have hlt:=hr.lt;obtain⟨e,he⟩:=hr;refine⟨e,?_⟩;rw[<- rX (flatK enc k d) x off (by rw[size_flatK];exact hf)];show ((w.heap.modify b (onCells (putCells id off (flatK enc k d))))++os)[b]? = _;rw[OC (by simpa using hlt),O2,Nn rfl,he];rfl
theorem rq{w:World}{b b':Nat}(enc:α->List Value)(k off n:Nat)(d:Array α)(os:Array Obj)(hlt:b'<w.heap.size)(hb:b'≠b):(sortWorldK enc k w b off n d os).heap[b']? = w.heap[b']?:=by
 show ((w.heap.modify b (onCells (putCells id off (flatK enc k d))))++os)[b']? = _;rw[OC (by simpa using hlt),O2,M9 (fun h=>hb h.symm)]
theorem C4[Dr]{w:World}{b:Nat}(enc:α->List Value)(k off n:Nat)(d:Array α)(os:Array Obj):Gro w (sortWorldK enc k w b off n d os):=by
 refine⟨?_,rfl,rfl,rfl,fun _=>?_⟩
 ·show _<=((w.heap.modify b (onCells (putCells id off (flatK enc k d))))++os).size;simp
 ·show w.drawn<=w.drawn+n;omega
end
section
variable [Dr] {S:ay} {β:List bI} {h:Hp} {w w':World}
theorem Ck(hw:Wf S w)(hh:cS S β w h){l b nb off:Nat}{cs acs:List AV}{vs:List Value}(hcs:h[l]? = some cs)(hne:cs≠[])(hb:β[l]? = some (b,nb))(hb0:nb≠0)(hvs:aV S β acs vs)(hle:off+acs.length<=cs.length)(hoc:cs.all bh=true)(hoa:acs.all bh=true)(hg:Gro w w')(hr:∀x,Row w b x->cs.length<=x.size->Row w' b (x.toList.take off++vs++x.toList.drop (off+vs.length)).toArray)(ho:∀b',b'<w.heap.size->b'≠b->w'.heap[b']? = w.heap[b']?):
  Left (ci β h) S β w S β w' (h.set l (setCells cs off acs)):=by
 obtain⟨hlen,ω,hH⟩:=hh;obtain⟨z,j1,j2,j3,j4,j5⟩:=e9.cells hH hcs hne hb hb0;rw[hb]at j1;cases j1;have hvl:=hvs.length;have hzs:cs.length<=z.size:=by
  have:=j4.length
  simp at this;omega
 have hrow:=hr z j2 hzs;have hll:l<h.length:=by
  rcases NE l h.length with k|k
  ·exact k
  ·rw[Oq k]at hcs;cases hcs
 have hown:∀b',ci β (h.set l (setCells cs off acs)) b'->ci β h b':=by
  rintro b' ⟨l',cs',n,k1,k2,k3⟩;by_cases hl:l'=l
  ·subst hl;exact⟨l',cs,n,hcs,hne,k3⟩
  ·rw[Pv (fun e=>hl e.symm)]at k1;exact⟨l',cs',n,k1,k2,k3⟩
 refine⟨ay.le_refl S,fN.refl β,fun b' o v hv=>?_,hg,fun b' hb' hE=>?_,⟨by simpa using hlen,ω,e9.rows hH (ay.le_refl S) (fN.refl β) hlen fun l' cs' hl' hne'=>?_⟩,fun b' hb'=>.inl (hown b' hb')⟩
 ·have hne2:b'≠b:=by rintro rfl;rw[j5]at hv;cases hv
  rw[cell_of_heap (ho b' (hw.lt hv) hne2)];exact hw b' o v hv
 ·have hne2:b'≠b:=by rintro rfl;exact hE ⟨l,cs,_,hcs,hne,hb⟩
  exact⟨ho b' hb' hne2,fun _=>rfl⟩
 ·by_cases hl:l'=l
  ·subst hl;rw[Po hll]at hl';cases hl';refine .inr ⟨b,_,?_,hrow,j3,?_,j5,fun t ht=>?_⟩
   ·rw[hb];simp;omega
   ·rw[fM _ _ _ (by omega)];have hsp:aV S β (setCells cs off acs) (((z.toList.take cs.length).take off++vs++(z.toList.take cs.length).drop (off+vs.length))):=by
     unfold setCells;rw[hvl];exact ((j4.take off).append hvs).append (j4.drop _)
    have heq:(z.toList.take off++vs++z.toList.drop (off+vs.length)).take cs.length=
      (z.toList.take cs.length).take off++vs++(z.toList.take cs.length).drop (off+vs.length):=by
     rw[OD,OD];have e1:(z.toList.take off).length=off:=by simp;omega
     rw[Oz,Oz];have e2:min cs.length off=off:=by omega
     have e3:min off cs.length=off:=by omega
     rw[e2,e3,e1];have e4:vs.take (cs.length-off)=vs:=Od (by omega);rw[e4];congr 1;rw[PM,Np,e1];congr 2;omega
    show aV S β _ (List.take _ _);rw[show (z.toList.take off++vs++z.toList.drop (off+vs.length)).toArray.toList=(z.toList.take off++vs++z.toList.drop (off+vs.length))from rfl,heq];exact hsp
   ·rcases ht.setCells with g|g
    ·exact absurd g (jV hoc t)
    ·exact absurd g (jV hoa t)
  ·rw[Pv (fun e=>hl e.symm)]at hl';refine .inl ⟨hl',fun b2 hlt hω=>⟨hω,ho b2 hlt ?_,fun o=>id⟩⟩;rintro rfl;rw[j3]at hω;cases hω;exact hl rfl
end
theorem MY{S:ay}{β:List bI}:{ps qs:List AV} ->{vs:List Value} ->aV S β (ps++qs) vs->∃u v,vs=u++v/\aV S β ps u/\aV S β qs v
 |[],_,vs,h=>⟨[],vs,rfl,by simp[aV],h⟩
 |_:: ps,qs,vs,h=>by
  simp only[NQ,aV]at h;obtain⟨x,xs,rfl,h1,h2⟩:=h;obtain⟨u,v,rfl,h3,h4⟩:=MY h2;exact⟨x:: u,v,rfl,by simp only[aV];exact⟨x,u,rfl,h1,h3⟩,h4⟩
section
variable [Dr] {α:Type} [Inhabited α] {P:Program}
end
def eG{α:Type}(k:Nat)(l:List α)(i:Nat):List α:=(l.drop (i*k)).take k
def sH{α:Type}{k n:Nat}{l:List α}(h:l.length=n*k){i:Nat}(hi:i<n):(eG k l i).length=k:=by
 have:i*k+k<=n*k:=by rw[<- Pi];exact NA _ hi
 simp only[eG,N8,Pq,h];omega
theorem p8{α:Type}{k:Nat}:(n:Nat)->{l:List α} ->l.length=n*k->((List.range n).map fun i=>eG k l i).flatten=l
 |0,l,h=>by simp at h;simp[h]
 | n+1,l,h=>by
  rw[List.range_succ_eq_map,NL,O1,Pk];have e:((fun i=>eG k l i) ∘ Nat.succ)=fun i=>eG k (l.drop k) i:=by
   funext i;simp only[Function.comp,eG,List.drop_drop,Pi];congr 2;omega
  rw[e,p8 n (l:=l.drop k) (by rw[Pq,h,Pi];omega)];simp[eG,List.take_append_drop]
def aV.chunk{S:ay}{β:List bI}{cs:List AV}{vs:List Value}(h:aV S β cs vs)(k i:Nat):aV S β (eG k cs i) (eG k vs i):=(h.drop (i*k)).take k
def om:List AV->Option (List UInt8)
 |.str s:: _=>some s
 |_=>none
def xy(x y:List UInt8):Int:=if aG x y=true then -1 else if aG y x=true then 1 else 0
def Du(keys:List (List UInt8))(n:Nat)(i j:Nat):Int:=xy keys[i % n]! keys[j % n]!
def gn(keys:List (List UInt8)):List Nat:=(pdq (ltOf (Du keys keys.length)) (Array.range keys.length) 0 (Array.range keys.length).size (Lib.bitLen (Array.range keys.length).size) true true).toList
def qH:List (List AV)->Option (List (List UInt8))
 |[]=>some []
 | c:: r=>match om c with
  |none=>none
  |some s=>match qH r with
   |none=>none
   |some l=>some (s:: l)
theorem s5:{cs:List (List AV)} ->{ks:List (List UInt8)} ->qH cs=some ks->ks.length=cs.length/\∀(i:Nat)(c:List AV),cs[i]? = some c->om c=some ks[i]!
 |[],ks,h=>by
  cases h;exact⟨rfl,fun i c hc=>by simp at hc⟩
 | c:: r,ks,h=>by
  unfold qH at h;cases hc:om c with
  |none=>rw[hc]at h;cases h
  | some s=>
   rw[hc]at h;simp only at h;cases hr:qH r with
   |none=>rw[hr]at h;cases h
   |some l=>
    rw[hr]at h;cases h;obtain⟨h1,h2⟩:=s5 hr;refine⟨by simp[h1],fun i d hd=>?_⟩;cases i with
    |zero=>simp at hd;subst hd;simpa using hc
    |succ i=>simpa using h2 i d (by simpa using hd)
theorem wi{nm:List AV->List UInt8}:{cs:List (List AV)} ->(∀c∈cs,om c=some (nm c))->qH cs=some (cs.map nm)
 |[],_=>rfl
 |c:: r,h=>by simp[qH,h c (by simp),wi (cs:=r) fun d hd=>h d (by simp[hd])]
def keysOf(k n:Nat)(row:List AV):Option (List (List UInt8)):=qH ((List.range n).map fun i=>eG k row i)
def gH(k g:Nat):(FuncId->List AV->M AV)->List AV->M AV:=fun _ args h=>match args with
 |[.sl [],.fn (.func g') [] []]=>bif Nat.beq g' g then .ok (.tup []) h else .fail
 |[.hn,.fn (.func g') [] []]=>bif Nat.beq g' g then .ok (.tup []) h else .fail
 | [.hs l off len sz _,.fn (.func g') [] []]=>match h[l]? with
  |none=>.fail
  |some cs=>match keysOf k len ((cs.drop off).take (len*k))with
   |none=>.fail
   | some keys=>bif Nat.beq g' g&&Nat.beq sz k&&decide (0<len)&&decide (0<k)&&decide (off+len*k<=cs.length)&&decide (keys.length=len)&&decide (len<4611686018427387904)&&decide ((gn keys).length=len)&&cs.all bh
     then .ok (.tup []) (h.set l (setCells cs off ((gn keys).map fun i=>eG k ((cs.drop off).take (len*k)) (i % len)).flatten))else .fail
 |_=>.fail
def gI:(FuncId->List AV->M AV)->List AV->M AV:=fun _ args=>match args with
 |[.str s,.int .u8 n]=>am (.int .i64 (Lib.indexByte s n.toNat.toUInt8))
 |_=>fA
section
variable [Dr] {P:Program}
omit [Dr]in
theorem Ax{S:ay}{β:List bI}{c:List AV}{s:List UInt8}{vs:List Value}(h:om c=some s)(hv:aV S β c vs):∃(x:ByteArray)(r:List Value),vs= .string x:: r/\x.data.toList=s:=by
 unfold om at h;split at h
 ·cases h;simp only[aV,VR]at hv;obtain⟨v,r,rfl,⟨x,rfl,hx⟩,_⟩:=hv;exact⟨x,r,rfl,hx⟩
 ·cases h
omit [Dr]in
theorem sg{k i:Nat}{l:List AV}{p:AV->Bool}(h:l.all p=true):(eG k l i).all p=true:=by
 rw[Nl]at h|-;exact fun x hx=>h x (List.mem_of_mem_drop (Pu hx))
theorem B8{f k g:Nat}(call:FuncId->List AV->M AV)
  (hcal:∀(w:World)(blk off cap:Nat)(keys:List (List UInt8))(ev:Nat->List Value),0<keys.length->(∀i,(ev i).length=k)->(∀i,∀v∈ev i,v.oneCell'=true)->(∀i,∃(x:ByteArray)(r:List Value),ev i= .string x:: r/\x.data.toList=keys[i % keys.length]!)->
   GOKw w->gN<=blk->HoldsK ev k w blk off (Array.range keys.length)->blk<w.heap.size->keys.length<4611686018427387904->
   Calls P f #[.slice (some ⟨blk,off,none⟩) keys.length cap,.func (.func g) #[] #[]] w fun e w'=>e= .returned (.tuple #[])/\∃n os,w'=sortWorldK ev k w blk off n (gn keys).toArray os)
  {l off len sz g':Nat} {ag:Bool} {h:Hp} {S:ay} {β:List bI} {w:World} {vs:List Value} (hr:gH k g call [.hs l off len sz ag,.fn (.func g') [] []] h≠.fail) (hg:pt S β h w) (hw:Wf S w) (hh:cS S β w h)
  (hv:aV S β [.hs l off len sz ag,.fn (.func g') [] []] vs):Calls P f vs.toArray w (eh none S β h w (gH k g call [.hs l off len sz ag,.fn (.func g') [] []] h)):=by
 unfold gH at hr |-;simp only at hr |-;cases hl:h[l]? with
 |none=>rw[hl]at hr;exact absurd rfl hr
 | some cs=>
  rw[hl]at hr;simp only at hr |-;generalize hrow:(cs.drop off).take (len*k)=row at hr |-;cases hd:keysOf k len row with
  |none=>rw[hd]at hr;exact absurd rfl hr
  | some keys=>
   rw[hd]at hr;simp only at hr |-;cases hc:(Nat.beq g' g&&Nat.beq sz k&&decide (0<len)&&decide (0<k)&&decide (off+len*k<=cs.length)&&decide (keys.length=len)&&decide (len<4611686018427387904)&&decide ((gn keys).length=len)&&cs.all bh)with
   |false=>rw[hc]at hr;exact absurd rfl hr
   | true=>
    simp only[M5,M8]at hc;obtain⟨⟨⟨⟨⟨⟨⟨⟨c1,c2⟩,c3⟩,hpos⟩,c4⟩,c5⟩,c6⟩,c7⟩,c8⟩:=hc;obtain rfl:=Nat.eq_of_beq_eq_true c1;obtain rfl:=Nat.eq_of_beq_eq_true c2;simp only[M6];have hlk:0<len*sz:=OS c3 hpos;have hne:cs≠[]:=by rintro rfl;simp at c4;omega
    simp only[aV]at hv;obtain⟨v1,r1,rfl,hv1,v2,r2,rfl,hv2,rfl⟩:=hv;obtain⟨⟨b,nb⟩,cap,hb,hb0,rfl,k1,k2⟩:=hv1.hs_pos c3;simp only[VR,aV]at hv2;obtain⟨y1,y2,rfl,rfl,rfl⟩:=hv2;have hh':=hh;obtain⟨hlen,ω,hH⟩:=hh;obtain⟨z,j1,j2,j3,j4,j5⟩:=e9.cells hH hl hne hb hb0;rw[hb]at j1;cases j1;have hzs:cs.length<=z.size:=by
     have:=j4.length
     simp at this;omega
    have hown:ci β h b:=⟨l,cs,_,hl,hne,hb⟩;have hgb:gN<=b:=by
     rcases NE b gN with k|k
     ·exact absurd hown (hg.2.1 b k)
     ·exact k
    have hrl:row.length=len*sz:=by rw[<- hrow,N8,Pq];omega
    have hvx:=(j4.drop off).take (len*sz);rw[hrow]at hvx;generalize hvr:(((z.toList.take cs.length).drop off).take (len*sz))=vr at hvx;have hvl:vr.length=len*sz:=by rw[hvx.length,hrl]
    have hro:row.all bh=true:=by
     rw[Nl]at c8 |-;rw[<- hrow];exact fun x hx=>c8 x (List.mem_of_mem_drop (Pu hx))
    have hmod:∀i,i % len<len:=fun i=>PO _ c3;obtain⟨hk1,hk2⟩:=s5 hd;let ev:Nat->List Value:=fun i=>eG sz vr (i % len);have hev:∀i,(ev i).length=sz:=fun i=>sH hvl (hmod i);have hea:∀i,(eG sz row (i % len)).length=sz:=fun i=>sH hrl (hmod i);have hre:∀i,aV S β (eG sz row (i % len)) (ev i):=fun i=>hvx.chunk sz (i % len);have hrange:(List.range len).map ev=(List.range len).map fun i=>eG sz vr i:=OK fun i hi=>by
     show eG sz vr (i % len)=_;rw[Nat.mod_eq_of_lt (List.mem_range.1 hi)]
    have hflat:(flatK ev sz (Array.range keys.length)).toList=vr:=by
     rw[qt ev sz hev hpos,Array.toList_range,c5,hrange,p8 len hvl]
    have hsz:(flatK ev sz (Array.range keys.length)).size=len*sz:=by rw[size_flatK];simp[c5]
    have hholds:HoldsK ev sz w b off (Array.range keys.length):=by
     intro j hj;rw[hsz]at hj;have e1:(flatK ev sz (Array.range keys.length))[j]! = z[off+j]'(by omega):=by
      have h1:(flatK ev sz (Array.range keys.length)).toList[j]? = z.toList[off+j]?:=by
       rw[hflat,<- hvr,Oa,Nn hj,Ox,Oa,Nn (by omega)]
      rw[Oi,Oi,NY (by omega),NY (by omega)]at h1;rw[Nt _ j (by omega)];exact Of h1
     rw[e1];refine⟨by rw[j2.cell,NY (by omega)];rfl,?_⟩;obtain⟨e,he⟩:=j2;simp[World.frozen?,he]
    have hkey:∀i,∃(x:ByteArray)(r:List Value),ev i= .string x:: r/\x.data.toList=keys[i % keys.length]!:=fun i=>by
     refine Ax ?_ (hre i);rw[c5];exact hk2 (i % len) _ (by rw[OZ,List.getElem?_range (hmod i)];rfl)
    have hone:∀i,∀v∈ev i,v.oneCell'=true:=fun i=>CH (hre i) (sg hro);have hcall:=hcal w b off cap keys ev (by omega) hev hone hkey hg.1 hgb hholds j2.lt (by omega);rw[c5]at hcall;refine hcall.mono ?_;rintro e w' ⟨rfl,n,os,rfl⟩;have hfl2:=qt ev sz hev hpos (gn keys).toArray;have hs2:(flatK ev sz (gn keys).toArray).size=len*sz:=by rw[size_flatK];simp[c7]
    have hal:((gn keys).map fun i=>eG sz row (i % len)).flatten.length=len*sz:=by rw[oW (fun i=>eG sz row (i % len)) sz hea,c7]
    have hvv:∀p:List Nat,aV S β (p.map fun i=>eG sz row (i % len)).flatten (p.map ev).flatten:=by
     intro p
     induction p with
     |nil=>simp[aV]
     |cons i p ih=>simp only[NL,Pk];exact (hre i).append ih
    have hok:((gn keys).map fun i=>eG sz row (i % len)).flatten.all bh=true:=by
     rw[List.all_flatten,List.all_map];exact Nl.2 fun i _=>sg hro
    refine⟨S,β,_,rfl,by simp only[VR,aV];exact⟨[],rfl,rfl⟩,Ck (vs:=(flatK ev sz (gn keys).toArray).toList) hw hh' hl hne hb hb0 (by rw[hfl2];exact hvv _) (by rw[hal];exact c4) c8 hok (C4 ev sz off n _ os) (fun x hx hle=>?_) (fun b' hlt hne2=>rq ev sz off n _ os hlt hne2),fun _ hsz=>by cases hsz⟩
    have:=Da hx ev sz off n (gn keys).toArray os (by simp only[OJ,c7];omega)
    exact this
end
end Go.Av
namespace Go.Av.Ap
def ig(l:List Ty):AV:=.sl (l.map Ty.av)
structure Sig where
 name:aQ
 params:List Ty
 result:Ty
 effects:Int
 deriving Inhabited
structure Face where
 module:aQ
 funcs:List Sig
 deriving Inhabited
structure Vsn where
 major:Int
 minor:Int
 patch:Int
 deriving Inhabited,DecidableEq
def Sig.cells(s:Sig):List AV:=[.str s.name,ig s.params,.int .i64 s.result.kind,aO s.result.fields,.int .i64 s.effects]
def Sig.av(s:Sig):AV:=.agg s.cells
def sigs(l:List Sig):AV:=.sl (l.map Sig.av)
def Face.cells(f:Face):List AV:=[.str f.module,sigs f.funcs]
def Face.av(f:Face):AV:=.agg f.cells
def BR(l:List Face):AV:=.sl (l.map Face.av)
def Vsn.av(v:Vsn):AV:=.agg [.int .i64 v.major,.int .i64 v.minor,.int .i64 v.patch]
@[simp] theorem ca(s:Sig):af s.av=[.str s.name,ig s.params,.int .i64 s.result.kind,aO s.result.fields,.int .i64 s.effects]:=rfl
@[simp] theorem dM(f:Face):af f.av=[.str f.module,sigs f.funcs]:=rfl
@[simp] theorem FD(v:Vsn):af v.av=[.int .i64 v.major,.int .i64 v.minor,.int .i64 v.patch]:=rfl
@[simp] theorem fF(s:Sig):AV.agg [.str s.name,ig s.params,.int .i64 s.result.kind,aO s.result.fields,.int .i64 s.effects]=s.av:=rfl
@[simp] theorem lK(f:Face):AV.agg [.str f.module,sigs f.funcs]=f.av:=rfl
@[simp] theorem J7(v:Vsn):AV.agg [.int .i64 v.major,.int .i64 v.minor,.int .i64 v.patch]=v.av:=rfl
@[simp] theorem ny(t:Ty):cM 2 t.av=true:=by simp[cM,bh,aO]
@[simp] theorem Ks(l:List Ty):dS 2 (l.map Ty.av)=true:=ey ny l
@[simp] theorem KJ(s:Sig):dA s.av=some 5:=rfl
@[simp] theorem HX(s:Face):dA s.av=some 2:=rfl
@[simp] theorem KM(s:Vsn):dA s.av=some 3:=rfl
@[simp] theorem nv(s:Sig):cM 5 s.av=true:=by simp[cM,bh,aO,ig]
@[simp] theorem AH(s:Face):cM 2 s.av=true:=by simp[cM,bh,sigs]
@[simp] theorem Kr(s:Vsn):cM 3 s.av=true:=rfl
@[simp] theorem HS(l:List Sig):dS 5 (l.map Sig.av)=true:=ey nv l
@[simp] theorem Hf(l:List Face):dS 2 (l.map Face.av)=true:=ey AH l
@[simp] theorem Gr(g:Nat->Nat->Nat->Nat->Bool->AV)(l:List Ty):cl g (ig l)=ig l:=by grind [ig,cl,fp,jI]
@[simp] theorem iS(g:Nat->Nat->Nat->Nat->Bool->AV)(s:Sig):cl g s.av=s.av:=by unfold Sig.av Sig.cells;simp only[cl,fo,Gr,kk]
@[simp] theorem D3(g:Nat->Nat->Nat->Nat->Bool->AV)(l:List Sig):cl g (sigs l)=sigs l:=by grind [sigs,cl,fp,iS]
@[simp] theorem eM(g:Nat->Nat->Nat->Nat->Bool->AV)(s:Face):cl g s.av=s.av:=by grind [Face.av,Face.cells,cl,fo,D3]
@[simp] theorem JP(g:Nat->Nat->Nat->Nat->Bool->AV)(l:List Face):cl g (BR l)=BR l:=by grind [BR,cl,fp,eM]
@[simp] theorem Lt(g:Nat->Nat->Nat->Nat->Bool->AV)(s:Vsn):cl g s.av=s.av:=by unfold Vsn.av;simp only[cl,fo]
@[simp] theorem KX(v:Ty):aP (am v.av)=am v.av:=bD fun g=>jI g v
@[simp] theorem Kh(v:Sig):aP (am v.av)=am v.av:=bD fun g=>iS g v
@[simp] theorem HB(v:Face):aP (am v.av)=am v.av:=bD fun g=>eM g v
end Go.Av.Ap
namespace Go.Av
open Go.Av.Ap
def E0:Nat->AV->Bool
 |0,_=>false
 |d+1,.agg [.int .i64 _,.sl fs]=>decide (fs.length<=100)&&fs.all fun f=>match f with
  |.agg [.str _,.int .i64 k,.sl gs]=>E0 d (.agg [.int .i64 k,.sl gs])
  |_=>false
 |_,_=>false
def lI:(FuncId->List AV->M AV)->List AV->M AV:=fun _ args=>match args with
 |[v]=>bF (bif E0 6 v then some v else none)
 |_=>fA
def kN:Nat->Ty->Prop
 |0,_=>False
 |d+1,t=>t.fields.length<=100/\∀f∈t.fields,kN d f.2
theorem ye:∀(d:Nat)(t:Ty),kN d t->kN (d+1) t
 |0,_,h=>h.elim
 |d+1,_t,h=>⟨h.1,fun f hf=>ye d f.2 (h.2 f hf)⟩
theorem Dj:∀(d:Nat)(t:Ty),kN d t->E0 d t.av=true
 |0,_,h=>h.elim
 | d+1,t,h=>by
  cases t with
  |mk k fs=>
   show E0 (d+1) (.agg [.int .i64 k,.sl (eV fs)])=true;simp only[E0,M5,M8,Nl];refine⟨by rw[de,N7];exact h.1,fun v hv=>?_⟩;rw[de]at hv;obtain⟨f,hf,rfl⟩:=Ou.1 hv;rw[fg];show E0 d (.agg [.int .i64 f.2.kind,.sl (eV f.2.fields)])=true
   have:=Dj d f.2 (h.2 f hf)
   cases hf2:f.2 with
   |mk k2 gs=>rw[hf2]at this;exact this
theorem ql{α β:Type}{f:β->α}{P:β->Prop}:(l:List α)->(∀a∈l,∃b,a=f b/\P b)->∃m:List β,l=m.map f/\∀b∈m,P b
 |[],_=>⟨[],rfl,by simp⟩
 |a:: l,h=>by
  obtain⟨b,rfl,hb⟩:=h a List.mem_cons_self;obtain⟨m,rfl,hm⟩:=ql l fun a ha=>h a (O6 _ ha);exact⟨b:: m,rfl,fun c hc=>by rcases NT.1 hc with rfl|hc;exact hb;exact hm c hc⟩
theorem xb:∀(d:Nat)(v:AV),E0 d v=true->∃t:Ty,v=t.av/\kN d t
 |0,_,h=>by cases h
 | d + 1,v,h=>by
  unfold E0 at h;split at h
  ·cases h
  ·rename_i k fs e;obtain rfl:=Nat.succ.inj e;simp only[M5,M8,Nl]at h;have key:∀a∈fs,∃f:cO,a=bm f/\kN d f.2:=by
    intro a ha;have h2:=h.2 a ha;split at h2
    ·rename_i n k' gs;obtain⟨t,h3,h4⟩:=xb d _ h2;refine⟨(n,t),?_,h4⟩;rw[fg];have h5:t.av= .agg [.int .i64 t.kind,aO t.fields]:=by cases t;rfl
     rw[h5]at h3;simp only[AV.agg.injEq,Pb,PN]at h3;rw[<- h3.1,<- h3.2]
    ·cases h2
   obtain⟨m,rfl,hm⟩:=ql fs key;refine⟨.mk k m,?_,?_,hm⟩
   ·show _=AV.agg [.int .i64 k,.sl (eV m)];rw[de]
   ·have:=h.1
    rw[N7]at this;exact this
  ·cases h
end Go.Av
namespace Go.Av
def z8:(FuncId->List AV->M AV)->List AV->M AV:=fun _ args=>match args with
 |[.int .i64 n]=>bif decide (-9223372036854775808<=n)&&decide (n<=0)then am (.str (dt 20 n.natAbs))else fA
 |_=>fA
end Go.Av
namespace Go.Av
variable [Dr]
section
variable {c:Entry} {N:Nat} {U:Nat->Prop} {e:Env} {h:Hp} {a:Act} {w:World} {S:ay} {β:List bI} {γ:Nat->Value} {lam:Nat->Option Nat} {ω:Nat->Owner}
theorem FR.dead(H:FR c N U e h a w S β γ lam ω){l b:Nat}(hd:∀cs,h[l]? = some cs->cs=[])(hb:ω b= .heap l)(hS:∀o,S b o=none){w':World}(hg:Gro w w')(hsz:w'.heap.size=w.heap.size)(hold:∀k,k≠b->w'.heap[k]? = w.heap[k]?):
  FR c N U e h a w' S β γ lam ω:=by
 have hωb:∀k,ω k≠.heap l->k≠b:=fun k hk=>by rintro rfl;exact hk hb
 have hother:∀k,ω k≠.heap l->w'.heap[k]? = w.heap[k]?:=fun k hk=>hold k (hωb k hk);refine⟨fun k o v hv=>?_,H.gro.trans hg,fun k hk hE=>?_,H.le,H.ext,H.hlen,?_,H.tsz,H.slots,H.grps,?_,?_,fun k hk=>⟨(H.mine k hk).1,by rw[hsz];exact (H.mine k hk).2⟩,H.used⟩
 ·have hkb:k≠b:=by rintro rfl;rw[hS]at hv;cases hv
  rw[cell_of_heap (hold k hkb)];exact H.wf k o v hv
 ·have hkb:k≠b:=by
   rintro rfl
   have:=(H.mine k (by rw[hb];simp)).1.low
   rcases this with h|h
   ·exact hE h
   ·omega
  have:=H.keep k hk hE
  exact⟨by rw[hold k hkb];exact this.1,this.2⟩
 ·refine H.heap.rows (ay.le_refl S) (fN.refl β) H.hlen fun j ds hj hne=>.inl ⟨hj,fun k _ ho=>⟨ho,hother k ?_,fun o h=>h⟩⟩;rw[ho];simp only[ne_eq,Owner.heap.injEq];rintro rfl;exact hne (hd ds hj)
 ·intro B n hB;obtain⟨k1,k2,k3,k,z,k4,k5,k6,k7,k8⟩:=H.lblk B n hB;exact⟨k1,k2,k3,k,z,k4,k5.of_eq (hother k (by rw[k6];simp)),k6,k7,k8⟩
 ·intro g z hg;obtain⟨a',len,cap,g1,g2,g3,g4⟩:=H.free g z hg;refine⟨a',len,cap,g1,g2,g3,g4.imp id ?_⟩;rintro⟨sz,k,off,z',k1,k2,k3,k4,k5,k6⟩;exact⟨sz,k,off,z',k1,k2,k3.of_eq (hother k (by rw[k5];simp)),k4,k5,k6⟩
end
section
variable {S:ay} {β:List bI} {h:Hp} {w:World}
theorem FR.cpost{e:Env}{h':Hp}{a:Act}{N:Nat}{U:Nat->Prop}{w':World}{S':ay}{β':List bI}{γ:Nat->Value}{lam:Nat->Option Nat}{ω:Nat->Owner}{hg:pt S β h w}(F:FR { w,S,β,E:=ci β h,gok:=hg } N U e h' a w' S' β' γ lam ω){r:AV}{v:Value}(hv:VR S' β' r v):
  eh none S β h w (.ok r h') (.returned v) w':=⟨S',β',v,rfl,hv,F.out,fun sz hsz=>by cases hsz⟩
theorem xA(hg:pt S β h w)(hw:Wf S w)(hh:cS S β w h){l b n:Nat}{cs cs':List AV}{x y:Array Value}(hl:h[l]? = some cs)(hne:cs≠[])(hb:β[l]? = some (b,n))(hrow:Row w b x)(hys:y.size=x.size)(hcs:aV S β cs' (y.toList.take cs'.length))(htag:∀t,cT t cs'->cT t cs):eh none S β h w (.ok (.tup []) (h.set l cs')) (.returned (.tuple #[])) (w.setRow b y):=by
 obtain⟨γ,lam,ω,F⟩:=yB (args:=[]) (vs:=[]) (n:=0) hg hw hh (by simp[aV]) (M7 _) (by omega);exact (F.turnH hl hne ⟨n,hb⟩ hrow hys hcs htag).cpost (by simp only[VR];exact⟨[],rfl,by simp[aV]⟩)
theorem xz(hg:pt S β h w)(hw:Wf S w)(hh:cS S β w h){l b n:Nat}{cs:List AV}(hl:h[l]? = some cs)(hne:cs≠[])(hb:β[l]? = some (b,n)){w':World}(hgr:Gro w w')(hsz:w'.heap.size=w.heap.size)(hold:∀k,k≠b->w'.heap[k]? = w.heap[k]?){r:AV}{v:Value}(hv:VR S β r v):eh none S β h w (.ok r (h.set l [])) (.returned v) w':=by
 obtain⟨γ,lam,ω,F⟩:=yB (args:=[]) (vs:=[]) (n:=0) hg hw hh (by simp[aV]) (M7 _) (by omega);obtain⟨b',n',k1,k2,k3,k4⟩:=F.heap.own hl hne;rw[hb]at k1;simp only[M4,N9]at k1;obtain⟨rfl,rfl⟩:=k1;refine ((F.killH l).dead (l:=l) (fun cs' h'=>?_) k3 k4 hgr hsz hold).cpost hv;rw[NP]at h';simp only[Nj]at h';split at h'
 ·simpa using h'.symm
 ·cases h'
end
end Go.Av
namespace Go.Av.Ap
open Go Go.Av
def Val.limN:Nat->Val->Prop
 |0,_=>True
 |n+1,v=>v.names.length<=140737488355328/\v.values.length<=140737488355328/\∀x∈v.values,x.limN n
def Val.Lim(v:Val):Prop:=∀n,v.limN n
def Exp.limN:Nat->Exp->Prop
 |0,_=>True
 |n+1,v=>v.names.length<=8796093022208/\v.args.length<=140737488355328/\∀x∈v.args,x.limN n
def Exp.Lim(v:Exp):Prop:=∀n,v.limN n
def Ty.limN:Nat->Ty->Prop
 |0,_=>True
 |n+1,v=>v.fields.length<=140737488355328/\∀x∈v.fields,x.2.limN n
def Ty.Lim(v:Ty):Prop:=∀n,v.limN n
def Val.Lim.names{v:Val}(h:v.Lim):v.names.length<=140737488355328:=(h 1).1
def Val.Lim.len{v:Val}(h:v.Lim):v.values.length<=140737488355328:=(h 1).2.1
def Val.Lim.kid{v:Val}(h:v.Lim){x:Val}(hx:x∈v.values):x.Lim:=fun n=>(h (n+1)).2.2 x hx
def Exp.Lim.names{v:Exp}(h:v.Lim):v.names.length<=8796093022208:=(h 1).1
def Exp.Lim.len{v:Exp}(h:v.Lim):v.args.length<=140737488355328:=(h 1).2.1
def Exp.Lim.kid{v:Exp}(h:v.Lim){x:Exp}(hx:x∈v.args):x.Lim:=fun n=>(h (n+1)).2.2 x hx
def Ty.Lim.len{v:Ty}(h:v.Lim):v.fields.length<=140737488355328:=(h 1).1
def Ty.Lim.kid{v:Ty}(h:v.Lim){x:cO}(hx:x∈v.fields):x.2.Lim:=fun n=>(h (n+1)).2 x hx
structure Fun.Lim (f:Fun):Prop where
 params:f.params.length<=140737488355328
 pty:∀x∈f.params,x.2.Lim
 result:f.result.Lim
 body:f.body.Lim
structure Mod.Lim (m:Mod):Prop where
 uses:m.uses.length<=140737488355328
 vars:m.vars.length<=140737488355328
 vty:∀x∈m.vars,x.2.Lim
 init:m.init.length<=140737488355328
 ies:∀e∈m.init,e.Lim
 funcs:m.funcs.length<=140737488355328
 fns:∀f∈m.funcs,f.Lim
 old:m.old.length<=140737488355328
 oty:∀x∈m.old,x.2.Lim
 forward:m.forward.length<=140737488355328
 fes:∀e∈m.forward,e.Lim
 back:m.back.length<=140737488355328
 bes:∀e∈m.back,e.Lim
section
variable {α:Type} {f:α->AV} {sz:Nat}
def rowOf(f:α->AV)(l:List α):List AV:=(l.map f).flatMap af
theorem kC(x:α)(l:List α):rowOf f (x:: l)=af (f x)++rowOf f l:=by simp[rowOf]
theorem dI(hs:∀x,(af (f x)).length=sz):(l:List α)->(rowOf f l).length=l.length*sz
 |[]=>by simp[rowOf]
 |x:: l=>by rw[kC,Np,hs,dI hs l,Nr,Pi];omega
theorem dV(hs:∀x,(af (f x)).length=sz):(l:List α)->(i:Nat)->(h:i<l.length)->((rowOf f l).drop (i*sz)).take sz=af (f l[i])
 |x:: l,0,_=>by
  simp_all[kC]
 |x:: l,i+1,h=>by
  rw[kC,show (i+1)*sz=(af (f x)).length+i*sz by grind,List.drop_append,Nc (by omega),Nat.add_sub_cancel_left,NF];simpa using dV hs l i (by simpa using h)
theorem r8{cs xs:List AV}{off:Nat}(h:(cs.drop off).take xs.length=xs):setCells cs off xs=cs:=by
 grind [setCells,List.drop_drop,List.take_append_drop]
theorem lL(hs:∀x,(af (f x)).length=sz)(hag:∀x,f x= .agg (af (f x)))(hcl:∀x g,cl g (f x)=f x)(hz:0<sz){h:Hp}{q:Nat}{l:List α}(hq:h[q]? = some (rowOf f l))(d:Nat):
  gG (d+1) h (.hs q 0 l.length sz true)= .sl (l.map f):=by
 have hlen:=dI (f:=f) hs l;simp only[gG,cl,hq];have h1:(decide (0+l.length*sz<=(rowOf f l).length)&&decide (0<sz)&&(true||(Nat.beq sz 1&&(rowOf f l).all bh)))=true:=by
  simp[hlen,hz]
 rw[h1,M6];congr 1;apply Pr
 ·simp
 ·intro i h2 h3;have hi:i<l.length:=by simpa using h2
  simp only[List.getElem_map,List.getElem_range,NB,M6];rw[dV hs l i hi,<- hag];cases d with
  |zero=>exact hcl _ _
  |succ d=>exact hcl _ _
theorem qd{T:TT}{t e:Nat}{ti ei:TI}(ht:T t=some ti)(hk:ti.kind= .slice e)(he:T e=some ei)(h4:ei.size=sz)(hag:ei.agg=true)(hb:0<ei.bytes)(hz:0<sz)(hok:∀x,cM sz (f x)=true)(call:FuncId->List AV->M AV)(l:List α)(hc:l.length*ei.bytes<=140737488355328)(h:Hp):
  dX T t call [.sl (l.map f)] h=if l=[]then .ok (.sl []) h else .ok (.hs h.length 0 l.length sz true) (h++[rowOf f l]):=by
 have h1:dS sz (l.map f)=true:=ey hok l;cases l with
 |nil=>simp_all[dX,appH,iv,lz]
 |cons v l=>
  have hne:((v:: l).map f).isEmpty=false:=rfl;simp_all[dX,appH,iv,lz,rowOf]
end
def ov{T:TT}{t:Nat}{ti:TI}{q off:Nat}{cs:List AV}{h:Hp}(ht:T t=some ti)(hag:ti.agg=true)(hq:h[q]? = some cs)(hle:off+ti.size<=cs.length):eI T t (.hp q off) h= .ok (.agg ((cs.drop off).take ti.size)) h:=by
 simp_all[eI]
def pm{T:TT}{t:Nat}{ti:TI}{q off:Nat}{cs:List AV}{v:AV}{h:Hp}(ht:T t=some ti)(hq:h[q]? = some cs)(hok:cM ti.size v=true)(hle:off+ti.size<=cs.length)(h0:0<ti.size)(hsame:(cs.drop off).take (af v).length=af v):
  da T t (.hp q off) v h= .ok (.tup []) h:=by
 simp only[da,ht,hq,hok,NJ hle,NJ h0,O9,M6]
 grind [r8,List.set_getElem_self]
def fJ(b:UInt8):Bool:=decide (97<=b.toNat)&&decide (b.toNat<=122)
def kZ(b:UInt8):Bool:=decide (48<=b.toNat)&&decide (b.toNat<=57)
def iO(b:UInt8):Bool:=fJ b||kZ b
def iA(s:aQ):Bool:=!(s== [])&&fJ (s.headD 0)&&decide (s.length<=20)&&((s.takeWhile iO).length== s.length)
def jZ:aQ:=[32,97,110,100,32,98,97,99,107,32,98,111,111,108,32,99,108,111,99,107,32,101,108,115,101,32,102,97,108,115,101,32,102,105,108,101,115,32,102,110,32,102,111,114,119,97,114,100,32,103,101,116,32,105,102,32,105,110,32,105,110,116,32,108,101,116,32,109,111,100,117,108,101,32,109,111,118,101,32,110,101,116,32,110,111,116,32,111,114,32,112,117,98,32,115,101,99,114,101,116,115,32,115,101,116,32,116,104,101,110,32,116,114,117,101,32,117,115,101,32,118,97,114,32]
def bg(s:aQ):Bool:=iA s&&!(Lib.contains jZ ([32]++s++[32]))
def tD{s:aQ}(h:iA s=true):s.length<=20:=by
 simp_all[iA]
def dp(p f:aQ):Bool:=!(aG f p||f== p)
def gz{α:Type}(Q:α->α->Bool):List α->Bool
 |x:: y:: r=>Q x y&&gz Q (y:: r)
 |_=>true
theorem uZ{α:Type}[Inhabited α](Q:α->α->Bool):(l:List α)->(gz Q l=true↔∀k,k+1<l.length->Q l[k]! l[k+1]! = true)
 |[]=>by simp[gz]
 |[x]=>by simp[gz]
 | x:: y:: r=>by
  simp only[gz,M5,uZ Q (y:: r)];constructor
  ·rintro⟨h1,h2⟩ k hk;cases k with
   |zero=>simpa using h1
   |succ k=>grind
  ·intro h;refine⟨by simpa using h 0 (by simp),fun k hk=>?_⟩;simpa using h (k+1) (by simpa using hk)
def mT{α:Type}[Inhabited α](P:α->Bool)(Q:α->α->Bool)(l:List α):(List.range' 0 l.length).all (fun k=>P l[k]! && (decide (k=0)||Q l[k-1]! l[k]!))=(l.all P&&gz Q l):=by
 rw[N1,M5,<- mm P l,uZ]
 grind
def bw:Nat->Ty->Bool
 |0,_=>false
 |d+1,t=>decide (0<=t.kind)&&decide (t.kind<3)&&decide (t.fields.length<=8)&&(t.kind== 2||t.fields.length== 0)&&(t.fields.all (fun f=>bg f.1&&bw d f.2)&&gz (fun a b=>dp a.1 b.1) t.fields)
theorem cG(d:Nat)(t:Ty):bw (d+1) t=(decide (0<=t.kind)&&decide (t.kind<3)&&decide (t.fields.length<=8)&&(t.kind== 2||t.fields.length== 0)&&(t.fields.all (fun f=>bg f.1&&bw d f.2)&&gz (fun a b=>dp a.1 b.1) t.fields)):=rfl
abbrev bu(t:Ty):Bool:=bw 4 t
mutual
def xn:Ty->Ty->Bool
 |.mk k fs,a=>a.kind== k&&pu fs a.fields
def pu:List (aQ×Ty)->List cO->Bool
 |[],_=>true
 |f:: fs,l=>xo f l&&pu fs l
def xo:aQ×Ty->List cO->Bool
 |(n,t),l=>match cC (fun z=>z.1== n) l with
  |some z=>xn t z.2
  |none=>false
end
def iP(a b:Ty):Bool:=xn b a
theorem oM:(fs:List cO)->(l:List cO)->pu fs l=fs.all fun f=>xo f l
 |[],_=>rfl
 |f:: fs,l=>by simp[pu,oM fs l]
def sA(a b:Ty):iP a b=(a.kind== b.kind&&b.fields.all fun f=>match cC (fun z=>z.1== f.1) a.fields with|some z=>iP z.2 f.2|none=>false):=by
 cases b with
 |mk k fs=>
  grind [xn,oM,Ty.kind,Ty.fields,xo,iP]
def lC(a b:Ty):Bool:=bu a&&bu b&&iP a b
def dB(a b:Int):Int:=IntKind.i64.wrap (BitVec.ofInt 64 a &&& ~~~ BitVec.ofInt 64 b).toNat
def Dg(a b:Sig):Bool:=eK lC b.params a.params&&lC a.result b.result&&(dB a.effects b.effects== 0)
def cH(s:Sig):Bool:=bg s.name&&decide (s.params.length<=6)&&(dB s.effects 15== 0)&&bu s.result&&s.params.all bu
def cI(f:Face):Bool:=bg f.module&&decide (f.funcs.length<=30)&&(f.funcs.all cH&&gz (fun a b=>aG a.name b.name) f.funcs)
def m9(f:Face)(name:aQ):Option Sig:=f.funcs.find? fun s=>s.name== name
structure Sig.Lim (s:Sig):Prop where
 plen:s.params.length<=140737488355328
 ptys:∀t∈s.params,t.Lim
 result:s.result.Lim
structure Face.Lim (f:Face):Prop where
 len:f.funcs.length<=140737488355328
 sigs:∀s∈f.funcs,s.Lim
@[simp] theorem mo(x:Sig):cy 5 x.av=am x.av:=by simp_all
@[simp] theorem iB(x:Sig):aI 5 [] x.av=am x.av:=by simp_all
end Go.Av.Ap
namespace Go.Av
variable [Dr]
open Go.RowKit Go.WideShapes Go.ChangeShapes
theorem Left.below{S S':ay}{β β':List bI}{w w':World}{h':Hp}(L:Left (ci [] []) S β w S' β' w' h'):Below w.heap.size w w':=
 ⟨L.gro.os,L.gro.tape,L.gro.out,L.gro.size,fun k hk=>(L.keep k hk (by rintro⟨l,_,_,h1,_⟩;simp at h1)).1⟩
def kf(W:World):ay:=fun b o=>W.cell? ⟨b,o,none⟩
omit [Dr]in
theorem DD(W:World):Wf (kf W) W:=fun _ _ _ h=>h
omit [Dr]in
theorem An{W:World}(h:GOKw W):pt (kf W) [] [] W:=⟨h,fun b _ ho=>by obtain⟨l,_,_,h1,_⟩:=ho;simp at h1,zG h⟩
theorem AA{P:Program}{p:Pg}(G:GoodPg P p)(hO:dK p){f:FuncId}{args:List AV}{vs:List Value}{W:World}(hg:GOKw W)(hv:aV (kf W) [] args vs)(ht:ab p f args []= .ok (.bool true) []):Calls P f vs.toArray W fun e W'=>e= .returned (.bool true)/\Below W.heap.size W W':=by
 have h:=(kX G hO f args [] (kf W) [] W vs (by rw[ht];simp) (An hg) (DD W) ⟨rfl,fun _=>.no,fun l cs hl=>by simp at hl⟩ hv).1;rw[ht]at h;refine h.mono fun e W' hp=>?_;obtain⟨S',β',v,rfl,hv,L,_⟩:=hp;simp only[VR]at hv;subst hv;exact⟨rfl,L.below⟩
section
variable {H:Type} {enc:TypeId×Value->H} {P:Program}
omit [Dr]in
theorem rW{f:Func}{s:ChangeSpec}{apart fresh handsOn again:Bool}{W W':World}{args:Array Value}{v:Value}{ds gs:List (DataW H)}{before pa pv:List MemPlace}(hW:DataW.Whole enc P f.params.toList s.vars apart W args.toList ds gs before)(hres:∀(b:Nat)(sp:Nat->Bool)(hd:Bool),DataW.TrodAll enc P W' b sp hd f.resultTypes.toList (v.resultList f.resultTypes.size) (s.fn H (ds++gs)).results [])(hargs:∀sp:Nat->Bool,(∀p∈before,sp p.block=true)->DataW.TrodAll enc P W' 0 sp true f.params.toList args.toList (s.fn H (ds++gs)).args pa)(hvars:∀sp:Nat->Bool,(∀p∈before,sp p.block=true)->DataW.TrodVars enc P W' sp s.vars (s.fn H (ds++gs)).vars pv)(hps:before=pa++pv)(hb:Below W.heap.size W W')(hok:∀(j:Nat)(t:TypeId)(r:Value),f.resultTypes[j]? = some t->(v.resultList f.resultTypes.size)[j]? = some r->Value.okWide P W' .any 0 t r):
  s.post enc P f apart fresh handsOn again W args v W':=by
 have hlt:∀p∈before,p.block<W.heap.size:=fun p hp=>hW.lt p hp;have hold:∀p∈before,(fun b=>decide (b<W.heap.size)) p.block=true:=fun p hp=>by grind
 refine⟨ds,gs,before,[],pa,pv,hW,hres _ _ _,hargs _ hold,hvars _ hold,World.keptBut_mono (fun p hp=>⟨hp,?_⟩) (hb.frame (· ∈before)),fun _=>?_⟩
 ·grind
 ·obtain⟨_,_,_,_,_,hz,hn⟩:=hW;refine⟨hok,_,_,([]++pa)++pv,⟨[]++pa,pv,trodAll_append (hargs _ (fun _ _=>rfl)) (hres _ _ _),hvars _ (fun _ _=>rfl),rfl,?_,?_⟩,?_⟩
  ·intro b off hp;have hin:MemPlace.cell b off∈before:=by rw[hps];simpa using hp
   rw[hb.frozen (hlt _ hin)];exact hz b off hin
  all_goals grind
end
end Go.Av
namespace Go.Av.Ap
open Go Go.Av
theorem eA:(a:aQ)->aG a a=false
 |[]=>rfl
 |x:: a=>by simp[aG,eA a]
theorem dn:(a b c:aQ)->aG a b=true->aG b c=true->aG a c=true
 |_,[],c,h,_=>by cases ‹aQ› <;> simp[aG]at h
 |_,_:: _,[],_,h=>by simp[aG]at h
 |[],_:: _,_:: _,_,_=>by simp[aG]
 | x:: a,y:: b,z:: c,h1,h2=>by
  simp only[aG,NU,M5,M8,NW,UInt8.lt_iff_toNat_lt]at h1 h2 |-;rcases h1 with h1|⟨rfl,h1⟩
  ·grind
  ·rcases h2 with h2|⟨rfl,h2⟩
   ·exact .inl h2
   ·exact .inr ⟨rfl,dn a b c h1 h2⟩
theorem eb:(a b:aQ)->aG a b=false->a≠b->aG b a=true
 |[],[],_,h=>absurd rfl h
 |[],_:: _,h,_=>by simp[aG]at h
 |_:: _,[],_,_=>by simp[aG]
 | x:: a,y:: b,h1,h2=>by
  simp only[aG,Oc,NC,NU,M5,M8,NW,UInt8.lt_iff_toNat_lt]at h1 |-;by_cases e:x=y
  ·subst e;refine .inr ⟨rfl,eb a b ?_ fun e=>h2 (by rw[e])⟩
   grind
  grind [UInt8.toNat_inj]
def pQ(p f:aQ):dp p f=true↔aG p f=true:=by
 unfold dp;rw[NR,Oc];constructor
 ·grind [eb]
 ·intro h;refine⟨?_,?_⟩
  ·cases hc:aG f p with
   |false=>rfl
   |true=>grind [dn,eA]
  ·rw[Ny];rintro rfl;rw[eA]at h;cases h
theorem ot{α:Type}{p:α->Bool}:{l:List α} ->{x:α} ->cC p l=some x->p x=true/\x∈l
 | z:: l,x,h=>by
  unfold cC at h;cases hl:cC p l with
  |some y=>
   rw[hl]at h;cases h;exact⟨(ot hl).1,by simp[(ot hl).2]⟩
  |none=>
   grind
def GA{t:Ty}{f:cO}(h:f∈t.fields):SizeOf.sizeOf f.2<SizeOf.sizeOf t:=by
 cases t with
 |mk k fs=>
  have h1:SizeOf.sizeOf f<SizeOf.sizeOf fs:=List.sizeOf_lt_of_mem h
  grind
theorem oS(a b:Int):(dB a b== 0)=true↔BitVec.ofInt 64 a &&& ~~~ BitVec.ofInt 64 b=0#64:=by
 unfold dB;generalize BitVec.ofInt 64 a &&& ~~~ BitVec.ofInt 64 b=v;have hv:=v.isLt;rw[NW];constructor
 ·intro h;apply BitVec.eq_of_toNat_eq;show v.toNat=0;have e:IntKind.i64.wrap (v.toNat:Int)=if decide ((v.toNat:Int) % 18446744073709551616 >= 9223372036854775808)=true then(v.toNat:Int) % 18446744073709551616-18446744073709551616 else(v.toNat:Int) % 18446744073709551616:=rfl
  grind
 ·intro h;rw[h];rfl
end Go.Av.Ap
namespace Go.Av
open Go.RowKit
section
variable {H:Type} {enc:TypeId×Value->H} {P:Program} {w w':World}
theorem mi{base:Nat}{spare:Nat->Bool}{held:Bool}:∀ {ts:List TypeId} {vs:List Value} {ds:List (DataW H)} {ps:List MemPlace},DataW.TrodAll enc P w base spare held ts vs ds ps->(∀p∈ps,w.sameAt w' p)->DataW.TrodAll enc P w' base spare held ts vs ds ps
 |[],[],[],_,h,_=>h
 |_:: _,_:: _,_:: _,_,⟨p,q,⟨n,h1⟩,h2,e⟩,hs=>⟨p,q,⟨n,DataW.trod_carry n _ _ _ h1 (fun x hx=>hs x (by grind))⟩,mi h2 (fun x hx=>hs x (by grind)),e⟩
theorem uy(hb:Below w.heap.size w w'){p:MemPlace}(hp:p.block<w.heap.size):w.sameAt w' p:=by
 cases p with
 |cell b off=>
  have:=hb.block b hp
  show w'.cell? ⟨b,off,none⟩=w.cell? ⟨b,off,none⟩;simp only[World.cell?,this]
 |map b=>exact hb.block b hp
theorem xi{T:TypeId->Prop}(K:Kids P T)(hz:∀t e,T t->P.underlying t=some (.slice e)->0<P.cellsOf e){ts:List TypeId}{vs:List Value}{ds:List (DataW H)}{ps:List MemPlace}(hT:∀t∈ts,T t)(h:DataW.TrodAll enc P w 0 (fun _=>true) true ts vs ds ps)(hlt:∀p∈ps,p.block<w.heap.size)(hb:Below w.heap.size w w')(sp:Nat->Bool)(hsp:∀p∈ps,sp p.block=true):DataW.TrodAll enc P w' 0 sp true ts vs ds ps:=
 (mi h fun p hp=>uy hb (hlt p hp)).respare K hz hT hsp
end
theorem zf{α:Type}(Q:Nat->α->Prop):∀n,(∀i,i<n->∃x,Q i x)->∃l:List α,l.length=n/\∀i x,l[i]? = some x->Q i x
 |0,_=>⟨[],rfl,fun i x h=>by simp at h⟩
 |n+1,h=>by
  obtain⟨l,h1,h2⟩:=zf Q n fun i hi=>h i (by omega);obtain⟨y,hy⟩:=h n (by omega);refine⟨l++[y],by simp[h1],fun i x hx=>?_⟩
  grind
end Go.Av
namespace Go.Av
open Go.RowKit Go.WideShapes Go.ChangeShapes
section
variable {H:Type} (enc:TypeId×Value->H) (P:Program) (W:World)
def Rd{α:Type}(N:Nat)(t:TypeId)(cells:α->List AV)(Ok:α->Prop):Prop:=∀(base:Nat)(held:Bool)(n:Nat),n<N->∀(cs:List Value)(x:DataW H×List MemPlace),DataW.trod enc P W base (fun _=>true) held n t cs=some x->(∀k∈x.1.weights P t,k<=reachBytes)->∃a:α,aV (kf W) [] (cells a) cs/\Ok a
def Dx{α:Type}(N:Nat)(tot:Nat)(o:Nat)(fs:List Field)(cells:α->List AV)(Ok:α->Prop):Prop:=∀(base:Nat)(held:Bool)(n:Nat),n<N->∀(cs:List Value)(xs:List (DataW H×List MemPlace)),cs.length=tot->
 xs.length=fs.length->(∀(i:Nat)(f:Field),fs[i]? = some f->DataW.trod enc P W base (fun _=>true) held n f.type ((cs.drop f.offset).take (P.cellsOf f.type))=xs[i]?)->(∀k∈DataW.weightsEach P (fs.map (·.type)) (xs.map (·.1)),k<=reachBytes)->∃a:α,aV (kf W) [] (cells a) (cs.drop o)/\Ok a
variable {enc P W} {α β:Type} {N:Nat} {t:TypeId}
theorem Rd.zero{cells:α->List AV}{Ok:α->Prop}:Rd enc P W 0 t cells Ok:=fun _ _ n hn=>absurd hn (by omega)
theorem Rd.le{cells:α->List AV}{Ok:α->Prop}(h:Rd enc P W N t cells Ok){M:Nat}(hm:M<=N):Rd enc P W M t cells Ok:=fun b hd n hn=>h b hd n (by omega)
theorem Rd.map{cells:α->List AV}{Ok:α->Prop}(h:Rd enc P W N t cells Ok)(g:α->β){cells':β->List AV}{Ok':β->Prop}(hc:∀a,cells' (g a)=cells a)(ho:∀a,Ok a->Ok' (g a)):Rd enc P W N t cells' Ok':=by
 intro b hd n hn cs x hx hw;obtain⟨a,h1,h2⟩:=h b hd n hn cs x hx hw
 grind
theorem zr(ht:P.underlying t=some .bool):Rd enc P W N t (fun b:Bool=>[.bool b]) (fun _=>True):=by
 intro b hd n hn cs x hx hw;obtain⟨b,rfl,_⟩:=DataW.trod_bool ht hx;simp_all[aV,VR]
theorem rb{k:IntKind}(ht:P.underlying t=some (.int k)):Rd enc P W N t (fun n:Int=>[.int k n]) (fun n=>(Lit.int k n).wf=true):=by
 intro b hd n hn cs x hx hw;obtain⟨b,rfl,_,hwf⟩:=DataW.trod_int ht hx;exact⟨b,by simp[aV,VR],hwf⟩
theorem jy(ht:P.underlying t=some .string):Rd enc P W N t (fun s:List UInt8=>[.str s]) (fun s=>s.length<=reachBytes):=by
 intro b hd n hn cs x hx hw;obtain⟨s,rfl,rfl,_⟩:=DataW.trod_string ht hx;simp_all[aV,VR,DataW.weights]
def Fu(cells:α->List AV)(ev:α->AV)(sz:Nat):Prop:=∀(a:α)(S:ay)(β:List bI)(vs:List Value),aV S β (cells a) vs->vs.length=sz->∃v,VR S β (ev a) v/\v.cells.toList=vs
theorem jM{cells:α->List AV}{ev:α->AV}{sz:Nat}(he:∀a,ev a= .agg (cells a)):Fu cells ev sz:=fun a S β vs h hl=>⟨.agg vs.toArray,by rw[he];simp only[VR];grind,by simp[Value.cells]⟩
theorem BH{ev:α->AV}(ho:∀a,bh (ev a)=true):Fu (fun a=>[ev a]) ev 1:=fun a S β vs h hl=>by
 simp only[aV]at h;obtain⟨v,_,rfl,h,rfl⟩:=h
 grind [gL]
theorem lE{e:TypeId}:∀ {l:List (DataW H)} {d:DataW H},d∈l->∀k∈d.weights P e,k∈DataW.weightsAll P e l
 |x:: l,d,hd,k,hk=>by
  simp only[DataW.weightsAll,N5];rcases NT.1 hd with rfl|hd
  ·exact .inl hk
  ·exact .inr (lE hd k hk)
theorem jX{e:TypeId}{cells:α->List AV}{Ok:α->Prop}(h:Rd enc P W N e cells Ok)(ht:P.underlying t=some (.slice e)){sz by_:Nat}(hsz:P.cellsOf e=sz)(h0:0<sz)(hby:P.bytesOf e=by_){ev:α->AV}(hev:Fu cells ev sz):
  Rd enc P W N t (fun l:List α=>[.sl (l.map ev)]) (fun l=>l.length*by_<=reachBytes/\∀a∈l,Ok a):=by
 intro base hd n hn cs x hx hw;rcases DataW.trod_slice ht hx with⟨rfl,rfl⟩|⟨a,len,cap,elems,rest,m,rfl,rfl,rfl,hb,hle,hm,hlen,hel,hsp,_⟩
 ·exact⟨[],by simp only[aV,PD,VR];grind,by simp,fun a ha=>by cases ha⟩
 obtain⟨hrl,hre⟩:=hsp rfl;rw[hsz]at hel hre;simp only[DataW.weights,ht,NT,N5,hby]at hw;have hspot:0<cap->a.spot=none:=by
  intro hc;have:∃y,(W.cells? base (a.add 0) sz).bind (DataW.trod enc P W base (fun _=>true) hd m e)=some y:=by
   by_cases h1:0<len
   ·grind
   ·have:=hre 0 (by omega)
    grind
  obtain⟨y,hy⟩:=this;obtain⟨cs,hcs,_⟩:=PG.1 hy;obtain⟨_,hl,hc⟩:=World.cells?_some hcs;have h2:=hc 0 h0;rw[Ns (by omega)]at h2;have h3:=World.cell?_spot h2;have e:(a.add 0).add 0=a:=by unfold Addr.add;simp
  rwa [e]at h3
 have hx:∀i,i<len->∃y:α,(∃v,VR (kf W) [] (ev y) v/\v.cells.size=sz/\fm (kf W) a.block (a.off+i*sz) v.cells.toList)/\Ok y:=by
  intro i hi;have h1:=hel i hi;rw[Ns (by omega)]at h1;obtain⟨cs,hcs,htr⟩:=PG.1 h1;obtain⟨y,hy,hok⟩:=h base hd m (by omega) cs _ htr (fun k hk=>hw k (.inr (.inl (lE (Ou.2 ⟨_,Ni _,rfl⟩) k hk))));obtain⟨_,hl,hc⟩:=World.cells?_some hcs;obtain⟨v,hv,hvc⟩:=hev y _ _ cs hy hl;refine⟨y,⟨v,hv,by grind,fun j u hj=>?_⟩,hok⟩;rw[hvc]at hj;have hjl:j<sz:=by
   rcases NE j cs.length with h|h
   ·omega
   ·grind
  have h2:=hc j hjl;rw[hj]at h2;unfold kf;have hs:=hspot (by omega);have e:(a.add (i*sz)).add j=⟨a.block,a.off+i*sz+j,none⟩:=by
   obtain⟨b,o,s⟩:=a;simp only at hs;subst hs;rw[add_plain,add_plain]
  rw[<- e];exact h2
 obtain⟨l,hl1,hl2⟩:=zf (fun i y=>(∃v,VR (kf W) [] (ev y) v/\v.cells.size=sz/\fm (kf W) a.block (a.off+i*sz) v.cells.toList)/\Ok y) len hx;refine⟨l,?_,?_,fun y hy=>?_⟩
 ·simp only[aV,VR,N7];refine⟨_,_,rfl,⟨some a,cap,by rw[hl1],by omega,(fun e=>by cases e),fun q hq=>?_⟩,rfl⟩;cases hq;refine⟨hspot,sz,.of_get fun i e he=>?_⟩
  grind
 ·have:=hw _ (.inl rfl)
  grind
 ·obtain⟨i,hi,e⟩:=List.getElem_of_mem hy;exact (hl2 i y (by grind)).2
theorem ic{tot:Nat}:Dx enc P W N tot tot [] (fun _:Unit=>[]) (fun _=>True):=fun base hd n hn cs xs hl _ _ _=>⟨(),by simp[aV,<- hl],trivial⟩
theorem aZ{tot o k:Nat}{f:Field}{fs:List Field}{c1:α->List AV}{Ok1:α->Prop}{c2:β->List AV}{Ok2:β->Prop}(h1:Rd enc P W N f.type c1 Ok1)(ho:f.offset=o)(hk:P.cellsOf f.type=k)(h2:Dx enc P W N tot (o+k) fs c2 Ok2):
  Dx enc P W N tot o (f:: fs) (fun x:α×β=>c1 x.1++c2 x.2) (fun x=>Ok1 x.1/\Ok2 x.2):=by
 intro base hd n hn cs xs hl hx hf hw
 match xs,hx with
 |x:: xs,hx=>
  have hf0:=hf 0 f rfl;rw[ho,hk]at hf0;simp only[NL,DataW.weightsEach,N5]at hw;obtain⟨a,ha,oa⟩:=h1 base hd n hn _ x hf0 fun k hk=>hw k (.inl hk);obtain⟨b,hb,ob⟩:=h2 base hd n hn cs xs hl (by simpa using hx) (fun i g hg=>by simpa using hf (i+1) g (by simpa using hg)) fun k hk=>hw k (.inr hk);refine⟨(a,b),?_,oa,ob⟩
  have:=ha.append hb
  grind [List.drop_drop,List.take_append_drop]
theorem fX{fs:Array Field}{tot:Nat}{cells:α->List AV}{Ok:α->Prop}(ht:P.underlying t=some (.struct fs))(hc:P.cellsOf t=tot)(h:Dx enc P W N tot 0 fs.toList cells Ok):Rd enc P W (N+1) t cells Ok:=by
 intro base hd n hn cs x hx hw;obtain⟨xs,m,rfl,rfl,hl,hxs,hf⟩:=DataW.trod_struct ht hx;simp only[DataW.weights,ht]at hw;obtain⟨a,h1,h2⟩:=h base hd m (by omega) cs xs (by rw[hl,hc]) (by simpa using hxs) (fun i f hi=>hf i f (by simpa using hi)) hw
 grind
theorem CM{cells:α->List AV}{Ok:α->Prop}(h:∀N,Rd enc P W N t cells Ok){base:Nat}{held:Bool}{v:Value}{d:DataW H}{p:List MemPlace}(hd:DataW.Trod enc P W base (fun _=>true) held t v d p)(hw:∀k∈d.weights P t,k<=reachBytes):
  ∃a:α,aV (kf W) [] (cells a) v.cells.toList/\Ok a:=by
 obtain⟨n,hn⟩:=hd;exact h (n+1) base held n (by omega) _ _ hn hw
theorem EQ{f:α->AV}{Ok:α->Prop}(h:∀N,Rd enc P W N t (fun a=>[f a]) Ok){base:Nat}{held:Bool}{v:Value}{d:DataW H}{p:List MemPlace}(hv:v.cells.toList=[v])(hd:DataW.Trod enc P W base (fun _=>true) held t v d p)(hw:∀k∈d.weights P t,k<=reachBytes):
  ∃a:α,VR (kf W) [] (f a) v/\Ok a:=by
 obtain⟨a,h1,h2⟩:=CM h hd hw;rw[hv]at h1;simp only[aV]at h1
 grind
theorem yN{r:Reach}{b0:Nat}{f:α->AV}{Ok:α->Prop}(h:∀N,Rd enc P W N t (fun a=>[f a]) Ok)(ht:P.underlying t=some .string){base:Nat}{held:Bool}{v:Value}{d:DataW H}{p:List MemPlace}(hok:Value.okWide P W r b0 t v)(hd:DataW.Trod enc P W base (fun _=>true) held t v d p)(hw:∀k∈d.weights P t,k<=reachBytes):∃a:α,VR (kf W) [] (f a) v/\Ok a:=by
 obtain⟨a,rfl⟩:=okWide_string ht hok;exact EQ h rfl hd hw
theorem kg{fs:Array Field}{r:Reach}{b0:Nat}{f:α->AV}{Ok:α->Prop}{cells:α->List AV}(h:∀N,Rd enc P W N t cells Ok)(hf:∀a,f a= .agg (cells a))(ht:P.underlying t=some (.struct fs)){base:Nat}{held:Bool}{v:Value}{d:DataW H}{p:List MemPlace}(hok:Value.okWide P W r b0 t v)(hd:DataW.Trod enc P W base (fun _=>true) held t v d p)(hw:∀k∈d.weights P t,k<=reachBytes):∃a:α,VR (kf W) [] (f a) v/\Ok a:=by
 obtain⟨cs,rfl,_⟩:=okWide_struct ht hok;obtain⟨a,h1,h2⟩:=CM h hd hw;refine⟨a,?_,h2⟩;rw[hf];simp only[VR];exact⟨cs.toList,by simp,h1⟩
theorem gD{ts:List TypeId}{ds:List (DataW H)}(h:(DataW.weightsEach P ts ds).all (· <=reachBytes)=true){j:Nat}{u:TypeId}{d:DataW H}(ht:ts[j]? = some u)(hd:ds[j]? = some d):∀k∈d.weights P u,k<=reachBytes:=fun k hk=>by
 have:=Nl.1 h _ (DataW.weights_mem_each ht hd k hk)
 grind
end
end Go.Av
namespace Go.Av.Ap
open Go Go.Av
def gC(e:Exp):Exp×Int:=
 if e.op=0\/e.op=1 then(.mk e.op e.n [] [] [] e.args,0)
 else if e.op=2\/e.op=17 then(.mk e.op 0 e.s [] [] e.args,0)
 else if e.op=18\/e.op=14 then(.mk e.op 0 e.s [] [] e.args,1)
 else if e.op=16 then(.mk e.op e.n [] [] [] e.args,1)
 else if e.op=10 then(.mk e.op 0 [] [] [] e.args,1)
 else if e.op=12 then(.mk e.op 0 e.s [] [] e.args,2)
 else if e.op=11 then(.mk e.op 0 [] [] [] e.args,3)
 else if e.op=13 then(.mk e.op 0 [] [] e.names e.args,e.names.length)
 else if e.op=15 then(.mk e.op 0 e.s e.m [] e.args,-1)
 else(.mk e.op 0 [] [] [] e.args,2)
def uj(l:List aQ):Bool:=(l.all bg&&gz dp l)&&decide (l.length<=8)
def gm(e:Exp):Bool:=
 if e.op=0 then decide (0<=e.n)&&decide (e.n<=1099511627776)
 else if e.op=1 then e.n== 0||e.n== 1
 else if e.op=16 then((e.n== 1||e.n== 2)||e.n== 4)||e.n== 8
 else if e.op=2\/e.op=17\/e.op=18\/e.op=14\/e.op=12 then bg e.s
 else if e.op=15 then bg e.s&&(e.m== []||bg e.m)&&decide (e.args.length<=6)
 else if e.op=13 then uj e.names
 else true
def oC(e:Exp):Bool:=
 decide (0<=e.op)&&decide (e.op<19)&&(decide ((gC e).2<0)||((gC e).2== (e.args.length:Int)))&&((gC e).1.n== e.n)&&((gC e).1.s== e.s)&&((gC e).1.m== e.m)&&(((gC e).1.names.length:Int)== (e.names.length:Int))&&gm e
def d9:Nat->Exp->Bool
 |0,_=>false
 |d+1,e=>oC e&&e.args.all (d9 d)
theorem pf(d:Nat)(e:Exp):d9 (d+1) e=(oC e&&e.args.all (d9 d)):=rfl
mutual
def MJ:Ty->Ty->Option Ty
 |.mk k fs,b=>if k=b.kind then some (.mk k (KP fs b.fields))else none
def KP:List (aQ×Ty)->List cO->List cO
 |[],_=>[]
 |f:: fs,l=>(match MI f l with|some x=>[x]|none=>[])++KP fs l
def MI:aQ×Ty->List cO->Option cO
 |(n,t),l=>match cC (fun z=>z.1== n) l with
  |some z=>(match MJ t z.2 with|some u=>some (n,u)|none=>none)
  |none=>none
end
end Go.Av.Ap
