/- The abstract evaluator of the model and plain laws, part 3: its soundness holds for every program whose table of types is the evaluator's. No further condition. -/
import Derived.Test.YtkkabinknmldeaaGreatLb
import Derived.Orders
import Derived.KernelRfl
import Derived.Below
import Derived.Lib.IndexMore
import Derived.Lib.Fields
set_option linter.unusedSimpArgs false
set_option linter.unusedVariables false
namespace Go.Av
variable [Dr]
section
variable {P:Program} {cx:Cx} {c:Entry} {N:Nat} {U:Nat→Prop} {e:Env} {h:Hp} {a:Act} {w:World} {S:au} {β:List bn} {γ:Nat→Value} {lam:Nat→Option Nat} {ω:Nat→Owner} {o:Oper} {gid:Nat}
omit [Dr] in
theorem qV{x:Operand}(h:bc x=true):x= .const (.slice none 0 0):=by
 unfold bc at h
 split at h
 ·rfl
 ·simp at h
theorem Et{m:M AV}(hd:∀ t,o.dst=some t→t < N) (hl:aN e o.dst (.dyn m .ofV) h≠.fail→After P c N (UG U gid) (aN e o.dst (.dyn m .ofV) h) o a w)
  (hr:aN e o.dst (.dyn (ae m tm) .ofV) h≠.fail):After P c N (UG U gid) (aN e o.dst (.dyn (ae m tm) .ofV) h) o a w:=by
 intro next Q hn hp
 simp only[aN,ae,tm,M.pure] at hr hn hp hl
 cases hm:m h with
 | fail=>rw[hm] at hr;exact absurd rfl hr
 | pan pv h1=>
  rw[hm] at hp hl
  exact hl (by simp) next Q (fun e' h' a' w' h1=>by cases h1) hp
 | ok v h1=>
  rw[hm] at hn hl
  refine hl (by simp) next Q (fun e' h' a' w' k1 k2 k3=>?_) (fun pv h' v w' k1=>by cases k1)
  cases k1
  exact hn _ _ a' w' rfl (lY (gid:=gid) hd (Shape.ofV ..) k2) k3
omit [Dr] in
theorem rD{x:Operand}(h:VR S β (opnd e x) (a.eval x)):VR S β (ni e x) (a.eval x):=by
 unfold ni
 cases hn:bc x with
 | false=>exact h
 | true=>
  unfold bc at hn
  split at hn
  ·simp[Act.eval,VR]
  ·cases hn
omit [Dr] in
theorem Pm{f g:Operand→AV}{v:Operand→Value}{l:List Operand}(_:aM S β (l.map f) (l.map v))(h:∀ x∈l,VR S β (g x) (v x)):aM S β (l.map g) (l.map v):=by
 induction l with
 | nil=>simp[aM]
 | cons x l ih=>
  rename_i hh
  simp only[List.map_cons,aM] at hh ⊢
  obtain⟨y,ys,hy,_,h2⟩:=hh
  cases hy
  exact⟨_,_,rfl,h x (by simp),ih h2 fun y hy=>h y (by simp[hy])⟩
theorem Gg (hT:TOK P cx.T) (hC:cM P cx.own cx.call) (H:FR c N U e h a w S β γ lam ω) (hd:∀ t,o.dst=some t→t < N) (hU:∀ g,gid≤g→g < gid + 1000→¬ U g) {cc:Call} (ho:o.op= .call cc)
  (ht:∀ x∈o.op.operands.toList,∀ t,x= .tmp t→t < 1000) (hr:aN e o.dst (fF cx e gid o cc) h≠.fail):After P c N (UG U gid) (aN e o.dst (fF cx e gid o cc) h) o a w:=by
 have hargs:∀ x∈cc.args.toList,∀ t,x= .tmp t→t < 1000:=fun x hx t hxt=>ht x (by rw[ho];simp[Op.operands,Call.operands];exact .inr (by simpa using hx)) t hxt
 have hvs:=nj H cc.args.toList hargs
 have hmap:cc.args.map a.eval=(cc.args.toList.map a.eval).toArray:=by apply Array.ext';simp
 unfold fF at hr ⊢
 cases hcal:cc.callee with
 | invoke r m=>rw[hcal] at hr;exact absurd rfl hr
 | value f=>
  rw[hcal] at hr
  have hfv:∀ t,f= .tmp t→t < 1000:=fun t hft=>ht f (by rw[ho];simp[Op.operands,Call.operands,hcal]) t hft
  have hclos:∀(hr:aN e o.dst (.dyn (bH cx.call (opnd e f) (cc.args.toList.map (opnd e))) .ofV) h≠.fail),After P c N (UG U gid) (aN e o.dst (.dyn (bH cx.call (opnd e f) (cc.args.toList.map (opnd e))) .ofV) h) o a w:=by
   intro hr
   have hf:=aS H f hfv
   simp only[aN] at hr ⊢
   generalize hq:opnd e f=q at hr hf ⊢
   unfold bH at hr ⊢
   split at hr
   ·rename_i g fi cap
    simp only[VR] at hf
    obtain⟨xs,ys,hav,hx,hy⟩:=hf
    refine lP hC H hd hU ((hx.append hvs).append hy) (fun hfn=>?_) (.inl fun v=>rfl) hr
    have hargs':(xs++cc.args.toList.map a.eval++ys).toArray=xs.toArray++cc.args.map a.eval++ys.toArray:=by rw[hmap];simp
    simp only[execOp,ho,resolve,hcal,hav,Deferred.ofValue,Sem.run_bind,Sem.run_pure,Result.andThen_ok,invoke]
    rw[hargs']
    exact gT (w:=w) hfn
   ·exact absurd rfl hr
  cases f with
  | func f=>
   simp only at hr ⊢
   have hrunc:∀ hfn,(execOp a.eval o).run P w= .ok (.enter f (cc.args.toList.map a.eval).toArray) w:=fun hfn=>by
    simp only[execOp,ho,resolve,hcal,Act.eval,Deferred.ofValue,Sem.run_bind,Sem.run_pure,Result.andThen_ok,invoke]
    rw[hmap]
    simpa using gT (w:=w) (args:=(cc.args.toList.map a.eval).toArray) hfn
   cases hfz:bU cx.ann.fz o.dst with
   | true=>
    rw[hfz] at hr
    simp only[cond_true] at hr ⊢
    cases hq:!(cx.iso f) && !(cx.nw f)&&(cx.own f).isNone with
    | false=>rw[hq] at hr;exact absurd rfl hr
    | true=>
     rw[hq] at hr
     simp only[cond_true] at hr ⊢
     exact Et (m:=cx.call f (cc.args.toList.map (opnd e))) hd (fun hr=>lP hC H hd hU hvs hrunc (.inl fun v=>rfl) hr) hr
   | false=>
   rw[hfz] at hr
   simp only[cond_false] at hr ⊢
   have hvt:aM S β (cc.args.toList.map (pf (bU cx.ann.hb o.dst) e)) (cc.args.toList.map a.eval):=by
    refine Pm hvs fun x hx=>?_
    unfold pf
    cases bU cx.ann.hb o.dst with
    | false=>exact aS H x (hargs x hx)
    | true=>exact rD (aS H x (hargs x hx))
   refine lP hC H hd hU hvt (fun hfn=>?_) ?_ hr
   rotate_left
   ·cases hof:cx.own f with
    | none=>exact .inl fun v=>rfl
    | some sz=>exact .inr ⟨sz,rfl,fun v=>rfl⟩
   simp only[execOp,ho,resolve,hcal,Act.eval,Deferred.ofValue,Sem.run_bind,Sem.run_pure,Result.andThen_ok,invoke]
   rw[hmap]
   simpa using gT (w:=w) (args:=(cc.args.toList.map a.eval).toArray) hfn
  | tmp t=>exact hclos hr
  | const v=>exact hclos hr
  | global g=>exact hclos hr
 | builtin b=>
  rw[hcal] at hr
  cases b <;> simp only at hr ⊢ <;> (try exact absurd rfl hr)
  case append=>
   split at hr
   ·rename_i t u x y hts hxs
    cases hu:gK cx.T u with
    | false=>rw[hu] at hr;exact absurd rfl hr
    | true =>
     rw[hu] at hr
     simp only[Bool.not_true,cond_false] at hr ⊢
     have hx:∀ t,x= .tmp t→t < 1000:=hargs x (by rw[hxs];simp)
     have hy:∀ t,y= .tmp t→t < 1000:=hargs y (by rw[hxs];simp)
     cases hha:bU cx.ann.ha o.dst with
     | true=>
      rw[hha] at hr
      simp only[cond_true] at hr ⊢
      cases hhb:bU cx.ann.hb o.dst with
      | true=>
       rw[hhb] at hr
       exact F9 hT H hd ho hcal hts hxs hx hy hu hr
      | false=>
       rw[hhb] at hr
       exact Ga hT H hd ho hcal hts hxs hx hy hu hr
     | false=>
      rw[hha] at hr
      simp only[cond_false] at hr ⊢
      cases hnc:bc x with
      | true=>
       rw[hnc] at hr
       simp only[cond_true] at hr ⊢
       have hxc:=qV hnc
       subst hxc
       have key:∀ Y r,dL cx.T t (.sl []) Y=some r→vC P S β w (a.eval y) Y→After P c N (UG U gid) (.ok (e.upd o.dst (Upd.own r gid (cU cx.T t))) h) o a w:=fun Y r happ hsrc=>
        sO hT H hd hU ho hcal hts hxs hu (as:=[]) (g0:=none) rfl (by simp only[VR];exact⟨none,0,rfl,Nat.le_refl _,fun _=>rfl,fun q hq=>by cases hq⟩) (.inl ⟨rfl,rfl⟩) happ hsrc
       cases hhl:bU cx.ann.hl o.dst with
       | true=>
        rw[hhl] at hr
        simp only[cond_true,aN,Av.ae,qd] at hr ⊢
        cases hsa:sI h (opnd e y) with
        | none=>rw[hsa] at hr;exact absurd rfl hr
        | some es=>
         rw[hsa] at hr
         simp only at hr ⊢
         cases happ:dL cx.T t (.sl []) (.sl es) with
         | none=>rw[happ] at hr;exact absurd rfl hr
         | some r=>exact key _ r happ (rU H (aS H y hy) hsa)
       | false=>
        rw[hhl] at hr
        simp only[cond_false] at hr ⊢
        cases happ:dL cx.T t (.sl []) (opnd e y) with
        | none=>rw[happ] at hr;exact absurd rfl hr
        | some r=>exact key _ r happ (ny H.wf (aS H y hy))
      | false=>
       rw[hnc] at hr
       simp only[cond_false] at hr ⊢
       cases x <;> simp only at hr ⊢ <;> (try exact absurd rfl hr)
       rename_i s
       cases hg:(e.get s).g with
       | none=>rw[hg] at hr;exact absurd rfl hr
       | some g=>
        rw[hg] at hr
        simp only at hr ⊢
        cases hal:aI e.al g with
        | none=>rw[hal] at hr;exact absurd rfl hr
        | some z=>
         rw[hal] at hr
         simp only at hr ⊢
         cases hz:vg z (cU cx.T t) with
         | false=>rw[hz] at hr;exact absurd rfl hr
         | true=>
          rw[hz] at hr
          simp only[cond_true] at hr ⊢
          have key:∀ Y r,dL cx.T t (opnd e (.tmp s)) Y=some r→vC P S β w (a.eval y) Y→After P c N (UG U gid) (.ok (e.upd o.dst { Upd.own r gid (cU cx.T t) with drop:=some g }) h) o a w:=fun Y r happ hsrc=>by
           obtain⟨as,has⟩:=F8 happ
           have hvx:=aS H (.tmp s) hx
           rw[has] at hvx happ
           have hγ:=H.grps s g z (hx s rfl) hg hal
           exact sO hT H hd hU ho hcal hts hxs hu (as:=as) (g0:=some g) rfl hvx (.inr ⟨g,z,rfl,by
            have:a.eval (.tmp s)=γ g:=hγ
            rw[this];exact H.free g z hal,hz⟩) happ hsrc
          cases hhl:bU cx.ann.hl o.dst with
          | true=>
           rw[hhl] at hr
           simp only[cond_true,aN,Av.ae,qd] at hr ⊢
           cases hsa:sI h (opnd e y) with
           | none=>rw[hsa] at hr;exact absurd rfl hr
           | some es=>
            rw[hsa] at hr
            simp only at hr ⊢
            cases happ:dL cx.T t (opnd e (.tmp s)) (.sl es) with
            | none=>rw[happ] at hr;exact absurd rfl hr
            | some r=>exact key _ r happ (rU H (aS H y hy) hsa)
          | false=>
           rw[hhl] at hr
           simp only[cond_false] at hr ⊢
           cases happ:dL cx.T t (opnd e (.tmp s)) (opnd e y) with
           | none=>rw[happ] at hr;exact absurd rfl hr
           | some r=>exact key _ r happ (ny H.wf (aS H y hy))
   ·exact absurd rfl hr
  case clear=>
   split at hr
   ·rename_i t ts x xs hts hxs
    exact DZ hT H hd ho hcal hts hxs (hargs x (by rw[hxs];simp)) hr
   ·exact absurd rfl hr
  case len=>
   split at hr
   ·rename_i t ts x xs hts hxs
    refine eB H hd (m:=Builtin.len_ cc.argTypes o.type (cc.args.map a.eval)) ?_ (fun r hr'=>?_) hr
    ·simp only[execOp,ho,resolve,hcal,invoke,builtin,pure_bind]
    ·have h1:cc.argTypes=(t:: ts).toArray:=by apply Array.ext';simpa using hts
     have h2:cc.args.map a.eval=(a.eval x:: xs.map a.eval).toArray:=by rw[hmap,hxs];simp
     rw[h1,h2]
     exact Kz hT ts (xs.map a.eval) hr' (aS H x (hargs x (by rw[hxs];simp)))
   ·exact absurd rfl hr
  case min=>
   refine eB H hd (m:=Builtin.min_ cc.argTypes o.type (cc.args.map a.eval)) ?_ (fun r hr'=>?_) hr
   ·simp only[execOp,ho,resolve,hcal,invoke,builtin,pure_bind]
   ·obtain⟨v,rest,he,hp⟩:=uI (P:=P) (w:=w) _ _ (Nat.le_refl _) r _ hr' hvs
    obtain⟨u,hu,hur⟩:=hp
    exact⟨u,by rw[hmap];simp only[Builtin.min_];rw[he];simpa using hu,hur⟩
  case max=>
   refine eB H hd (m:=Builtin.max_ cc.argTypes o.type (cc.args.map a.eval)) ?_ (fun r hr'=>?_) hr
   ·simp only[execOp,ho,resolve,hcal,invoke,builtin,pure_bind]
   ·obtain⟨v,rest,he,hp⟩:=uI (P:=P) (w:=w) _ _ (Nat.le_refl _) r _ hr' hvs
    obtain⟨u,hu,hur⟩:=hp
    exact⟨u,by rw[hmap];simp only[Builtin.max_];rw[he];simpa using hu,hur⟩
theorem M2(hT:TOK P cx.T)(H:FR c N U e h a w S β γ lam ω)(hd:∀ t,o.dst=some t→t < N){t p:Nat}(ho:o.op= .load t (.tmp p))(hx:p < 1000)(hr:aN e o.dst (Lg (dV cx e o.dst t p)) h≠.fail):
  After P c N (UG U gid) (aN e o.dst (Lg (dV cx e o.dst t p)) h) o a w:=by
 have hsh:cv (Shape e gid {} none) (dV cx e o.dst t p):=q5 o.dst t p {}
 have hl:=fun hr=>AC (gid:=gid) hT H hd ho hx hr
 revert hr
 generalize dV cx e o.dst t p=A at hsh hl
 intro hr
 cases A with
 | bad=>exact absurd rfl hr
 | stat u=>
  intro next Q hn hp
  exact hl (by simp[aN,M.pure]) next Q (fun e' h' a' w' h1 h2 h3=>by
   cases h1
   exact hn _ _ a' w' rfl (lY hd hsh h2) h3) (fun pv h' v w' h1=>by cases h1)
 | thr v=>exact hl hr
 | dyn m sh=>
  intro next Q hn hp
  simp only[aN,Lg,ae,tm,M.pure] at hr hn hp hl
  cases hm:m h with
  | fail=>rw[hm] at hr;exact absurd rfl hr
  | pan pv h1=>
   rw[hm] at hp hl
   exact hl (by simp) next Q (fun e' h' a' w' h1=>by cases h1) hp
  | ok v h1=>
   rw[hm] at hn hl
   refine hl (by simp) next Q (fun e' h' a' w' k1 k2 k3=>?_) (fun pv h' v w' k1=>by cases k1)
   cases k1
   exact hn _ _ a' w' rfl (lY hd (hsh v) k2) k3
theorem E0(hT:TOK P cx.T)(hC:cM P cx.own cx.call)(H:FR c N U e h a w S β γ lam ω)(hd:∀ t,o.dst=some t→t < N) (hU:∀ g,gid≤g→g < gid + 1000→¬ U g)
  (ht:∀ x∈o.op.operands.toList,∀ t,x= .tmp t→t < 1000) (hpN:∀ p,B5 (ck cx.ann.kinds p .L)=true→p < N) (hr:bw cx e gid o h≠.fail):After P c N (UG U gid) (bw cx e gid o h) o a w:=by
 cases ho:o.op with
 | move x=>exact AE H hd hU (.inl ho) (fun t hx=>ht x (by rw[ho];simp[Op.operands]) t hx)
 | assign x=>exact AE H hd hU (.inr ho) (fun t hx=>ht x (by rw[ho];simp[Op.operands]) t hx)
 | pick k x y=>
  have h1:=fun t hx=>ht k (by rw[ho];simp[Op.operands]) t hx
  have h2:=fun t hx=>ht x (by rw[ho];simp[Op.operands]) t hx
  have h3:=fun t hx=>ht y (by rw[ho];simp[Op.operands]) t hx
  unfold bw fG at hr ⊢
  rw[ho] at hr ⊢
  simp only at hr ⊢
  refine eB H hd (m:=do pure (if ← asBool (a.eval k) then a.eval x else a.eval y)) ?_ (fun r hr'=>Hl hr' (aS H k h1) (aS H x h2) (aS H y h3)) hr
  simp only[execOp,ho,bind_assoc,pure_bind]
 | alloc t=>exact CP hT H hd hU ho hr
 | box t x=>exact J6 H hd hU ho (fun t hx=>ht x (by rw[ho];simp[Op.operands]) t hx) hr
 | build t ps=>
  have hps:∀ p∈ps.toList,∀ t,p.2= .tmp t→t < 1000:=fun p hp t hx=>ht p.2 (by rw[ho];simp[Op.operands];exact⟨p.1,by simpa using hp⟩) t hx
  unfold bw fG at hr ⊢
  rw[ho] at hr ⊢
  simp only at hr ⊢
  exact eB H hd (m:=Instr.build t (ps.map fun p=>(p.1,a.eval p.2))) (by simp only[execOp,ho]) (fun r hr'=>vP hT hr' (by simpa using ln H ps.toList hps)) hr
 | buildSlice t n ps=>
  have hps:∀ p∈ps.toList,∀ t,p.2= .tmp t→t < 1000:=fun p hp t hx=>ht p.2 (by rw[ho];simp[Op.operands];exact⟨p.1,by simpa using hp⟩) t hx
  cases hha:bU cx.ann.ha o.dst with
  | false=>exact sk hT H hd hU ho hps hha hr
  | true=>
   unfold bw fG at hr ⊢
   rw[ho] at hr ⊢
   simp only[hha,cond_true] at hr ⊢
   exact Bq hT H hd ho hps hr
 | load t x=>
  unfold bw fG at hr ⊢
  rw[ho] at hr ⊢
  cases x with
  | tmp p=>
   have hp:=ht (.tmp p) (by rw[ho];simp[Op.operands]) p rfl
   simp only at hr ⊢
   cases hnl:bU cx.ann.nl o.dst&&iF (e.get p) with
   | true=>rw[hnl] at hr;exact absurd rfl hr
   | false=>
   rw[hnl] at hr
   simp only[cond_false] at hr ⊢
   cases hz:bU cx.ann.fz o.dst with
   | false=>rw[hz] at hr;exact AC hT H hd ho hp hr
   | true=>
    rw[hz] at hr
    simp only[cond_true] at hr ⊢
    exact M2 hT H hd ho hp hr
  | _=>exact absurd rfl hr
 | store t x y=>
  exact Fz hT H (fun _ _=>trivial) hU ho (fun t hx=>ht x (by rw[ho];simp[Op.operands]) t hx) (fun t hx=>ht y (by rw[ho];simp[Op.operands]) t hx) (fun p _ hp=>hpN p hp) hr
 | nilCheck x=>exact xi H hd ho (fun t hx=>ht x (by rw[ho];simp[Op.operands]) t hx) hr
 | binOp op t x y u=>
  have h1:=fun t hx=>ht x (by rw[ho];simp[Op.operands]) t hx
  have h2:=fun t hx=>ht y (by rw[ho];simp[Op.operands]) t hx
  unfold bw fG at hr ⊢
  rw[ho] at hr ⊢
  simp only at hr ⊢
  cases hlit:qP cx.T op t x y with
  | true=>rw[hlit] at hr;exact absurd rfl hr
  | false=>
  rw[hlit] at hr
  simp only[cond_false] at hr ⊢
  exact eB H hd (m:=do eqGuard op t x y (a.eval x) (a.eval y);Go.binOp op t (a.eval x) (a.eval y)) (by simp only[execOp,ho]) (fun r hr'=>J5 hT x y hlit hr' (rD (aS H x h1)) (rD (aS H y h2))) hr
 | unOp op t x=>
  have h1:=fun t hx=>ht x (by rw[ho];simp[Op.operands]) t hx
  unfold bw fG at hr ⊢
  rw[ho] at hr ⊢
  simp only at hr ⊢
  exact eB H hd (m:=Op.unary op (a.eval x)) (by simp only[execOp,ho]) (fun r hr'=>NP hr' (aS H x h1)) hr
 | convert s t x=>
  have h1:=fun t hx=>ht x (by rw[ho];simp[Op.operands]) t hx
  unfold bw fG at hr ⊢
  rw[ho] at hr ⊢
  simp only at hr ⊢
  exact eB H hd (m:=convert s t (a.eval x)) (by simp only[execOp,ho]) (fun r hr'=>GE hT hr' (aS H x h1)) hr
 | makeInterface t x=>
  have h1:=fun t hx=>ht x (by rw[ho];simp[Op.operands]) t hx
  unfold bw fG at hr ⊢
  rw[ho] at hr ⊢
  simp only at hr ⊢
  exact eB H hd (m:=Instr.makeInterface t (a.eval x)) (by simp only[execOp,ho]) (fun r hr'=>zr hT hr' (aS H x h1)) hr
 | makeFunc f x y=>
  have h1:=nj H x.toList (fun z hz t hx=>ht z (by rw[ho];simp[Op.operands];exact .inl (by simpa using hz)) t hx)
  have h2:=nj H y.toList (fun z hz t hx=>ht z (by rw[ho];simp[Op.operands];exact .inr (by simpa using hz)) t hx)
  unfold bw fG at hr ⊢
  rw[ho] at hr ⊢
  simp only at hr ⊢
  refine After.val (v:=.func f (x.map a.eval) (y.map a.eval)) (w':=w) (by simp[execOp,ho,Instr.makeFunc]) (dP.up ⟨S,β,γ,lam,ω,H.setV hd ?_⟩)
  simp only[VR]
  have hm:∀ z:Array Operand,z.map a.eval=(z.toList.map a.eval).toArray:=fun z=>by apply Array.ext';simp
  exact⟨_,_,by rw[hm x,hm y],h1,h2⟩
 | makeSlice t x y=>exact uE hT H hd hU ho (fun t hx=>ht x (by rw[ho];simp[Op.operands]) t hx) (fun t hx=>ht y (by rw[ho];simp[Op.operands]) t hx) hr
 | slice t x lo hi mx=>
  cases hso:bU cx.ann.so o.dst with
  | true=>
   unfold bw fG at hr ⊢
   rw[ho] at hr ⊢
   simp only[hso,cond_true] at hr ⊢
   exact Kk hT H hd hU ho (fun t hx=>ht x (by rw[ho];simp[Op.operands]) t hx) (fun y hy t hx=>ht y (by rw[ho];simp[Op.operands,hy]) t hx) hr
  | false=>
   exact Fu hT H hd hU ho (fun t hx=>ht x (by rw[ho];simp[Op.operands]) t hx) (fun y hy t hx=>ht y (by rw[ho];simp[Op.operands,hy]) t hx) (fun y hy t hx=>ht y (by rw[ho];simp[Op.operands,hy]) t hx) (fun y hy t hx=>ht y (by rw[ho];simp[Op.operands,hy]) t hx) hso hr
 | fieldAddr t x f=>exact ut hT H hd ho (fun t hx=>ht x (by rw[ho];simp[Op.operands]) t hx) hr
 | field t x f=>
  have h1:=fun t hx=>ht x (by rw[ho];simp[Op.operands]) t hx
  unfold bw fG at hr ⊢
  rw[ho] at hr ⊢
  simp only at hr ⊢
  exact eB H hd (m:=Instr.field t (a.eval x) f) (by simp only[execOp,ho]) (fun r hr'=>Ej hT hr' (aS H x h1)) hr
 | indexAddr t x i=>exact uy hT H hd ho (fun t hx=>ht x (by rw[ho];simp[Op.operands]) t hx) (fun t hx=>ht i (by rw[ho];simp[Op.operands]) t hx) hr
 | index t x i=>
  have h1:=fun t hx=>ht x (by rw[ho];simp[Op.operands]) t hx
  have h2:=fun t hx=>ht i (by rw[ho];simp[Op.operands]) t hx
  unfold bw fG at hr ⊢
  rw[ho] at hr ⊢
  simp only at hr ⊢
  exact eB H hd (m:=Instr.index t (a.eval x) (a.eval i)) (by simp only[execOp,ho]) (fun r hr'=>wL hT hr' (aS H x h1) (aS H i h2)) hr
 | extract x i=>
  have h1:=fun t hx=>ht x (by rw[ho];simp[Op.operands]) t hx
  unfold bw fG at hr ⊢
  rw[ho] at hr ⊢
  simp only at hr ⊢
  exact eB H hd (m:=Instr.extract (a.eval x) i) (by simp only[execOp,ho]) (fun r hr'=>yZ hr' (aS H x h1)) hr
 | panic x=>
  have h1:=fun t hx=>ht x (by rw[ho];simp[Op.operands]) t hx
  have hv:=aS H x h1
  unfold bw fG at hr ⊢
  rw[ho] at hr ⊢
  simp only at hr ⊢
  cases hq:opnd e x <;> rw[hq] at hr hv <;> (try exact absurd rfl hr)
  rename_i t v
  intro next Q hn hp
  simp only[VR] at hv
  obtain⟨y,hav,hy⟩:=hv
  unfold Oper.wp
  have hrun:(execOp a.eval o).run P w= .halt (.panic (.iface t y)) w:=by simp[execOp,ho,hav,Instr.panic]
  rw[hrun]
  exact hp (.iface t v) h (.iface t y) w rfl ⟨S,β,H.out,by simp only[VR];exact⟨y,rfl,hy⟩⟩
 | call cc=>
  unfold bw fG at hr ⊢
  rw[ho] at hr ⊢
  simp only at hr ⊢
  exact Gg hT hC H hd hU ho ht hr
 | makeMap t r=>
  unfold bw fG at hr ⊢
  rw[ho] at hr ⊢
  simp only at hr ⊢
  cases r with
  | some r=>exact absurd rfl hr
  | none=>
   simp only[Option.isSome_none,cond_false]
   exact zq H hd ho
 | lookup t x i ok=>
  have h1:=fun t hx=>ht x (by rw[ho];simp[Op.operands]) t hx
  have h2:=fun t hx=>ht i (by rw[ho];simp[Op.operands]) t hx
  unfold bw fG at hr ⊢
  rw[ho] at hr ⊢
  simp only at hr ⊢
  exact Cd hT H hd ho h1 h2 hr
 | range t x=>
  have h1:=fun t hx=>ht x (by rw[ho];simp[Op.operands]) t hx
  unfold bw fG at hr ⊢
  rw[ho] at hr ⊢
  simp only at hr ⊢
  exact Fg hT H hd ho h1 hr
 | entry x=>
  have h1:=fun t hx=>ht x (by rw[ho];simp[Op.operands]) t hx
  unfold bw fG at hr ⊢
  rw[ho] at hr ⊢
  simp only at hr ⊢
  exact Ed H hd ho h1 hr
 | mapUpdate t m k x=>
  have h1:=fun t hx=>ht m (by rw[ho];simp[Op.operands]) t hx
  have h2:=fun t hx=>ht k (by rw[ho];simp[Op.operands]) t hx
  have h3:=fun t hx=>ht x (by rw[ho];simp[Op.operands]) t hx
  unfold bw fG at hr ⊢
  rw[ho] at hr ⊢
  simp only at hr ⊢
  exact E9 hT H (.inl ho) h1 h2 h3 hr
 | insert t m k x=>
  have h1:=fun t hx=>ht m (by rw[ho];simp[Op.operands]) t hx
  have h2:=fun t hx=>ht k (by rw[ho];simp[Op.operands]) t hx
  have h3:=fun t hx=>ht x (by rw[ho];simp[Op.operands]) t hx
  unfold bw fG at hr ⊢
  rw[ho] at hr ⊢
  simp only at hr ⊢
  exact E9 hT H (.inr ho) h1 h2 h3 hr
 | _=>unfold bw fG at hr;rw[ho] at hr;exact absurd rfl hr
end
end Go.Av
namespace Go.Av
variable [Dr]
structure Agree (cx:Cx) (o:Oper) (e e':Env):Prop where
 ops:∀ t∈jf o,e'.get t=e.get t
 loc:((aw cx o).rl||(aw cx o).wl)=true→(∀ t,1000≤t→e'.get t=e.get t)∧∀ B,bp e'.lb B=bp e.lb B
 al:(aw cx o).dr=true→∀ g,aI e'.al g=aI e.al g
 lf:(aw cx o).wl=true→∀ s,o.dst=some s→aY e.sl (bh s)=true→aY e'.sl (bh s)=true
section
variable {cx:Cx} {e e':Env} {gid:Nat} {o:Oper}
omit [Dr] in
theorem Agree.get(A:Agree cx o e e'){t:Nat}(h:Operand.tmp t∈o.op.operands.toList):e'.get t=e.get t:=
 A.ops t (List.mem_filterMap.2 ⟨.tmp t,h,rfl⟩)
omit [Dr] in
theorem Agree.opnd(A:Agree cx o e e'){x:Operand}(h:x∈o.op.operands.toList):opnd e' x=opnd e x:=by
 cases x with
 | tmp t=>simp only[Av.opnd,Env.av];rw[A.get h]
 | const v=>rfl
 | func f=>rfl
 | global g=>rfl
omit [Dr] in
theorem Agree.opnds(A:Agree cx o e e'){l:List Operand}(h:∀ x∈l,x∈o.op.operands.toList):l.map (Av.opnd e')=l.map (Av.opnd e):=
 List.map_congr_left fun x hx=>A.opnd (h x hx)
omit [Dr] in
theorem Agree.parts(A:Agree cx o e e'){l:List (Nat×Operand)}(h:∀ x∈l,x.2∈o.op.operands.toList):l.map (fun p=>(p.1,Av.opnd e' p.2))=l.map (fun p=>(p.1,Av.opnd e p.2)):=
 List.map_congr_left fun x hx=>by rw[A.opnd (h x hx)]
omit [Dr] in
theorem o7(h:∀ t,1000≤t→e'.get t=e.get t){B:Nat}(hB:1000≤B):∀ n,mQ e' B n=mQ e B n
 | 0=>rfl
 | n + 1=>by
  simp only[mQ,Env.av]
  rw[o7 h hB n,h (B + n) (by omega)]
omit [Dr] in
theorem qQ(h:∀ B,bp e'.lb B=bp e.lb B)(B off n:Nat):lz e' B off n=lz e B off n:=by
 unfold lz;rw[h]
omit [Dr] in
theorem vu(h:∀ B,bp e'.lb B=bp e.lb B)(B off p n:Nat):mw e' B off p n=mw e B off p n:=by
 unfold mw;rw[h]
omit [Dr] in
theorem rm{told:Bool}{x:Operand}(A:Agree cx o e e')(h:x∈o.op.operands.toList):iI told e' gid x=iI told e gid x:=by
 unfold iI
 cases x with
 | tmp t=>simp only;rw[A.get h]
 | _=>rfl
omit [Dr] in
theorem zm{d:Option Tmp}{t:TypeId}{p:Nat}(A:Agree cx o e e')(hp:Operand.tmp p∈o.op.operands.toList)(hf:(aw cx o).rl=true∨iF (e.get p)=false):dV cx e' d t p=dV cx e d t p:=by
 unfold dV
 rw[A.get hp]
 cases hv:(e.get p).v with
 | val a=>rfl
 | loc B off=>
  replace hf:(aw cx o).rl=true:=hf.elim id fun h=>by simp[iF,hv] at h
  simp only
  cases cx.T t with
  | none=>rfl
  | some ti=>
   obtain⟨h1,h2⟩:=A.loc (by rw[hf];rfl)
   simp only
   rw[qQ h2]
   cases hlb:lz e B off ti.size with
   | false=>rfl
   | true=>
    obtain⟨m,_,_,hB⟩:=wK hlb
    rw[o7 h1 (by omega),h1 (B + off) (by omega)]
omit [Dr] in
theorem xW{t:TypeId}{p:Nat}{y:Operand}(A:Agree cx o e e')(hp:Operand.tmp p∈o.op.operands.toList)(hy:y∈o.op.operands.toList)(hf:(aw cx o).wl=true):fH cx e' gid t p y=fH cx e gid t p y:=by
 unfold fH
 rw[A.get hp,A.opnd hy]
 obtain⟨h1,h2⟩:=A.loc (by rw[hf];simp)
 cases hv:(e.get p).v with
 | val a=>rfl
 | loc B off=>
  simp only
  cases cx.T t with
  | none=>rfl
  | some ti=>
   simp only
   rw[qQ h2,vu h2]
   cases y with
   | tmp s=>simp only;rw[A.get hy]
   | _=>rfl
omit [Dr] in
theorem wk{t:TypeId}{p i:Nat}(A:Agree cx o e e')(hp:Operand.tmp p∈o.op.operands.toList):gZ cx e' t p i=gZ cx e t p i:=by
 unfold gZ
 rw[A.get hp]
omit [Dr] in
theorem wM{t:TypeId}{p:Nat}{i:Operand}(A:Agree cx o e e')(hp:Operand.tmp p∈o.op.operands.toList)(hi:i∈o.op.operands.toList):dA cx e' t p i=dA cx e t p i:=by
 unfold dA
 rw[A.get hp,A.opnd hi]
omit [Dr] in
theorem vF{s:Nat}{t:TypeId}(A:Agree cx o e e')(hs:o.dst=some s)(hf:ck cx.ann.kinds s .L≠.F→ck cx.ann.kinds s .L≠.H→ck cx.ann.kinds s .L≠.B→(aw cx o).wl=true)(hb:fE cx e gid s t≠.bad):fE cx e' gid s t=fE cx e gid s t:=by
 unfold fE at hb ⊢
 cases ht:cx.T t with
 | none=>rfl
 | some ti=>
  rw[ht] at hb
  simp only at hb ⊢
  cases hk:ck cx.ann.kinds s .L <;> rw[hk] at hb hf <;> simp only at hb ⊢
  all_goals
   have hw:=hf (by simp) (by simp) (by simp)
   cases hl:aY e.sl (bh s) with
   | false=>exact absurd (by rw[hl];simp) hb
   | true=>rw[A.lf hw s hs hl]
omit [Dr] in
theorem Bn{s:Nat}{t:TypeId}{x:Operand}(A:Agree cx o e e')(hs:o.dst=some s)(hx:x∈o.op.operands.toList)(hf:ck cx.ann.kinds s .F≠.F→ck cx.ann.kinds s .F≠.H→ck cx.ann.kinds s .F≠.B→(aw cx o).wl=true)(hb:kI cx e s t x≠.bad):kI cx e' s t x=kI cx e s t x:=by
 unfold kI at hb ⊢
 rw[A.opnd hx]
 cases hk:ck cx.ann.kinds s .F <;> rw[hk] at hb hf <;> simp only at hb ⊢
 all_goals
  cases ht:cx.T t with
  | none=>rfl
  | some ti=>
   rw[ht] at hb
   simp only at hb ⊢
   have hw:=hf (by simp) (by simp) (by simp)
   cases hl:aY e.sl (bh s) with
   | false=>exact absurd (by rw[hl];simp) hb
   | true=>rw[A.lf hw s hs hl]
omit [Dr] in
theorem yD {c:Call} (A:Agree cx o e e') (ho:o.op= .call c):fF cx e' gid o c=fF cx e gid o c:=by
 have hargs:∀ x∈c.args.toList,x∈o.op.operands.toList:=fun x hx=>by
  rw[ho];simp[Op.operands,Call.operands];exact .inr (by simpa using hx)
 have hT:∀ b:Bool,c.args.toList.map (pf b e')=c.args.toList.map (pf b e):=fun b=>by
  refine List.map_congr_left fun x hx=>?_
  unfold pf ni
  rw[A.opnd (hargs x hx)]
 unfold fF
 rw[A.opnds hargs,hT]
 cases hc:c.callee with
 | invoke r m=>rfl
 | value f=>
  have hf:f∈o.op.operands.toList:=by rw[ho];simp[Op.operands,Call.operands,hc]
  cases f with
  | func g=>rfl
  | _=>simp only;rw[A.opnd hf]
 | builtin b=>
  cases b <;> simp only
  case clear=>
   split
   ·rename_i t ts x xs hts hxs
    rw[A.opnd (hargs x (by rw[hxs];simp))]
   ·rfl
  case len=>
   split
   ·rename_i t ts x xs hts hxs
    rw[A.opnd (hargs x (by rw[hxs];simp))]
   ·rfl
  case append=>
   split
   ·rename_i t u x y hts hxs
    have hx:=hargs x (by rw[hxs];simp)
    rw[A.opnd hx,A.opnd (hargs y (by rw[hxs];simp))]
    cases gK cx.T u with
    | false=>rfl
    | true=>
     simp only[Bool.not_true,cond_false]
     cases hha:bU cx.ann.ha o.dst with
     | true=>
      have hns:gX e' x=gX e x:=by
       cases x with
       | tmp s=>
        have hdr:(aw cx o).dr=true:=by
         unfold aw;rw[ho];simp only[hc,hha,cond_true]
        unfold gX
        simp only
        rw[A.get hx]
        cases (e.get s).g with
        | none=>rfl
        | some g=>simp only;rw[A.al hdr]
       | _=>rfl
      rw[hns]
      rfl
     | false=>
      simp only[cond_false]
      cases hn:bc x with
      | true=>rfl
      | false=>
       simp only[cond_false]
       cases x with
       | tmp s=>
        simp only
        rw[A.get hx]
        have hdr:(aw cx o).dr=true:=by
         unfold aw;rw[ho];simp only[hc,hha,cond_false,hxs,hn];rfl
        cases (e.get s).g with
        | none=>rfl
        | some g=>simp only;rw[A.al hdr]
       | _=>rfl
   ·rfl
omit [Dr] in
theorem Ay{k:Kind}{f g b h:Foot}(hh:h.wl=true)(h1:k≠.F)(h2:k≠.H)(h3:k≠.B):(match k with | .F=>f | .H=>g | .B=>b | _=>h).wl=true:=by
 cases k <;> first | exact absurd rfl h1 | exact absurd rfl h2 | exact absurd rfl h3 | exact hh
omit [Dr] in
theorem Cl(A:Agree cx o e e')(hb:fG cx e gid o≠.bad):fG cx e' gid o=fG cx e gid o:=by
 have hm:∀ {x:Operand},x∈o.op.operands.toList→opnd e' x=opnd e x:=fun h=>A.opnd h
 unfold fG at hb ⊢
 cases ho:o.op <;> rw[ho] at hb hm <;> simp only[Op.operands] at hm hb ⊢
 case move x=>exact rm A (by rw[ho];simp[Op.operands])
 case assign x=>exact rm A (by rw[ho];simp[Op.operands])
 case pick k x y=>rw[hm (x:=k) (by simp),hm (x:=x) (by simp),hm (x:=y) (by simp)]
 case box t x=>
  cases hd:o.dst with
  | none=>rfl
  | some s=>
   rw[hd] at hb
   exact Bn A hd (by rw[ho];simp[Op.operands]) (fun h1 h2 h3=>by unfold aw;rw[ho,hd];exact Ay rfl h1 h2 h3) hb
 case alloc t=>
  cases hd:o.dst with
  | none=>rfl
  | some s=>
   rw[hd] at hb
   exact vF A hd (fun h1 h2 h3=>by unfold aw;rw[ho,hd];exact Ay rfl h1 h2 h3) hb
 case load t x=>
  cases x with
  | tmp p=>
   simp only
   rw[A.get (t:=p) (by rw[ho];simp[Op.operands])]
   cases hnl:bU cx.ann.nl o.dst&&iF (e.get p) with
   | true=>rfl
   | false=>
    rw[zm A (by rw[ho];simp[Op.operands]) (by
     rw[Bool.and_eq_false_iff] at hnl
     rcases hnl with h | h
     ·exact .inl (by unfold aw;rw[ho];simp[h])
     ·exact .inr h)]
  | _=>rfl
 case store t x y=>
  cases x with
  | tmp p=>
   cases hd:o.dst with
   | some d=>rfl
   | none=>
    simp only
    rw[A.get (t:=p) (by rw[ho];simp[Op.operands]),xW A (by rw[ho];simp[Op.operands]) (by rw[ho];simp[Op.operands]) (by unfold aw;rw[ho])]
  | _=>rfl
 case build t ps=>rw[A.parts (l:=ps.toList) (fun p hp=>by rw[ho];simp[Op.operands];exact⟨p.1,by simpa using hp⟩)]
 case buildSlice t n ps=>rw[A.parts (l:=ps.toList) (fun p hp=>by rw[ho];simp[Op.operands];exact⟨p.1,by simpa using hp⟩)]
 case nilCheck x=>
  cases x with
  | tmp p=>simp only;rw[A.get (by rw[ho];simp[Op.operands])]
  | _=>rfl
 case binOp op t x y u=>
  have hn:∀ {x:Operand},x∈o.op.operands.toList→ni e' x=ni e x:=fun h=>by unfold ni;rw[A.opnd h]
  rw[hn (x:=x) (by rw[ho];simp[Op.operands]),hn (x:=y) (by rw[ho];simp[Op.operands])]
 case unOp op t x=>rw[hm (x:=x) (by simp)]
 case convert s t x=>rw[hm (x:=x) (by simp)]
 case makeInterface t x=>rw[hm (x:=x) (by simp)]
 case makeFunc f x y=>
  rw[A.opnds (l:=x.toList) (fun z hz=>by rw[ho];simp[Op.operands];exact .inl (by simpa using hz)),A.opnds (l:=y.toList) (fun z hz=>by rw[ho];simp[Op.operands];exact .inr (by simpa using hz))]
 case makeSlice t x y=>rw[hm (x:=x) (by simp),hm (x:=y) (by simp)]
 case slice t x lo hi mx=>
  have h1:∀ z:Option Operand,(∀ y,z=some y→y∈o.op.operands.toList)→z.map (opnd e')=z.map (opnd e):=by
   intro z hz
   cases z with
   | none=>rfl
   | some y=>simp only[Option.map_some];rw[A.opnd (hz y rfl)]
  have hcut:nh cx e' gid t x lo hi mx=nh cx e gid t x lo hi mx∨bU cx.ann.so o.dst=false:=by
   cases hso:bU cx.ann.so o.dst with
   | false=>exact .inr rfl
   | true=>
    refine .inl ?_
    unfold nh
    cases x with
    | tmp s=>
     have hdr:(aw cx o).dr=true:=by unfold aw;rw[ho];simp only[hso,cond_true]
     simp only[A.get (t:=s) (by rw[ho];simp[Op.operands]),A.al hdr,hm (x:=.tmp s) (by simp),h1 lo (fun y hy=>by rw[ho];simp[Op.operands,hy])]
    | _=>rfl
  rcases hcut with hcut | hcut
  ·rw[hcut,hm (x:=x) (by simp),h1 lo (fun y hy=>by rw[ho];simp[Op.operands,hy]),h1 hi (fun y hy=>by rw[ho];simp[Op.operands,hy]),h1 mx (fun y hy=>by rw[ho];simp[Op.operands,hy])]
  rw[hcut]
  simp only[cond_false]
  rw[hm (x:=x) (by simp),h1 lo (fun y hy=>by rw[ho];simp[Op.operands,hy]),h1 hi (fun y hy=>by rw[ho];simp[Op.operands,hy]),h1 mx (fun y hy=>by rw[ho];simp[Op.operands,hy])]
 case fieldAddr t x i=>
  cases x with
  | tmp p=>exact wk A (by rw[ho];simp[Op.operands])
  | _=>rfl
 case indexAddr t x i=>
  cases x with
  | tmp p=>exact wM A (by rw[ho];simp[Op.operands]) (by rw[ho];simp[Op.operands])
  | _=>rfl
 case field t x f=>rw[hm (x:=x) (by simp)]
 case index t x i=>rw[hm (x:=x) (by simp),hm (x:=i) (by simp)]
 case extract x i=>rw[hm (x:=x) (by simp)]
 case lookup t x i ok=>rw[hm (x:=x) (by simp),hm (x:=i) (by simp)]
 case mapUpdate t m k x=>unfold kJ;rw[hm (x:=m) (by simp),hm (x:=k) (by simp),hm (x:=x) (by simp)]
 case insert t m k x=>unfold kJ;rw[hm (x:=m) (by simp),hm (x:=k) (by simp),hm (x:=x) (by simp)]
 case panic x=>rw[hm (x:=x) (by simp)]
 case range t x=>rw[hm (x:=x) (by simp)]
 case entry x=>rw[hm (x:=x) (by simp)]
 case call c=>exact yD A ho
end
end Go.Av
namespace Go.Av
variable [Dr]
def dM:Act1→M Upd
 | .bad=>M.fail
 | .stat u=>M.pure u
 | .dyn m sh=>ae m fun v=>M.pure (sh v)
 | .thr v=>oC v
def jY(c:AV)(want:Bool)(m:M Upd):M Upd:=match c with
 | .bool b=>bif b== want then m else M.pure (.ofV (.tup []))
 | .tup []=>M.pure (.ofV (.tup []))
 | _=>M.fail
def eW(cx:Cx)(base:Nat)(ops:Array Oper)(i:Nat)(e:Env):M Upd:=match ops[i]? with
 | none=>M.fail
 | some o=>match o.guard with
  | none=>dM (fG cx e ((base + i) * 1000) o)
  | some (j,want)=>match dy ops j with
   | none=>M.fail
   | some t=>bif eN cx o then jY (e.av t) want (dM (gL (fG cx e ((base + i) * 1000) o))) else M.fail
def stepG(cx:Cx)(base:Nat)(ops:Array Oper)(i:Nat)(e:Env):M Env:=ae (eW cx base ops i e) fun u=>M.pure (e.upd (dy ops i) u)
def aX(cx:Cx)(base:Nat)(ops:Array Oper):List Nat→Env→M Env
 | [],e=>M.pure e
 | i:: is,e=>ae (stepG cx base ops i e) (aX cx base ops is)
omit [Dr] in
theorem lq(e:Env)(d:Option Tmp)(A:Act1):aN e d A=ae (dM A) fun u=>M.pure (e.upd d u):=by
 cases A with
 | bad=>rfl
 | stat u=>rfl
 | dyn m sh=>simp only[aN,dM,gk,bi]
 | thr v=>rfl
omit [Dr] in
theorem kU{p:Upd→Prop}{A:Act1}(h:cv p A){x y:Hp}{u:Upd}(hr:dM A x= .ok u y):p u:=by
 cases A with
 | bad=>cases hr
 | stat v=>cases hr;exact h
 | dyn m sh=>
  simp only[dM,ae,M.pure] at hr
  cases hm:m x <;> rw[hm] at hr <;> simp at hr
  rw[← hr.1];exact h _
 | thr v=>cases hr
omit [Dr] in
theorem oP(A:Act1)(x:Hp):dM (gL A) x=(match dM A x with | .ok u y=>.ok (gg u) y | .pan v y=>.pan v y | .fail=>.fail):=by
 cases A with
 | bad=>rfl
 | stat v=>rfl
 | dyn m sh=>
  simp only[dM,gL,ae,M.pure]
  cases m x <;> rfl
 | thr v=>rfl
section
variable {P:Program} {cx:Cx} {c:Entry} {N:Nat} {e:Env} {h:Hp} {a:Act} {w:World} {ops:Array Oper} {base:Nat}
def UD(base:Nat)(D:List Nat):Nat→Prop:=fun g=>g < base * 1000∨∃ i∈D,(base + i) * 1000≤g∧g < (base + i) * 1000 + 1000
omit [Dr] in
theorem vD{D:List Nat}{i:Nat}(hi:i ∉ D):∀ g,(base + i) * 1000≤g→g < (base + i) * 1000 + 1000→¬ UD base D g:=by
 rintro g h1 h2 (h3 | ⟨j,hj,h4,h5⟩)
 ·have:base * 1000≤(base + i) * 1000:=Nat.mul_le_mul_right _ (by omega)
  omega
 ·have:i=j:=by omega
  exact hi (this▸hj)
omit [Dr] in
theorem tZ{D:List Nat}{i:Nat}:∀ g,UG (UD base D) ((base + i) * 1000) g→UD base (i:: D) g:=by
 rintro g ((h1 | ⟨j,hj,h2⟩) | h1)
 ·exact .inl h1
 ·exact .inr ⟨j,by simp[hj],h2⟩
 ·exact .inr ⟨i,by simp,h1⟩
structure OpsOk (N:Nat) (cx:Cx) (ops:Array Oper):Prop where
 dst:∀(i:Nat)(o:Oper),ops[i]? = some o→∀ t,o.dst=some t→t < N
 src:∀(i:Nat)(o:Oper),ops[i]? = some o→∀ x∈o.op.operands.toList,∀ t,x= .tmp t→t < 1000
 kin:∀ p,B5 (ck cx.ann.kinds p .L)=true→p < N
omit [Dr] in
theorem BR{x:Array Value}{t:Nat}{b:Bool}(h:x.getD t undef= .bool b):x[t]? = some (.bool b):=by
 rw[Array.getD_eq_getD_getElem?] at h
 cases hx:x[t]? with
 | none=>rw[hx] at h;cases h
 | some v=>rw[hx] at h;simp at h;rw[h]
theorem Cv{U:Nat→Prop}{gid:Nat}{f:Foot}{ss:Option Nat}{d:Option Tmp}{u:Upd}(hs:Shape e gid f ss u)(hw:f.wl=false)(hdr:f.dr=false)(hU:∀ g z,aI e.al g=some z→g≠gid){a':Act}{w':World} {h':Hp}
  (H:dP c N U (e.upd d u) h' a' w'):dP c N U (e.upd d (gg u)) h' a' w':=by
 obtain⟨S,β,γ,lam,ω,F⟩:=H
 have h1:=hs.ls hw
 have h2:=hs.lb hw
 have h3:=hs.unlb hw
 have h4:=hs.nodr hdr
 have hget:∀ t,(e.upd d (gg u)).get t=if d=some t then ⟨u.ent.v,none⟩ else e.get t:=fun t=>by rw[cF];rfl
 have hget':∀ t,(e.upd d u).get t=if d=some t then u.ent else e.get t:=fun t=>by rw[cF,h1];rfl
 refine⟨S,β,γ,lam,ω,F.weak (fun t=>.inl ?_) (fun t g hg=>?_) (fun g z hz=>?_) (fun B n hB=>?_)⟩
 ·rw[hget,hget'];split <;> rfl
 ·rw[hget] at hg
  rw[hget']
  split at hg
  ·cases hg
  ·rename_i hd;rw[if_neg hd];exact hg
 ·have hz':aI e.al g=some z:=hz
  show aI (u.add++ez e.al u.drop) g=some z
  rw[h4]
  have hne:=hU g z hz'
  have:∀ l:List (Nat×Option Nat),(∀ x∈l,x.1=gid)→aI (l++ez e.al none) g=some z:=by
   intro l
   induction l with
   | nil=>intro _;exact hz'
   | cons x l ih=>
    intro hl
    obtain⟨k,y⟩:=x
    rw[List.cons_append,bR,if_neg]
    ·exact ih fun x hx=>hl x (by simp[hx])
    ·have:=hl (k,y) (by simp)
     simp at this
     omega
  exact this u.add (hs.add hw)
 ·show bp (lN (dS e.lb u.unlb) u.lb) B=some n
  rw[h2,h3]
  exact hB
theorem rY (hT:TOK P cx.T) (hC:cM P cx.own cx.call) (hO:OpsOk N cx ops) {D:List Nat} {i:Nat} (hi:i ∉ D) (H:dP c N (UD base D) e h a w) (hr:stepG cx base ops i e h≠.fail)
  {K:Act→World→Prop} {Q:Exit→Act→World→Prop} (hn:∀ e' h' a' w',stepG cx base ops i e h= .ok e' h'→dP c N (UD base (i:: D)) e' h' a' w'→a'.defers=a.defers→K a' w')
  (hp:∀ pv h' v w',stepG cx base ops i e h= .pan pv h'→lM c pv h' v w'→Q (.panic [{ v,recovered:=false }]) a w'):wpOp P ops Q i K a w:=by
 obtain⟨S,β,γ,lam,ω,F⟩:=H
 unfold stepG eW at hr hn hp
 simp only[wpOp]
 cases ho:ops[i]? with
 | none=>rw[ho] at hr;exact absurd rfl hr
 | some o=>
  have hdst:dy ops i=o.dst:=by simp[dy,ho]
  rw[hdst,ho] at hr hn hp
  simp only at hr hn hp ⊢
  have hop:=fun (hr:bw cx e ((base + i) * 1000) o h≠.fail)=>E0 hT hC F (hO.dst i o ho) (vD hi) (hO.src i o ho) hO.kin hr
  cases hg:o.guard with
  | none=>
   rw[hg] at hr hn hp
   simp only at hr hn hp
   rw[← lq] at hr hn hp
   have hw:Region.wanted o (yielded ops a.tmps)=true:=by unfold Region.wanted;rw[hg]
   rw[if_pos hw]
   exact .inl (hop hr K Q (fun e' h' a' w' h1 h2 h3=>hn e' h' a' w' h1 (h2.wider tZ) h3) hp)
  | some g=>
   obtain⟨j,want⟩:=g
   rw[hg] at hr hn hp
   simp only at hr hn hp
   have hwant:Region.wanted o (yielded ops a.tmps)=(yielded ops a.tmps j== some want):=by unfold Region.wanted;rw[hg]
   cases hdj:dy ops j with
   | none=>rw[hdj] at hr;exact absurd rfl hr
   | some t=>
    rw[hdj] at hr hn hp
    simp only at hr hn hp
    cases hpl:eN cx o with
    | false=>rw[hpl] at hr;exact absurd rfl hr
    | true=>
    rw[hpl] at hr hn hp
    simp only[cond_true] at hr hn hp
    have hdj':(ops[j]?).bind (·.dst)=some t:=hdj
    have htN:t < N:=by
     cases hoj:ops[j]? with
     | none=>rw[hoj] at hdj';simp at hdj'
     | some oj=>rw[hoj] at hdj';exact hO.dst j oj hoj t hdj'
    have hs:=F.slots t (by have:=F.tsz.2;omega)
    have hav:VR S β (e.av t) (a.tmps.getD t undef):=by
     simp only[Env.av,Ent.av]
     cases hv:(e.get t).v with
     | val av=>rw[hv] at hs;exact hs
     | loc B off=>simp[VR]
    have hskip:(∀ e' h' a' w',(R.ok (e.upd o.dst (.ofV (.tup []))) h:R Env)= .ok e' h'→dP c N (UD base (i:: D)) e' h' a' w'→a'.defers=a.defers→K a' w')→K (a.put o.dst undef) w:=by
     intro hn
     exact hn _ _ _ _ rfl ⟨S,β,γ,lam,ω,(F.setV (v:=undef) (hO.dst i o ho) (by simp only[VR];exact⟨[],rfl,by simp[aM]⟩)).wider (fun g hg=>tZ g (.inl hg))⟩ (put_defers a o.dst undef)
    cases hq:e.av t with
    | bool b=>
     rw[hq] at hr hn hp hav
     simp only[VR] at hav
     have hy:yielded ops a.tmps j=some b:=by
      unfold yielded
      rw[hdj']
      simp only[Option.bind_some,BR hav]
     rw[hwant,hy]
     cases hbw:(b== want) with
     | true=>
      simp only[jY,hbw,cond_true] at hr hn hp
      have:b=want:=by simpa using hbw
      subst this
      rw[if_pos (by simp)]
      simp only[eN,Bool.and_eq_true,Bool.not_eq_true'] at hpl
      simp only[ae,oP,M.pure] at hr hn hp
      have hact:dM (fG cx e ((base + i) * 1000) o) h≠.fail:=by
       intro hf;rw[hf] at hr;exact hr rfl
      refine .inl (hop ?_ K Q (fun e' h' a' w' h1 h2 h3=>?_) (fun pv h' v w' h1 h2=>?_))
      ·unfold bw
       rw[lq]
       simp only[ae,M.pure]
       cases hx:dM (fG cx e ((base + i) * 1000) o) h with
       | fail=>exact absurd hx hact
       | _=>simp
      ·unfold bw at h1
       rw[lq] at h1
       simp only[ae,M.pure] at h1
       cases hx:dM (fG cx e ((base + i) * 1000) o) h with
       | fail=>exact absurd hx hact
       | pan pv hh=>rw[hx] at h1;cases h1
       | ok u hh=>
        rw[hx] at h1 hn
        simp only[R.ok.injEq] at h1
        obtain⟨rfl,rfl⟩:=h1
        have hsh:=kU (ll cx e ((base + i) * 1000) o) hx
        exact hn _ _ a' w' rfl ((Cv hsh hpl.1 hpl.2 (fun g z hz hgg=>vD hi g (by omega) (by omega) (F.used.2 g z hz)) h2).wider tZ) h3
      ·unfold bw at h1
       rw[lq] at h1
       simp only[ae,M.pure] at h1
       cases hx:dM (fG cx e ((base + i) * 1000) o) h with
       | fail=>exact absurd hx hact
       | ok u hh=>rw[hx] at h1;cases h1
       | pan pv2 hh=>
        rw[hx] at h1 hp
        simp only[R.pan.injEq] at h1
        obtain⟨rfl,rfl⟩:=h1
        exact hp _ _ v w' rfl h2
     | false=>
      simp only[jY,hbw,cond_false,bi] at hn
      have:(some b== some want)=false:=by simpa using hbw
      rw[if_neg (by rw[this];simp)]
      exact hskip hn
    | tup vs=>
     rw[hq] at hr hn hp hav
     cases vs with
     | nil=>
      simp only[jY,bi] at hn
      simp only[VR,aM] at hav
      obtain⟨vs,hav,rfl⟩:=hav
      have hy:yielded ops a.tmps j=none:=by
       unfold yielded
       rw[hdj']
       simp only[Option.bind_some]
       rw[Array.getD_eq_getD_getElem?] at hav
       cases hx:a.tmps[t]? with
       | none=>rfl
       | some v=>rw[hx] at hav;simp at hav;rw[hav]
      rw[hwant,hy,if_neg (by simp)]
      exact hskip hn
     | cons v vs=>exact absurd rfl hr
    | _=>rw[hq] at hr;exact absurd rfl hr
def UR(base n:Nat):Nat→Prop:=fun g=>g < (base + n) * 1000
omit [Dr] in
theorem Hz{D:List Nat}{n:Nat}(h:∀ i∈D,i < n):∀ g,UD base D g→UR base n g:=by
 rintro g (h1 | ⟨i,hi,h2,h3⟩)
 ·exact Nat.lt_of_lt_of_le h1 (Nat.mul_le_mul_right _ (by omega))
 ·have h4:(base + i) * 1000 + 1000≤(base + n) * 1000:=by
   have:=h i hi
   rw[show (base + i) * 1000 + 1000=(base + i + 1) * 1000 by rw[Nat.add_mul _ 1]]
   exact Nat.mul_le_mul_right _ (by omega)
  exact Nat.lt_of_lt_of_le h3 h4
theorem tP(hT:TOK P cx.T)(hC:cM P cx.own cx.call)(hO:OpsOk N cx ops){Q:Exit→Act→World→Prop}:∀(l:List Nat)(D:List Nat)(e:Env)(h:Hp)(a:Act)(w:World),l.Nodup→(∀ i∈l,i ∉ D)→
  dP c N (UD base D) e h a w→aX cx base ops l e h≠.fail→
  (∀ e' h' a' w',aX cx base ops l e h= .ok e' h'→dP c N (UD base (l.reverse++D)) e' h' a' w'→a'.defers=a.defers→Q .normal a' w')→
  (∀ pv h' v w' a',aX cx base ops l e h= .pan pv h'→lM c pv h' v w'→a'.defers=a.defers→Q (.panic [{ v,recovered:=false }]) a' w')→wpOps P ops Q l a w
 | [],D,e,h,a,w,_,_,H,_,hn,_=>by
  simp only[wpOps]
  exact hn e h a w rfl (by simpa using H) rfl
 | i:: l,D,e,h,a,w,hnd,hdis,H,hr,hn,hp=>by
  simp only[aX,ae] at hr hn hp
  have hnd':=List.nodup_cons.1 hnd
  rw[wpOps_cons]
  refine rY hT hC hO (hdis i (by simp)) H (fun hf=>by rw[hf] at hr;exact hr rfl) (fun e' h' a' w' hst hs hdf=>?_) (fun pv h' v w' hst hps=>?_)
  ·rw[hst] at hr hn hp
   simp only at hr hn hp
   refine tP hT hC hO l (i:: D) e' h' a' w' hnd'.2 (fun j hj=>?_) hs hr (fun e2 h2 a2 w2 h1 h3 h4=>hn e2 h2 a2 w2 h1 (by simpa using h3) (h4.trans hdf)) (fun pv h2 v w2 a2 h1 h3 h4=>hp pv h2 v w2 a2 h1 h3 (h4.trans hdf))
   simp only[List.mem_cons,not_or]
   exact⟨fun hji=>hnd'.1 (hji▸hj),hdis j (by simp[hj])⟩
  ·rw[hst] at hp
   exact hp pv h' v w' a rfl hps rfl
end
end Go.Av
namespace Go.Av
variable [Dr]
def bg{α:Type}(m:M α):Prop:=∃ o,m=ah o
def dE{α:Type}(m:M α):Prop:=∀ h,m h= .fail∨∃ v,m h= .ok v h
def ey{α:Type}(m:M α):Prop:=∀ h v h',m h≠.pan v h'
omit [Dr] in
theorem bg.read{α:Type}{m:M α}(h:bg m):dE m:=by
 obtain⟨o,rfl⟩:=h
 intro h
 cases o with
 | none=>exact .inl rfl
 | some v=>exact .inr ⟨v,rfl⟩
omit [Dr] in
theorem dE.stay{α:Type}{m:M α}(g:dE m):ey m:=by
 intro h v h' hh
 rcases g h with g | ⟨x,g⟩ <;> rw[g] at hh <;> cases hh
omit [Dr] in
theorem bg.bnd{α β:Type}{m:M α}(h:bg m)(f:α→β):bg (ae m fun v=>M.pure (f v)):=by
 obtain⟨o,rfl⟩:=h
 cases o with
 | none=>exact⟨none,rfl⟩
 | some v=>exact⟨some (f v),rfl⟩
omit [Dr] in
theorem dE.bnd{α β:Type}{m:M α}(g:dE m)(f:α→β):dE (ae m fun v=>M.pure (f v)):=by
 intro h
 simp only[Av.ae,M.pure]
 rcases g h with g | ⟨x,g⟩ <;> rw[g]
 ·exact .inl rfl
 ·exact .inr ⟨_,rfl⟩
omit [Dr] in
theorem ey.bnd{α β:Type}{m:M α}(g:ey m)(f:α→β):ey (ae m fun v=>M.pure (f v)):=by
 intro h v h' hh
 simp only[Av.ae,M.pure] at hh
 cases hm:m h <;> rw[hm] at hh <;> simp at hh
 exact g _ _ _ hm
omit [Dr] in
theorem bg.lft{α:Type}(o:Option α):bg (ah o):=⟨o,rfl⟩
omit [Dr] in
theorem bg.pure{α:Type}(a:α):bg (M.pure a):=⟨some a,rfl⟩
omit [Dr] in
theorem bg.fail{α:Type}:bg (M.fail:M α):=⟨none,rfl⟩
def ly{α:Type}(m:M α):Prop:=∀ h t v,m h= .ok v h→m (h++t)= .ok v (h++t)
def yp{α:Type}(m:M α):Prop:=∀ h v h',m h= .ok v h'→∃ t,h'=h++t
omit [Dr] in
theorem bg.app{α:Type}{m:M α}(h:bg m):ly m:=by
 obtain⟨o,rfl⟩:=h
 intro h t v hh
 cases o with
 | none=>cases hh
 | some x=>cases hh;rfl
omit [Dr] in
theorem bg.nw{α:Type}{m:M α}(h:bg m):yp m:=by
 obtain⟨o,rfl⟩:=h
 intro h v h' hh
 cases o with
 | none=>cases hh
 | some x=>cases hh;exact⟨[],by simp⟩
omit [Dr] in
theorem ly.bnd{α β:Type}{m:M α}(g:ly m∧dE m)(f:α→β):ly (ae m fun v=>M.pure (f v))∧dE (ae m fun v=>M.pure (f v)):=by
 refine⟨fun h t v hh=>?_,g.2.bnd f⟩
 simp only[Av.ae,M.pure] at hh ⊢
 rcases g.2 h with k | ⟨x,k⟩
 ·rw[k] at hh;cases hh
 ·rw[k] at hh;cases hh
  rw[g.1 h t x k]
omit [Dr] in
theorem yp.bnd{α β:Type}{m:M α}(g:yp m)(f:α→β):yp (ae m fun v=>M.pure (f v)):=by
 intro h v h' hh
 simp only[Av.ae,M.pure] at hh
 cases hm:m h <;> rw[hm] at hh <;> simp at hh
 obtain⟨t,ht⟩:=g _ _ _ hm
 exact⟨t,by rw[← hh.2,ht]⟩
def bL(p:∀ {α:Type},M α→Prop):Act1→Prop
 | .dyn m _=>p m
 | .thr _=>False
 | _=>True
structure IsoPure (cx:Cx):Prop where
 iso:∀ f args,cx.iso f=true→bg (cx.call f args)
 nw:∀ f args,cx.nw f=true→yp (cx.call f args)
section
variable {cx:Cx} {e:Env} {gid:Nat} {o:Oper}
omit [Dr] in
theorem bL.cond {p:∀ {α:Type},M α→Prop} {b:Bool} {x y:Act1} (h1:b=true→bL p x) (h2:b=false→bL p y):bL p (bif b then x else y):=by
 cases b with
 | true=>exact h1 rfl
 | false=>exact h2 rfl
omit [Dr] in
theorem bL.lft(o:Option AV)(sh:AV→Upd):bL bg (.dyn (ah o) sh):=bg.lft o
omit [Dr] in
theorem q4(T:TT)(t:TypeId)(x:AV):dE (bA T t x):=by
 have key:∀ x,dE (fun h:Hp=>(match aj T t x with | some v=>R.ok v h | none=>.fail)):=by
  intro x h
  cases hq:aj T t x with
  | none=>exact .inl rfl
  | some v=>exact .inr ⟨v,rfl⟩
 cases x with
 | hp l off=>
  intro h
  simp only[bA]
  cases T t with
  | none=>exact .inl rfl
  | some ti=>
   cases h[l]? with
   | none=>exact .inl rfl
   | some cs=>
    simp only
    cases ti.agg with
    | true=>
     simp only[cond_true]
     split
     ·exact .inr ⟨_,rfl⟩
     ·exact .inl rfl
    | false=>
     simp only[cond_false]
     cases cs[off]? with
     | none=>exact .inl rfl
     | some v=>exact .inr ⟨v,rfl⟩
 | _=>exact key _
omit [Dr] in
theorem xV(T:TT)(t:TypeId)(x y:AV):ey (bK T t x y):=by
 intro h v h' hh
 unfold bK at hh
 split at hh
 ·split at hh
  ·revert hh
   generalize (_&&_:Bool)=b1;cases b1 <;> simp
  ·cases hh
 ·cases hh
omit [Dr] in
theorem vY(T:TT)(t:TypeId)(x:AV):ey (nJ T t x):=by
 intro h v h' hh
 unfold nJ at hh
 split at hh
 ·cases hh
 ·split at hh
  ·split at hh
   ·cases hh
   ·split at hh
    ·cases hh
    ·split at hh
     ·cases hh
     ·revert hh
      generalize (_&&_:Bool)=b1;cases b1 <;> simp
    ·cases hh
  ·cases hh
omit [Dr] in
theorem tB(cs:List AV):ey (newH cs):=by
 intro h v h' hh
 unfold newH at hh
 revert hh
 generalize (_||_:Bool)=b1
 cases b1 <;> simp
omit [Dr] in
theorem Cg(t:Nat)(cs:List AV):ey (Cf t cs):=by
 intro h v h' hh
 unfold Cf at hh
 split at hh
 ·revert hh
  generalize List.any _ _=b1
  cases b1 <;> simp
 ·cases hh
omit [Dr] in
theorem uK:ey dU:=by
 intro h v h' hh
 cases hh
omit [Dr] in
theorem zp(T:TT)(t:TypeId)(x k:AV)(ok:Bool):dE (cL T t x k ok):=by
 intro h
 unfold cL
 cases gq h x with
 | none=>exact .inl rfl
 | some es=>
  simp only
  cases jo T t es k ok with
  | none=>exact .inl rfl
  | some v=>exact .inr ⟨v,rfl⟩
omit [Dr] in
theorem BH{h s:Hp}{x:AV}{es:List AV}(hh:gq h x=some es):gq (h++s) x=some es:=by
 unfold gq at hh ⊢
 cases x with
 | mp l=>
  simp only at hh ⊢
  cases hl:h[l]? with
  | none=>rw[hl] at hh;cases hh
  | some cs=>
   rw[hl] at hh
   have hl':(h++s)[l]? = some cs:=by
    rw[List.getElem?_append,if_pos (List.getElem?_eq_some_iff.1 hl).1,hl]
   rw[hl']
   exact hh
 | _=>exact hh
omit [Dr] in
theorem Ca(T:TT)(t:TypeId)(x k:AV)(ok:Bool):ly (cL T t x k ok):=by
 intro h s v hh
 unfold cL at hh ⊢
 cases hs:gq h x with
 | none=>rw[hs] at hh;cases hh
 | some es=>
  rw[hs] at hh
  rw[BH hs]
  simp only at hh ⊢
  cases ha:jo T t es k ok with
  | none=>rw[ha] at hh;cases hh
  | some u=>rw[ha] at hh;cases hh;rfl
omit [Dr] in
theorem xE(T:TT)(t:TypeId)(x:AV):ey (fY T t x):=by
 intro h v h' hh
 unfold fY at hh
 repeat' split at hh
 all_goals cases hh
omit [Dr] in
theorem wd(x:AV):dE (fC x):=by
 intro h
 by_cases hf:fC x h= .fail
 ·exact .inl hf
 ·obtain⟨_,_,_,_,_,_,k,u,_,_,_,_,_,h1⟩:=lV hf
  exact .inr ⟨_,h1⟩
omit [Dr] in
theorem yU(x:AV):ly (fC x):=by
 intro h s v hh
 obtain⟨l,m,n,p,cu,es,k,u,rfl,h1,h2,h3,h4,h5⟩:=lV (x:=x) (h:=h) (by rw[hh];simp)
 rw[h5] at hh
 cases hh
 unfold fC
 simp only[List.getElem?_append_left (List.getElem?_eq_some_iff.1 h1).1,List.getElem?_append_left (List.getElem?_eq_some_iff.1 h2).1,h1,h2,if_pos h3,h4]
omit [Dr] in
theorem tK(T:TT)(t:TypeId)(x k y:AV):ey (putH T t x k y):=by
 intro h v h' hh
 unfold putH at hh
 split at hh
 ·cases hh
 ·revert hh
  cases vV T 20 _ k with
  | false=>intro hh;cases hh
  | true=>
   simp only[cond_true]
   intro hh
   split at hh
   ·split at hh
    ·split at hh
     ·cases hh
     ·cases hh
    ·cases hh
   ·cases hh
omit [Dr] in
theorem Bf(T:TT)(t:TypeId)(z:Bool)(x y:AV):ey (appH T t z x y):=by
 intro h v h' hh
 unfold appH at hh
 have hc:∀ {b:Bool} {r s:R AV},(∀ v h',r≠.pan v h')→(∀ v h',s≠.pan v h')→(bif b then r else s)≠.pan v h':=by
  intro b r s h1 h2
  cases b
  ·exact h2 _ _
  ·exact h1 _ _
 split at hh
 ·cases hh
 ·split at hh
  ·split at hh
   ·cases hh
   ·split at hh
    ·cases hh
    ·refine hc (fun v h' hh=>?_) (fun v h' hh=>by cases hh) hh
     split at hh
     ·revert hh
      generalize List.isEmpty _=b1
      generalize decide (_≤140737488355328)=b2
      cases b1 <;> cases b2 <;> simp
     ·revert hh
      generalize List.isEmpty _=b1
      generalize decide (_≤140737488355328)=b2
      cases z <;> cases b1 <;> cases b2 <;> simp
     ·split at hh
      ·cases hh
      ·revert hh
       generalize (_&&_:Bool)=b1
       generalize List.isEmpty _=b2
       cases b1 <;> cases b2 <;> simp
     ·cases hh
  ·cases hh
omit [Dr] in
theorem Be (T:TT) (t:TypeId) (x y:AV):ey (Bd T t x y):=by
 intro h v h' hh
 unfold Bd at hh
 have hc:∀ {b:Bool} {r s:R AV},(∀ v h',r≠.pan v h')→(∀ v h',s≠.pan v h')→(bif b then r else s)≠.pan v h':=by
  intro b r s h1 h2
  cases b
  ·exact h2 _ _
  ·exact h1 _ _
 split at hh
 ·cases hh
 ·split at hh
  ·split at hh
   ·cases hh
   ·refine hc (fun v h' hh=>?_) (fun v h' hh=>by cases hh) hh
    split at hh
    ·cases hh
    ·split at hh
     ·cases hh
     ·split at hh
      ·revert hh
       generalize List.isEmpty _=b1
       generalize decide (_≤140737488355328)=b2
       cases b1 <;> cases b2 <;> simp
      ·split at hh
       ·cases hh
       ·revert hh
        generalize (_&&_:Bool)=b1
        generalize List.isEmpty _=b2
        cases b1 <;> cases b2 <;> simp
      ·cases hh
  ·cases hh
omit [Dr] in
theorem vO(T:TT)(t n:Nat)(ps:List (Nat×AV)):ey (ki T t n ps):=by
 intro h v h' hh
 unfold ki at hh
 split at hh
 ·split at hh
  ·cases hh
  ·split at hh
   ·split at hh
    ·cases hh
    ·revert hh
     generalize (_&&_:Bool)=b1
     cases b1 <;> simp
   ·cases hh
 ·cases hh
omit [Dr] in
theorem tA(told:Bool)(x:Operand):bL bg (iI told e gid x):=by
 unfold iI
 split
 ·trivial
 ·exact bL.cond (fun _=>bL.cond (fun _=>trivial) (fun _=>trivial)) (fun _=>trivial)
omit [Dr] in
theorem zn(d:Option Tmp)(t:TypeId)(p:Nat):bL dE (dV cx e d t p)∧(bU cx.ann.hl d=false→bL bg (dV cx e d t p)):=by
 unfold dV
 split
 ·split
  ·exact⟨trivial,fun _=>trivial⟩
  ·constructor
   ·exact bL.cond (fun _=>bL.cond (fun _=>trivial) (fun _=>bL.cond (fun _=>trivial) (fun _=>trivial))) (fun _=>trivial)
   ·exact fun _=>bL.cond (fun _=>bL.cond (fun _=>trivial) (fun _=>bL.cond (fun _=>trivial) (fun _=>trivial))) (fun _=>trivial)
 ·cases hm:bU cx.ann.hl d with
  | true=>exact⟨q4 _ _ _,fun h=>by cases h⟩
  | false=>exact⟨(bg.lft _).read,fun _=>bg.lft _⟩
omit [Dr] in
theorem B8(T:TT)(t:TypeId)(x:AV):ly (bA T t x):=by
 intro h s v hh
 have hk:∀ y,(match aj T t y with | some v=>R.ok v h | none=>.fail)=R.ok v h→(match aj T t y with | some v=>R.ok v (h++s) | none=>.fail)=R.ok v (h++s):=by
  intro y hy
  cases hq:aj T t y with
  | none=>rw[hq] at hy;cases hy
  | some u=>rw[hq] at hy;cases hy;rfl
 unfold bA at hh ⊢
 cases x with
 | hp l off=>
  simp only at hh ⊢
  cases hT:T t with
  | none=>rw[hT] at hh;cases hh
  | some ti=>
   rw[hT] at hh
   cases hl:h[l]? with
   | none=>rw[hl] at hh;cases hh
   | some cs=>
    have hl':(h++s)[l]? = some cs:=by
     rw[List.getElem?_append]
     have:=(List.getElem?_eq_some_iff.1 hl).1
     rw[if_pos this,hl]
    rw[hl] at hh
    rw[hl']
    simp only at hh ⊢
    cases hag:ti.agg with
    | true=>
     rw[hag] at hh
     simp only[cond_true] at hh ⊢
     split at hh
     ·rename_i hc;cases hh;rw[if_pos hc]
     ·cases hh
    | false=>
     rw[hag] at hh
     simp only[cond_false] at hh ⊢
     cases hq:cs[off]? with
     | none=>rw[hq] at hh;cases hh
     | some u=>rw[hq] at hh;cases hh;rfl
 | _=>exact hk _ hh
omit [Dr] in
theorem EM(d:Option Tmp)(t:TypeId)(p:Nat):bL (fun m=>ly m∧dE m) (dV cx e d t p):=by
 unfold dV
 split
 ·split
  ·trivial
  ·exact bL.cond (fun _=>bL.cond (fun _=>trivial) (fun _=>bL.cond (fun _=>trivial) (fun _=>trivial))) (fun _=>trivial)
 ·cases hm:bU cx.ann.hl d with
  | true=>exact⟨B8 _ _ _,q4 _ _ _⟩
  | false=>exact⟨(bg.lft _).app,(bg.lft _).read⟩
omit [Dr] in
theorem Es{A:Act1}(h:bL ey A):bL ey (Lg A):=by
 cases A with
 | bad=>trivial
 | stat u=>intro h v h' hh;cases hh
 | dyn m sh=>
  intro x v h' hh
  simp only[Av.ae,tm] at hh
  cases hm:m x <;> rw[hm] at hh <;> simp at hh
  exact h _ _ _ hm
 | thr v=>exact h.elim
omit [Dr] in
theorem zb(t p i:Nat):bL bg (gZ cx e t p i):=by
 unfold gZ
 split
 ·split
  ·trivial
  ·split
   ·trivial
   ·split
    ·trivial
    ·exact bL.cond (fun _=>trivial) (fun _=>trivial)
 ·exact bg.lft _
omit [Dr] in
theorem zg(t p:Nat)(i:Operand):bL bg (dA cx e t p i):=by
 unfold dA
 split
 ·split
  ·split
   ·split
    ·trivial
    ·exact bL.cond (p:=bg) (fun _=>trivial) (fun _=>trivial)
   ·trivial
  ·trivial
 ·exact bg.lft _
omit [Dr] in
theorem zM(t p:Nat)(y:Operand):bL ey (fH cx e gid t p y):=by
 have hl:∀ o:Option AV,ey (Av.ah o):=fun o=>(bg.lft o).read.stay
 unfold fH
 split
 ·split
  ·trivial
  ·refine bL.cond (fun _=>bL.cond (fun _=>bL.cond (fun _=>hl _) (fun _=>trivial)) (fun _=>bL.cond (fun _=>hl _) (fun _=>bL.cond (fun _=>?_) (fun _=>trivial)))) (fun _=>trivial)
   split
   ·split
    ·exact hl _
    ·trivial
   ·exact bL.cond (fun _=>trivial) (fun _=>hl _)
 ·exact xV _ _ _ _
omit [Dr] in
theorem zL(t p:Nat)(y:Operand)(hl:iF (e.get p)=true):bL bg (fH cx e gid t p y):=by
 have hl':∀ o:Option AV,bg (Av.ah o):=fun o=>bg.lft o
 unfold fH
 cases hv:(e.get p).v with
 | val a=>simp[iF,hv] at hl
 | loc B off=>
  simp only
  split
  ·trivial
  ·refine bL.cond (fun _=>bL.cond (fun _=>bL.cond (fun _=>hl' _) (fun _=>trivial)) (fun _=>bL.cond (fun _=>hl' _) (fun _=>bL.cond (fun _=>?_) (fun _=>trivial)))) (fun _=>trivial)
   split
   ·split
    ·exact hl' _
    ·trivial
   ·exact bL.cond (fun _=>trivial) (fun _=>hl' _)
omit [Dr] in
theorem kg(s t:Nat):bL ey (fE cx e gid s t)∧(ck cx.ann.kinds s .L≠.H→ck cx.ann.kinds s .L≠.B→bL bg (fE cx e gid s t)):=by
 unfold fE
 split
 ·exact⟨trivial,fun _ _=>trivial⟩
 ·cases hk:ck cx.ann.kinds s .L with
  | F=>exact⟨trivial,fun _ _=>trivial⟩
  | H=>exact⟨tB _,fun h=>absurd rfl h⟩
  | B=>exact⟨Cg _ _,fun _ h=>absurd rfl h⟩
  | L=>exact⟨bL.cond (fun _=>trivial) (fun _=>trivial),fun _ _=>bL.cond (fun _=>trivial) (fun _=>trivial)⟩
  | S=>exact⟨bL.cond (fun _=>trivial) (fun _=>trivial),fun _ _=>bL.cond (fun _=>trivial) (fun _=>trivial)⟩
omit [Dr] in
theorem sR(s t:Nat)(x:Operand):bL ey (kI cx e s t x)∧(ck cx.ann.kinds s .F≠.H→bL bg (kI cx e s t x)):=by
 have hl:∀ o:Option AV,ey (Av.ah o):=fun o=>(bg.lft o).read.stay
 unfold kI
 cases hk:ck cx.ann.kinds s .F with
 | F=>exact⟨trivial,fun _=>trivial⟩
 | H=>exact⟨tB _,fun h=>absurd rfl h⟩
 | B=>exact⟨trivial,fun _=>trivial⟩
 | L=>
  simp only
  split
  ·exact⟨trivial,fun _=>trivial⟩
  ·exact⟨bL.cond (fun _=>hl _) (fun _=>trivial),fun _=>bL.cond (fun _=>bg.lft _) (fun _=>trivial)⟩
 | S=>
  simp only
  split
  ·exact⟨trivial,fun _=>trivial⟩
  ·exact⟨bL.cond (fun _=>hl _) (fun _=>trivial),fun _=>bL.cond (fun _=>bg.lft _) (fun _=>trivial)⟩
structure Class (f:Foot) (A:Act1):Prop where
 stay:f.piv=false→bL ey A
 read:f.wh=false→bL dE A
 pure:f.wh=false→f.rh=false→bL bg A
 app:f.wh=false→bL (fun m=>ly m∧dE m) A
 nw:f.nw=true→bL yp A
omit [Dr] in
theorem bL.imp {p q:∀ {α:Type},M α→Prop} (hpq:∀ {α:Type} (m:M α),p m→q m) {A:Act1} (h:bL p A):bL q A:=by
 cases A <;> first | trivial | exact hpq _ h | exact h
omit [Dr] in
theorem Class.of_pure{f:Foot}{A:Act1}(h:bL bg A):Class f A:=
 ⟨fun _=>h.imp fun _ g=>g.read.stay,fun _=>h.imp fun _ g=>g.read,fun _ _=>h,fun _=>h.imp fun _ g=>⟨g.app,g.read⟩,fun _=>h.imp fun _ g=>g.nw⟩
omit [Dr] in
theorem ly.nw{α:Type}{m:M α}(h:dE m):yp m:=fun x v h' hh=>by
 rcases h x with g | ⟨u,g⟩
 ·rw[g] at hh;cases hh
 ·rw[g] at hh;cases hh;exact⟨[],by simp⟩
omit [Dr] in
theorem Class.of_app{f:Foot}{A:Act1}(_hw:f.wh=false)(hr:f.rh=true)(h:bL (fun m=>ly m∧dE m) A):Class f A:=
 ⟨fun _=>h.imp fun _ g=>g.2.stay,fun _=>h.imp fun _ g=>g.2,fun _ h=>by (rw[hr] at h;cases h),fun _=>h,fun _=>h.imp fun _ g=>ly.nw g.2⟩
omit [Dr] in
theorem sN(T:TT)(t:TypeId)(x y:AV):dE (qd T t x y):=by
 intro h
 unfold qd
 cases sI h y with
 | none=>exact .inl rfl
 | some es=>
  simp only
  cases dL T t x (.sl es) with
  | none=>exact .inl rfl
  | some v=>exact .inr ⟨v,rfl⟩
omit [Dr] in
theorem Fw{h s:Hp}{y:AV}{es:List AV}(hh:sI h y=some es):sI (h++s) y=some es:=by
 unfold sI at hh ⊢
 split at hh
 ·rename_i l off len sz ag
  cases hl:h[l]? with
  | none=>rw[hl] at hh;cases hh
  | some cs=>
   rw[hl] at hh
   have hl':(h++s)[l]? = some cs:=by
    rw[List.getElem?_append]
    have:=(List.getElem?_eq_some_iff.1 hl).1
    rw[if_pos this,hl]
   simp only[hl']
   exact hh
 ·exact hh
 ·exact hh
 ·cases hh
omit [Dr] in
theorem vH(T:TT)(t:TypeId)(x y:AV):ly (qd T t x y):=by
 intro h s v hh
 unfold qd at hh ⊢
 cases hs:sI h y with
 | none=>rw[hs] at hh;cases hh
 | some es=>
  rw[hs] at hh
  rw[Fw hs]
  simp only at hh ⊢
  cases ha:dL T t x (.sl es) with
  | none=>rw[ha] at hh;cases hh
  | some u=>rw[ha] at hh;cases hh;rfl
omit [Dr] in
theorem Class.of_stay{f:Foot}{A:Act1}(hw:f.wh=true)(hn:f.nw=false)(h:bL ey A):Class f A:=
 ⟨fun _=>h,fun h=>by (rw[hw] at h;cases h),fun h=>by (rw[hw] at h;cases h),fun h=>by (rw[hw] at h;cases h),fun h=>by (rw[hn] at h;cases h)⟩
omit [Dr] in
theorem Class.of_piv{f:Foot}{A:Act1}(hw:f.wh=true)(h:f.piv=true)(hn:f.nw=true→bL yp A):Class f A:=
 ⟨fun h'=>by (rw[h] at h';cases h'),fun h=>by (rw[hw] at h;cases h),fun h=>by (rw[hw] at h;cases h),fun h=>by (rw[hw] at h;cases h),hn⟩
omit [Dr] in
theorem yE (hI:IsoPure cx) {c:Call} (ho:o.op= .call c):Class (aw cx o) (fF cx e gid o c):=by
 unfold fF
 cases hc:c.callee with
 | invoke r m=>exact .of_pure trivial
 | value x=>
  cases x with
  | func f=>
   simp only
   cases hfz:bU cx.ann.fz o.dst with
   | true=>
    simp only[cond_true]
    cases hq:!(cx.iso f) && !(cx.nw f)&&(cx.own f).isNone with
    | false=>exact .of_pure trivial
    | true=>
     simp only[Bool.and_eq_true,Bool.not_eq_true'] at hq
     exact .of_piv (by unfold aw;rw[ho];simp only[hc,hq.1.1,cond_false]) (by unfold aw;rw[ho];simp only[hc,hq.1.1,cond_false]) fun hn=>by unfold aw at hn;rw[ho] at hn;simp only[hc,hq.1.1,cond_false,hq.1.2] at hn;cases hn
   | false=>
   simp only[cond_false]
   cases hi:cx.iso f with
   | true=>exact .of_pure (hI.iso f _ hi)
   | false=>exact .of_piv (by unfold aw;rw[ho];simp only[hc,hi,cond_false]) (by unfold aw;rw[ho];simp only[hc,hi,cond_false]) fun hn=>hI.nw f _ (by unfold aw at hn;rw[ho] at hn;simpa only[hc,hi,cond_false] using hn)
  | _=>exact .of_piv (by unfold aw;rw[ho];simp only[hc]) (by unfold aw;rw[ho];simp only[hc]) fun hn=>by unfold aw at hn;rw[ho] at hn;simp[hc] at hn
 | builtin b=>
  cases b <;> simp only <;> (try exact .of_pure trivial)
  case clear=>
   have hw:(aw cx o).wh=true∧(aw cx o).nw=false:=by unfold aw;rw[ho];simp only[hc];exact⟨trivial,trivial⟩
   split
   ·exact .of_stay hw.1 hw.2 (vY _ _ _)
   ·exact .of_pure trivial
  case append=>
   split
   ·cases hu:gK cx.T _ with
    | false=>exact .of_pure trivial
    | true=>
     simp only[Bool.not_true,cond_false]
     cases hha:bU cx.ann.ha o.dst with
     | true=>exact .of_stay (by unfold aw;rw[ho];simp only[hc,hha,cond_true]) (by unfold aw;rw[ho];simp only[hc,hha,cond_true]) (by
       cases bU cx.ann.hb o.dst with
       | true=>exact Be _ _ _ _
       | false=>exact Bf _ _ _ _ _)
     | false=>
      simp only[cond_false]
      cases hhl:bU cx.ann.hl o.dst with
      | true=>
       refine .of_app (by unfold aw;rw[ho];simp only[hc,hha,cond_false]) (by unfold aw;rw[ho];simp only[hc,hha,hhl,cond_false]) ?_
       simp only[cond_true]
       refine bL.cond (fun _=>⟨vH _ _ _ _,sN _ _ _ _⟩) (fun _=>?_)
       split
       ·split
        ·trivial
        ·split
         ·trivial
         ·exact bL.cond (fun _=>⟨vH _ _ _ _,sN _ _ _ _⟩) (fun _=>trivial)
       ·trivial
      | false=>
       refine .of_pure ?_
       simp only[cond_false]
       refine bL.cond (fun _=>bg.lft _) (fun _=>?_)
       split
       ·split
        ·trivial
        ·split
         ·trivial
         ·exact bL.cond (fun _=>bg.lft _) (fun _=>trivial)
       ·trivial
   ·exact .of_pure trivial
  case len=>
   split
   ·exact .of_pure (bg.lft _)
   ·exact .of_pure trivial
  case min=>exact .of_pure (bg.lft _)
  case max=>exact .of_pure (bg.lft _)
omit [Dr] in
theorem eM(hI:IsoPure cx)(e:Env)(gid:Nat)(o:Oper):Class (aw cx o) (fG cx e gid o):=by
 unfold fG
 cases ho:o.op <;> simp only <;> (try exact .of_pure (bg.lft _)) <;> (try exact .of_pure trivial)
 case binOp=>exact .of_pure (bL.cond (fun _=>trivial) fun _=>bg.lft _)
 case buildSlice t n ps=>
  cases hha:bU cx.ann.ha o.dst with
  | true=>exact .of_stay (by unfold aw;rw[ho];simp only[hha,cond_true]) (by unfold aw;rw[ho];simp only[hha,cond_true]) (vO _ _ _ _)
  | false=>exact .of_pure (bg.lft _)
 case move x=>exact .of_pure (tA _ x)
 case assign x=>exact .of_pure (tA _ x)
 case box t x=>
  cases hd:o.dst with
  | none=>exact .of_pure trivial
  | some s=>
   cases hk:ck cx.ann.kinds s .F with
   | H=>exact .of_stay (by unfold aw;rw[ho];simp only[hd,hk]) (by unfold aw;rw[ho];simp only[hd,hk]) (sR s t x).1
   | _=>exact .of_pure ((sR s t x).2 (by rw[hk];simp))
 case alloc t=>
  cases hd:o.dst with
  | none=>exact .of_pure trivial
  | some s=>
   cases hk:ck cx.ann.kinds s .L with
   | H=>exact .of_stay (by unfold aw;rw[ho];simp only[hd,hk]) (by unfold aw;rw[ho];simp only[hd,hk]) (kg s t).1
   | B=>exact .of_stay (by unfold aw;rw[ho];simp only[hd,hk]) (by unfold aw;rw[ho];simp only[hd,hk]) (kg s t).1
   | _=>exact .of_pure ((kg s t).2 (by rw[hk];simp) (by rw[hk];simp))
 case load t x=>
  cases x with
  | tmp p=>
   have h:=zn (cx:=cx) (e:=e) o.dst t p
   simp only
   cases hnl:bU cx.ann.nl o.dst&&iF (e.get p) with
   | true=>exact .of_pure trivial
   | false=>
   simp only[cond_false]
   cases hz:bU cx.ann.fz o.dst with
   | true=>exact .of_stay (by unfold aw;rw[ho];exact hz) (by unfold aw;rw[ho]) (Es (h.1.imp fun _ g=>g.stay))
   | false=>exact⟨fun _=>h.1.imp fun _ g=>g.stay,fun _=>h.1,fun _ hr=>h.2 (by unfold aw at hr;rw[ho] at hr;exact hr),fun _=>EM o.dst t p,fun hn=>by unfold aw at hn;rw[ho] at hn;cases hn⟩
  | _=>exact .of_pure trivial
 case store t x y=>
  cases x with
  | tmp p=>
   cases hd:o.dst with
   | some d=>exact .of_pure trivial
   | none=>
    simp only
    cases hlw:eD cx.ann.lw p with
    | false=>exact .of_stay (by unfold aw;rw[ho];simp[hlw]) (by unfold aw;rw[ho]) (by simp only[Bool.false_and,cond_false];exact zM t p y)
    | true=>
     cases hlo:iF (e.get p) with
     | false=>exact .of_pure trivial
     | true=>exact .of_pure (by simp only[Bool.not_true,Bool.and_false,cond_false];exact zL t p y hlo)
  | _=>exact .of_pure trivial
 case nilCheck x=>
  cases x with
  | tmp p=>
   simp only
   split
   ·exact .of_pure trivial
   ·exact .of_pure (bg.lft _)
  | _=>exact .of_pure trivial
 case fieldAddr t x i=>cases x <;> first | exact .of_pure (zb _ _ _) | exact .of_pure trivial
 case indexAddr t x i=>cases x <;> first | exact .of_pure (zg _ _ _) | exact .of_pure trivial
 case slice t x lo hi mx=>
  refine .of_pure (bL.cond (fun _=>?_) fun _=>bg.lft _)
  unfold nh
  split
  ·split
   ·trivial
   ·split
    ·exact bL.cond (fun _=>bg.lft _) fun _=>trivial
    ·trivial
  ·trivial
 case makeMap t r=>exact .of_stay (by unfold aw;rw[ho]) (by unfold aw;rw[ho]) (bL.cond (fun _=>trivial) fun _=>uK)
 case lookup t x i ok=>exact .of_app (by unfold aw;rw[ho]) (by unfold aw;rw[ho]) ⟨Ca _ _ _ _ _,zp _ _ _ _ _⟩
 case mapUpdate t m k x=>exact .of_stay (by unfold aw;rw[ho]) (by unfold aw;rw[ho]) (by unfold kJ;split;exact tK _ _ _ _ _;trivial)
 case insert t m k x=>exact .of_stay (by unfold aw;rw[ho]) (by unfold aw;rw[ho]) (by unfold kJ;split;exact tK _ _ _ _ _;trivial)
 case range t x=>exact .of_stay (by unfold aw;rw[ho]) (by unfold aw;rw[ho]) (xE _ _ _)
 case entry x=>exact .of_app (by unfold aw;rw[ho]) (by unfold aw;rw[ho]) ⟨yU _,wd _⟩
 case panic x=>
  refine .of_piv ?_ ?_ ?_
  ·unfold aw;rw[ho]
  ·unfold aw;rw[ho]
  ·intro hn;unfold aw at hn;rw[ho] at hn;cases hn
 case call c=>exact yE hI ho
end
end Go.Av
namespace Go.Av
variable [Dr]
structure EqE (e e':Env):Prop where
 get:∀ t,e'.get t=e.get t
 al:∀ g,aI e'.al g=aI e.al g
 lb:∀ B,bp e'.lb B=bp e.lb B
 lf:∀ B,aY e'.sl B=aY e.sl B
omit [Dr] in
theorem EqE.refl(e:Env):EqE e e:=⟨fun _=>rfl,fun _=>rfl,fun _=>rfl,fun _=>rfl⟩
omit [Dr] in
theorem EqE.symm{e e':Env}(h:EqE e e'):EqE e' e:=⟨fun t=>(h.get t).symm,fun t=>(h.al t).symm,fun t=>(h.lb t).symm,fun t=>(h.lf t).symm⟩
omit [Dr] in
theorem EqE.trans{a b c:Env}(h:EqE a b)(g:EqE b c):EqE a c:=
 ⟨fun t=>(g.get t).trans (h.get t),fun t=>(g.al t).trans (h.al t),fun t=>(g.lb t).trans (h.lb t),fun t=>(g.lf t).trans (h.lf t)⟩
def RE:R Env→R Env→Prop
 | .fail,_=>True
 | .ok e h,r=>∃ e',r= .ok e' h∧EqE e e'
 | .pan v h,r=>r= .pan v h
omit [Dr] in
theorem RE.refl(r:R Env):RE r r:=by
 cases r with
 | ok e h=>exact⟨e,rfl,.refl e⟩
 | pan v h=>exact rfl
 | fail=>trivial
omit [Dr] in
theorem RE.trans{a b c:R Env}(h:RE a b)(g:RE b c):RE a c:=by
 cases a with
 | ok e x=>
  obtain⟨e',rfl,h⟩:=h
  obtain⟨e2,rfl,g⟩:=g
  exact⟨e2,rfl,h.trans g⟩
 | pan v x=>cases h;exact g
 | fail=>trivial
omit [Dr] in
theorem jp(l r:List (Nat×Ent))(t:Nat):bQ (l++r) t=if (∃ x∈l,x.1=t) then bQ l t else bQ r t:=by
 induction l with
 | nil=>simp
 | cons x l ih=>
  obtain⟨k,y⟩:=x
  rw[List.cons_append,cg,cg]
  by_cases hk:k=t
  ·subst hk;simp
  ·rw[if_neg hk,if_neg hk,ih]
   have:(∃ x∈(k,y):: l,x.1=t)↔(∃ x∈l,x.1=t):=by
    simp only[List.mem_cons,exists_eq_or_imp]
    constructor
    ·rintro (h | h)
     ·exact absurd h hk
     ·exact h
    ·exact .inr
   simp only[this]
omit [Dr] in
theorem rc{l:List (Nat×Ent)}(r:List (Nat×Ent)){t:Nat}(h:∀ x∈l,x.1≠t):bQ (l++r) t=bQ r t:=by
 rw[jp,if_neg]
 rintro⟨x,hx,ht⟩
 exact h x hx ht
omit [Dr] in
theorem jq(d:Option Tmp)(x:Ent)(r:List (Nat×Ent))(t:Nat):bQ (se d x r) t=if d=some t then x else bQ r t:=by
 cases d with
 | none=>simp[se]
 | some s=>simp only[se,cg,Option.some.injEq]
omit [Dr] in
theorem pd{l r s:List (Nat×Ent)}{t:Nat}(h:bQ r t=bQ s t):bQ (l++r) t=bQ (l++s) t:=by
 rw[jp,jp,h]
omit [Dr] in
theorem gw(l r:List (Nat×Ent))(B:Nat):aY (l++r) B=(aY l B&&aY r B):=by
 unfold aY;rw[List.all_append]
def mF(x:Ent)(B:Nat):Bool:=match x.v with
 | .loc C _=>!(Nat.beq C B)
 | .val _=>true
omit [Dr] in
theorem eJ(d:Option Tmp)(x:Ent)(r:List (Nat×Ent))(B:Nat):aY (se d x r) B=((d.isNone||mF x B)&&aY r B):=by
 cases d with
 | none=>simp[se]
 | some t=>rfl
omit [Dr] in
theorem mY{l:List (Nat×Ent)}{B t C off:Nat}(h:aY l B=true)(ht:(bQ l t).v= .loc C off):C≠B:=by
 induction l with
 | nil=>simp[bQ,Ent.none] at ht
 | cons x l ih=>
  obtain⟨k,y⟩:=x
  rw[cg] at ht
  simp only[aY,List.all_cons,Bool.and_eq_true] at h
  split at ht
  ·rw[ht] at h
   have h1:=h.1
   simp only[Bool.not_eq_true'] at h1
   intro hc
   rw[hc,Nat.beq_refl] at h1
   cases h1
  ·exact ih (by unfold aY;exact h.2) ht
omit [Dr] in
theorem eG(l r:List (Nat×Option Nat))(g:Nat):aI (l++r) g=(match aI l g with | some z=>some z | none=>aI r g):=by
 induction l with
 | nil=>rfl
 | cons x l ih=>
  obtain⟨k,y⟩:=x
  rw[List.cons_append,bR,bR]
  split
  ·rfl
  ·exact ih
omit [Dr] in
theorem oQ{l:List (Nat×Option Nat)}{k g:Nat}(h:∀ x∈l,x.1=k)(hg:g≠k):aI l g=none:=by
 induction l with
 | nil=>rfl
 | cons x l ih=>
  obtain⟨j,y⟩:=x
  rw[bR,if_neg]
  ·exact ih fun x hx=>h x (by simp[hx])
  ·have:=h (j,y) (by simp)
   simp at this
   omega
omit [Dr] in
theorem mW(r:List (Nat×Nat))(k B:Nat):bp (lD r k) B=if k=B then none else bp r B:=by
 induction r with
 | nil=>simp[lD,bp]
 | cons x r ih=>
  obtain⟨j,y⟩:=x
  simp only[lD]
  by_cases hj:j=k
  ·subst hj
   simp only[Nat.beq_refl,cond_true,ih,dO]
   split <;> rfl
  ·have:Nat.beq j k=false:=by rw[Bool.eq_false_iff];intro hh;exact hj (Nat.eq_of_beq_eq_true hh)
   simp only[this,cond_false,dO,ih]
   by_cases hg:j=B
   ·subst hg;rw[if_pos rfl,if_neg (fun h=>hj h.symm),if_pos rfl]
   ·rw[if_neg hg,if_neg hg]
omit [Dr] in
theorem EqE.upd{e e':Env}(h:EqE e e')(d:Option Tmp)(u:Upd):EqE (e.upd d u) (e'.upd d u):=by
 refine⟨fun t=>?_,fun g=>?_,fun B=>?_,fun B=>?_⟩
 ·show bQ (se d u.ent (u.ls++e'.sl)) t=bQ (se d u.ent (u.ls++e.sl)) t
  rw[jq,jq,pd (h.get t)]
 ·show aI (u.add++ez e'.al u.drop) g=aI (u.add++ez e.al u.drop) g
  have:aI (ez e'.al u.drop) g=aI (ez e.al u.drop) g:=by
   cases u.drop with
   | none=>exact h.al g
   | some k=>simp only[ez,ke,h.al g]
  rw[eG,eG,this]
 ·show bp (lN (dS e'.lb u.unlb) u.lb) B=bp (lN (dS e.lb u.unlb) u.lb) B
  have:bp (dS e'.lb u.unlb) B=bp (dS e.lb u.unlb) B:=by
   cases u.unlb with
   | none=>exact h.lb B
   | some k=>simp only[dS,mW,h.lb B]
  cases u.lb with
  | none=>exact this
  | some x=>
   obtain⟨k,n⟩:=x
   simp only[lN,dO,this]
 ·show aY (se d u.ent (u.ls++e'.sl)) B=aY (se d u.ent (u.ls++e.sl)) B
  rw[eJ,eJ,gw,gw,h.lf B]
section
variable {cx:Cx} {ops:Array Oper} {base:Nat}
def eL(ops:Array Oper)(o:Oper):List Nat:=match o.guard with
 | some (j,_)=>(match (ops[j]?).bind (·.dst) with | some t=>[t] | none=>[])
 | none=>[]
omit [Dr] in
theorem f4{i:Nat}{o:Oper}(ho:ops[i]? = some o):da ops i=eL ops o++jf o:=by
 unfold da eL
 rw[ho]
 rfl
omit [Dr] in
theorem fR{e e':Env}{i:Nat}{o:Oper}(ho:ops[i]? = some o)(hg:∀ t∈eL ops o,e'.get t=e.get t)(A:Agree cx o e e'){h:Hp}(hr:eW cx base ops i e h≠.fail):eW cx base ops i e' h=eW cx base ops i e h:=by
 unfold eW at hr ⊢
 rw[ho] at hr
 rw[ho]
 simp only at hr ⊢
 have key:∀ {A':Act1→Act1} ,(∀ h,dM (A' .bad) h= .fail)→dM (A' (fG cx e ((base + i) * 1000) o)) h≠.fail→dM (A' (fG cx e' ((base + i) * 1000) o)) h=dM (A' (fG cx e ((base + i) * 1000) o)) h:=by
  intro A' h1 h2
  rw[Cl A]
  intro hb
  rw[hb] at h2
  exact h2 (h1 h)
 cases hgd:o.guard with
 | none=>
  rw[hgd] at hr
  exact key (A':=id) (fun _=>rfl) hr
 | some g=>
  obtain⟨j,want⟩:=g
  rw[hgd] at hr
  simp only at hr ⊢
  cases hdj:dy ops j with
  | none=>rfl
  | some t=>
   rw[hdj] at hr
   simp only at hr ⊢
   cases hpl:eN cx o with
   | false=>rfl
   | true=>
    rw[hpl] at hr
    simp only[cond_true] at hr ⊢
    have ht:e'.get t=e.get t:=hg t (by unfold eL;rw[hgd];simp only;rw[show (ops[j]?).bind (·.dst)=some t from hdj];simp)
    have hav:e'.av t=e.av t:=by simp only[Env.av,ht]
    rw[hav]
    cases hq:e.av t with
    | bool b=>
     rw[hq] at hr
     simp only[jY] at hr ⊢
     cases hb:(b== want) with
     | false=>rfl
     | true=>
      rw[hb] at hr
      exact key (A':=gL) (fun _=>rfl) hr
    | tup vs=>cases vs <;> rfl
    | _=>rfl
omit [Dr] in
theorem EqE.agree{e e':Env}(h:EqE e e')(o:Oper):Agree cx o e e':=
 ⟨fun t _=>h.get t,fun _=>⟨fun t _=>h.get t,h.lb⟩,fun _=>h.al,fun _ s _ hl=>by rw[h.lf];exact hl⟩
omit [Dr] in
theorem xS{e e':Env}(h:EqE e e')(i:Nat)(x:Hp):RE (stepG cx base ops i e x) (stepG cx base ops i e' x):=by
 unfold stepG
 simp only[ae,M.pure]
 cases hr:eW cx base ops i e x with
 | fail=>trivial
 | _=>
  have ho:∃ o,ops[i]? = some o:=by
   cases ho:ops[i]? with
   | none=>unfold eW at hr;rw[ho] at hr;cases hr
   | some o=>exact⟨o,rfl⟩
  obtain⟨o,ho⟩:=ho
  rw[fR ho (fun t _=>h.get t) (h.agree o) (by rw[hr];simp),hr]
  first
   | exact⟨_,rfl,h.upd _ _⟩
   | exact rfl
omit [Dr] in
theorem RE.bind{m m':M Env}{x x':Hp}(h:RE (m x) (m' x')){f f':Env→M Env}(hf:∀ e e' x,EqE e e'→RE (f e x) (f' e' x)):RE (ae m f x) (ae m' f' x'):=by
 simp only[ae]
 revert h
 generalize m x=r
 generalize m' x'=r'
 intro h
 cases r with
 | ok e x=>obtain⟨e',rfl,h⟩:=h;exact hf e e' x h
 | pan v x=>cases h;exact rfl
 | fail=>trivial
omit [Dr] in
theorem nr:∀(l:List Nat){e e':Env}(_:EqE e e')(x:Hp),RE (aX cx base ops l e x) (aX cx base ops l e' x)
 | [],e,e',h,x=>⟨e',rfl,h⟩
 | i:: l,e,e',h,x=>by
  exact RE.bind (xS h i x) fun e e' x h=>nr l h x
end
end Go.Av
namespace Go.Av
variable [Dr]
omit [Dr] in
theorem xc{l:List Nat}{t:Nat}(h:t∈l):eD l t=true:=(gx l t).2 h
omit [Dr] in
theorem m9{l:List Nat}{d:Option Nat}(h:bU l d=false):∀ t∈l,d≠some t:=by
 intro t ht hd
 rw[hd] at h
 simp only[bU] at h
 rw[xc ht] at h
 cases h
omit [Dr] in
theorem oi{a b:Option Nat}(h:clash a b=false):∀ t,a=some t→b≠some t:=by
 intro t ha hb
 rw[ha,hb] at h
 simp[clash] at h
section
variable {cx:Cx} {ops:Array Oper} {base:Nat} {e:Env}
omit [Dr] in
theorem vf{gid:Nat}{f:Foot}{ss:Option Nat}{u:Upd}(h:Shape e gid f ss u):Shape e gid f ss (gg u):=
 ⟨fun _=>rfl,fun _=>rfl,fun _=>rfl,fun _ x h=>by simp[gg] at h,fun _=>rfl,fun _=>rfl,fun hw C off hh=>h.loc hw C off hh,fun x h=>by simp[gg] at h⟩
omit [Dr] in
theorem zN{p q:Upd→Prop}(hpq:∀ u,p u→q (gg u)){A:Act1}(h:cv p A):cv q (gL A):=by
 cases A with
 | bad=>trivial
 | stat u=>exact hpq _ h
 | dyn m sh=>exact fun v=>hpq _ (h v)
 | thr v=>trivial
omit [Dr] in
theorem FC {p:∀ {α:Type},M α→Prop} {A:Act1} (h:bL p A):bL p (gL A):=by
 cases A <;> exact h
omit [Dr] in
theorem qa{i:Nat}{o:Oper}(ho:ops[i]? = some o){h h':Hp}{u:Upd}(hr:eW cx base ops i e h= .ok u h'):Shape e ((base + i) * 1000) (aw cx o) (cn o) u:=by
 unfold eW at hr
 rw[ho] at hr
 simp only at hr
 cases hgd:o.guard with
 | none=>rw[hgd] at hr;exact kU (ll _ _ _ _) hr
 | some g=>
  obtain⟨j,want⟩:=g
  rw[hgd] at hr
  simp only at hr
  cases hdj:dy ops j with
  | none=>rw[hdj] at hr;cases hr
  | some t=>
   rw[hdj] at hr
   simp only at hr
   cases hpl:eN cx o with
   | false=>rw[hpl] at hr;cases hr
   | true=>
    rw[hpl] at hr
    simp only[cond_true] at hr
    have h0:∀ {h h':Hp},(M.pure (Upd.ofV (.tup [])):M Upd) h= .ok u h'→Shape e ((base + i) * 1000) (aw cx o) (cn o) u:=by
     intro h h' hh
     cases hh
     exact Shape.ofV ..
    generalize e.av t=q at hr
    cases q with
    | bool b=>
     simp only[jY] at hr
     cases hb:(b== want) with
     | false=>rw[hb] at hr;exact h0 hr
     | true=>rw[hb] at hr;exact kU (zN (fun u=>vf) (ll _ _ _ _)) hr
    | tup vs=>
     cases vs with
     | nil=>exact h0 hr
     | cons v vs=>cases hr
    | _=>cases hr
omit [Dr] in
theorem zX {p:∀ {α:Type},M α→Prop} (h1:∀ {α:Type} (m:M α),bg m→p m) (h2:∀ {α β:Type} (m:M α) (f:α→β),p m→p (ae m fun v=>M.pure (f v))) {A:Act1} (h:bL p A):p (dM A):=by
 cases A with
 | bad=>exact h1 _ bg.fail
 | stat u=>exact h1 _ (bg.pure u)
 | dyn m sh=>exact h2 _ _ h
 | thr v=>exact h.elim
omit [Dr] in
theorem jy {p:∀ {α:Type},M α→Prop} (h1:∀ {α:Type} (m:M α),bg m→p m) (h2:∀ {α β:Type} (m:M α) (f:α→β),p m→p (ae m fun v=>M.pure (f v)))
  {i:Nat} {o:Oper} (ho:ops[i]? = some o) (h:bL p (fG cx e ((base + i) * 1000) o)):p (eW cx base ops i e):=by
 unfold eW
 rw[ho]
 simp only
 cases hgd:o.guard with
 | none=>exact zX h1 h2 h
 | some g=>
  obtain⟨j,want⟩:=g
  simp only
  cases hdj:dy ops j with
  | none=>exact h1 _ bg.fail
  | some t=>
   simp only
   cases hpl:eN cx o with
   | false=>exact h1 _ bg.fail
   | true=>
    simp only[cond_true]
    unfold jY
    split
    ·rename_i b _
     cases hb:(b== want) with
     | false=>exact h1 _ (bg.pure _)
     | true=>exact zX h1 h2 (FC h)
    ·exact h1 _ (bg.pure _)
    ·exact h1 _ bg.fail
structure Small (ops:Array Oper):Prop where
 dst:∀(i:Nat)(o:Oper),ops[i]? = some o→∀ t,o.dst=some t→t < 1000
 src:∀(i:Nat)(o:Oper),ops[i]? = some o→∀ t∈jf o,t < 1000
omit [Dr] in
theorem Small.reads(hS:Small ops){i:Nat}{o:Oper}(ho:ops[i]? = some o):∀ t∈da ops i,t < 1000:=by
 intro t ht
 rw[f4 ho,List.mem_append] at ht
 rcases ht with ht | ht
 ·unfold eL at ht
  split at ht
  ·rename_i j _ _
   cases hj:ops[j]? with
   | none=>rw[hj] at ht;simp at ht
   | some oj=>
    rw[hj] at ht
    simp only[Option.bind_some] at ht
    cases hd:oj.dst with
    | none=>rw[hd] at ht;simp at ht
    | some s=>rw[hd] at ht;simp at ht;rw[ht];exact hS.dst j oj hj s hd
  ·simp at ht
 ·exact hS.src i o ho t ht
omit [Dr] in
theorem nU{gid:Nat}{x:Foot}{ss:Option Nat}{u:Upd}{d:Option Tmp}(hsh:Shape e gid x ss u){t:Nat}(h1:d≠some t)(h2:ss≠some t)(h3:t < 1000):(e.upd d u).get t=e.get t:=by
 rw[cF,if_neg h1]
 refine rc _ fun y hy hyt=>?_
 rcases hsh.keys y hy with h | h
 ·omega
 ·exact h2 (by rw[h,hyt])
omit [Dr] in
theorem Eu{gid:Nat}{x:Foot}{ss:Option Nat}{u:Upd}{d:Option Tmp}(hsh:Shape e gid x ss u)(hw:x.wl=false){t:Nat}(h1:d≠some t):(e.upd d u).get t=e.get t:=by
 rw[cF,if_neg h1,hsh.ls hw];rfl
omit [Dr] in
theorem sL{gid:Nat}{x:Foot}{ss:Option Nat}{u:Upd}{d:Option Tmp}{o:Oper}(hsh:Shape e gid x ss u)(hd:∀ t,d=some t→t < 1000) (hops:∀ t∈jf o,d≠some t∧ss≠some t∧t < 1000)
  (hloc:((aw cx o).rl||(aw cx o).wl)=true→x.wl=false) (hal:(aw cx o).dr=true→x.ad=false∧x.dr=false):Agree cx o e (e.upd d u):=by
 refine⟨fun t ht=>nU hsh (hops t ht).1 (hops t ht).2.1 (hops t ht).2.2,fun h=>⟨fun t ht=>Eu hsh (hloc h) (fun hh=>Nat.not_lt.2 ht (hd t hh)),fun B=>?_⟩,fun h g=>?_,fun h s _ hl=>?_⟩
 ·show bp (lN (dS e.lb u.unlb) u.lb) B=bp e.lb B
  rw[hsh.lb (hloc h),hsh.unlb (hloc h)];rfl
 ·show aI (u.add++ez e.al u.drop) g=aI e.al g
  rw[hsh.noad (hal h).1,hsh.nodr (hal h).2];rfl
 ·have hw:=hloc (by rw[h];simp)
  show aY (se d u.ent (u.ls++e.sl)) (bh s)=true
  rw[hsh.ls hw,eJ,List.nil_append,hl,Bool.and_true]
  have:mF u.ent (bh s)=true:=by
   unfold mF
   split
   ·rename_i C off hv
    obtain⟨t,off',ht⟩:=hsh.loc hw C off hv
    have:=mY hl ht
    rw[Bool.not_eq_true',Bool.eq_false_iff]
    intro hh
    exact this (Nat.eq_of_beq_eq_true hh)
   ·rfl
  rw[this,Bool.or_true]
omit [Dr] in
theorem Ba{gid:Nat}{x:Foot}{ss:Option Nat}{u:Upd}{d:Option Tmp}{o:Oper}(hsh:Shape e gid x ss u)(hd:∀ t,d=some t→t < 1000) (hops:∀ t∈jf o,d≠some t∧ss≠some t∧t < 1000)
  (hloc:((aw cx o).rl||(aw cx o).wl)=true→x.wl=false) (hal:(aw cx o).dr=true→x.ad=false∧x.dr=false):Agree cx o (e.upd d u) e:=by
 have A:=sL (cx:=cx) hsh hd hops hloc hal
 refine⟨fun t ht=>(A.ops t ht).symm,fun h=>⟨fun t ht=>((A.loc h).1 t ht).symm,fun B=>((A.loc h).2 B).symm⟩,fun h g=>(A.al h g).symm,fun _ s _ hl=>?_⟩
 have hl':aY (se d u.ent (u.ls++e.sl)) (bh s)=true:=hl
 rw[eJ,gw] at hl'
 simp only[Bool.and_eq_true] at hl'
 exact hl'.2.2
omit [Dr] in
theorem ye{gi gj:Nat}{x y:Foot}{si sj:Option Nat}{u v:Upd}{d f:Option Tmp}(hu:Shape e gi x si u)(hv:Shape e gj y sj v) (hy:y.wl=false)
  (hf:∀ t,f=some t→t < 1000) (hdf:∀ t,d=some t→f≠some t) (hsf:∀ t,si=some t→f≠some t)
  (hg:gi≠gj) (h1:x.dr=true→y.dr=false∧y.ad=false) (h2:x.ad=true→y.dr=false) (h3:x.ad=true→y.ad=true→x.wl=false):EqE ((e.upd d u).upd f v) ((e.upd f v).upd d u):=by
 have e1:=hv.ls hy
 have e2:=hv.lb hy
 have e3:=hv.unlb hy
 refine⟨fun t=>?_,fun g=>?_,fun B=>?_,fun B=>?_⟩
 ·rw[cF,cF,e1]
  show (if d=some t then u.ent else bQ (u.ls++se f v.ent (v.ls++e.sl)) t)=if f=some t then v.ent else bQ (se d u.ent (u.ls++e.sl)) t
  rw[e1,jq,List.nil_append]
  by_cases hft:f=some t
  ·rw[if_pos hft,if_neg (fun h=>hdf t h hft),rc,jq,if_pos hft]
   intro z hz hzt
   rcases hu.keys z hz with h | h
   ·exact Nat.not_lt.2 h (by rw[hzt];exact hf t hft)
   ·exact hsf z.1 h (by rw[hzt];exact hft)
  ·rw[if_neg hft]
   split
   ·rfl
   ·exact pd (by rw[jq,if_neg hft])
 ·show aI (u.add++ez (v.add++ez e.al v.drop) u.drop) g=aI (v.add++ez (u.add++ez e.al u.drop) v.drop) g
  cases hxd:x.dr with
  | true=>
   obtain⟨h4,h5⟩:=h1 hxd
   rw[hv.noad h5,hv.nodr h4]
   rfl
  | false=>
   rw[hu.nodr hxd]
   cases hxa:x.ad with
   | false=>rw[hu.noad hxa];rfl
   | true=>
    rw[hv.nodr (h2 hxa)]
    cases hya:y.ad with
    | false=>rw[hv.noad hya];rfl
    | true=>
     have k1:=hu.add (h3 hxa hya)
     have k2:=hv.add hy
     show aI (u.add++(v.add++e.al)) g=aI (v.add++(u.add++e.al)) g
     rw[eG,eG,eG,eG]
     by_cases hgi:g=gi
     ·rw[oQ k2 (by omega)]
     ·rw[oQ k1 hgi]
 ·show bp (lN (dS (lN (dS e.lb v.unlb) v.lb) u.unlb) u.lb) B=bp (lN (dS (lN (dS e.lb u.unlb) u.lb) v.unlb) v.lb) B
  rw[e2,e3];rfl
 ·show aY (se d u.ent (u.ls++se f v.ent (v.ls++e.sl))) B=aY (se f v.ent (v.ls++se d u.ent (u.ls++e.sl))) B
  simp only[eJ,gw]
  ac_rfl
end
end Go.Av
namespace Go.Av
variable [Dr]
section
variable {cx:Cx} {ops:Array Oper} {base:Nat}
structure Ind (cx:Cx) (ops:Array Oper) (i j:Nat) (a b:Oper):Prop where
 ha:ops[i]? = some a
 hb:ops[j]? = some b
 piv:(aw cx a).piv=false
 l1:(aw cx a).wl=true→(aw cx b).rl=false∧(aw cx b).wl=false
 l2:(aw cx a).rl=true→(aw cx b).wl=false
 h1:(aw cx a).wh=true→(aw cx b).rh=false∧(aw cx b).wh=false
 h2:(aw cx a).rh=true→(aw cx b).wh=false∨(aw cx b).nw=true
 g1:(aw cx a).dr=true→(aw cx b).dr=false∧(aw cx b).ad=false
 g2:(aw cx a).ad=true→(aw cx b).dr=false
 g3:(aw cx a).ad=true→(aw cx b).ad=true→(aw cx a).wl=false∧(aw cx b).wl=false
 r1:∀ t∈da ops j,a.dst≠some t
 r2:∀ t∈da ops i,b.dst≠some t
 s1:∀ t∈da ops j,cn a≠some t
 s2:∀ t∈da ops i,cn b≠some t
 c1:∀ t,cn a=some t→b.dst≠some t
 c2:∀ t,a.dst=some t→cn b≠some t
 c3:∀ t,a.dst=some t→b.dst≠some t
omit [Dr] in
theorem BX{i j:Nat}(h:mR cx ops i j=true):∃ a b,Ind cx ops i j a b:=by
 unfold mR at h
 split at h
 ·rename_i a b ha hb
  refine⟨a,b,?_⟩
  simp only[Bool.and_eq_true,Bool.not_eq_true'] at h
  obtain⟨⟨⟨⟨⟨⟨⟨⟨⟨⟨⟨⟨⟨⟨k1,k2⟩,k3⟩,k4⟩,k5⟩,k6⟩,k7⟩,k8⟩,k9⟩,k10⟩,k11⟩,k12⟩,k13⟩,k14⟩,k15⟩:=h
  refine⟨ha,hb,k1,fun q=>?_,fun q=>?_,fun q=>?_,fun q=>?_,fun q=>?_,fun q=>?_,fun q q'=>?_,m9 k9,m9 k10,m9 k11,m9 k12,oi k13,oi k14,oi k15⟩
  ·rw[q] at k2;simpa using k2
  ·rw[q] at k3;simpa using k3
  ·rw[q] at k4;simpa using k4
  ·rw[q] at k5;simp only[Bool.true_and] at k5;cases hb:(aw cx b).wh <;> simp_all
  ·rw[q] at k6;simpa using k6
  ·rw[q] at k7;simpa using k7
  ·rw[q,q'] at k8;simpa using k8
 ·cases h
omit [Dr] in
theorem swap(hI:IsoPure cx)(hS:Small ops){i j:Nat}(hij:mR cx ops i j=true)(hne:i≠j)(e:Env)(h:Hp):
  RE (ae (stepG cx base ops i e) (stepG cx base ops j) h) (ae (stepG cx base ops j e) (stepG cx base ops i) h):=by
 obtain⟨a,b,I⟩:=BX hij
 have hda:dy ops i=a.dst:=by simp[dy,I.ha]
 have hdb:dy ops j=b.dst:=by simp[dy,I.hb]
 unfold stepG
 rw[hda,hdb]
 simp only[ae,M.pure]
 cases hri:eW cx base ops i e h with
 | fail=>trivial
 | pan v h'=>exact absurd hri (jy (p:=@ey) (fun _ g=>g.read.stay) (fun _ f g=>g.bnd f) I.ha ((eM hI e _ a).stay I.piv) h v h')
 | ok u h1=>
  simp only
  have shu:=qa I.ha hri
  have hra:=f4 (ops:=ops) I.ha
  have hrb:=f4 (ops:=ops) I.hb
  have hbo:∀ t∈jf b,a.dst≠some t∧cn a≠some t∧t < 1000:=fun t ht=>⟨I.r1 t (by rw[hrb];simp[ht]),I.s1 t (by rw[hrb];simp[ht]),hS.src j b I.hb t ht⟩
  have hao:∀ t∈jf a,b.dst≠some t∧cn b≠some t∧t < 1000:=fun t ht=>⟨I.r2 t (by rw[hra];simp[ht]),I.s2 t (by rw[hra];simp[ht]),hS.src i a I.ha t ht⟩
  have Abwd:Agree cx b (e.upd a.dst u) e:=Ba shu (hS.dst i a I.ha) hbo (fun q=>by
   cases hw:(aw cx a).wl with
   | false=>rfl
   | true=>obtain⟨q1,q2⟩:=I.l1 hw;rw[q1,q2] at q;cases q) (fun q=>by
   constructor
   ·cases hw:(aw cx a).ad with
    | false=>rfl
    | true=>have:=I.g2 hw;rw[this] at q;cases q
   ·cases hw:(aw cx a).dr with
    | false=>rfl
    | true=>have:=(I.g1 hw).1;rw[this] at q;cases q)
  have hgb:∀ t∈eL ops b,e.get t=(e.upd a.dst u).get t:=fun t ht=>by
   have htr:t∈da ops j:=by rw[hrb];simp[ht]
   exact (nU shu (I.r1 t htr) (I.s1 t htr) (hS.reads I.hb t htr)).symm
  -- the second, after the first
  cases hrj:eW cx base ops j (e.upd a.dst u) h1 with
  | fail=>trivial
  | pan v h2=>
   have hj:=fR (base:=base) I.hb hgb Abwd (h:=h1) (by rw[hrj];simp)
   rw[hrj] at hj
   -- j leaves: so it may write, and i did not touch the heap
   have hwb:(aw cx b).wh=true:=by
    cases hw:(aw cx b).wh with
    | true=>rfl
    | false=>exact absurd hj ((jy (p:=@dE) (fun _ g=>g.read) (fun _ f g=>g.bnd f) I.hb ((eM hI e _ b).read hw)).stay _ _ _)
   have hwa:(aw cx a).wh=false:=by
    cases hw:(aw cx a).wh with
    | false=>rfl
    | true=>have:=(I.h1 hw).2;rw[this] at hwb;cases hwb
   have hh:h1=h:=by
    have hR:dE (eW cx base ops i e):=jy (p:=@dE) (fun _ g=>g.read) (fun _ f g=>g.bnd f) I.ha ((eM hI e _ a).read hwa)
    rcases hR h with hx | ⟨u',hx⟩ <;> rw[hri] at hx <;> cases hx
    rfl
   subst hh
   rw[hj]
   exact rfl
  | ok v h2=>
   have hj:=fR (base:=base) I.hb hgb Abwd (h:=h1) (by rw[hrj];simp)
   rw[hrj] at hj
   have shv:=qa I.hb hj
   have Afwd:Agree cx a e (e.upd b.dst v):=sL shv (hS.dst j b I.hb) hao (fun q=>by
    cases hw:(aw cx b).wl with
    | false=>rfl
    | true=>
     exfalso
     cases hrl:(aw cx a).rl with
     | true=>have:=I.l2 hrl;rw[this] at hw;cases hw
     | false=>
      rw[hrl] at q
      have hwl:(aw cx a).wl=true:=by simpa using q
      have:=(I.l1 hwl).2
      rw[this] at hw;cases hw) (fun q=>⟨(I.g1 q).2,(I.g1 q).1⟩)
   have hga:∀ t∈eL ops a,(e.upd b.dst v).get t=e.get t:=fun t ht=>by
    have htr:t∈da ops i:=by rw[hra];simp[ht]
    exact nU shv (I.r2 t htr) (I.s2 t htr) (hS.reads I.ha t htr)
   have hcomm:EqE ((e.upd a.dst u).upd b.dst v) ((e.upd b.dst v).upd a.dst u):=by
    have hgij:(base + i) * 1000≠(base + j) * 1000:=by omega
    cases hwb:(aw cx b).wl with
    | false=>
     exact ye shu shv hwb (hS.dst j b I.hb) I.c3 I.c1 hgij I.g1 I.g2 (fun q q'=>(I.g3 q q').1)
    | true=>
     have hwa:(aw cx a).wl=false:=by
      cases hw:(aw cx a).wl with
      | false=>rfl
      | true=>have:=(I.l1 hw).2;rw[this] at hwb;cases hwb
     refine (ye shv shu hwa (hS.dst i a I.ha) (fun t ht hh=>I.c3 t hh ht) (fun t ht hh=>I.c2 t hh ht) (Ne.symm hgij) (fun q=>⟨?_,?_⟩) (fun q=>?_) (fun q q'=>?_)).symm
     ·cases hw:(aw cx a).dr with
      | false=>rfl
      | true=>have:=(I.g1 hw).1;rw[this] at q;cases q
     ·cases hw:(aw cx a).ad with
      | false=>rfl
      | true=>have:=I.g2 hw;rw[this] at q;cases q
     ·cases hw:(aw cx a).dr with
      | false=>rfl
      | true=>have:=(I.g1 hw).2;rw[this] at q;cases q
     ·have:=(I.g3 q' q).2;rw[this] at hwb;cases hwb
   cases hwa:(aw cx a).wh with
   | false=>
    have hR:dE (eW cx base ops i e):=jy (p:=@dE) (fun _ g=>g.read) (fun _ f g=>g.bnd f) I.ha ((eM hI e _ a).read hwa)
    have hh:h1=h:=by
     rcases hR h with hx | ⟨u',hx⟩ <;> rw[hri] at hx <;> cases hx
     rfl
    subst hh
    rw[hj]
    simp only
    have hi2:eW cx base ops i e h2= .ok u h2:=by
     cases hra':(aw cx a).rh with
     | false=>
      obtain⟨q,hq⟩:bg (eW cx base ops i e):=jy (p:=@bg) (fun _ g=>g) (fun _ f g=>g.bnd f) I.ha ((eM hI e _ a).pure hwa hra')
      rw[hq] at hri ⊢
      cases q with
      | none=>cases hri
      | some u'=>cases hri;rfl
     | true=>
      rcases I.h2 hra' with hwb | hnw
      case inr=>
       have hNw:yp (eW cx base ops j e):=jy (p:=@yp) (fun _ g=>g.nw) (fun _ f g=>g.bnd f) I.hb ((eM hI e _ b).nw hnw)
       have hAp:ly (eW cx base ops i e)∧dE (eW cx base ops i e):=jy (p:=fun m=>ly m∧dE m) (fun _ g=>⟨g.app,g.read⟩) (fun _ f g=>ly.bnd g f) I.ha ((eM hI e _ a).app hwa)
       obtain⟨t,rfl⟩:=hNw _ _ _ hj
       exact hAp.1 _ t _ hri
      have hRb:dE (eW cx base ops j e):=jy (p:=@dE) (fun _ g=>g.read) (fun _ f g=>g.bnd f) I.hb ((eM hI e _ b).read hwb)
      rcases hRb h1 with hx | ⟨u',hx⟩ <;> rw[hj] at hx <;> cases hx
      exact hri
    rw[fR I.ha hga Afwd (by rw[hi2];simp),hi2]
    exact⟨_,rfl,hcomm⟩
   | true=>
    obtain⟨hrb',hwb⟩:=I.h1 hwa
    obtain⟨q,hq⟩:bg (eW cx base ops j e):=jy (p:=@bg) (fun _ g=>g) (fun _ f g=>g.bnd f) I.hb ((eM hI e _ b).pure hwb hrb')
    rw[hq] at hj ⊢
    cases q with
    | none=>cases hj
    | some u'=>
     cases hj
     simp only[ah]
     rw[fR I.ha hga Afwd (by rw[hri];simp),hri]
     exact⟨_,rfl,hcomm⟩
omit [Dr] in
theorem Ij(hI:IsoPure cx)(hS:Small ops){i:Nat}(q:List Nat):∀(p:List Nat),(∀ x∈p,mR cx ops x i=true∧x≠i)→∀(e:Env)(h:Hp),RE (aX cx base ops (p++i:: q) e h) (aX cx base ops (i:: (p++q)) e h)
 | [],_,e,h=>RE.refl _
 | x:: p,hp,e,h=>by
  have ih:=fun e h=>Ij hI hS q p (fun y hy=>hp y (by simp[hy])) e h
  have h1:RE (aX cx base ops (x:: (p++i:: q)) e h) (aX cx base ops (x:: i:: (p++q)) e h):=by
   simp only[aX,ae] at ih ⊢
   cases stepG cx base ops x e h with
   | ok e' h'=>exact ih e' h'
   | pan v h'=>exact rfl
   | fail=>trivial
  refine h1.trans ?_
  have e1:aX cx base ops (x:: i:: (p++q)) e=ae (ae (stepG cx base ops x e) (stepG cx base ops i)) (aX cx base ops (p++q)):=by rw[gk];rfl
  have e2:aX cx base ops (i:: x:: (p++q)) e=ae (ae (stepG cx base ops i e) (stepG cx base ops x)) (aX cx base ops (p++q)):=by rw[gk];rfl
  show RE (aX cx base ops (x:: i:: (p++q)) e h) (aX cx base ops (i:: x:: (p++q)) e h)
  rw[e1,e2]
  exact RE.bind (swap hI hS (hp x (by simp)).1 (hp x (by simp)).2 e h) fun e e' x h=>nr _ h x
end
end Go.Av
namespace Go.Av
variable [Dr]
omit [Dr] in
theorem Fq{a b:Option (Nat×Bool)}(h:AW a b=true):a=b:=by
 unfold AW at h
 split at h
 ·rfl
 ·simp only[Bool.and_eq_true,beq_iff_eq] at h
  rw[Nat.eq_of_beq_eq_true h.1,h.2]
 ·cases h
def gP(gs:List (Option (Nat×Bool)×List Nat)):List Nat:=gs.flatMap (·.2)
omit [Dr] in
theorem jb(ops:Array Oper):∀ l:List Nat,gP (dz ops l)=l∧∀ g∈dz ops l,∀ i∈g.2,guardOf ops i=g.1
 | []=>⟨rfl,by simp[dz]⟩
 | i :: is=>by
  obtain⟨h1,h2⟩:=jb ops is
  simp only[dz]
  cases hg:dz ops is with
  | nil=>
   rw[hg] at h1
   have:is=[]:=by simpa [gP] using h1.symm
   subst this
   exact⟨rfl,by simp⟩
  | cons x r=>
   obtain⟨g,js⟩:=x
   rw[hg] at h1 h2
   simp only
   cases hs:AW (guardOf ops i) g with
   | true=>
    refine⟨?_,fun y hy=>?_⟩
    ·simp only[cond_true,gP,List.flatMap_cons,List.cons_append] at h1 ⊢
     rw[h1]
    ·simp only[cond_true,List.mem_cons] at hy
     rcases hy with rfl | hy
     ·intro k hk
      simp only[List.mem_cons] at hk
      rcases hk with rfl | hk
      ·exact Fq hs
      ·exact h2 (g,js) (by simp) k hk
     ·exact h2 y (by simp[hy])
   | false=>
    refine⟨?_,fun y hy=>?_⟩
    ·simp only[cond_false,gP,List.flatMap_cons,List.cons_append,List.nil_append] at h1 ⊢
     rw[h1]
    ·simp only[cond_false,List.mem_cons] at hy
     rcases hy with rfl | rfl | hy
     ·intro k hk
      simp only[List.mem_singleton] at hk
      subst hk;rfl
     ·exact h2 (g,js) (by simp)
     ·exact h2 y (by simp[hy])
omit [Dr] in
theorem wi{ρ:Type}(e:Env)(d:Option Tmp)(A:Act1)(k:Env→M ρ):mG e d A k=ae (dM A) fun u=>k (e.upd d u):=by
 cases A with
 | bad=>rfl
 | stat u=>rfl
 | dyn m sh=>simp only[mG,dM,gk,bi]
 | thr v=>rfl
omit [Dr] in
theorem Bj{α β:Type}{m:M α}{f g:α→M β}{h:Hp}(hfg:∀ u h',m h= .ok u h'→f u h'=g u h'):ae m f h=ae m g h:=by
 simp only[ae]
 cases hm:m h with
 | ok u h'=>exact hfg u h' hm
 | pan v h'=>rfl
 | fail=>rfl
section
variable {cx:Cx} {ops:Array Oper} {base:Nat}
omit [Dr] in
theorem A9{i:Nat}{o:Oper}(ho:ops[i]? = some o)(hg:guardOf ops i=none)(e:Env):eW cx base ops i e=dM (fG cx e ((base + i) * 1000) o):=by
 have:o.guard=none:=by simpa [guardOf,ho] using hg
 unfold eW
 rw[ho]
 simp only
 rw[this]
omit [Dr] in
theorem nE{i j t:Nat}{want:Bool}{o:Oper}(ho:ops[i]? = some o)(hg:guardOf ops i=some (j,want))(hj:dy ops j=some t)(hp:eN cx o=true)(e:Env):
  eW cx base ops i e=jY (e.av t) want (dM (gL (fG cx e ((base + i) * 1000) o))):=by
 have:o.guard=some (j,want):=by simpa [guardOf,ho] using hg
 unfold eW
 rw[ho]
 simp only
 rw[this]
 simp only
 rw[hj]
 simp only
 rw[hp]
 rfl
omit [Dr] in
theorem xG{ρ:Type}:∀(is:List Nat)(e:Env)(k:Env→M ρ)(_:∀ i∈is,guardOf ops i=none),iY cx base ops false is e k=ae (aX cx base ops is e) k
 | [],e,k,_=>rfl
 | i:: is,e,k,hg=>by
  simp only[iY,aX]
  unfold stepG
  cases ho:ops[i]? with
  | none=>unfold eW;rw[ho];rfl
  | some o=>
   simp only
   rw[wi,A9 ho (hg i (by simp)),gk,gk]
   have hd:dy ops i=o.dst:=by simp[dy,ho]
   rw[hd]
   congr 1
   funext u
   simp only[bi]
   exact xG is _ k fun j hj=>hg j (by simp[hj])
structure Turned (ds:List Nat) (e e':Env):Prop where
 get:∀ t,t ∉ ds→e'.get t=e.get t
 al:e'.al=e.al
 lb:e'.lb=e.lb
 lf:∀ B,aY e.sl B=true→aY e'.sl B=true
 ng:∀ t∈ds,(e'.get t).g=none
omit [Dr] in
theorem Turned.step{ds:List Nat}{e e':Env}(H:Turned ds e e'){u:Upd}{d:Option Nat}(hls:u.ls=[])(hadd:u.add=[])(hdrop:u.drop=none)(hlb:u.lb=none)(hunlb:u.unlb=none) (hg:u.ent.g=none)
  (hloc:∀ C off,u.ent.v= .loc C off→∃ t off',(e'.get t).v= .loc C off'):Turned (d.toList++ds) e (e'.upd d u):=by
 have hget:∀ t,(e'.upd d u).get t=if d=some t then u.ent else e'.get t:=fun t=>by rw[cF,hls];rfl
 refine⟨fun t ht=>?_,?_,?_,fun B hB=>?_,fun t ht=>?_⟩
 ·simp only[List.mem_append,not_or,Option.mem_toList] at ht
  rw[hget,if_neg ht.1]
  exact H.get t ht.2
 ·show u.add++ez e'.al u.drop=e.al
  rw[hadd,hdrop];exact H.al
 ·show lN (dS e'.lb u.unlb) u.lb=e.lb
  rw[hlb,hunlb];exact H.lb
 ·have h1:=H.lf B hB
  show aY (se d u.ent (u.ls++e'.sl)) B=true
  rw[hls,eJ,List.nil_append,h1,Bool.and_true]
  have:mF u.ent B=true:=by
   unfold mF
   split
   ·rename_i C off hv
    obtain⟨t,off',ht⟩:=hloc C off hv
    have:=mY h1 ht
    rw[Bool.not_eq_true',Bool.eq_false_iff]
    intro hh
    exact this (Nat.eq_of_beq_eq_true hh)
   ·rfl
  rw[this,Bool.or_true]
 ·rw[hget]
  split
  ·exact hg
  ·rename_i hd
   simp only[List.mem_append,Option.mem_toList] at ht
   rcases ht with ht | ht
   ·exact absurd ht hd
   ·exact H.ng t ht
omit [Dr] in
theorem Turned.refl(e:Env):Turned [] e e:=⟨fun _ _=>rfl,rfl,rfl,fun _ h=>h,fun t h=>by simp at h⟩
omit [Dr] in
theorem Turned.sub{ds ds':List Nat}{e e':Env}(H:Turned ds e e')(h:∀ t,t∈ds↔t∈ds'):Turned ds' e e':=
 ⟨fun t ht=>H.get t fun hh=>ht ((h t).1 hh),H.al,H.lb,H.lf,fun t ht=>H.ng t ((h t).2 ht)⟩
structure GroupOk (cx:Cx) (ops:Array Oper) (j:Nat) (want:Bool) (t:Nat) (is:List Nat):Prop where
 hj:dy ops j=some t
 each:∀ i∈is,∃ o,ops[i]? = some o∧guardOf ops i=some (j,want)∧eN cx o=true
 nt:t ∉ cT ops is
omit [Dr] in
theorem iW(i:Nat)(is:List Nat):∀ t,t∈cT ops (i:: is)↔dy ops i=some t∨t∈cT ops is:=by
 intro t
 unfold cT
 simp only[List.mem_filterMap,List.mem_cons,exists_eq_or_imp]
omit [Dr] in
theorem GroupOk.tail{j:Nat}{want:Bool}{t i:Nat}{is:List Nat}(G:GroupOk cx ops j want t (i:: is)):GroupOk cx ops j want t is:=
 ⟨G.hj,fun k hk=>G.each k (by simp[hk]),fun h=>G.nt ((iW i is t).2 (.inr h))⟩
omit [Dr] in
theorem GroupOk.ne{j:Nat}{want:Bool}{t i:Nat}{is:List Nat}(G:GroupOk cx ops j want t (i:: is)):dy ops i≠some t:=fun h=>G.nt ((iW i is t).2 (.inl h))
omit [Dr] in
theorem jW{A:Act1}{h h':Hp}{u:Upd}(hr:dM (gL A) h= .ok u h'):∃ u0,dM A h= .ok u0 h'∧u=gg u0:=by
 rw[oP] at hr
 cases hx:dM A h <;> rw[hx] at hr <;> simp at hr
 exact⟨_,by rw[hr.2],hr.1.symm⟩
omit [Dr] in
theorem tN{ρ:Type}{j:Nat}{want:Bool}{t:Nat}:∀(is:List Nat)(e:Env)(k:Env→M ρ)(h:Hp),GroupOk cx ops j want t is→e.av t= .bool want→iY cx base ops true is e k h=ae (aX cx base ops is e) k h
 | [],e,k,h,_,_=>rfl
 | i:: is,e,k,h,G,hc=>by
  obtain⟨o,ho,hg,hp⟩:=G.each i (by simp)
  have hd:dy ops i=o.dst:=by simp[dy,ho]
  simp only[iY,aX,ho,cond_true]
  rw[wi]
  unfold stepG
  rw[nE ho hg G.hj hp,hc,gk,gk]
  simp only[jY,beq_self_eq_true,cond_true,bi,hd]
  refine Bj fun u h' hu=>?_
  obtain⟨u0,hu0,rfl⟩:=jW hu
  refine tN is _ k h' G.tail ?_
  have:(e.upd o.dst (gg u0)).get t=e.get t:=by rw[cF,if_neg (by rw[← hd];exact G.ne)];rfl
  simp only[Env.av,this]
  exact hc
omit [Dr] in
theorem nA{j:Nat}{want:Bool}{t:Nat}:∀(is:List Nat)(e e':Env)(h h':Hp),GroupOk cx ops j want t is→e.av t= .bool want→aX cx base ops is e h= .ok e' h'→Turned (cT ops is) e e':=by
 have key:∀(is:List Nat)(e0 e e':Env)(ds:List Nat)(h h':Hp),GroupOk cx ops j want t is→e.av t= .bool want→Turned ds e0 e→aX cx base ops is e h= .ok e' h'→Turned (cT ops is++ds) e0 e':=by
  intro is
  induction is with
  | nil=>
   intro e0 e e' ds h h' _ _ H hr
   cases hr
   exact H
  | cons i is ih=>
   intro e0 e e' ds h h' G hc H hr
   obtain⟨o,ho,hg,hp⟩:=G.each i (by simp)
   have hd:dy ops i=o.dst:=by simp[dy,ho]
   simp only[aX] at hr
   unfold stepG at hr
   rw[nE ho hg G.hj hp,hc,gk] at hr
   simp only[jY,beq_self_eq_true,cond_true,hd,ae] at hr
   cases hx:dM (gL (fG cx e ((base + i) * 1000) o)) h with
   | fail=>rw[hx] at hr;cases hr
   | pan v hh=>rw[hx] at hr;cases hr
   | ok u hh=>
    rw[hx] at hr
    simp only at hr
    obtain⟨u0,hu0,rfl⟩:=jW hx
    have hsh:=kU (ll cx e ((base + i) * 1000) o) hu0
    simp only[eN,Bool.and_eq_true,Bool.not_eq_true'] at hp
    have H2:=H.step (u:=gg u0) (d:=o.dst) rfl rfl rfl rfl rfl rfl (hsh.loc hp.1)
    refine (ih e0 _ e' _ hh h' G.tail ?_ H2 hr).sub fun s=>?_
    ·have:(e.upd o.dst (gg u0)).get t=e.get t:=by rw[cF,if_neg (by rw[← hd];exact G.ne)];rfl
     simp only[Env.av,this]
     exact hc
    ·simp only[List.mem_append,iW,Option.mem_toList,hd]
     constructor
     ·rintro (h | h | h)
      ·exact .inl (.inr h)
      ·exact .inl (.inl h)
      ·exact .inr h
     ·rintro ((h | h) | h)
      ·exact .inr (.inl h)
      ·exact .inl h
      ·exact .inr (.inr h)
 intro is e e' h h' G hc hr
 exact (key is e e e' [] h h' G hc (.refl e) hr).sub (by simp)
def Off(c:AV)(want:Bool):Prop:=c= .tup []∨∃ b,c= .bool b∧(b== want)=false
omit [Dr] in
theorem Off.look{c:AV}{want:Bool}(h:Off c want)(m:M Upd):jY c want m=M.pure (.ofV (.tup [])):=by
 rcases h with rfl | ⟨b,rfl,hb⟩
 ·rfl
 ·simp only[jY,hb,cond_false]
omit [Dr] in
theorem Hh{j:Nat}{want:Bool}{t:Nat}:∀(is:List Nat)(e:Env)(h:Hp),GroupOk cx ops j want t is→Off (e.av t) want→∃ e',aX cx base ops is e h= .ok e' h∧Turned (cT ops is) e e'∧∀ s∈cT ops is,e'.get s=⟨.val (.tup []),none⟩:=by
 have key:∀(is:List Nat)(e0 e:Env)(ds:List Nat)(h:Hp),GroupOk cx ops j want t is→Off (e.av t) want→Turned ds e0 e→(∀ s∈ds,e.get s=⟨.val (.tup []),none⟩)→
   ∃ e',aX cx base ops is e h= .ok e' h∧Turned (cT ops is++ds) e0 e'∧∀ s∈cT ops is++ds,e'.get s=⟨.val (.tup []),none⟩:=by
  intro is
  induction is with
  | nil=>exact fun e0 e ds h _ _ H hds=>⟨e,rfl,H,hds⟩
  | cons i is ih=>
   intro e0 e ds h G hc H hds
   obtain⟨o,ho,hg,hp⟩:=G.each i (by simp)
   have hd:dy ops i=o.dst:=by simp[dy,ho]
   have hget:∀ s,(e.upd o.dst (.ofV (.tup []))).get s=if o.dst=some s then ⟨.val (.tup []),none⟩ else e.get s:=fun s=>by rw[cF];rfl
   have H2:=H.step (u:=.ofV (.tup [])) (d:=o.dst) rfl rfl rfl rfl rfl rfl (fun C off hh=>by cases hh)
   have hav:(e.upd o.dst (.ofV (.tup []))).av t=e.av t:=by
    have:(e.upd o.dst (.ofV (.tup []))).get t=e.get t:=by rw[hget,if_neg (by rw[← hd];exact G.ne)]
    simp only[Env.av,this]
   obtain⟨e',h1,h2,h3⟩:=ih e0 (e.upd o.dst (.ofV (.tup []))) (o.dst.toList++ds) h G.tail (by rw[hav];exact hc) H2 (fun s hs=>by
    rw[hget]
    split
    ·rfl
    ·rename_i hn
     simp only[List.mem_append,Option.mem_toList] at hs
     rcases hs with hs | hs
     ·exact absurd hs hn
     ·exact hds s hs)
   have hiff:∀ s,s∈cT ops is++(o.dst.toList++ds)↔s∈cT ops (i:: is)++ds:=fun s=>by
    simp only[List.mem_append,iW,Option.mem_toList,hd]
    constructor
    ·rintro (h | h | h)
     ·exact .inl (.inr h)
     ·exact .inl (.inl h)
     ·exact .inr h
    ·rintro ((h | h) | h)
     ·exact .inr (.inl h)
     ·exact .inl h
     ·exact .inr (.inr h)
   refine⟨e',?_,h2.sub hiff,fun s hs=>h3 s ((hiff s).2 hs)⟩
   simp only[aX]
   unfold stepG
   rw[nE ho hg G.hj hp,hc.look,hd]
   exact h1
 intro is e h G hc
 obtain⟨e',h1,h2,h3⟩:=key is e e [] h G hc (.refl e) (by simp)
 exact⟨e',h1,h2.sub (by simp),fun s hs=>h3 s (by simp[hs])⟩
end
end Go.Av
namespace Go.Av
variable [Dr]
section
variable {cx:Cx} {ops:Array Oper} {base:Nat}
structure Rel (ops:Array Oper) (L:List Nat) (e2 e:Env):Prop where
 get:∀ t,e2.get t=e.get t∨(e2.get t=Ent.none∧t < 1000∧∀ i∈L,t ∉ da ops i)
 al:∀ g,aI e2.al g=aI e.al g
 lb:∀ B,bp e2.lb B=bp e.lb B
 lf:∀ B,aY e2.sl B=true→aY e.sl B=true
omit [Dr] in
theorem Rel.refl(ops:Array Oper)(L:List Nat)(e:Env):Rel ops L e e:=⟨fun _=>.inl rfl,fun _=>rfl,fun _=>rfl,fun _ h=>h⟩
omit [Dr] in
theorem Rel.sub{L L':List Nat}{e2 e:Env}(H:Rel ops L e2 e)(h:∀ i∈L',i∈L):Rel ops L' e2 e:=
 ⟨fun t=>(H.get t).imp id fun ⟨h1,h2,h3⟩=>⟨h1,h2,fun i hi=>h3 i (h i hi)⟩,H.al,H.lb,H.lf⟩
omit [Dr] in
theorem Rel.read{L:List Nat}{e2 e:Env}(H:Rel ops L e2 e){i t:Nat}(hi:i∈L)(ht:t∈da ops i):e.get t=e2.get t:=by
 rcases H.get t with h | ⟨_,_,h⟩
 ·exact h.symm
 ·exact absurd ht (h i hi)
omit [Dr] in
theorem Rel.agree{L:List Nat}{e2 e:Env}(H:Rel ops L e2 e){i:Nat}{o:Oper}(hi:i∈L)(ho:ops[i]? = some o):Agree cx o e2 e:=by
 refine⟨fun t ht=>H.read hi (by rw[f4 ho];simp[ht]),fun _=>⟨fun t ht=>?_,fun B=>(H.lb B).symm⟩,fun _ g=>(H.al g).symm,fun _ s _ hl=>H.lf _ hl⟩
 rcases H.get t with h | ⟨_,h,_⟩
 ·exact h.symm
 ·omega
omit [Dr] in
theorem Rel.upd{L:List Nat}{e2 e:Env}(H:Rel ops L e2 e)(d:Option Tmp)(u:Upd):Rel ops L (e2.upd d u) (e.upd d u):=by
 refine⟨fun t=>?_,fun g=>?_,fun B=>?_,fun B hB=>?_⟩
 ·rw[cF,cF]
  split
  ·exact .inl rfl
  ·rw[jp,jp]
   split
   ·exact .inl rfl
   ·exact H.get t
 ·show aI (u.add++ez e2.al u.drop) g=aI (u.add++ez e.al u.drop) g
  have:aI (ez e2.al u.drop) g=aI (ez e.al u.drop) g:=by
   cases u.drop with
   | none=>exact H.al g
   | some k=>simp only[ez,ke,H.al g]
  rw[eG,eG,this]
 ·show bp (lN (dS e2.lb u.unlb) u.lb) B=bp (lN (dS e.lb u.unlb) u.lb) B
  have:bp (dS e2.lb u.unlb) B=bp (dS e.lb u.unlb) B:=by
   cases u.unlb with
   | none=>exact H.lb B
   | some k=>simp only[dS,mW,H.lb B]
  cases u.lb with
  | none=>exact this
  | some x=>
   obtain⟨k,n⟩:=x
   simp only[lN,dO,this]
 ·have hB':aY (se d u.ent (u.ls++e2.sl)) B=true:=hB
  show aY (se d u.ent (u.ls++e.sl)) B=true
  rw[eJ,gw] at hB' ⊢
  simp only[Bool.and_eq_true] at hB' ⊢
  exact⟨hB'.1,hB'.2.1,H.lf B hB'.2.2⟩
omit [Dr] in
theorem Rel.run:∀(is:List Nat){L:List Nat}{e2 e:Env}(_:Rel ops L e2 e)(_:∀ i∈is,i∈L)(h:Hp),aX cx base ops is e2 h≠.fail→
  (∃ e2' e' h',aX cx base ops is e2 h= .ok e2' h'∧aX cx base ops is e h= .ok e' h'∧Rel ops L e2' e')∨∃ v h',aX cx base ops is e2 h= .pan v h'∧aX cx base ops is e h= .pan v h'
 | [],L,e2,e,H,_,h,_=>.inl ⟨e2,e,h,rfl,rfl,H⟩
 | i:: is,L,e2,e,H,hL,h,hr=>by
  simp only[aX] at hr ⊢
  unfold stepG at hr ⊢
  simp only[ae,M.pure] at hr ⊢
  cases hx:eW cx base ops i e2 h with
  | fail=>rw[hx] at hr;exact absurd rfl hr
  | _ =>
   have ho:∃ o,ops[i]? = some o:=by
    cases ho:ops[i]? with
    | none=>unfold eW at hx;rw[ho] at hx;cases hx
    | some o=>exact⟨o,rfl⟩
   obtain⟨o,ho⟩:=ho
   have hi:=hL i (by simp)
   have hy:eW cx base ops i e h=eW cx base ops i e2 h:=fR ho (fun t ht=>H.read hi (by rw[f4 ho];simp[ht])) (H.agree hi ho) (by rw[hx];simp)
   rw[hy,hx]
   first
    | rw[hx] at hr
      exact Rel.run is (H.upd _ _) (fun k hk=>hL k (by simp[hk])) _ hr
    | exact .inr ⟨_,_,rfl,rfl⟩
omit [Dr] in
theorem qK(e:Env):∀(ds:List Nat)(t:Nat),(forget e ds).get t=if t∈ds then Ent.none else e.get t
 | [],t=>by simp[forget]
 | d:: ds,t=>by
  show bQ ((d,Ent.none):: (forget e ds).sl) t=_
  rw[cg]
  by_cases hd:d=t
  ·subst hd;simp
  ·rw[if_neg hd]
   have:=qK e ds t
   simp only[Env.get] at this
   rw[this]
   have hd':¬ t=d:=fun h=>hd h.symm
   simp[hd',Env.get]
omit [Dr] in
theorem o5(e:Env):∀(ds:List Nat),(forget e ds).al=e.al∧(forget e ds).lb=e.lb∧∀ B,aY (forget e ds).sl B=aY e.sl B
 | []=>⟨rfl,rfl,fun _=>rfl⟩
 | _d:: ds=>o5 e ds
omit [Dr] in
theorem pq(e:Env)(f:Nat→AV):∀(outs:List Nat)(pre:List AV)(t:Nat),(fM e (pre++outs.map f) pre.length outs).get t=if t∈outs then ⟨.val (f t),none⟩ else e.get t
 | [],pre,t=>by simp[fM]
 | d:: ds,pre,t=>by
  show bQ ((d,⟨.val (nth (pre++(d:: ds).map f) pre.length),none⟩):: (fM e (pre++(d:: ds).map f) (pre.length + 1) ds).sl) t=_
  rw[cg]
  have hn:nth (pre++(d:: ds).map f) pre.length=f d:=by simp[nth]
  by_cases hd:d=t
  ·subst hd;rw[hn];simp
  ·rw[if_neg hd]
   have:=pq e f ds (pre++[f d]) t
   simp only[List.append_assoc,List.length_append,List.length_cons,List.length_nil,List.singleton_append] at this
   simp only[Env.get,List.map_cons] at this ⊢
   rw[this]
   have hd':¬ t=d:=fun h=>hd h.symm
   simp[hd']
omit [Dr] in
theorem nv(e:Env)(vs:List AV):∀(outs:List Nat)(i:Nat),(fM e vs i outs).al=e.al∧(fM e vs i outs).lb=e.lb∧∀ B,aY (fM e vs i outs).sl B=aY e.sl B
 | [],_i=>⟨rfl,rfl,fun _=>rfl⟩
 | _d:: ds,i=>nv e vs ds (i + 1)
omit [Dr] in
theorem zS(gs:List (Option (Nat×Bool)×List Nat))(t:Nat):zR ops gs t=true↔∃ i∈gP gs,t∈da ops i:=by
 unfold zR gP
 simp only[List.any_eq_true,List.mem_flatMap,gx]
 constructor
 ·rintro⟨g,hg,i,hi,ht⟩;exact⟨i,⟨g,hg,hi⟩,ht⟩
 ·rintro⟨i,⟨g,hg,hi⟩,ht⟩;exact⟨g,hg,i,hi,ht⟩
omit [Dr] in
theorem Rel.close{is:List Nat}{gs:List (Option (Nat×Bool)×List Nat)}{e2 e e':Env}(H:Rel ops (is++gP gs) e2 e)(hS:Small ops)(T:Turned (cT ops is) e e'){vs:List AV} {f:Nat→AV}
  (hvs:vs=(dp ops is gs).map f) (hf:∀ t∈dp ops is gs,e'.get t=⟨.val (f t),none⟩∨(f t= .any∧t < 1000∧∀ i∈gP gs,t ∉ da ops i)):Rel ops (gP gs) (fM (forget e2 (cT ops is)) vs 0 (dp ops is gs)) e':=by
 have hr:=nv (forget e2 (cT ops is)) vs (dp ops is gs) 0
 have hr2:=o5 e2 (cT ops is)
 refine⟨fun t=>?_,fun g=>?_,fun B=>?_,fun B hB=>?_⟩
 ·have hg:=pq (forget e2 (cT ops is)) f (dp ops is gs) [] t
  simp only[List.nil_append,List.length_nil] at hg
  rw[hvs,hg]
  split
  ·rename_i ht
   rcases hf t ht with h | ⟨h1,h2,h3⟩
   ·exact .inl h.symm
   ·exact .inr ⟨by rw[h1];rfl,h2,h3⟩
  ·rename_i ht
   rw[qK]
   split
   ·rename_i hd
    refine .inr ⟨rfl,?_,fun i hi hti=>ht ?_⟩
    ·unfold cT at hd
     simp only[List.mem_filterMap] at hd
     obtain⟨i,hi,hd⟩:=hd
     unfold dy at hd
     cases hoi:ops[i]? with
     | none=>rw[hoi] at hd;simp at hd
     | some o=>rw[hoi] at hd;exact hS.dst i o hoi t hd
    ·unfold dp
     rw[List.mem_filter]
     exact⟨hd,(zS gs t).2 ⟨i,hi,hti⟩⟩
   ·rename_i hd
    rw[T.get t hd]
    rcases H.get t with h | ⟨h1,h2,h3⟩
    ·exact .inl h
    ·exact .inr ⟨h1,h2,fun i hi=>h3 i (by simp[hi])⟩
 ·rw[hr.1,hr2.1,T.al];exact H.al g
 ·rw[hr.2.1,hr2.2.1,T.lb];exact H.lb B
 ·rw[hr.2.2,hr2.2.2] at hB
  exact T.lf B (H.lf B hB)
omit [Dr] in
theorem rO(l m:List Nat):∀ e:Env,aX cx base ops (l++m) e=ae (aX cx base ops l e) (aX cx base ops m):=by
 induction l with
 | nil=>intro e;rfl
 | cons i l ih=>
  intro e
  show ae (stepG cx base ops i e) (aX cx base ops (l++m))=ae (ae (stepG cx base ops i e) (aX cx base ops l)) (aX cx base ops m)
  rw[gk]
  congr 1
  funext e'
  exact ih e'
omit [Dr] in
theorem GH{x:Ent}(h1:md x=true)(h2:x.g=none):x=⟨.val x.av,none⟩:=by
 obtain⟨v,g⟩:=x
 cases v with
 | val a=>simp only at h2;subst h2;rfl
 | loc B off=>cases h1
omit [Dr] in
theorem jm{ρ:Type}(hS:Small ops):∀(gs:List (Option (Nat×Bool)×List Nat))(e2 e:Env)(k:Env→M ρ)(h:Hp),(∀ g∈gs,∀ i∈g.2,guardOf ops i=g.1)→Rel ops (gP gs) e2 e→dT cx base ops gs e2 k h≠.fail→
  (∃ e2' e' h',dT cx base ops gs e2 k h=k e2' h'∧aX cx base ops (gP gs) e h= .ok e' h'∧Rel ops [] e2' e')∨∃ v h',dT cx base ops gs e2 k h= .pan v h'∧aX cx base ops (gP gs) e h= .pan v h'
 | [],e2,e,k,h,_,H,_=>.inl ⟨e2,e,h,rfl,rfl,H⟩
 | (none,is):: gs,e2,e,k,h,hg,H,hr=>by
  have hg0:∀ i∈is,guardOf ops i=none:=hg (none,is) (by simp)
  have hfl:gP ((none,is):: gs)=is++gP gs:=rfl
  rw[hfl] at H ⊢
  rw[rO]
  simp only[dT] at hr ⊢
  rw[xG is e2 _ hg0] at hr ⊢
  simp only[ae] at hr ⊢
  have hr2:aX cx base ops is e2 h≠.fail:=fun hf=>by rw[hf] at hr;exact hr rfl
  rcases H.run (base:=base) (cx:=cx) is (fun i hi=>by simp[hi]) h hr2 with ⟨e2',e',h',h1,h2,H'⟩ | ⟨v,h',h1,h2⟩
  ·rw[h1] at hr ⊢
   rw[h2]
   exact jm hS gs e2' e' k h' (fun g hgg=>hg g (by simp[hgg])) (H'.sub fun i hi=>by simp[hi]) hr
  ·rw[h1,h2]
   exact .inr ⟨v,h',rfl,rfl⟩
 | (some (j,want),is):: gs,e2,e,k,h,hg,H,hr=>by
  have hg0:∀ i∈is,guardOf ops i=some (j,want):=hg (some (j,want),is) (by simp)
  have hfl:gP ((some (j,want),is):: gs)=is++gP gs:=rfl
  rw[hfl] at H ⊢
  rw[rO]
  simp only[dT] at hr ⊢
  cases hdj:dy ops j with
  | none=>rw[hdj] at hr;exact absurd rfl hr
  | some t=>
   rw[hdj] at hr
   simp only at hr ⊢
   revert hr
   cases hc:((is.all fun i=>match ops[i]? with | some o=>eN cx o&&o.dst.isSome | none=>false) && !(eD (cT ops is) t)) with
   | false=>intro hr;exact absurd rfl hr
   | true=>
    intro hr
    simp only[cond_true] at hr ⊢
    simp only[Bool.and_eq_true,Bool.not_eq_true',List.all_eq_true] at hc
    have G:GroupOk cx ops j want t is:=by
     refine⟨hdj,fun i hi=>?_,fun ht=>?_⟩
     ·have:=hc.1 i hi
      cases hoi:ops[i]? with
      | none=>rw[hoi] at this;cases this
      | some o=>
       rw[hoi] at this
       simp only[Bool.and_eq_true] at this
       exact⟨o,rfl,hg0 i hi,this.1⟩
     ·rw[(gx _ _).2 ht] at hc
      exact Bool.noConfusion hc.2
    have htr:∀ i∈is,t∈da ops i:=fun i hi=>by
     obtain⟨o,ho,hgi,_⟩:=G.each i hi
     rw[f4 ho]
     have:o.guard=some (j,want):=by simpa [guardOf,ho] using hgi
     have:t∈eL ops o:=by
      unfold eL
      rw[this]
      simp only
      rw[show (ops[j]?).bind (·.dst)=some t from hdj]
      simp
     simp[this]
    -- the guard says yes
    cases is with
    | nil=>
     have hrn:∀ e,aX cx base ops [] e=M.pure e:=fun _=>rfl
     rw[hrn,bi]
     have ho:dp ops [] gs=[]:=rfl
     have hd:cT ops []=[]:=rfl
     rw[ho,hd] at hr ⊢
     have hpure:∀ {q:AV} {m:M (List AV)},m h= .ok [] h→aA q want ([]:List Nat).length m h≠.fail→aA q want ([]:List Nat).length m h= .ok [] h:=by
      intro q m hm hne
      cases q with
      | bool b=>
       simp only[aA]
       cases b== want with
       | true=>exact hm
       | false=>rfl
      | tup vs=>
       cases vs with
       | nil=>rfl
       | cons v vs=>exact absurd rfl hne
      | _=>exact absurd rfl hne
     simp only[ae] at hr ⊢
     have hp:=hpure (q:=e2.av t) (m:=iY cx base ops true [] e2 fun e'=>bif ([]:List Nat).all (fun t=>md (e'.get t)) then M.pure (([]:List Nat).map e'.av) else M.fail) rfl (fun hf=>by rw[hf] at hr;exact hr rfl)
     rw[hp] at hr ⊢
     exact jm hS gs e2 e k h (fun g hgg=>hg g (by simp[hgg])) (H.sub fun i hi=>by simp[hi]) hr
    | cons i0 is0=>
    have hav:e.av t=e2.av t:=by
     have:=H.read (i:=i0) (by simp) (htr i0 (by simp))
     simp only[Env.av,this]
    generalize hiseq:i0:: is0=is at *
    have hoff:Off (e2.av t) want→(aA (e2.av t) want (dp ops is gs).length (iY cx base ops true is e2 fun e'=>bif (dp ops is gs).all (fun t=>md (e'.get t)) then M.pure ((dp ops is gs).map e'.av) else M.fail))=M.pure (List.replicate (dp ops is gs).length (.tup [])):=by
     rintro (hq | ⟨b,hq,hb⟩)
     ·rw[hq];rfl
     ·rw[hq];simp only[aA,hb,cond_false]
    have hcase:Off (e2.av t) want∨e2.av t= .bool want:=by
     cases hq:e2.av t with
     | bool b=>
      cases hb:(b== want) with
      | true=>right;simp at hb;rw[hb]
      | false=>exact .inl (.inr ⟨b,rfl,hb⟩)
     | tup vs=>
      cases vs with
      | nil=>exact .inl (.inl rfl)
      | cons v vs=>rw[hq] at hr;exact absurd rfl hr
     | _=>rw[hq] at hr;exact absurd rfl hr
    rcases hcase with ho | hy
    ·rw[hoff ho,bi] at hr ⊢
     obtain⟨e',h1,T,h2⟩:=Hh (base:=base) is e h G (by rw[hav];exact ho)
     simp only[ae]
     rw[h1]
     refine jm hS gs _ e' k h (fun g hgg=>hg g (by simp[hgg])) (H.close hS T (f:=fun _=>.tup []) ?_ fun s hs=>.inl ?_) hr
     ·exact (List.map_const' ..).symm
     ·refine h2 s ?_
      unfold dp at hs
      exact (List.mem_filter.1 hs).1
    ·rw[hy] at hr ⊢
     simp only[aA,beq_self_eq_true,cond_true,ae] at hr ⊢
     rw[tN is e2 _ h G hy] at hr ⊢
     simp only[ae] at hr ⊢
     have hr2:aX cx base ops is e2 h≠.fail:=fun hf=>by rw[hf] at hr;exact hr rfl
     rcases H.run (base:=base) (cx:=cx) is (fun i hi=>by simp[hi]) h hr2 with ⟨e2',e',h',h1,h2,H'⟩ | ⟨v,h',h1,h2⟩
     ·rw[h1] at hr ⊢
      rw[h2]
      simp only at hr ⊢
      have T2:=nA is e2 e2' h h' G hy h1
      have T:=nA is e e' h h' G (by rw[hav];exact hy) h2
      cases hv:(dp ops is gs).all (fun t=>md (e2'.get t)) with
      | false=>rw[hv] at hr;exact absurd rfl hr
      | true=>
       rw[hv] at hr
       simp only[cond_true,M.pure] at hr ⊢
       refine jm hS gs _ e' k h' (fun g hgg=>hg g (by simp[hgg])) (H.close hS T (f:=e2'.av) rfl fun s hs=>?_) hr
       have hsd:s∈cT ops is:=by unfold dp at hs;exact (List.mem_filter.1 hs).1
       have hval:=GH (List.all_eq_true.1 hv s hs) (T2.ng s hsd)
       rcases H'.get s with h3 | ⟨h3,h4,h5⟩
       ·left;rw[← h3];exact hval
       ·right;exact⟨by simp only[Env.av,h3];rfl,h4,fun i hi=>h5 i (by simp[hi])⟩
     ·rw[h1,h2]
      exact .inr ⟨v,h',rfl,rfl⟩
end
end Go.Av
namespace Go.Av
variable [Dr]
omit [Dr] in
theorem jL(acc:List Nat):∀(es:List Edge)(x:Nat),(jd acc es).testBit x=true↔∃ e∈es,Region.binds .any e=true∧(e.on=x∨(acc.getD e.on 0).testBit x=true)
 | [],x=>by simp[jd]
 | e :: es,x=>by
  simp only[jd]
  cases hb:Region.binds .any e with
  | false=>
   simp only[cond_false,jL acc es x,List.mem_cons]
   constructor
   ·rintro⟨e',he,h⟩;exact⟨e',.inr he,h⟩
   ·rintro⟨e',rfl | he,h⟩
    ·rw[hb] at h;exact absurd h.1 (by simp)
    ·exact⟨e',he,h⟩
  | true=>
   simp only[cond_true,Nat.testBit_or,Bool.or_eq_true,jL acc es x,List.mem_cons,Nat.testBit_two_pow,decide_eq_true_eq]
   constructor
   ·rintro ((⟨e',he,h⟩ | h) | h)
    ·exact⟨e',.inr he,h⟩
    ·exact⟨e,.inl rfl,hb,.inl h⟩
    ·exact⟨e,.inl rfl,hb,.inr h⟩
   ·rintro⟨e',rfl | he,h1,h2⟩
    ·rcases h2 with h2 | h2
     ·exact .inl (.inr h2)
     ·exact .inr h2
    ·exact .inl (.inl ⟨e',he,h1,h2⟩)
omit [Dr] in
theorem sQ:∀(os:List Oper)(acc:List Nat),∃ r:List Nat,yy os acc=acc++r∧r.length=os.length∧∀(k:Nat)(o:Oper),os[k]? = some o→r[k]? = some (jd (acc++r.take k) o.after.toList)
 | [],acc=>⟨[],by simp[yy],rfl,by simp⟩
 | o:: os,acc=>by
  obtain⟨r,h1,h2,h3⟩:=sQ os (acc++[jd acc o.after.toList])
  refine⟨jd acc o.after.toList:: r,by simp[yy,h1],by simp[h2],fun k o' ho=>?_⟩
  cases k with
  | zero=>simp at ho;subst ho;simp
  | succ k=>
   simp only[List.getElem?_cons_succ,List.take_succ_cons] at ho ⊢
   rw[h3 k o' ho]
   simp
section
variable {ops:Array Oper}
def kh(ops:Array Oper):List Nat:=yy ops.toList []
omit [Dr] in
theorem DI{j:Nat}{o:Oper}(ho:ops[j]? = some o):(kh ops).length=ops.size∧(kh ops).getD j 0=jd ((kh ops).take j) o.after.toList:=by
 obtain⟨r,h1,h2,h3⟩:=sQ ops.toList []
 have h4:kh ops=r:=by unfold kh;rw[h1];simp
 rw[h4]
 refine⟨by simp[h2],?_⟩
 have:=h3 j o (by simpa using ho)
 rw[List.getD_eq_getElem?_getD,this]
 simp
omit [Dr] in
theorem Bi{listed:Nat→Prop}(hcl:∀(j:Nat)(o:Oper),ops[j]? = some o→listed j→∀ e∈o.after.toList,Region.binds .any e=true→listed e.on):
  ∀(j:Nat)(o:Oper),ops[j]? = some o→(∀ e∈o.after.toList,Region.binds .any e=true→listed e.on)→∀ x,((kh ops).getD j 0).testBit x=true→listed x:=by
 intro j
 induction j using Nat.strongRecOn with
 | _ j ih=>
  intro o ho hl x hx
  obtain⟨hlen,hget⟩:=DI ho
  rw[hget,jL] at hx
  obtain⟨e,he,hb,hx | hx⟩:=hx
  ·rw[← hx];exact hl e he hb
  ·by_cases hj:e.on < j
   ·have hjs:j < ops.size:=(Array.getElem?_eq_some_iff.1 ho).1
    have hos:ops[e.on]? = some ops[e.on]:=Array.getElem?_eq_getElem (by omega)
    have h1:((kh ops).take j).getD e.on 0=(kh ops).getD e.on 0:=by
     rw[List.getD_eq_getElem?_getD,List.getD_eq_getElem?_getD,List.getElem?_take,if_pos hj]
    rw[h1] at hx
    exact ih e.on hj _ hos (hcl e.on _ hos (hl e he hb)) x hx
   ·rw[List.getD_eq_getElem?_getD,List.getElem?_take,if_neg hj] at hx
    simp at hx
def CI(cx:Cx)(ops:Array Oper)(i j:Nat):Prop:=((kh ops).getD i 0).testBit j=false∧(((kh ops).getD j 0).testBit i=true∨mR cx ops i j=true)
omit [Dr] in
theorem pj{cx:Cx}:∀ {l:List Nat},jS cx ops (kh ops) l=true→l.Pairwise (CI cx ops)∧∀ i∈l,((kh ops).getD i 0).testBit i=false
 | [],_=>⟨.nil,by simp⟩
 | i:: l,h=>by
  simp only[jS,Bool.and_eq_true,Bool.not_eq_true',List.all_eq_true,Bool.or_eq_true] at h
  obtain⟨⟨h1,h2⟩,h3⟩:=h
  obtain⟨h4,h5⟩:=pj h3
  refine⟨.cons (fun j hj=>h2 j hj) h4,fun k hk=>?_⟩
  simp only[List.mem_cons] at hk
  rcases hk with rfl | hk
  ·exact h1
  ·exact h5 k hk
omit [Dr] in
theorem ko:∀ {l:List Nat},distinct l=true→l.Nodup
 | [],_=>.nil
 | i:: l,h=>by
  simp only[distinct,Bool.and_eq_true,Bool.not_eq_true'] at h
  refine List.nodup_cons.2 ⟨fun hi=>?_,ko h.2⟩
  rw[(gx _ _).2 hi] at h
  exact Bool.noConfusion h.1
variable {P:Program} {cx:Cx} {c:Entry} {N base:Nat}
theorem wa(hT:TOK P cx.T)(hC:cM P cx.own cx.call)(hI:IsoPure cx)(hO:OpsOk N cx ops)(hS:Small ops)(hbit:∀ i x,((kh ops).getD i 0).testBit x=true→x < ops.size) (hself:∀ i,i < ops.size→((kh ops).getD i 0).testBit i=false)
  {Q:Exit→Act→World→Prop}:∀(n:Nat)(rest:List Nat)(listed:Array Bool)(D:List Nat)(e:Env)(h:Hp)(a:Act)(w:World),rest.length=n→listed.size=ops.size→rest.Nodup→
  (∀ i,i∈rest↔i < ops.size∧listed.getD i true=false)→(∀ i∈rest,i ∉ D)→(∀ i∈D,i < ops.size)→
  (∀(j:Nat)(o:Oper),ops[j]? = some o→listed.getD j false=true→∀ e∈o.after.toList,Region.binds .any e=true→listed.getD e.on false=true)→rest.Pairwise (CI cx ops)→
  dP c N (UD base D) e h a w→aX cx base ops rest e h≠.fail→
  (∀ e0 e' h' a' w',aX cx base ops rest e h= .ok e0 h'→EqE e0 e'→dP c N (UR base ops.size) e' h' a' w'→a'.defers=a.defers→Q .normal a' w')→
  (∀ pv h' v w' a',aX cx base ops rest e h= .pan pv h'→lM c pv h' v w'→a'.defers=a.defers→Q (.panic [{ v,recovered:=false }]) a' w')→wpAny P .any ops Q n listed a w
 | 0,rest,listed,D,e,h,a,w,hlen,hsz,hnd,hmem,hdis,hD,hcl,hpw,H,hr,hn,hp=>by
  have:rest=[]:=List.eq_nil_of_length_eq_zero hlen
  subst this
  refine⟨?_,hn e e h a w rfl (.refl e) (H.wider (Hz hD)) rfl⟩
  refine List.eq_nil_iff_forall_not_mem.2 fun i hi=>?_
  obtain⟨h0,o,ho,_⟩:=mem_ready.1 hi
  have:=(hmem i).2 ⟨(Array.getElem?_eq_some_iff.1 ho).1,h0⟩
  simp at this
 | n + 1,rest,listed,D,e,h,a,w,hlen,hsz,hnd,hmem,hdis,hD,hcl,hpw,H,hr,hn,hp=>by
  have hgd:∀ i,i < ops.size→listed.getD i true=listed.getD i false:=fun i hi=>by
   rw[Array.getD_eq_getD_getElem?,Array.getD_eq_getD_getElem?,Array.getElem?_eq_getElem (by omega)]
   rfl
  refine⟨fun hemp=>?_,fun i hi=>?_⟩
  ·exfalso
   cases rest with
   | nil=>simp at hlen
   | cons r0 tl=>
    have hr0:=(hmem r0).1 (by simp)
    have hor:ops[r0]? = some ops[r0]:=Array.getElem?_eq_getElem hr0.1
    have:r0∈Region.ready .any ops listed:=by
     refine mem_ready.2 ⟨hr0.2,_,hor,fun ed hed hb=>?_⟩
     have hbt:((kh ops).getD r0 0).testBit ed.on=true:=by
      rw[(DI hor).2,jL]
      exact⟨ed,by simpa using hed,hb,.inl rfl⟩
     have hlt:=hbit r0 ed.on hbt
     cases hl:listed.getD ed.on false with
     | true=>rfl
     | false=>
      have hin:=(hmem ed.on).2 ⟨hlt,by rw[hgd _ hlt];exact hl⟩
      simp only[List.mem_cons] at hin
      rcases hin with hin | hin
      ·rw[hin] at hbt
       rw[hself r0 hr0.1] at hbt
       cases hbt
      ·have:=(List.pairwise_cons.1 hpw).1 ed.on hin
       rw[this.1] at hbt
       cases hbt
    rw[hemp] at this
    simp at this
  ·obtain⟨h0,o,ho,hall⟩:=mem_ready.1 hi
   have hlt:i < ops.size:=(Array.getElem?_eq_some_iff.1 ho).1
   have hin:=(hmem i).2 ⟨hlt,h0⟩
   obtain⟨p,q,rfl⟩:=List.append_of_mem hin
   have hnd':=hnd
   rw[List.nodup_append] at hnd'
   have hni:i ∉ p++q:=by
    intro hm
    rw[List.mem_append] at hm
    rcases hm with hm | hm
    ·exact hnd'.2.2 i hm i (by simp) rfl
    ·exact (List.nodup_cons.1 hnd'.2.1).1 hm
   have hclo:=Bi (ops:=ops) (listed:=fun j=>listed.getD j false=true) (fun j o ho hj ed hed hb=>hcl j o ho hj ed hed hb) i o ho (fun ed hed hb=>hall ed (by simpa using hed) hb)
   have hfront:∀ x∈p,mR cx ops x i=true∧x≠i:=by
    intro x hx
    have hpr:=(List.pairwise_append.1 hpw).2.2 x hx i (by simp)
    refine⟨?_,fun hxi=>hni (by rw[← hxi];simp[hx])⟩
    rcases hpr.2 with h1 | h1
    ·have hxl:=hclo x h1
     have hxr:=(hmem x).1 (by simp[hx])
     rw[hgd x hxr.1] at hxr
     rw[hxr.2] at hxl
     cases hxl
    ·exact h1
   have hRE:=Ij (base:=base) hI hS q p hfront e h
   have hr':aX cx base ops (i:: (p++q)) e h≠.fail:=by
    intro hf
    rw[hf] at hRE
    cases hx:aX cx base ops (p++i:: q) e h with
    | fail=>exact hr hx
    | ok e0 h0=>rw[hx] at hRE;obtain⟨_,h1,_⟩:=hRE;cases h1
    | pan v h0=>rw[hx] at hRE;cases hRE
   simp only[aX,ae] at hr'
   have hstep:∀ {r:R Env},aX cx base ops (i:: (p++q)) e h=r→aX cx base ops (i:: (p++q)) e h=r:=fun h=>h
   simp only[aX,ae] at hRE
   refine rY hT hC hO (hdis i hin) H (fun hf=>by rw[hf] at hr';exact hr' rfl) (fun e1 h1 a1 w1 hst hs hdf=>?_) (fun pv h1 v w1 hst hps=>?_)
   ·rw [hst] at hr' hRE
    simp only at hr' hRE
    refine wa hT hC hI hO hS hbit hself n (p++q) (listed.setIfInBounds i true) (i:: D) e1 h1 a1 w1 ?_ (by simp[hsz]) ?_ (fun k=>?_) (fun k hk=>?_) (fun k hk=>?_) (fun k o' ho' hk ed hed hb=>?_) ?_ hs hr' (fun e0 e' h' a' w' hok heq hsat hdf'=>?_) (fun pv h' v w' a' hok hps hdf'=>?_)
    ·simp only[List.length_append,List.length_cons] at hlen ⊢;omega
    ·exact hnd.sublist (List.Sublist.append (List.Sublist.refl p) (List.sublist_cons_self i q))
    ·have hset:k≠i→(listed.setIfInBounds i true).getD k true=listed.getD k true:=fun hk=>by
      rw[Array.getD_eq_getD_getElem?,Array.getD_eq_getD_getElem?,Array.getElem?_setIfInBounds_ne (Ne.symm hk)]
     constructor
     ·intro hk
      have hki:k≠i:=fun h=>hni (h▸hk)
      rw[hset hki]
      exact (hmem k).1 (by
       simp only[List.mem_append,List.mem_cons] at hk ⊢
       rcases hk with hk | hk
       ·exact .inl hk
       ·exact .inr (.inr hk))
     ·rintro⟨h1,h2⟩
      have hki:k≠i:=by
       rintro rfl
       rw[Array.getD_eq_getD_getElem?,Array.getElem?_setIfInBounds_self] at h2
       rw[if_pos (by omega)] at h2
       simp at h2
      rw[hset hki] at h2
      have:=(hmem k).2 ⟨h1,h2⟩
      simp only[List.mem_append,List.mem_cons] at this ⊢
      rcases this with h | h | h
      ·exact .inl h
      ·exact absurd h hki
      ·exact .inr h
    ·simp only[List.mem_cons,not_or]
     refine⟨fun hki=>hni (hki▸hk),hdis k ?_⟩
     simp only[List.mem_append,List.mem_cons] at hk ⊢
     rcases hk with hk | hk
     ·exact .inl hk
     ·exact .inr (.inr hk)
    ·simp only[List.mem_cons] at hk
     rcases hk with rfl | hk
     ·exact hlt
     ·exact hD k hk
    ·have hmono:∀ x,listed.getD x false=true→(listed.setIfInBounds i true).getD x false=true:=fun x hx=>getD_set_true hx
     by_cases hki:k=i
     ·subst hki
      rw[ho] at ho'
      cases ho'
      exact hmono _ (hall ed (by simpa using hed) hb)
     ·refine hmono _ (hcl k o' ho' ?_ ed hed hb)
      rw[Array.getD_eq_getD_getElem?,Array.getElem?_setIfInBounds_ne (Ne.symm hki),← Array.getD_eq_getD_getElem?] at hk
      exact hk
    ·exact hpw.sublist (List.Sublist.append (List.Sublist.refl p) (List.sublist_cons_self i q))
    ·rw[hok] at hRE
     cases hx:aX cx base ops (p++i:: q) e h with
     | fail=>exact absurd hx hr
     | ok ex hx'=>
      rw[hx] at hRE
      obtain⟨e0',h2,h3⟩:=hRE
      cases h2
      exact hn ex e' _ a' w' hx (h3.trans heq) hsat (hdf'.trans hdf)
     | pan v h0=>rw[hx] at hRE;cases hRE
    ·rw[hok] at hRE
     cases hx:aX cx base ops (p++i:: q) e h with
     | fail=>exact absurd hx hr
     | ok ex hx'=>rw[hx] at hRE;obtain⟨_,h1,_⟩:=hRE;cases h1
     | pan v0 h0=>
      rw[hx] at hRE
      cases hRE
      exact hp _ _ v w' a' hx hps (hdf'.trans hdf)
   ·rw[hst] at hRE
    cases hx:aX cx base ops (p++i:: q) e h with
    | fail=>exact absurd hx hr
    | ok ex hx'=>rw[hx] at hRE;obtain⟨_,h1,_⟩:=hRE;cases h1
    | pan v0 h0=>
     rw[hx] at hRE
     cases hRE
     exact hp _ _ v w1 a hx hps rfl
end
end Go.Av
namespace Go.Av
variable [Dr]
structure IsoCall (cx:Cx):Prop where
 iso:∀ f args,cx.iso f=true→∃ x:Option (Bool×AV),∀ h,cx.call f args h=(match x with | none=>.fail | some (true,v)=>.ok v h | some (false,v)=>.pan v h)
 nw:∀ f args,cx.nw f=true→yp (cx.call f args)
omit [Dr] in
theorem IsoCall.draw{cx:Cx}(h:IsoCall cx):IsoPure (eP cx):=by
 refine⟨?_,fun f args hf=>?_⟩
 case refine_2=>
  have hn:=h.nw f args hf
  show yp (bif cx.iso f then bY (cx.call f args) else cx.call f args)
  cases cx.iso f with
  | false=>exact hn
  | true=>
   intro hp v h' hh
   simp only[cond_true,bY] at hh
   cases hq:cx.call f args hp with
   | ok a b=>rw[hq] at hh;cases hh;exact hn _ _ _ hq
   | pan a b=>rw[hq] at hh;cases hh
   | fail=>rw[hq] at hh;cases hh
 intro f args hf
 have hf':cx.iso f=true:=hf
 obtain⟨x,hx⟩:=h.iso f args hf'
 refine⟨match x with | some (true,v)=>some v | _=>none,?_⟩
 show (bif cx.iso f then bY (cx.call f args) else cx.call f args)=_
 rw[hf']
 funext hp
 simp only[cond_true,bY,hx]
 rcases x with _ | ⟨b,v⟩
 ·rfl
 ·cases b <;> rfl
theorem cM.draw{P:Program}{cx:Cx}(h:cM P cx.own cx.call):cM P (eP cx).own (eP cx).call:=by
 intro f args hp S β w vs hr hg hw hh hv
 have hcall:(eP cx).call f args hp=(bif cx.iso f then bY (cx.call f args) hp else cx.call f args hp):=by
  show (bif cx.iso f then bY (cx.call f args) else cx.call f args) hp=_
  cases cx.iso f <;> rfl
 rw[hcall] at hr ⊢
 have key:∀ r,r=cx.call f args hp→r≠.fail→Calls P f vs.toArray w (dl ((eP cx).own f) S β hp w r)∧(P.funcs[f]?).any (fun fn=>fn.body.isSome && !(fn.name== "runtime.NumGoroutine"))=true:=by
  intro r hr1 hr2
  subst hr1
  exact h f args hp S β w vs hr2 hg hw hh hv
 cases hi:cx.iso f with
 | false=>rw[hi] at hr;exact key _ rfl hr
 | true=>
  rw[hi] at hr
  simp only[cond_true,bY] at hr ⊢
  cases hx:cx.call f args hp with
  | ok v hq=>rw[hx] at hr;exact key _ hx.symm (by simp)
  | pan v hq=>rw[hx] at hr;exact absurd rfl hr
  | fail=>rw[hx] at hr;exact absurd rfl hr
def j9(c:Entry)(N:Nat)(e:Env)(h:Hp)(a:Act)(w:World):Prop:=dP c N (fun g=>g < e.nx * 1000) e h a w
theorem dP.rel{c:Entry}{N:Nat}{U:Nat→Prop}{e2 e:Env}{h:Hp}{a:Act}{w:World}{ops:Array Oper}(H:dP c N U e h a w)(R:Rel ops [] e2 e):dP c N U e2 h a w:=by
 obtain⟨S,β,γ,lam,ω,F⟩:=H
 refine⟨S,β,γ,lam,ω,F.weak (fun t=>?_) (fun t g hg=>?_) (fun g z hz=>by rw[R.al] at hz;exact hz) (fun B n hB=>by rw[R.lb] at hB;exact hB)⟩
 ·rcases R.get t with h | ⟨h1,h2,_⟩
  ·exact .inl (by rw[h])
  ·exact .inr ⟨by rw[h1];rfl,h2⟩
 ·rcases R.get t with h | ⟨h1,_⟩
  ·rw[h] at hg;exact hg
  ·rw[h1] at hg;cases hg
theorem dP.eqE{c:Entry}{N:Nat}{U:Nat→Prop}{e2 e:Env}{h:Hp}{a:Act}{w:World}(H:dP c N U e h a w)(R:EqE e e2):dP c N U e2 h a w:=by
 obtain⟨S,β,γ,lam,ω,F⟩:=H
 exact⟨S,β,γ,lam,ω,F.weak (fun t=>.inl (by rw[R.get])) (fun t g hg=>by rw[R.get] at hg;exact hg) (fun g z hz=>by rw[R.al] at hz;exact hz) (fun B n hB=>by rw[R.lb] at hB;exact hB)⟩
theorem dP.nx{c:Entry}{N:Nat}{U:Nat→Prop}{e:Env}{h:Hp}{a:Act}{w:World}(n:Nat)(H:dP c N U e h a w):dP c N U { e with nx:=n } h a w:=by
 obtain⟨S,β,γ,lam,ω,F⟩:=H
 exact⟨S,β,γ,lam,ω,F.weak (fun t=>.inl rfl) (fun t g hg=>hg) (fun g z hz=>hz) (fun B n hB=>hB)⟩
section
variable {P:Program} {cx:Cx} {c:Entry} {e:Env} {h:Hp} {a:Act} {w:World} {ops:Array Oper} {id:Nat}
omit [Dr] in
theorem sn{n:Nat}(hn:n≤1000)(hd:jk n ops=true)(hk:∀ p,B5 (ck cx.ann.kinds p .L)=true→p < n):OpsOk n cx ops∧Small ops:=by
 unfold jk at hd
 rw[Array.all_eq_true_iff_forall_mem] at hd
 have h1:∀(i:Nat)(o:Oper),ops[i]? = some o→(∀ t,o.dst=some t→t < n)∧∀ t∈jf o,t < 1000:=by
  intro i o ho
  have:=hd o (Array.mem_of_getElem? ho)
  simp only[Bool.and_eq_true,List.all_eq_true,decide_eq_true_eq] at this
  refine⟨fun t ht=>?_,this.2⟩
  have h2:=this.1
  rw[ht] at h2
  simpa using h2
 refine⟨⟨fun i o ho=>(h1 i o ho).1,fun i o ho x hx t hxt=>(h1 i o ho).2 t ?_,hk⟩,⟨fun i o ho t ht=>Nat.lt_of_lt_of_le ((h1 i o ho).1 t ht) hn,fun i o ho=>(h1 i o ho).2⟩⟩
 subst hxt
 exact List.mem_filterMap.2 ⟨_,hx,rfl⟩
theorem Co{ρ:Type}(hT:TOK P cx.T)(hC:cM P cx.own cx.call)(hI:IsoCall cx)(hk:∀ p,B5 (ck cx.ann.kinds p .L)=true→p < cx.nt){draw:Bool} {k:Env→M ρ}
  (H:j9 c cx.nt e h a w) (hr:oU cx id ops draw e k h≠.fail) {Q:Exit→Act→World→Prop}
  (hn:∀ e' h' a' w',oU cx id ops draw e k h=k e' h'→j9 c cx.nt e' h' a' w'→a'.defers=a.defers→Q .normal a' w')
  (hp:∀ pv h' v w' a',oU cx id ops draw e k h= .pan pv h'→lM c pv h' v w'→a'.defers=a.defers→Q (.panic [{ v,recovered:=false }]) a' w'):
  (Code.region id ops draw).wp P Q a w:=by
 have hN:cx.nt≤1000:=by obtain⟨S,β,γ,lam,ω,F⟩:=H;exact F.tsz.2
 have H0:dP c cx.nt (UD e.nx []) e h a w:=H.wider fun g hg=>.inl hg
 unfold oU at hr hn hp
 cases hds:jk cx.nt ops with
 | false=>rw[hds] at hr;exact absurd rfl hr
 | true=>
  obtain⟨hO,hS⟩:=sn (cx:=cx) hN hds hk
  rw[hds] at hr hn hp
  simp only[cond_true] at hr hn hp
  cases draw with
  | false=>
   simp only[cond_false] at hr hn hp
   obtain⟨hfl,hgs⟩:=jb ops (List.range ops.size)
   refine wp_region (tP hT hC hO (List.range ops.size) [] e h a w List.nodup_range (by simp) H0 ?_ ?_ ?_)
   all_goals
    have hseq:=jm (cx:=cx) (base:=e.nx) hS (dz ops (List.range ops.size)) e e _ h hgs (.refl ops _ e) hr
    rw[hfl] at hseq
   ·rcases hseq with ⟨_,_,_,_,h2,_⟩ | ⟨_,_,_,h2⟩ <;> rw[h2] <;> simp
   ·intro e' h' a' w' hok hsat hdf
    rcases hseq with ⟨e2',e'',h'',h1,h2,hR⟩ | ⟨_,_,_,h2⟩
    ·rw[h2] at hok
     cases hok
     refine hn _ _ a' w' h1 (dP.nx _ ((hsat.wider (Hz ?_)).rel hR)) hdf
     intro i hi
     simpa using hi
    ·rw[h2] at hok;cases hok
   ·intro pv h' v w' a' hok hps hdf
    rcases hseq with ⟨e2',e'',h'',h1,h2,hR⟩ | ⟨_,_,h1,h2⟩
    ·rw[h2] at hok;cases hok
    ·rw[h2] at hok
     cases hok
     exact hp _ _ v w' a' h1 hps hdf
  | true=>
   simp only[cond_true] at hr hn hp
   generalize tH cx id ops.size=ord at hr hn hp
   cases hdo:lU cx ops ord with
   | false=>rw[hdo] at hr;exact absurd rfl hr
   | true=>
    rw[hdo] at hr hn hp
    simp only[cond_true] at hr hn hp
    simp only[lU,E2,Bool.and_eq_true,List.all_eq_true,decide_eq_true_eq] at hdo
    obtain⟨⟨⟨⟨⟨hlen,hmem⟩,hdist⟩,hlt⟩,hbits⟩,hpairs⟩:=hdo
    have hlen':ord.length=ops.size:=Nat.eq_of_beq_eq_true hlen
    obtain⟨hpw,hself⟩:=pj (cx:=cx) (ops:=ops) hpairs
    have hpw':ord.Pairwise (CI (eP cx) ops):=hpw
    have hO':OpsOk cx.nt (eP cx) ops:=⟨hO.dst,hO.src,hO.kin⟩
    obtain⟨hfl,hgs⟩:=jb ops ord
    have hseq:=jm (cx:=eP cx) (base:=e.nx) hS (dz ops ord) e e _ h hgs (.refl ops _ e) hr
    rw[hfl] at hseq
    refine wp_region_draw fun t=>?_
    have hsch:Region.schedule (P.follows .mixedOrders) ops t=Region.linearise .any ops t:=by
     simp only[Region.schedule,hT.mix,Bool.true_or,if_true]
    rw[hsch]
    have hmem':∀ i,i∈ord↔i < ops.size:=fun i=>⟨fun hi=>hlt i hi,fun hi=>(gx _ _).1 (hmem i (by simpa using hi))⟩
    refine wpAny_sound ops.size t _ a _ (wa (cx:=eP cx) (c:=c) (N:=cx.nt) (base:=e.nx) hT hC.draw hI.draw hO' hS ?_ ?_ ops.size ord (Array.replicate ops.size false) [] e h a w.drew hlen' (by simp) (ko hdist) ?_ (by simp) (by simp) ?_ hpw' ?_ ?_ ?_ ?_)
    ·intro i x hx
     rcases Nat.lt_or_ge x ops.size with h' | h'
     ·exact h'
     ·have hm:(kh ops).getD i 0 < 2 ^ ops.size:=by
       rw[List.getD_eq_getElem?_getD]
       cases hi:(kh ops)[i]? with
       | none=>simp;exact Nat.pow_pos (by omega)
       | some m=>exact hbits m (List.mem_of_getElem? hi)
      rw[Nat.testBit_lt_two_pow (Nat.lt_of_lt_of_le hm (Nat.pow_le_pow_right (by omega) h'))] at hx
      cases hx
    ·exact fun i hi=>hself i ((hmem' i).2 hi)
    ·intro i
     rw[hmem']
     constructor
     ·intro hi
      refine⟨hi,?_⟩
      rw[Array.getD_eq_getD_getElem?,Array.getElem?_replicate,if_pos hi]
      rfl
     ·exact fun hi=>hi.1
    ·intro j o ho hj
     exfalso
     rw[Array.getD_eq_getD_getElem?,Array.getElem?_replicate] at hj
     split at hj <;> simp at hj
    ·obtain⟨S,β,γ,lam,ω,F⟩:=H0
     exact⟨S,β,γ,lam,ω,F.drew⟩
    ·rcases hseq with ⟨_,_,_,_,h2,_⟩ | ⟨_,_,_,h2⟩ <;> rw[h2] <;> simp
    ·intro e0 e' h' a' w' hok heq hsat hdf
     rcases hseq with ⟨e2',e'',h'',h1,h2,hR⟩ | ⟨_,_,_,h2⟩
     ·rw[h2] at hok
      cases hok
      exact hn _ _ a' w' h1 (dP.nx _ ((hsat.eqE heq.symm).rel hR)) hdf
     ·rw[h2] at hok;cases hok
    ·intro pv h' v w' a' hok hps hdf
     rcases hseq with ⟨e2',e'',h'',h1,h2,hR⟩ | ⟨_,_,h1,h2⟩
     ·rw[h2] at hok;cases hok
     ·rw[h2] at hok
      cases hok
      exact hp _ _ v w' a' h1 hps hdf
end
end Go.Av
namespace Go.Av
variable [Dr]
omit [Dr] in
theorem jR {e:Env}:∀(l:List (Nat×Option Nat))(used:List Nat)(vs:List AV),gA e l used=some vs→vs.length=l.length∧
  (∀(i:Nat)(t:Nat)(z:Option Nat),l[i]? = some (t,z)→∃ a,vs[i]? = some a∧(e.get t).v= .val a∧∀ sz,z=some sz→∃ g z0,(e.get t).g=some g∧aI e.al g=some z0∧(z0=none∨z0=some sz)∧g ∉ used)∧
  ∀(i j:Nat)(t t' sz sz':Nat),i < j→l[i]? = some (t,some sz)→l[j]? = some (t',some sz')→(e.get t).g≠(e.get t').g
 | [],used,vs,h=>by
  simp only[gA,Option.some.injEq] at h
  subst h
  exact⟨rfl,by simp,by simp⟩
 | (t,none):: r,used,vs,h=>by
  simp only[gA] at h
  split at h
  ·rename_i a ha
   split at h
   ·rename_i vs' hvs
    simp only[Option.some.injEq] at h
    subst h
    obtain⟨h1,h2,h3⟩:=jR r used vs' hvs
    refine⟨by simp[h1],fun i t' z hi=>?_,fun i j t1 t2 sz1 sz2 hij hi hj=>?_⟩
    ·cases i with
     | zero=>
      simp only[List.getElem?_cons_zero,Option.some.injEq,Prod.mk.injEq] at hi
      obtain⟨rfl,rfl⟩:=hi
      exact⟨a,rfl,ha,fun sz hsz=>by cases hsz⟩
     | succ i=>simpa using h2 i t' z (by simpa using hi)
    ·cases i with
     | zero=>simp at hi
     | succ i=>
      cases j with
      | zero=>omega
      | succ j=>exact h3 i j t1 t2 sz1 sz2 (by omega) (by simpa using hi) (by simpa using hj)
   ·cases h
  ·cases h
 | (t, some sz):: r,used,vs,h=>by
  simp only[gA] at h
  split at h
  ·rename_i a g ha hg
   split at h
   ·cases h
   ·rename_i z0 hz0
    have hcond:vg z0 (some sz)=true∧eD used g=false∧(match gA e r (g:: used) with | some vs=>some (a:: vs) | none=>none)=some vs:=by
     cases hm:eD used g with
     | true=>
      rw[hm] at h
      cases z0 with
      | none=>cases h
      | some n=>
       simp only at h
       cases hb:Nat.beq n sz <;> rw[hb] at h <;> cases h
     | false=>
      rw[hm] at h
      cases z0 with
      | none=>exact⟨rfl,rfl,h⟩
      | some n=>
       simp only at h
       cases hb:Nat.beq n sz with
       | true=>rw[hb] at h;exact⟨hb,rfl,h⟩
       | false=>rw[hb] at h;cases h
    obtain⟨hc1,hc2,h⟩:=hcond
    have hc:=And.intro hc1 hc2
    ·split at h
     ·rename_i vs' hvs
      simp only[Option.some.injEq] at h
      subst h
      have hgu:g ∉ used:=fun hm=>by
       rw[(gx _ _).2 hm] at hc
       exact Bool.noConfusion hc.2
      have hz:z0=none∨z0=some sz:=by
       cases z0 with
       | none=>exact .inl rfl
       | some n=>exact .inr (by rw[Nat.eq_of_beq_eq_true hc.1])
      obtain⟨h1,h2,h3⟩:=jR r (g:: used) vs' hvs
      refine⟨by simp[h1],fun i t' z hi=>?_,fun i j t1 t2 sz1 sz2 hij hi hj=>?_⟩
      ·cases i with
       | zero=>
        simp only[List.getElem?_cons_zero,Option.some.injEq,Prod.mk.injEq] at hi
        obtain⟨rfl,rfl⟩:=hi
        exact⟨a,rfl,ha,fun sz' hsz=>by cases hsz;exact⟨g,z0,hg,hz0,hz,hgu⟩⟩
       | succ i=>
        obtain⟨a',k1,k2,k3⟩:=h2 i t' z (by simpa using hi)
        refine⟨a',by simpa using k1,k2,fun sz' hsz=>?_⟩
        obtain⟨g',z',m1,m2,m3,m4⟩:=k3 sz' hsz
        exact⟨g',z',m1,m2,m3,fun hm=>m4 (by simp[hm])⟩
      ·cases i with
       | zero=>
        cases j with
        | zero=>omega
        | succ j=>
         simp only[List.getElem?_cons_zero,Option.some.injEq,Prod.mk.injEq] at hi
         obtain⟨rfl,_⟩:=hi
         obtain⟨a',k1,k2,k3⟩:=h2 j t2 (some sz2) (by simpa using hj)
         obtain⟨g',z',m1,m2,m3,m4⟩:=k3 sz2 rfl
         rw[hg,m1]
         intro hh
         simp only[Option.some.injEq] at hh
         exact m4 (by simp[hh])
       | succ i=>
        cases j with
        | zero=>omega
        | succ j=>exact h3 i j t1 t2 sz1 sz2 (by omega) (by simpa using hi) (by simpa using hj)
     ·cases h
  ·cases h
omit [Dr] in
theorem j0(vs:List AV)(r:List (Nat×Ent))(t:Nat):∀(l:List (Nat×Option Nat))(k:Nat),
  (∃(i:Nat)(z:Option Nat),l[i]? = some (t,z)∧bQ (cJ vs k l++r) t=⟨.val (nth vs (k + i)),z.map fun _=>k + i⟩)∨
  ((∀(i:Nat)(z:Option Nat),l[i]? ≠some (t,z))∧bQ (cJ vs k l++r) t=bQ r t)
 | [],k=>.inr ⟨by simp,rfl⟩
 | (s,z):: l,k=>by
  have hh:cJ vs k ((s,z):: l)=(s,⟨.val (nth vs k),z.map fun _=>k⟩):: cJ vs (k + 1) l:=by cases z <;> rfl
  rw[hh,List.cons_append,cg]
  by_cases hs:s=t
  ·subst hs
   rw[if_pos rfl]
   exact .inl ⟨0,z,rfl,rfl⟩
  ·rw[if_neg hs]
   rcases j0 vs r t l (k + 1) with ⟨i,z',h1,h2⟩ | ⟨h1,h2⟩
   ·refine .inl ⟨i + 1,z',by simpa using h1,?_⟩
    rw[h2,show k + 1 + i=k + (i + 1) by omega]
   ·refine .inr ⟨fun i z' hi=>?_,h2⟩
    cases i with
    | zero=>simp at hi;exact hs hi.1
    | succ i=>exact h1 i z' (by simpa using hi)
omit [Dr] in
theorem gp:∀(l:List (Nat×Option Nat))(k g:Nat)(y:Option Nat),aI (jw k l) g=some y→∃(i t sz:Nat),l[i]? = some (t,some sz)∧g=k + i∧y=some sz
 | [],k,g,y,h=>by simp[jw,aI] at h
 | (s,none):: l,k,g,y,h=>by
  obtain⟨i,t,sz,h1,h2,h3⟩:=gp l (k + 1) g y h
  exact⟨i + 1,t,sz,by simpa using h1,by omega,h3⟩
 | (s,some n):: l,k,g,y,h=>by
  simp only[jw,bR] at h
  split at h
  ·rename_i hk
   simp only[Option.some.injEq] at h
   exact⟨0,s,n,rfl,by omega,h.symm⟩
  ·obtain⟨i,t,sz,h1,h2,h3⟩:=gp l (k + 1) g y h
   exact⟨i + 1,t,sz,by simpa using h1,by omega,h3⟩
omit [Dr] in
theorem nZ(t:Nat):∀(l:List (Nat×Nat×Nat)),(∃ B off,(t,B,off)∈l∧bQ (l.map fun x=>(x.1,(⟨.loc x.2.1 x.2.2,none⟩:Ent))) t=⟨.loc B off,none⟩)∨bQ (l.map fun x=>(x.1,(⟨.loc x.2.1 x.2.2,none⟩:Ent))) t=Ent.none
 | []=>.inr rfl
 | (s,B,off):: l=>by
  rw[List.map_cons,cg]
  by_cases hs:s=t
  ·subst hs
   rw[if_pos rfl]
   exact .inl ⟨B,off,by simp,rfl⟩
  ·rw[if_neg hs]
   rcases nZ t l with ⟨B',off',h1,h2⟩ | h
   ·exact .inl ⟨B',off',by simp[h1],h2⟩
   ·exact .inr h
omit [Dr] in
theorem ra{e:Env}:∀ {l:List (Nat×Nat×Nat)},q9 e l=true→∀ t B off,(t,B,off)∈l→(e.get t).v= .loc B off
 | [],_,t,B,off,h=>by simp at h
 | (s,B0,off0):: l,h,t,B,off,hm=>by
  simp only[q9,Bool.and_eq_true] at h
  simp only[List.mem_cons,Prod.mk.injEq] at hm
  rcases hm with ⟨rfl,rfl,rfl⟩ | hm
  ·have h1:=h.1
   split at h1
   ·rename_i B' off' hv
    simp only[Bool.and_eq_true] at h1
    rw[hv,Nat.eq_of_beq_eq_true h1.1,Nat.eq_of_beq_eq_true h1.2]
   ·cases h1
  ·exact ra h.2 t B off hm
omit [Dr] in
theorem tw{e:Env}:∀ {l:List (Nat×Nat)},wX e l=true→∀ B n,bp l B=some n→bp e.lb B=some n
 | [],_,B,n,h=>by simp[bp] at h
 | (B0,n0):: l,h,B,n,hm=>by
  simp only[wX,Bool.and_eq_true] at h
  rw[dO] at hm
  split at hm
  ·rename_i hB
   subst hB
   simp only[Option.some.injEq] at hm
   subst hm
   have h1:=h.1
   split at h1
   ·rename_i m hv
    rw[hv,Nat.eq_of_beq_eq_true h1]
   ·cases h1
  ·exact tw h.2 B n hm
section
variable {c:Entry} {N:Nat} {e:Env} {h:Hp} {a:Act} {w:World}
open Classical in
theorem vp{ja:JA}{vs:List AV}(H:j9 c N e h a w)(hp:pack ja e=some vs):j9 c N (unpack ja vs) h a w:=by
 obtain⟨S,β,γ,lam,ω,F⟩:=H
 unfold pack at hp
 cases hlo:(q9 e ja.locs&&wX e ja.lbs) with
 | false=>rw[hlo] at hp;cases hp
 | true=>
  rw[hlo] at hp
  simp only[cond_true] at hp
  simp only[Bool.and_eq_true] at hlo
  obtain⟨hlen,hval,hdis⟩:=jR ja.vals [] vs hp
  -- the groups carried
  let gOf:Nat→Option Nat:=fun i=>match ja.vals[i]? with | some (t,some _)=>(e.get t).g | _=>none
  have hg1:∀ i t sz,ja.vals[i]? = some (t,some sz)→∃ g z0,gOf i=some g∧(e.get t).g=some g∧aI e.al g=some z0∧(z0=none∨z0=some sz):=by
   intro i t sz hi
   obtain⟨a',_,_,h3⟩:=hval i t (some sz) hi
   obtain⟨g,z0,k1,k2,k3,_⟩:=h3 sz rfl
   refine⟨g,z0,?_,k1,k2,k3⟩
   show (match ja.vals[i]? with | some (t,some _)=>(e.get t).g | _=>none)=some g
   rw[hi]
   exact k1
  have hg2:∀ i j g,gOf i=some g→gOf j=some g→i=j:=by
   have hex:∀ i g,gOf i=some g→∃ t sz,ja.vals[i]? = some (t,some sz)∧(e.get t).g=some g:=by
    intro i g hi
    have hi':(match ja.vals[i]? with | some (t,some _)=>(e.get t).g | _=>none)=some g:=hi
    split at hi'
    ·rename_i t sz ht;exact⟨t,sz,ht,hi'⟩
    ·cases hi'
   intro i j g hi hj
   obtain⟨t,sz,k1,k2⟩:=hex i g hi
   obtain⟨t',sz',m1,m2⟩:=hex j g hj
   rcases Nat.lt_trichotomy i j with hlt | heq | hlt
   ·exact absurd (k2.trans m2.symm) (hdis i j t t' sz sz' hlt k1 m1)
   ·exact heq
   ·exact absurd (m2.trans k2.symm) (hdis j i t' t sz' sz hlt m1 k1)
  let γ':Nat→Value:=fun i=>match gOf i with | some g=>γ g | none=>undef
  let ω':Nat→Owner:=fun b=>match ω b with
   | .grp g=>if hx:∃ i,gOf i=some g then .grp (Classical.choose hx) else .no
   | o=>o
  have hωg:∀ b g i,ω b= .grp g→gOf i=some g→ω' b= .grp i:=by
   intro b g i hb hi
   show (match ω b with | .grp g=>if hx:∃ i,gOf i=some g then Owner.grp (Classical.choose hx) else .no | o=>o)= .grp i
   rw[hb]
   simp only
   have hx:∃ i,gOf i=some g:=⟨i,hi⟩
   rw[dif_pos hx,hg2 _ _ g (Classical.choose_spec hx) hi]
  have hωo:∀ b,(∀ g,ω b≠.grp g)→ω' b=ω b:=by
   intro b hb
   show (match ω b with | .grp g=>if hx:∃ i,gOf i=some g then Owner.grp (Classical.choose hx) else .no | o=>o)=ω b
   cases ho:ω b with
   | grp g=>exact absurd ho (hb g)
   | _=>rfl
  have hωn:∀ b,ω' b≠.no→ω b≠.no:=by
   intro b hb ho
   refine hb ?_
   rw[hωo b (fun g hg=>by rw[ho] at hg;cases hg),ho]
  have hωx:∀ b g,ω' b= .grp g→∃ g',ω b= .grp g':=by
   intro b g hg
   cases ho:ω b with
   | grp g'=>exact⟨g',rfl⟩
   | _=>rw[hωo b (fun g' h'=>by rw[ho] at h';cases h'),ho] at hg;cases hg
  -- the slots
  have hget:∀ t,(∃(i:Nat)(z:Option Nat)(a':AV),ja.vals[i]? = some (t,z)∧(e.get t).v= .val a'∧(unpack ja vs).get t=⟨.val a',z.map fun _=>i⟩)∨(∃ B off,(e.get t).v= .loc B off∧(unpack ja vs).get t=⟨.loc B off,none⟩)∨(unpack ja vs).get t=Ent.none:=by
   intro t
   have hu:(unpack ja vs).get t=bQ (cJ vs 0 ja.vals++ja.locs.map fun x=>(x.1,(⟨.loc x.2.1 x.2.2,none⟩:Ent))) t:=rfl
   rcases j0 vs (ja.locs.map fun x=>(x.1,(⟨.loc x.2.1 x.2.2,none⟩:Ent))) t ja.vals 0 with ⟨i,z,h1,h2⟩ | ⟨h1,h2⟩
   ·obtain⟨a',k1,k2,_⟩:=hval i t z h1
    refine .inl ⟨i,z,a',h1,k2,?_⟩
    rw[hu,h2,Nat.zero_add]
    have:nth vs i=a':=by simp[nth,k1]
    rw[this]
   ·rcases nZ t ja.locs with ⟨B,off,k1,k2⟩ | k
    ·exact .inr (.inl ⟨B,off,ra hlo.1 t B off k1,by rw[hu,h2,k2]⟩)
    ·exact .inr (.inr (by rw[hu,h2,k]))
  have hgg:∀ t g,((unpack ja vs).get t).g=some g→∃ sz,ja.vals[g]? = some (t,some sz):=by
   intro t g hg
   rcases hget t with ⟨i,z,a',h1,_,h3⟩ | ⟨_,_,_,h3⟩ | h3
   ·rw[h3] at hg
    cases z with
    | none=>simp at hg
    | some sz=>simp at hg;subst hg;exact⟨sz,h1⟩
   ·rw[h3] at hg;cases hg
   ·rw[h3] at hg;cases hg
  have hγ:∀ t g,((unpack ja vs).get t).g=some g→∃ g0 z0,(e.get t).g=some g0∧aI e.al g0=some z0∧γ' g=γ g0:=by
   intro t g hg
   obtain⟨sz,h1⟩:=hgg t g hg
   obtain⟨g0,z0,k1,k2,k3,_⟩:=hg1 g t sz h1
   refine⟨g0,z0,k2,k3,?_⟩
   show (match gOf g with | some g=>γ g | none=>undef)=γ g0
   rw[k1]
  refine⟨S,β,γ',lam,ω',⟨F.wf,F.gro,F.keep,F.le,F.ext,F.hlen,fun l cs hl hcs=>?_,F.tsz,fun t ht=>?_,fun t g z ht hg hz=>?_,fun B n hB=>?_,fun g z hz=>?_,fun b hb=>⟨(F.mine b (hωn b hb)).1.imp (fun hE=>⟨hE.1,fun g hg=>by obtain⟨g',h'⟩:=hωx b g hg;exact hE.2 g' h'⟩) id,(F.mine b (hωn b hb)).2⟩,fun t g hg=>?_,fun g z hz=>?_⟩⟩
  ·rcases F.heap l cs hl hcs with ⟨b,x,h1,h2,h3,h4⟩ | ⟨b,h1,h3,h4⟩
   ·exact .inl ⟨b,x,h1,h2,by rw[hωo b (fun g hg=>by rw[h3] at hg;cases hg)];exact h3,h4⟩
   ·exact .inr ⟨b,h1,by rw[hωo b (fun g hg=>by rw[h3] at hg;cases hg)];exact h3,h4⟩
  ·have hs:=F.slots t ht
   rcases hget t with ⟨i,z,a',_,h2,h3⟩ | ⟨B,off,h2,h3⟩ | h3
   ·rw[h3];rw[h2] at hs;exact hs
   ·rw[h3];rw[h2] at hs;exact hs
   ·rw[h3];simp[Ent.none,fm,VR]
  ·obtain⟨g0,z0,k1,k2,k3⟩:=hγ t g hg
   rw[k3]
   exact F.grps t g0 z0 ht k1 k2
  ·obtain⟨k1,k2,k3,b,x,k4,k5,k6,k7,k8⟩:=F.lblk B n (tw hlo.2 B n hB)
   refine⟨k1,k2,k3,b,x,k4,k5,by rw[hωo b (fun g hg=>by rw[k6] at hg;cases hg)];exact k6,k7,fun i hi=>?_⟩
   obtain⟨v,a',m1,m2,m3,m4⟩:=k8 i hi
   have hgr:∀ g z,((unpack ja vs).get (B + i)).g=some g→aI (unpack ja vs).al g=some z→v=γ' g:=by
    intro g z hg _
    obtain⟨g0,z0,p1,p2,p3⟩:=hγ _ g hg
    rw[p3]
    exact m4 g0 z0 p1 p2
   rcases hget (B + i) with ⟨j,z,a2,_,h2,h3⟩ | ⟨B',off,h2,h3⟩ | h3
   ·refine⟨v,a2,m1,by rw[h3],?_,hgr⟩
    rw[m2] at h2
    cases h2
    exact m3
   ·rw[m2] at h2;cases h2
   ·exact⟨v,.any,m1,by rw[h3];rfl,by simp[VR],hgr⟩
  ·obtain⟨i,t,sz,h1,h2,h3⟩:=gp ja.vals 0 g z hz
   rw[Nat.zero_add] at h2
   subst h2
   obtain⟨g0,z0,k1,k2,k3,k4⟩:=hg1 g t sz h1
   have hγ':γ' g=γ g0:=by
    show (match gOf g with | some g=>γ g | none=>undef)=γ g0
    rw[k1]
   rw[hγ']
   obtain⟨ad,len,cap,m1,m2,m3,m4⟩:=F.free g0 z0 k3
   refine⟨ad,len,cap,m1,m2,m3,m4.imp id ?_⟩
   rintro⟨sz',b,off,x,p1,p2,p3,p4,p5,p6⟩
   have:sz'=sz:=by
    rcases k4 with k4 | k4 <;> rw[k4] at p1 <;> cases p1
    rfl
   subst this
   exact⟨sz',b,off,x,h3,p2,p3,p4,hωg b g0 g p5 k1,p6⟩
  ·obtain⟨sz,h1⟩:=hgg t g hg
   have:g < ja.vals.length:=by
    rcases Nat.lt_or_ge g ja.vals.length with h | h
    ·exact h
    ·rw[List.getElem?_eq_none h] at h1;cases h1
   show g < ja.vals.length * 1000
   omega
  ·obtain⟨i,t,sz,h1,h2,h3⟩:=gp ja.vals 0 g z hz
   have:i < ja.vals.length:=by
    rcases Nat.lt_or_ge i ja.vals.length with h | h
    ·exact h
    ·rw[List.getElem?_eq_none h] at h1;cases h1
   show g < ja.vals.length * 1000
   omega
omit [Dr] in
theorem GL(d:Nat)(h:Hp):iE d h .any= .any:=by cases d <;> rfl
omit [Dr] in
theorem AH(g:AV→AV)(hg:g .any= .any)(vs:List AV)(i:Nat):nth (vs.map g) i=g (nth vs i):=by
 unfold nth
 rw[List.getD_eq_getElem?_getD,List.getD_eq_getElem?_getD,List.getElem?_map]
 cases vs[i]? with
 | none=>simp[hg]
 | some v=>rfl
structure Reval (g:AV→AV) (x y:Ent):Prop where
 gr:y.g=x.g
 v:(∃ a,x.v= .val a∧y.v= .val (g a))∨(∃ B off,x.v= .loc B off∧y.v= .loc B off)
omit [Dr] in
theorem gh(g:AV→AV)(hg:g .any= .any)(vs:List AV)(r:List (Nat×Ent))(hr:∀ t,Reval g (bQ r t) (bQ r t))(t:Nat):∀(l:List (Nat×Option Nat))(k:Nat),
  Reval g (bQ (cJ vs k l++r) t) (bQ (cJ (vs.map g) k l++r) t)
 | [],k=>by simpa [cJ] using hr t
 | (s,none):: l,k=>by
  simp only[cJ,List.cons_append,bQ]
  cases Nat.beq s t with
  | true=>exact⟨rfl,.inl ⟨_,rfl,by simp only[cond_true];rw[AH g hg]⟩⟩
  | false=>exact gh g hg vs r hr t l (k + 1)
 | (s,some z):: l,k=>by
  simp only[cJ,List.cons_append,bQ]
  cases Nat.beq s t with
  | true=>exact⟨rfl,.inl ⟨_,rfl,by simp only[cond_true];rw[AH g hg]⟩⟩
  | false=>exact gh g hg vs r hr t l (k + 1)
omit [Dr] in
theorem vo(g:AV→AV)(hg:g .any= .any)(ja:JA)(vs:List AV)(t:Nat):Reval g ((unpack ja vs).get t) ((unpack ja (vs.map g)).get t):=by
 refine gh g hg vs _ (fun t=>?_) t ja.vals 0
 rcases nZ t ja.locs with ⟨B,off,_,k2⟩ | k
 ·rw[k2];exact⟨rfl,.inr ⟨B,off,rfl,rfl⟩⟩
 ·rw[k];exact⟨rfl,.inl ⟨.any,rfl,by simp[Ent.none,hg]⟩⟩
theorem FR.reval{U:Nat→Prop}{S:au}{β:List bn}{γ:Nat→Value}{lam:Nat→Option Nat}{ω:Nat→Owner}{e2:Env}{h2:Hp}{S2:au}{ω2:Nat→Owner}{g:AV→AV}(F:FR c N U e h a w S β γ lam ω)(F2:FR c N U e h2 a w S2 β γ lam ω2) (hg:∀ x v,VR S β x v→VR S2 β (g x) v)
  (hr:∀ t,Reval g (e.get t) (e2.get t)) (hal:e2.al=e.al) (hlb:e2.lb=e.lb):FR c N U e2 h2 a w S2 β γ lam ω2:=by
 refine⟨F2.wf,F2.gro,F2.keep,F2.le,F2.ext,F2.hlen,F2.heap,F2.tsz,fun t ht=>?_,fun t k z ht hk hz=>?_,fun B n hB=>?_,fun k z hz=>F2.free k z (by rw[← hal];exact hz),F2.mine,fun t k hk=>?_,fun k z hz=>F2.used.2 k z (by rw[← hal];exact hz)⟩
 ·have h1:=F.slots t ht
  rcases (hr t).v with ⟨x,q1,q2⟩ | ⟨B,off,q1,q2⟩
  ·rw[q1] at h1;rw[q2];exact hg _ _ h1
  ·rw[q1] at h1;rw[q2];exact h1
 ·rw[(hr t).gr] at hk
  rw[hal] at hz
  exact F2.grps t k z ht hk hz
 ·rw[hlb] at hB
  obtain⟨k1,k2,k3,b,x,k4,k5,k6,k7,k8⟩:=F2.lblk B n hB
  obtain⟨_,_,_,b',x',j4,j5,j6,j7,j8⟩:=F.lblk B n hB
  rw[k4] at j4
  cases j4
  cases k5.inj j5
  refine⟨k1,k2,k3,b,x,k4,k5,k6,k7,fun i hi=>?_⟩
  obtain⟨v,a',m1,m2,m3,m4⟩:=k8 i hi
  obtain⟨v',a'',n1,n2,n3,_⟩:=j8 i hi
  rw[m1] at n1
  cases n1
  rcases (hr (B + i)).v with ⟨y,q1,q2⟩ | ⟨B',off,q1,q2⟩
  ·rw[n2] at q1
   cases q1
   refine⟨v,g a'',m1,q2,hg _ _ n3,fun k z hk hz=>?_⟩
   rw[(hr (B + i)).gr] at hk
   rw[hal] at hz
   exact m4 k z hk hz
  ·rw[n2] at q1;cases q1
 ·rw[(hr t).gr] at hk
  exact F2.used.1 t k hk
theorem sr{ja:JA}{vs:List AV}(H:j9 c N (unpack ja vs) h a w):j9 c N (unpack ja (vs.map (iE 6 h))) (h.map fun _=>[]) a w:=by
 obtain⟨S,β,γ,lam,ω,F⟩:=H
 obtain⟨S2,ω2,F2,hf⟩:=F.freeze
 have F3:=F.reval F2 (g:=iE 6 h) (fun x v hx=>hf _ _ hx) (vo _ (GL 6 h) ja vs) (e2:=unpack ja (vs.map (iE 6 h))) rfl rfl
 exact⟨S2,β,γ,lam,ω2,F3⟩
end
end Go.Av
namespace Go.Av
variable [Dr]
omit [Dr] in
theorem D4{ρ:Type}{ps:List Nat}{k:Nat→M ρ}{h:Hp}(hr:pE ps k h≠.fail):∀ q∈ps,pE ps k h=k q h:=by
 intro q hq
 unfold pE at hr ⊢
 cases ps with
 | nil=>simp at hq
 | cons p ps=>
  simp only at hr ⊢
  by_cases hall:∀ q∈ps,k q h=k p h
  ·rw[if_pos hall]
   rcases List.mem_cons.1 hq with rfl | hq
   ·rfl
   ·exact (hall q hq).symm
  ·rw[if_neg hall] at hr;exact absurd rfl hr
omit [Dr] in
theorem zu{ops:Array Oper}{draw:Bool}{p d q:Nat}(h:rq ops draw=some (p,d,q)):draw=false∧d≠q∧∃ x y:Oper,ops.toList=[x,y]∧x.op= .next (.tmp p) false∧x.dst=some d∧x.guard=none∧
  y.op= .extract (.tmp d) 0∧y.dst=some q∧y.guard=none:=by
 unfold rq at h
 cases draw with
 | true=>cases h
 | false=>
  simp only[cond_false] at h
  split at h
  ·rename_i x y hops
   split at h
   ·rename_i p' d' d2 q' h1 h2 h3 h4 h5 h6
    cases hb:Nat.beq d' d2 && !(Nat.beq d' q') with
    | false=>rw[hb] at h;cases h
    | true=>
     rw[hb] at h
     simp only[cond_true,Option.some.injEq,Prod.mk.injEq] at h
     obtain⟨rfl,rfl,rfl⟩:=h
     simp only[Bool.and_eq_true,Bool.not_eq_true'] at hb
     have:=Nat.eq_of_beq_eq_true hb.1
     subst this
     exact⟨rfl,fun hh=>by subst hh;simp at hb,x,y,hops,h1,h2,h3,h4,h5,h6⟩
   ·cases h
  ·cases h
omit [Dr] in
theorem Ce(ps:List Nat):(ps.map fun (i:Nat)=>AV.int .i64 i).map xe=ps:=by
 rw[List.map_map]
 apply List.ext_getElem? fun i=>?_
 rw[List.getElem?_map]
 cases ps[i]? <;> simp[xe]
section
variable {P:Program} {cx:Cx} {c:Entry} {e:Env} {h:Hp} {a:Act} {w:World} {ops:Array Oper} {id:Nat}
omit [Dr] in
theorem vd{Q:Exit→Act→World→Prop}{p d q N:Nat}{x y:Oper}{b:Bool}{w':World}{vs:List Value}(hN:N≤a.tmps.size)(hops:ops.toList=[x,y])(h1:x.op= .next (.tmp p) false)(h2:x.dst=some d) (h3:x.guard=none)
  (h4:y.op= .extract (.tmp d) 0) (h5:y.dst=some q) (h6:y.guard=none) (hd:d < N)
  (hrun:(Instr.next (a.eval (.tmp p)) false x.type).run P w= .ok (.tuple (.bool b:: vs).toArray) w')
  (hq:Q .normal ((a.put (some d) (.tuple (.bool b:: vs).toArray)).put (some q) (.bool b)) w'):(Code.region id ops false).wp P Q a w:=by
 refine wp_region_list ?_
 rw[hops]
 unfold wpList
 rw[if_pos (by unfold Region.wanted;rw[h3])]
 refine .inl ?_
 unfold Oper.wp
 have hr1:(execOp a.eval x).run P w= .ok (.value (.tuple (.bool b:: vs).toArray)) w':=by
  simp only[execOp,h1,Sem.run_bind,hrun,Result.andThen_ok,Sem.run_pure]
 rw[hr1]
 simp only[Oper.upon]
 unfold wpList
 rw[if_pos (by unfold Region.wanted;rw[h6])]
 refine .inl ?_
 unfold Oper.wp
 have hev:(a.put x.dst (.tuple (.bool b:: vs).toArray)).eval (.tmp d)= .tuple (.bool b:: vs).toArray:=by
  rw[h2]
  have hlt:d < a.tmps.size:=by omega
  simp[Act.put,Act.eval,hlt]
 have hr2:(execOp (a.put x.dst (.tuple (.bool b:: vs).toArray)).eval y).run P w'= .ok (.value (.bool b)) w':=by
  simp[execOp,h4,hev,Instr.extract]
 rw[hr2]
 simp only[Oper.upon]
 unfold wpList
 rw[h2,h5]
 exact hq
theorem FR.two{N:Nat}{U:Nat→Prop}{S:au}{β:List bn}{γ:Nat→Value}{lam:Nat→Option Nat}{ω:Nat→Owner}(F:FR c N U e h a w S β γ lam ω){d q:Nat}(hd:d < N)(hq:q < N)(v:Value)(b:Bool):
  FR c N U ((e.set d Ent.none).set q ⟨.val (.bool b),none⟩) h ((a.put (some d) v).put (some q) (.bool b)) w S β γ lam ω:=by
 have F1:=F.setV (d:=some d) (r:=.any) (v:=v) (fun t ht=>by cases ht;exact hd) (by simp[VR])
 exact F1.setV (d:=some q) (r:=.bool b) (v:=.bool b) (fun t ht=>by cases ht;exact hq) (by simp[VR])
theorem zE {ρ:Type} (hT:TOK P cx.T) (hC:cM P cx.own cx.call) (hI:IsoCall cx) (hk:∀ p,B5 (ck cx.ann.kinds p .L)=true→p < cx.nt) {draw:Bool} {k:Env→M ρ}
  (H:j9 c cx.nt e h a w) (hr:kp cx id ops draw e k h≠.fail) {Q:Exit→Act→World→Prop}
  (hn:∀ e' h' a' w',kp cx id ops draw e k h=k e' h'→j9 c cx.nt e' h' a' w'→a'.defers=a.defers→Q .normal a' w')
  (hp:∀ pv h' v w' a',kp cx id ops draw e k h= .pan pv h'→lM c pv h' v w'→a'.defers=a.defers→Q (.panic [{ v,recovered:=false }]) a' w'):
  (Code.region id ops draw).wp P Q a w:=by
 unfold kp at hr hn hp
 cases hno:rq ops draw with
 | none=>
  rw[hno] at hr hn hp
  exact Co hT hC hI hk H hr hn hp
 | some pdq =>
  obtain⟨p,d,q⟩:=pdq
  obtain⟨rfl,hdq,x,y,hops,g1,g2,g3,g4,g5,g6⟩:=zu hno
  rw[hno] at hr hn
  simp only at hr hn
  clear hp
  cases hb:decide (p < 1000)&&decide (d < cx.nt)&&decide (q < cx.nt) with
  | false=>rw[hb] at hr;exact absurd rfl hr
  | true =>
   rw[hb] at hr hn
   simp only[cond_true] at hr hn
   simp only[Bool.and_eq_true,decide_eq_true_eq] at hb
   obtain⟨⟨hp,hd⟩,hq⟩:=hb
   obtain⟨S,β,γ,lam,ω,F⟩:=H
   have hdef:∀(v u:Value),((a.put (some d) v).put (some q) u).defers=a.defers:=fun v u=>rfl
   have hvp:=aS F (.tmp p) (fun t ht=>by cases ht;exact hp)
   simp only[opnd] at hvp
   cases hx:e.av p with
   | it l =>
    rw[hx] at hr hn hvp
    simp only[gY] at hr hn
    simp only[VR] at hvp
    obtain⟨⟨b,z⟩,hbl,h0,hv⟩:=hvp
    simp only at h0
    subst h0
    cases hh:h[l]? with
    | none=>rw[hh] at hr;exact absurd rfl hr
    | some cs =>
     rw[hh] at hr hn
     have hcases:(cs=[.tup [],.nilm])∨(∃ m n qs cu,cs=[.tup [],.mp m,.int .i64 n,.sl qs,cu])∨¬ ((cs=[.tup [],.nilm])∨(∃ m n qs cu,cs=[.tup [],.mp m,.int .i64 n,.sl qs,cu])):=by
      by_cases h1:(cs=[.tup [],.nilm])∨(∃ m n qs cu,cs=[.tup [],.mp m,.int .i64 n,.sl qs,cu])
      ·exact h1.elim .inl (fun h=>.inr (.inl h))
      ·exact .inr (.inr h1)
     rcases hcases with rfl | ⟨m,n,qs,cu,rfl⟩ | hno
     ·simp only at hr hn
      obtain⟨hI,_,_⟩:=F.heap.iterRow hh (by simp) (by simp) hbl
      rcases hI with ⟨_,_,_,_,_,_,_,_,h1,_⟩ | ⟨_,since,seen,last,h4⟩
      ·simp at h1
      ·refine vd (vs:=[]) (b:=false) (w':=w) F.tsz.1 hops g1 g2 g3 g4 g5 g6 hd ?_ ?_
       ·rw[hv]
        simp[Instr.next,fK h4 (by simp)]
       ·exact hn _ _ _ _ rfl ⟨_,_,_,_,_,(F.killH l).two hd hq _ _⟩ (hdef _ _)
     ·simp only at hr hn
      cases hm:h[m]? with
      | none=>rw[hm] at hr;exact absurd rfl hr
      | some ds=>
       rw[hm] at hr hn
       by_cases hds:∃ es,ds=[.tup es]
       ·obtain⟨es,rfl⟩:=hds
        simp only at hr hn
        by_cases hnl:(es.length:Int)=n
        ·rw [if_pos hnl] at hr hn
         obtain⟨hI,hωb,_⟩:=F.heap.iterRow hh (by simp) (by simp) hbl
         rcases hI with ⟨l',n',ps,bm,since,seen,last,cur,h1,h2,h3,h4,hcu,h5⟩ | ⟨h1,_⟩
         ·simp only[fh,List.cons.injEq,AV.mp.injEq,AV.int.injEq,AV.sl.injEq,true_and,and_true] at h1
          obtain⟨rfl,rfl,rfl,rfl⟩:=h1
          obtain⟨_,k2⟩:=h5 es hm
          obtain⟨ents,clock,j1,j2,j3,j4,j5⟩:=k2 (by omega)
          obtain⟨ents0,clock0,r1,r2,r3,_⟩:=F.heap.mapRow hm h2
          rw[j1] at r1
          simp only[Option.some.injEq,Obj.map.injEq] at r1
          obtain⟨rfl,rfl⟩:=r1
          subst j4
          rw[Ce] at hr hn
          have hbb:bm≠b:=by rintro rfl;rw[j1] at h4;cases h4
          rcases tM (P:=P) x.type h4 j1 j2 h3 with ⟨i1,i2⟩ | ⟨i,u,w1,i1,i2,i3,i4⟩
          ·rw[← j3] at i1
           subst i1
           simp only at hr hn
           refine vd (vs:=[]) (b:=false) (w':=w) F.tsz.1 hops g1 g2 g3 g4 g5 g6 hd (by rw[hv];exact i2) ?_
           exact hn _ _ _ _ rfl ⟨_,_,_,_,_,(F.killH l).two hd hq _ _⟩ (hdef _ _)
          ·rw [← j3] at i1
           cases hps:ps with
           | nil=>rw[hps] at i1;simp at i1
           | cons r rs=>
            rw[hps] at hr hn i1
            simp only at hr hn
            have hdm:=D4 hr i i1
            refine vd (vs:=[u.key,u.val]) (b:=true) F.tsz.1 hops g1 g2 g3 g4 g5 g6 hd (by rw[hv];exact i4) ?_
            have F1:FR c cx.nt (fun g=>g < e.nx * 1000) e h a w1 S β γ lam ω:=by rcases i3 with rfl | rfl;exact F;exact F.drew
            have hw1:w1.heap=w.heap:=by rcases i3 with rfl | rfl <;> rfl
            have hml:l≠m:=by rintro rfl;rw[hm] at hh;simp at hh
            have hlt:=dt hh
            have hbw:b < w1.heap.size:=by rw[hw1];exact (Array.getElem?_eq_some_iff.1 h4).1
            have F2:=F1.turnI (cs':=[.tup [],.mp m,.int .i64 (n':Nat),fh ((r:: rs).filter fun r=>!(Nat.beq r i)),.int .i64 (i:Nat)]) (.mapIter (some bm) since (seen.push u.born) last) hh (by simp) (by simp) (by simp) hbl
             (.inr (.inl ⟨m,n',(r:: rs).filter fun r=>!(Nat.beq r i),bm,since,seen.push u.born,last,.int .i64 (i:Nat),rfl,h2,h3,gb _ hbw,.inr ⟨i,rfl⟩,fun es2 he2=>by
              rw[List.getElem?_set,if_neg hml,hm] at he2
              simp only[Option.some.injEq,List.cons.injEq,AV.tup.injEq,and_true] at he2
              subst he2
              refine⟨by omega,fun _=>⟨ents,last,by rw[bE _ _ _ hbb,hw1];exact j1,j2,by rw[jI r3.2 i2,← j3,hps],rfl,fun c hc=>?_⟩⟩
              simp only[AV.int.injEq,true_and,Int.natCast_inj] at hc
              subst hc
              exact⟨u,i2,by simp⟩⟩))
            exact hn _ _ _ _ hdm ⟨_,_,_,_,_,F2.two hd hq _ _⟩ (hdef _ _)
         ·simp at h1
        ·rw[if_neg hnl] at hr;exact absurd rfl hr
       ·exfalso
        apply hr
        split
        ·rename_i es hes;simp only[Option.some.injEq] at hes;exact absurd ⟨es,hes⟩ hds
        ·rfl
     ·exfalso
      apply hr
      split
      ·rename_i hes;simp only[Option.some.injEq] at hes;exact absurd (.inl hes) hno
      ·rename_i m n qs cu hes;simp only[Option.some.injEq] at hes;exact absurd (.inr ⟨m,n,qs,cu,hes⟩) hno
      ·rfl
   | _=>rw[hx] at hr;exact absurd rfl hr
end
end Go.Av
namespace Go.Av
variable [Dr]
section
variable {P:Program} {Q:Exit→Act→World→Prop} {b:Code}
def kc(P:Program)(c:Code)(Q:Exit→Act→World→Prop)(a:Act)(w:World):Prop:=
 ∀(b:Frame)(k:List Item)(cs:List Frame),∃ e a' w',Q e a' w'∧Arrives P (lone (b.at a (.code c:: .inLoop c:: k)) cs w) b k cs e a' w'
omit [Dr] in
theorem kc.loop{a:Act}{w:World}(h:kc P b Q a w):(Code.loop b).wp P Q a w:=
 fun f k cs=>let ⟨e,a',w',q,r⟩:=h f k cs;⟨e,a',w',q,.of_steps (.one step_loop) r⟩
omit [Dr] in
theorem kc.round{a:Act}{w:World}(h:b.wp P (Exit.then (kc P b Q) Q) a w):kc P b Q a w:=by
 intro f k cs
 obtain⟨e,a₁,w₁,hq,harr⟩:=h f (.inLoop b:: k) cs
 cases e with
 | normal=>
  obtain⟨e₂,a₂,w₂,hq₂,harr₂⟩:=hq f k cs
  exact⟨e₂,a₂,w₂,hq₂,.of_steps (Steps.trans harr (.one step_inLoop)) harr₂⟩
 | exit id=>exact⟨_,a₁,w₁,hq,.pass (x:=.inLoop b) rfl (fun _ _=>.inl (by simp)) harr⟩
 | goto l=>exact⟨_,a₁,w₁,hq,.pass (x:=.inLoop b) rfl (fun _ _=>.inl (by simp)) harr⟩
 | ret=>exact⟨_,a₁,w₁,hq,.pass (x:=.inLoop b) rfl (fun _ _=>.inl (by simp)) harr⟩
 | panic ch=>exact⟨_,a₁,w₁,hq,.pass (x:=.inLoop b) rfl (fun _ _=>.inl (by simp)) harr⟩
 | outgrown=>exact⟨_,a₁,w₁,hq,.pass (x:=.inLoop b) rfl (fun _ _=>.inl (by simp)) harr⟩
end
section
variable {P:Program} {cx:Cx} {c:Entry} {ρ:Type}
omit [Dr] in
theorem Ef{fx:bJ ρ}{id:Nat}{code:Code}{e:Env}{kn kr:Env→M ρ}{kx:Nat→Env→M ρ}(hc:∀ b,code≠.loop b):
  ev cx fx (.block id code) e kn kx kr=ev cx fx code e kn (fun i e'=>bif Nat.beq i id then kn e' else kx i e') kr:=by
 cases code <;> first | rfl | exact absurd rfl (hc _)
def zh(cx:Cx)(x:Code):Option JA:=match mE x with
 | some t=>oX cx.ann.joins t
 | none=>none
omit [Dr] in
theorem Kn{fx:bJ ρ}{x y:Code}{e:Env}{kn kr:Env→M ρ}{kx:Nat→Env→M ρ}:ev cx fx (.seq x y) e kn kx kr=(match zh cx x with
  | some ja=>jn (fun vs=>ev cx fx y (unpack ja vs) kn kx kr) fun j=>ev cx fx x e (r6 ja j) kx kr
  | none=>ev cx fx x e (fun e'=>ev cx fx y e' kn kx kr) kx kr):=by
 unfold zh
 simp only[ev]
 cases mE x with
 | none=>rfl
 | some t=>
  simp only
  cases oX cx.ann.joins t <;> rfl
structure Posts (c:Entry) (N:Nat) (r:R ρ) (a:Act) (kn:Env→M ρ) (kx:Nat→Env→M ρ) (kr:Env→M ρ) (Q:Exit→Act→World→Prop):Prop where
 nrm:∀ e' h' a' w',r=kn e' h'→j9 c N e' h' a' w'→a'.defers=a.defers→Q .normal a' w'
 ext:∀ i e' h' a' w',r=kx i e' h'→j9 c N e' h' a' w'→a'.defers=a.defers→Q (.exit i) a' w'
 ret:∀ e' h' a' w',r=kr e' h'→j9 c N e' h' a' w'→a'.defers=a.defers→Q .ret a' w'
 pan:∀ pv h' v w' a',r= .pan pv h'→lM c pv h' v w'→a'.defers=a.defers→Q (.panic [{ v,recovered:=false }]) a' w'
theorem vl{ja:JA}{j:List AV→M ρ}{e:Env}{h:Hp}{N:Nat}{a:Act}{w:World}(H:j9 c N e h a w)(hr:r6 ja j e h≠.fail):∃ vs h',r6 ja j e h=j vs h'∧j9 c N (unpack ja vs) h' a w:=by
 unfold r6 at hr ⊢
 cases hp:pack ja e with
 | none=>rw[hp] at hr;exact absurd rfl hr
 | some vs=>
  have hs:=vp H hp
  simp only
  cases ja.fz with
  | false=>exact⟨vs,h,rfl,hs⟩
  | true=>exact⟨_,_,rfl,sr hs⟩
theorem Eg (hT:TOK P cx.T) (hC:cM P cx.own cx.call) (hI:IsoCall cx) (hk:∀ p,B5 (ck cx.ann.kinds p .L)=true→p < cx.nt) (m:Nat):∀(n:Nat)(code:Code),SizeOf.sizeOf code < n→
  ∀(e:Env)(h:Hp)(a:Act)(w:World)(kn:Env→M ρ)(kx:Nat→Env→M ρ)(kr:Env→M ρ)(Q:Exit→Act→World→Prop),j9 c cx.nt e h a w→ev cx (cO m) code e kn kx kr h≠.fail→
  Posts c cx.nt (ev cx (cO m) code e kn kx kr h) a kn kx kr Q→code.wp P Q a w:=by
 intro n
 induction n with
 | zero=>intro code hn;omega
 | succ n ih=>
  intro code hn e h a w kn kx kr Q H hr hp
  cases code <;> (try exact absurd rfl hr)
  case skip=>exact wp_skip (hp.nrm e h a w rfl H rfl)
  case exit id=>exact wp_exit (hp.ext id e h a w rfl H rfl)
  case ret=>exact wp_ret (hp.ret e h a w rfl H rfl)
  case region id ops draw=>exact zE hT hC hI hk H hr hp.nrm hp.pan
  case seq x y=>
   have hx:SizeOf.sizeOf x < n:=by simp at hn;omega
   have hy:SizeOf.sizeOf y < n:=by simp at hn;omega
   refine wp_seq ?_
   rw[Kn] at hr hp
   generalize zh cx x=oj at hr hp
   cases oj with
   | none=>
    simp only at hr hp
    refine ih x hx e h a w _ kx kr _ H hr ⟨fun e' h' a' w' hok hs hd=>?_,fun i e' h' a' w' hok hs hd=>hp.ext i e' h' a' w' hok hs hd,fun e' h' a' w' hok hs hd=>hp.ret e' h' a' w' hok hs hd,fun pv h' v w' a' hok hs hd=>hp.pan pv h' v w' a' hok hs hd⟩
    rw[hok] at hr hp
    exact ih y hy e' h' a' w' kn kx kr Q hs hr ⟨fun e2 h2 a2 w2 k1 k2 k3=>hp.nrm e2 h2 a2 w2 k1 k2 (k3.trans hd),fun i e2 h2 a2 w2 k1 k2 k3=>hp.ext i e2 h2 a2 w2 k1 k2 (k3.trans hd),fun e2 h2 a2 w2 k1 k2 k3=>hp.ret e2 h2 a2 w2 k1 k2 (k3.trans hd),fun pv h2 v w2 a2 k1 k2 k3=>hp.pan pv h2 v w2 a2 k1 k2 (k3.trans hd)⟩
   | some ja=>
    simp only[jn] at hr hp
    refine ih x hx e h a w _ kx kr _ H hr ⟨fun e' h' a' w' hok hs hd=>?_,fun i e' h' a' w' hok hs hd=>hp.ext i e' h' a' w' hok hs hd,fun e' h' a' w' hok hs hd=>hp.ret e' h' a' w' hok hs hd,fun pv h' v w' a' hok hs hd=>hp.pan pv h' v w' a' hok hs hd⟩
    rw[hok] at hr hp
    obtain⟨vs,h3,hj,hs3⟩:=vl hs hr
    rw[hj] at hr hp
    exact ih y hy (unpack ja vs) h3 a' w' kn kx kr Q hs3 hr ⟨fun e2 h2 a2 w2 k1 k2 k3=>hp.nrm e2 h2 a2 w2 k1 k2 (k3.trans hd),fun i e2 h2 a2 w2 k1 k2 k3=>hp.ext i e2 h2 a2 w2 k1 k2 (k3.trans hd),fun e2 h2 a2 w2 k1 k2 k3=>hp.ret e2 h2 a2 w2 k1 k2 (k3.trans hd),fun pv h2 v w2 a2 k1 k2 k3=>hp.pan pv h2 v w2 a2 k1 k2 (k3.trans hd)⟩
  case cond o x y=>
   have hx:SizeOf.sizeOf x < n:=by simp at hn;omega
   have hy:SizeOf.sizeOf y < n:=by simp at hn;omega
   cases o <;> (try exact absurd rfl hr)
   case const v=>
    simp only[ev] at hr hp
    have hav:∀ b,cA v= .bool b→a.eval (.const v)= .bool b:=by
     intro b hb
     show v= .bool b
     cases v with
     | bool c=>simp only[cA,Af,AV.bool.injEq] at hb;rw[hb]
     | tuple vs=>simp only[cA] at hb;cases hvs:vs.isEmpty <;> rw[hvs] at hb <;> cases hb
     | pointer p=>cases p <;> (simp only[cA,Af] at hb;cases hb)
     | map p=>cases p <;> (simp only[cA,Af] at hb;cases hb)
     | slice p n m=>
      have hs:Af (.slice p n m)= .sl []∨Af (.slice p n m)= .any:=by
       cases p with
       | some q=>exact .inr rfl
       | none=>cases n with
        | succ n=>exact .inr rfl
        | zero=>cases m with
         | succ m=>exact .inr rfl
         | zero=>exact .inl rfl
      simp only[cA] at hb
      rcases hs with hs | hs <;> rw[hs] at hb <;> cases hb
     | _=>simp only[cA,Af] at hb;cases hb
    cases hq:cA v <;> rw[hq] at hr hp <;> (try exact absurd rfl hr)
    rename_i b
    cases b with
    | true=>exact wp_cond (hav true hq) (ih x hx e h a w kn kx kr Q H hr hp)
    | false=>exact wp_cond (hav false hq) (ih y hy e h a w kn kx kr Q H hr hp)
   rename_i t
   simp only[ev] at hr hp
   cases ht:decide (t < 1000) with
   | false=>rw[ht] at hr;exact absurd rfl hr
   | true=>
    rw[ht] at hr hp
    simp only[cond_true] at hr hp
    have htl:t < 1000:=by simpa using ht
    have hav:∀ b,e.av t= .bool b→a.eval (.tmp t)= .bool b:=by
     intro b hb
     obtain⟨S,β,γ,lam,ω,F⟩:=H
     have hs:=F.slots t htl
     simp only[Env.av,Ent.av] at hb
     cases hv:(e.get t).v with
     | val av=>
      rw[hv] at hs hb
      simp only at hb
      subst hb
      simp only[fm,VR] at hs
      exact hs
     | loc B off=>rw[hv] at hb;cases hb
    cases hq:e.av t <;> rw[hq] at hr hp <;> (try exact absurd rfl hr)
    rename_i b
    cases b with
    | true=>exact wp_cond (hav true hq) (ih x hx e h a w kn kx kr Q H hr hp)
    | false=>exact wp_cond (hav false hq) (ih y hy e h a w kn kx kr Q H hr hp)
  case block id code=>
   refine wp_block ?_
   by_cases hc:∃ b,code= .loop b
   ·obtain⟨b,rfl⟩:=hc
    have hb:SizeOf.sizeOf b < n:=by simp at hn;omega
    simp only[ev] at hr hp
    cases hja:oX cx.ann.loops id with
    | none=>rw[hja] at hr;exact absurd rfl hr
    | some ja=>
     rw[hja] at hr hp
     simp only at hr hp
     refine kc.loop ?_
     obtain⟨vs,h3,hj,hs3⟩:=vl H hr
     rw[hj] at hr hp
     have key:∀(k:Nat)(vs:List AV)(h:Hp)(a1:Act)(w:World),j9 c cx.nt (unpack ja vs) h a1 w→a1.defers=a.defers→
       cO k (fun self vs=>ev cx (cO m) b (unpack ja vs) (r6 ja self) (fun i e'=>bif Nat.beq i id then kn e' else kx i e') kr) vs h≠.fail→
       Posts c cx.nt (cO k (fun self vs=>ev cx (cO m) b (unpack ja vs) (r6 ja self) (fun i e'=>bif Nat.beq i id then kn e' else kx i e') kr) vs h) a kn kx kr Q→kc P b (Exit.inBlock id Q) a1 w:=by
      intro k
      induction k with
      | zero=>intro vs h a1 w _ _ hr _;exact absurd rfl hr
      | succ k ihk=>
       intro vs h a1 w hs hd hr hp
       simp only[cO] at hr hp
       refine kc.round (ih b hb (unpack ja vs) h a1 w _ _ kr _ hs hr ⟨fun e' h' a' w' hok hs' hd'=>?_,fun i e' h' a' w' hok hs' hd'=>?_,fun e' h' a' w' hok hs' hd'=>hp.ret e' h' a' w' hok hs' (hd'.trans hd),fun pv h' v w' a' hok hs' hd'=>hp.pan pv h' v w' a' hok hs' (hd'.trans hd)⟩)
       ·rw[hok] at hr hp
        obtain⟨vs',h4,hj',hs4⟩:=vl hs' hr
        rw[hj'] at hr hp
        exact ihk vs' h4 a' w' hs4 (hd'.trans hd) hr hp
       ·cases hi:Nat.beq i id with
        | true=>
         rw[hi] at hok
         have:=Nat.eq_of_beq_eq_true hi
         subst this
         show Exit.inBlock i Q (.exit i) a' w'
         simp only[Exit.inBlock,if_true]
         exact hp.nrm e' h' a' w' hok hs' (hd'.trans hd)
        | false=>
         rw[hi] at hok
         have hne:i≠id:=fun hh=>by subst hh;simp at hi
         show Exit.inBlock id Q (.exit i) a' w'
         simp only[Exit.inBlock,if_neg hne]
         exact hp.ext i e' h' a' w' hok hs' (hd'.trans hd)
     exact key m vs h3 a w hs3 rfl hr hp
   ·have hc':∀ b,code≠.loop b:=fun b hb=>hc ⟨b,hb⟩
    rw[Ef hc'] at hr hp
    have hs:SizeOf.sizeOf code < n:=by simp at hn;omega
    refine ih code hs e h a w kn _ kr _ H hr ⟨fun e' h' a' w' hok hs' hd'=>hp.nrm e' h' a' w' hok hs' hd',fun i e' h' a' w' hok hs' hd'=>?_,fun e' h' a' w' hok hs' hd'=>hp.ret e' h' a' w' hok hs' hd',fun pv h' v w' a' hok hs' hd'=>hp.pan pv h' v w' a' hok hs' hd'⟩
    cases hi:Nat.beq i id with
    | true=>
     rw[hi] at hok
     have:=Nat.eq_of_beq_eq_true hi
     subst this
     show Exit.inBlock i Q (.exit i) a' w'
     simp only[Exit.inBlock,if_true]
     exact hp.nrm e' h' a' w' hok hs' hd'
    | false=>
     rw[hi] at hok
     have hne:i≠id:=fun hh=>by subst hh;simp at hi
     show Exit.inBlock id Q (.exit i) a' w'
     simp only[Exit.inBlock,if_neg hne]
     exact hp.ext i e' h' a' w' hok hs' hd'
end
end Go.Av
namespace Go.Av
variable [Dr]
omit [Dr] in
theorem qe:∀(args:List AV)(i t:Nat),bQ (vI i args) t=if i≤t∧t < i + args.length then ⟨.val (nth args (t - i)),none⟩ else Ent.none
 | [],i,t=>by
  simp only[vI,bQ,List.length_nil,Nat.add_zero]
  rw[if_neg (by omega)]
 | a:: as,i,t=>by
  simp only[vI,cg,List.length_cons]
  by_cases h:i=t
  ·subst h
   rw[if_pos rfl,if_pos (by omega)]
   simp[nth]
  ·rw[if_neg h,qe as (i + 1) t]
   by_cases h2:i + 1≤t∧t < i + 1 + as.length
   ·rw[if_pos h2,if_pos (by omega)]
    have:t - i=(t - (i + 1)) + 1:=by omega
    simp[nth,this]
   ·rw[if_neg h2,if_neg (by omega)]
section
variable {P:Program} {cx:Cx}
open Classical in
theorem La{w:World}{S:au}{β:List bn}{h:Hp}{args:List AV}{vs:List Value}{n:Nat}(hg:sa β h w)(hw:Wf S w)(hh:ca S β w h)(hv:aM S β args vs)(hn:args.length≤n)(hn2:n≤1000):
  ∃ γ lam ω,FR { w,S,β,E:=bX β h,gok:=hg } n (fun g=>g < (pF args).nx * 1000) (pF args) h { tmps:=vs.toArray++Array.replicate (n - vs.toArray.size) undef,defers:=[] } w S β γ lam ω:=by
 obtain⟨hlen,ω0,hr⟩:=hh
 have hvl:=hv.length
 have hget:∀ t,(pF args).get t=if t < args.length then ⟨.val (nth args t),none⟩ else Ent.none:=fun t=>by
  have:=qe args 0 t
  simp only[Nat.zero_le,true_and,Nat.zero_add,Nat.sub_zero] at this
  exact this
 let ω:Nat→Owner:=fun b=>if bX β h b then ω0 b else .no
 refine⟨fun _=>undef,fun _=>none,ω,⟨hw,Gro.refl _,fun b _ _=>⟨rfl,fun _=>rfl⟩,au.le_refl S,eZ.refl β,hlen,fun l cs hl hcs=>?_,⟨?_,hn2⟩,fun t ht=>?_,fun t g z ht hg=>?_,fun B m hB=>?_,fun g z hz=>?_,fun b hb=>?_,fun t g hg=>?_,fun g z hz=>?_⟩⟩
 ·have hown:∀ b n,β[l]? = some (b,n)→ω0 b= .heap l→ω b= .heap l:=fun b n h1 h3=>by
   show (if bX β h b then ω0 b else .no)=_
   rw[if_pos ⟨l,cs,_,hl,hcs,h1⟩]
   exact h3
  rcases hr l cs hl hcs with ⟨b,x,h1,h2,h3,h4⟩ | ⟨b,h1,h3,h4⟩
  ·exact .inl ⟨b,x,h1,h2,hown b _ h1 h3,h4⟩
  ·exact .inr ⟨b,h1,hown b _ h1 h3,h4⟩
 ·simp;omega
 ·rw[hget]
  split
  ·rename_i hlt
   have hx:args[t]? = some (nth args t):=by simp[nth,hlt]
   obtain⟨v,h1,h2⟩:=hv.get hx
   have:(vs.toArray++Array.replicate (n - vs.toArray.size) undef).getD t undef=v:=by
    rw[Array.getD_eq_getD_getElem?,Array.getElem?_append_left (by simp;omega)]
    simp[h1]
   rw[this]
   exact h2
  ·simp[Ent.none,fm,VR]
 ·rw[hget] at hg
  split at hg <;> cases hg
 ·cases hB
 ·cases hz
 ·have hb':bX β h b:=by
   by_cases ho:bX β h b
   ·exact ho
   ·exact absurd (show ω b= .no from if_neg ho) hb
  obtain⟨l,cs,m,h1,h2,h3⟩:=hb'
  obtain⟨b',x,k1,k2,k3,_⟩:=hr.own h1 h2
  rw[h3] at k1
  cases k1
  have hω:ω b= .heap l:=by
   show (if bX β h b then ω0 b else .no)=_
   rw[if_pos ⟨l,cs,_,h1,h2,h3⟩]
   exact k3
  exact⟨.inl ⟨⟨l,cs,_,h1,h2,h3⟩,fun g=>by rw[hω];simp⟩,k2⟩
 ·rw[hget] at hg
  split at hg <;> cases hg
 ·cases hz
theorem start{w:World}{S:au}{β:List bn}{h:Hp}{args:List AV}{vs:List Value}{n:Nat}(hg:sa β h w)(hw:Wf S w)(hh:ca S β w h)(hv:aM S β args vs)(hn:args.length≤n)(hn2:n≤1000):
  j9 { w,S,β,E:=bX β h,gok:=hg } n (pF args) h { tmps:=vs.toArray++Array.replicate (n - vs.toArray.size) undef,defers:=[] } w:=⟨S,β,La hg hw hh hv hn hn2⟩
def hG(tmps:Array Value):ResultVar→Sem Value
 | .tmp t=>pure (tmps.getD t undef)
 | .cell p t=>do loadVar t (← asAddr (tmps.getD p undef))
omit [Dr] in
theorem rN(fn:Func)(tmps:Array Value):results fn tmps=(do let vs ← fn.results.mapM (hG tmps);pure (if h:vs.size=1 then vs[0] else .tuple vs)):=by
 unfold results
 congr 1
theorem K6 {c:Entry} {N:Nat} {U:Nat→Prop} {e:Env} {h:Hp} {a:Act} {w:World} {S:au} {β:List bn} {γ:Nat→Value} {lam:Nat→Option Nat} {ω:Nat→Owner} (hT:TOK P cx.T) (F:FR c N U e h a w S β γ lam ω)
  {r:ResultVar} {v:AV} (hr:xF cx.T e r=some v):∃ u,(hG a.tmps r).run P w= .ok u w∧VR S β v u:=by
 cases r with
 | tmp t=>
  simp only[xF] at hr
  cases ht:decide (t < 1000) with
  | false=>rw[ht] at hr;cases hr
  | true=>
   rw[ht] at hr
   simp only[cond_true] at hr
   have hs:=F.slots t (by simpa using ht)
   cases hv:(e.get t).v with
   | loc B off=>rw[hv] at hr;cases hr
   | val av=>
    rw[hv] at hr hs
    simp only[Option.some.injEq] at hr
    subst hr
    exact⟨_,by simp only[hG,Sem.run_pure],hs⟩
 | cell p t=>
  simp only[xF] at hr
  cases hp:decide (p < 1000) with
  | false=>rw[hp] at hr;cases hr
  | true=>
   rw[hp] at hr
   simp only[cond_true] at hr
   have hs:=F.slots p (by simpa using hp)
   cases hv:(e.get p).v with
   | loc B off=>
    rw[hv] at hr hs
    cases ht:cx.T t with
    | none=>rw[ht] at hr;cases hr
    | some ti=>
     rw[ht] at hr
     simp only at hr
     cases hin:lz e B off ti.size with
     | false=>rw[hin] at hr;cases hr
     | true=>
      rw[hin] at hr
      simp only[cond_true] at hr
      simp only[fm] at hs
      obtain⟨b,hlam,hpv⟩:=hs
      obtain⟨b',x,m,hm,hle,hlam',hrow,hms,hcells⟩:=F.locals hin
      rw[hlam] at hlam';cases hlam'
      let f:Nat→Value:=fun i=>(x[off + i]?).getD undef
      have hf:∀ i,i < ti.size→x[off + i]? = some (f i):=fun i hi=>by
       obtain⟨v,_,hv',_⟩:=hcells i hi
       show _=some ((x[off + i]?).getD undef)
       rw[hv'];rfl
      have hload:=pc hT ht hrow f hf
      have hexec:∀ v,(loadVar t ⟨b,off,none⟩).run P w= .ok v w→(hG a.tmps (.cell p t)).run P w= .ok v w:=fun v hv'=>by
       simp only[hG];rw[hpv];simpa [asAddr] using hv'
      cases hag:ti.agg with
      | true=>
       rw[hag] at hr
       simp only[cond_true,Option.some.injEq] at hr
       subst hr
       refine⟨_,hexec _ (hload.1 hag),?_⟩
       simp only[VR]
       refine⟨_,rfl,qM ti.size fun i hi=>?_⟩
       obtain⟨v,a',g1,g2,g3,_⟩:=hcells i hi
       have:f i=v:=by show (x[off + i]?).getD undef=v;rw[g1];rfl
       rw[this]
       simp only[Env.av,Ent.av,g2]
       exact g3
      | false=>
       rw[hag] at hr
       simp only[cond_false] at hr
       cases hone:decide (ti.size=1) with
       | false=>rw[hone] at hr;cases hr
       | true=>
        rw[hone] at hr
        simp only[cond_true,Option.some.injEq] at hr
        subst hr
        have hone':ti.size=1:=by simpa using hone
        obtain⟨v,a',g1,g2,g3,g4⟩:=hcells 0 (by omega)
        simp only[Nat.add_zero] at g1 g2 g4
        have hfv:f 0=v:=by show (x[off + 0]?).getD undef=v;rw[Nat.add_zero,g1];rfl
        refine⟨v,hexec _ (hfv▸hload.2 hag hone'),?_⟩
        simp only[Env.av,Ent.av,g2]
        exact g3
   | val av=>
    rw[hv] at hr hs
    cases ht:cx.T t with
    | none=>rw[ht] at hr;cases hr
    | some ti=>
     rw[ht] at hr
     simp only at hr
     obtain⟨v,h1,h2⟩:=AB hT F.wf hr hs
     refine⟨v,?_,h2⟩
     unfold aj at hr
     rw[ht] at hr
     cases av <;> simp only[reduceCtorEq] at hr
     simp only[fm,VR] at hs
     obtain⟨b,off,vs,hpv,_,_⟩:=hs
     simp only[hG]
     rw[hpv] at h1 ⊢
     simpa [Instr.loadAt,Instr.sureAddr,asAddr] using h1
theorem zF{c:Entry}{N:Nat}{U:Nat→Prop}{e:Env}{h:Hp}{a:Act}{w:World}{S:au}{β:List bn}{γ:Nat→Value}{lam:Nat→Option Nat}{ω:Nat→Owner}(hT:TOK P cx.T) (F:FR c N U e h a w S β γ lam ω)
  {fn:Func} {vs:List AV} (hr:f8 cx.T e fn.results.toList=some vs):∃ u,(results fn a.tmps).run P w= .ok u w∧VR S β (lJ vs) u:=by
 have key:∀(l:List ResultVar)(vs:List AV),f8 cx.T e l=some vs→∃ us:List Value,(l.mapM (hG a.tmps)).run P w= .ok us w∧aM S β vs us:=by
  intro l
  induction l with
  | nil=>intro vs h;simp only[f8,Option.some.injEq] at h;subst h;exact⟨[],by simp,by simp[aM]⟩
  | cons r rs ih=>
   intro vs h
   simp only[f8] at h
   cases h1:xF cx.T e r with
   | none=>rw[h1] at h;cases h
   | some v=>
    cases h2:f8 cx.T e rs with
    | none=>rw[h1,h2] at h;cases h
    | some vs'=>
     rw[h1,h2] at h
     simp only[Option.some.injEq] at h
     subst h
     obtain⟨u,k1,k2⟩:=K6 hT F h1
     obtain⟨us,m1,m2⟩:=ih vs' h2
     refine⟨u:: us,?_,by simp only[aM];exact⟨u,us,rfl,k2,m2⟩⟩
     rw[List.mapM_cons,Sem.run_bind,k1,Result.andThen_ok,Sem.run_bind,m1,Result.andThen_ok,Sem.run_pure]
 obtain⟨us,k1,k2⟩:=key _ _ hr
 have hlen:=k2.length
 have hrun:(fn.results.mapM (hG a.tmps)).run P w= .ok us.toArray w:=by
  rw[Array.mapM_eq_mapM_toList]
  rw[map_eq_pure_bind,Sem.run_bind,k1,Result.andThen_ok,Sem.run_pure]
 refine⟨if h:us.toArray.size=1 then us.toArray[0] else .tuple us.toArray,?_,?_⟩
 ·rw[rN,Sem.run_bind,hrun,Result.andThen_ok,Sem.run_pure]
 ·unfold lJ
  split
  ·rename_i v
   cases us with
   | nil=>simp at hlen
   | cons u us=>
    cases us with
    | nil=>simp only[aM] at k2;obtain⟨x,xs,hx,hy,_⟩:=k2;simp at hx;simp[hx.1,hy]
    | cons u2 us=>simp at hlen
  ·rename_i hne
   rw[dif_neg]
   ·simp only[VR];exact⟨us,rfl,k2⟩
   ·intro h1
    have:vs.length=1:=by rw[← hlen];simpa using h1
    match vs,this with
    | [v],_=>exact hne v rfl
end
end Go.Av
namespace Go.Av
variable [Dr]
omit [Dr] in
theorem wT{n:Nat}{ks:List (Nat×Kind)}(h:mU n ks=true):∀ p,B5 (ck ks p .L)=true→p < n:=by
 intro p hp
 induction ks with
 | nil=>simp[ck,B5] at hp
 | cons x ks ih=>
  obtain⟨k,y⟩:=x
  unfold mU at h
  simp only[List.all_cons,Bool.and_eq_true] at h
  simp only[ck] at hp
  cases hk:Nat.beq k p with
  | true=>
   rw[hk] at hp
   simp only[cond_true] at hp
   have:=h.1
   rw[hp] at this
   have hk':=Nat.eq_of_beq_eq_true hk
   subst hk'
   simpa using this
  | false=>
   rw[hk] at hp
   exact ih h.2 hp
section
variable {P:Program} {cx:Cx}
theorem KZ{c:Entry}{N:Nat}{U:Nat→Prop}{e:Env}{h:Hp}{a:Act}{w:World}{S:au}{β:List bn}{γ:Nat→Value}{lam:Nat→Option Nat}{ω:Nat→Owner} (F:FR c N U e h a w S β γ lam ω)
  {fn:Func} {sz:Nat} (ho:uN fn e sz=true) {u:Value} (hu:(results fn a.tmps).run P w= .ok u w):tY c.w.heap.size S β w h sz u:=by
 unfold uN at ho
 split at ho
 ·rename_i t hres
  cases ht:decide (t < 1000) with
  | false=>rw[ht] at ho;cases ho
  | true=>
   rw[ht] at ho
   simp only[Bool.true_and] at ho
   split at ho
   ·rename_i g hg
    split at ho
    ·rename_i z hz
     have hgr:=F.grps t g z (by simpa using ht) hg hz
     obtain⟨ad,len,cap,h1,h2,h3,h4⟩:=F.free g z hz
     have hue:u=a.tmps.getD t undef:=by
      have hr:fn.results= #[.tmp t]:=by apply Array.ext';simpa using hres
      rw[rN,hr] at hu
      simp[hG] at hu
      simpa using hu.symm
     rw[hue,hgr]
     refine⟨ad,len,cap,h1,h2,h3,h4.imp id ?_⟩
     rintro⟨sz',b,off,x,k1,k2,k3,k4,k5,k6⟩
     have hsz:sz'=sz:=by
      rw[k1] at ho
      simp only[vg] at ho
      exact Nat.eq_of_beq_eq_true ho
     subst hsz
     refine⟨b,off,x,k2,k3,k4,(F.mine b (by rw[k5];simp)).1.grp k5,fun hb=>?_,k6⟩
     obtain⟨l,_,hl,_⟩:=F.hown hb
     rw[k5] at hl
     cases hl
    ·cases ho
   ·cases ho
 ·cases ho
omit [Dr] in
theorem Fl{fn:Func}{own:Option Nat}{e:Env}{h:Hp}(hr:ju cx fn own e h≠.fail):∃ rs,f8 cx.T e fn.results.toList=some rs∧(ju cx fn own e h= .ok (lJ rs) h∨(own=none∧ju cx fn own e h= .ok (iE 6 h (lJ rs)) (h.map fun _=>[])))∧∀ sz,own=some sz→uN fn e sz=true:=by
 have key:∀ b z:Bool,(bif b then ae (ah ((f8 cx.T e fn.results.toList).map lJ)) (bif z then (bif own.isSome then fun _=>M.fail else tm) else M.pure) else M.fail:M AV) h≠.fail→b=true∧∃ rs,f8 cx.T e fn.results.toList=some rs∧
   ((bif b then ae (ah ((f8 cx.T e fn.results.toList).map lJ)) (bif z then (bif own.isSome then fun _=>M.fail else tm) else M.pure) else M.fail:M AV) h= .ok (lJ rs) h∨
    (own=none∧(bif b then ae (ah ((f8 cx.T e fn.results.toList).map lJ)) (bif z then (bif own.isSome then fun _=>M.fail else tm) else M.pure) else M.fail:M AV) h= .ok (iE 6 h (lJ rs)) (h.map fun _=>[]))):=by
  intro b z hr
  cases b with
  | false=>exact absurd rfl hr
  | true=>
   refine⟨rfl,?_⟩
   cases hres:f8 cx.T e fn.results.toList with
   | none=>rw[hres] at hr;exact absurd rfl hr
   | some rs=>
    rw[hres] at hr
    cases z with
    | false=>exact⟨rs,rfl,.inl rfl⟩
    | true=>
     cases own with
     | none=>exact⟨rs,rfl,.inr ⟨rfl,rfl⟩⟩
     | some sz=>exact absurd rfl hr
 unfold ju at hr ⊢
 cases own with
 | none=>
  obtain⟨_,rs,h1,h2⟩:=key true _ hr
  exact⟨rs,h1,h2,fun sz hsz=>by cases hsz⟩
 | some sz=>
  obtain⟨h0,rs,h1,h2⟩:=key _ _ hr
  exact⟨rs,h1,h2,fun sz' hsz=>by cases hsz;exact h0⟩
theorem ix(hT:TOK P cx.T)(hC:cM P cx.own cx.call)(hI:IsoCall cx)(m:Nat){f:FuncId}{fn:Func}(hf:P.funcs[f]? = some fn)(hnt:cx.nt=fn.ntmps){own:Option Nat}{args:List AV}{h:Hp}{S:au}{β:List bn}{w:World} {vs:List Value}
  (hr:bM cx (cO m) fn own args h≠.fail) (hg:sa β h w) (hw:Wf S w) (hh:ca S β w h) (hv:aM S β args vs):Calls P f vs.toArray w (dl own S β h w (bM cx (cO m) fn own args h))∧fn.body.isSome=true:=by
 unfold bM at hr ⊢
 cases hb:fn.body with
 | none=>rw[hb] at hr;exact absurd rfl hr
 | some code=>
  rw[hb] at hr
  simp only at hr ⊢
  refine⟨?_,rfl⟩
  cases hc:(decide (args.length≤fn.ntmps)&&decide (fn.ntmps≤1000)&&mU cx.nt cx.ann.kinds) with
  | false=>rw[hc] at hr;exact absurd rfl hr
  | true=>
   rw[hc] at hr
   simp only[cond_true] at hr ⊢
   simp only[Bool.and_eq_true,decide_eq_true_eq] at hc
   obtain⟨⟨hc1,hc2⟩,hc3⟩:=hc
   have H:j9 { w,S,β,E:=bX β h,gok:=hg } cx.nt (pF args) h { tmps:=vs.toArray++Array.replicate (fn.ntmps - vs.toArray.size) undef,defers:=[] } w:=by
    rw[hnt]
    exact start hg hw hh hv hc1 hc2
   have hret:∀(e':Env)(h':Hp)(a':Act)(w':World),ev cx (cO m) code (pF args) (ju cx fn own) (fun _ _=>M.fail) (ju cx fn own) h=ju cx fn own e' h'→
     j9 { w,S,β,E:=bX β h,gok:=hg } cx.nt e' h' a' w'→∃ v,(results fn a'.tmps).run P w'= .ok v w'∧dl own S β h w (ev cx (cO m) code (pF args) (ju cx fn own) (fun _ _=>M.fail) (ju cx fn own) h) (.returned v) w':=by
    intro e' h' a' w' hok hs
    rw[hok] at hr ⊢
    obtain⟨rs,hres,hret,hown⟩:=Fl hr
    obtain⟨S',β',γ,lam,ω,F⟩:=hs
    obtain⟨u,hu1,hu2⟩:=zF (P:=P) hT F hres
    rcases hret with hret | ⟨rfl,hret⟩
    ·rw[hret]
     exact⟨u,hu1,S',β',u,rfl,hu2,F.out,fun sz hsz=>KZ F (hown sz hsz) hu1⟩
    ·rw[hret]
     obtain⟨S2,ω2,F2,hf⟩:=F.freeze
     exact⟨u,hu1,S2,β',u,rfl,hf _ _ hu2,F2.out,fun sz hsz=>by cases hsz⟩
   refine calls_of_wp hf hb (Eg hT hC hI (wT hc3) m _ code (Nat.lt_succ_self _) (pF args) h _ w _ _ _ _ H hr ⟨fun e' h' a' w' hok hs hd=>?_,fun i e' h' a' w' hok hs hd=>?_,fun e' h' a' w' hok hs hd=>?_,fun pv h' v w' a' hok hs hd=>?_⟩)
   ·exact⟨hd,hret e' h' a' w' hok hs⟩
   ·rw[hok] at hr;exact absurd rfl hr
   ·exact⟨hd,hret e' h' a' w' hok hs⟩
   ·refine⟨hd,?_⟩
    rw[hok]
    obtain⟨S',β',hout,hvr⟩:=hs
    exact⟨S',β',v,rfl,hvr,hout⟩
end
open Classical in
theorem Ax{S:au}{β:List bn}{w w':World}{h:Hp}(_hw:Wf S w)(hh:ca S β w h){β0:List bn}{h0:Hp}(hE:∀ b,¬ bX β0 h0 b){S':au}{β':List bn}{h':Hp}(L:Left (bX β0 h0) S β0 w S' β' w' h'):∃ S2,Left (bX β h) S β w S2 β w' h∧(∀ a v,VR S' β' a v→VR S2 β (iE 6 h' a) v)∧∀ sz v,tY w.heap.size S' β' w' h' sz v→tY w.heap.size S2 β w' h sz v:=by
 obtain⟨hlen,ω,hH⟩:=L.heap
 have hnew:∀ b,bX β' h' b→w.heap.size≤b:=fun b hb=>(L.owned b hb).resolve_left (hE b)
 let S2:au:=fun b o=>if bX β' h' b then w'.cell? ⟨b,o,none⟩ else S' b o
 have hS2n:∀ b,¬ bX β' h' b→∀ o,S2 b o=S' b o:=fun b hb o=>if_neg hb
 have hS2y:∀ b,bX β' h' b→∀ o,S2 b o=w'.cell? ⟨b,o,none⟩:=fun b hb o=>if_pos hb
 have hle:S'.le S2:=by
  intro b o v hv
  by_cases hb:bX β' h' b
  ·obtain⟨l,cs,n,h1,h2,h3⟩:=hb
   obtain⟨b',x,k1,k2,k3,k5⟩:=hH.own h1 h2
   rw[h3] at k1;cases k1
   rw[k5] at hv
   cases hv
  ·rw[hS2n b hb];exact hv
 have hrow:∀ b,b < w.heap.size→w'.heap[b]? = w.heap[b]? ∧∀ o,S2 b o=S b o:=by
  intro b hb
  have hk:=L.keep b hb (hE b)
  refine⟨hk.1,fun o=>?_⟩
  rw[hS2n b (fun ho=>by have:=hnew b ho;omega)]
  exact hk.2 o
 have hwf:Wf S2 w':=by
  intro b o v hv
  by_cases hb:bX β' h' b
  ·rw[hS2y b hb] at hv;exact hv
  ·rw[hS2n b hb] at hv;exact L.wf b o v hv
 obtain⟨hlen0,ω0,hH0⟩:=hh
 have hlt0:∀ b,bX β h b→b < w.heap.size:=by
  rintro b ⟨l,cs,n,h1,h2,h3⟩
  obtain⟨b',x,k1,k2,_⟩:=hH0.own h1 h2
  rw[h3] at k1;cases k1
  exact k2
 have hle0:S.le S2:=au.le_trans L.le hle
 refine⟨S2,⟨hle0,eZ.refl β,hwf,L.gro,fun b hb _=>hrow b hb,⟨hlen0,ω0,hH0.rows hle0 (eZ.refl β) hlen0 fun l cs hl _=>.inl ⟨hl,fun b hb ho=>⟨ho,(hrow b hb).1,fun o h=>by rw[(hrow b hb).2];exact h⟩⟩⟩,fun b hb=>.inl hb⟩,fun a v hv=>ux hH hle (fun b o x hb hr=>?_) 6 a v hv,fun sz v=>?_⟩
 ·rw[hS2y b hb,hr.cell]
 ·rintro⟨ad,len,cap,k1,k2,k3,k4⟩
  refine⟨ad,len,cap,k1,k2,k3,k4.imp id ?_⟩
  rintro⟨b,off,x,p1,p2,p3,p4,p5,p6⟩
  refine⟨b,off,x,p1,p2,p3,p4,fun hb=>?_,fun o ho=>by rw[hS2n b p5];exact p6 o ho⟩
  have:=hlt0 b hb
  omega
theorem EF{S:au}{β:List bn}{w w':World}{h:Hp}{own:Option Nat}{m:List AV→M AV}{args:List AV}{en:Ending}(hw:Wf S w)(hh:ca S β w h)(hp:dl own S [] [] w (m (ee ax args) []) en w'):dl own S β h w (qW m args h) en w':=by
 have key:=fun {S':au} {β':List bn} {h':Hp} (L:Left (bX [] []) S [] w S' β' w' h')=>Ax hw hh (by rintro b ⟨l,cs,n,h1,_⟩;simp at h1) L
 unfold qW
 cases hm:m (ee ax args) [] with
 | fail=>rw[hm] at hp;exact hp.elim
 | ok r h'=>
  rw[hm] at hp
  obtain⟨S',β',v,h1,h2,h3,h4⟩:=hp
  obtain⟨S2,k1,k2,k3⟩:=key h3
  exact⟨S2,β,v,h1,k2 r v h2,k1,fun sz hsz=>k3 sz v (h4 sz hsz)⟩
 | pan r h'=>
  rw[hm] at hp
  obtain⟨S',β',v,h1,h2,h3⟩:=hp
  obtain⟨S2,k1,k2,k3⟩:=key h3
  exact⟨S2,β,v,h1,k2 r v h2,k1⟩
structure GoodPg (P:Program) (p:Pg):Prop where
 tok:TOK P p.T
 funcs:∀ f fn a,p.funcs f=some (fn,a)→P.funcs[f]? = some fn∧(fn.name== "runtime.NumGoroutine")=false
 other:∀ f E,p.other f=some E→∀ call,cM P p.own call→∀(args:List AV)(h:Hp)(S:au)(β:List bn)(w:World)(vs:List Value),E call args h≠.fail→sa β h w→Wf S w→ca S β w h→aM S β args vs→
  Calls P f vs.toArray w (dl (p.own f) S β h w (E call args h))∧(P.funcs[f]?).any (fun fn=>fn.body.isSome && !(fn.name== "runtime.NumGoroutine"))=true
 nw:∀ f,p.nw f=true→∃ E,p.other f=some E∧∀ call args,yp (E call args)
omit [Dr] in
theorem ca.nil{S:au}{w:World}:ca S [] w []:=⟨rfl,fun _=>.no,fun l cs hl=>by simp at hl⟩
theorem wj{P:Program}{p:Pg}(G:GoodPg P p)(m:Nat){call:FuncId→List AV→M AV}(hC:cM P p.own call)(hI:∀ n a,IsoCall (p.cx call n a)):cM P p.own (iX p call (cO m)):=by
 intro f args h S β w vs hr hg hw hh hv
 unfold iX at hr ⊢
 cases ho:p.other f with
 | some E=>rw[ho] at hr;exact G.other f E ho call hC args h S β w vs hr hg hw hh hv
 | none=>
  rw[ho] at hr
  simp only at hr ⊢
  cases hf:p.funcs f with
  | none=>rw[hf] at hr;exact absurd rfl hr
  | some x=>
   obtain⟨fn,a⟩:=x
   rw[hf] at hr
   simp only at hr ⊢
   obtain⟨hf1,hf2⟩:=G.funcs f fn a hf
   have hany:fn.body.isSome=true→(P.funcs[f]?).any (fun fn=>fn.body.isSome && !(fn.name== "runtime.NumGoroutine"))=true:=by
    intro hb
    rw[hf1]
    simp only[Option.any_some,hb,hf2,Bool.not_false,Bool.and_self]
   cases hi:a.iso with
   | false=>
    rw[hi] at hr
    simp only[cond_false] at hr ⊢
    obtain⟨h1,h2⟩:=ix (cx:=p.cx call fn.ntmps a) G.tok hC (hI _ _) m hf1 rfl hr hg hw hh hv
    exact⟨h1,hany h2⟩
   | true=>
    rw[hi] at hr
    simp only[cond_true] at hr ⊢
    have hr':bM (p.cx call fn.ntmps a) (cO m) fn (p.own f) (ee ax args) []≠.fail:=by
     intro hf
     unfold qW at hr
     rw[hf] at hr
     exact hr rfl
    obtain⟨h1,h2⟩:=ix (cx:=p.cx call fn.ntmps a) G.tok hC (hI _ _) m hf1 rfl hr' ⟨hg.1,fun b _ hb=>by obtain⟨l,_,_,h1,_⟩:=hb;simp at h1⟩ hw ca.nil (DY hv)
    exact⟨h1.mono fun en w' hp=>EF hw hh hp,hany h2⟩
omit [Dr] in
theorem yX(p:Pg)(hN:∀ f,p.nw f=true→∃ E,p.other f=some E∧∀ call args,yp (E call args)):∀ n k a,IsoCall (p.cx (dK p n) k a)
 | 0,k,a=>⟨fun f args _=>⟨none,fun _=>rfl⟩,fun f args _ h v h' hh=>by cases hh⟩
 | n + 1,k,a=>by
  refine⟨?_,fun f args hf=>?_⟩
  case refine_2=>
   obtain⟨E,hE,hn⟩:=hN f hf
   have:(p.cx (dK p (n + 1)) k a).call f args=E (dK p n) args:=by
    show iX p (dK p n) (cO n) f args=_
    unfold iX
    rw[hE]
   rw[this]
   exact hn _ _
  intro f args hi
  have hi':p.iso f=true:=hi
  unfold Pg.iso at hi'
  cases ho:p.other f with
  | some E=>rw[ho] at hi';cases hi'
  | none=>
   rw[ho] at hi'
   simp only at hi'
   cases hf:p.funcs f with
   | none=>rw[hf] at hi';cases hi'
   | some x=>
    obtain⟨fn,b⟩:=x
    rw[hf] at hi'
    simp only at hi'
    refine⟨match bM (p.cx (dK p n) fn.ntmps b) (cO n) fn (p.own f) (ee ax args) [] with | .ok r h'=>some (true,iE 6 h' r) | .pan v h'=>some (false,iE 6 h' v) | .fail=>none,fun h=>?_⟩
    show iX p (dK p n) (cO n) f args h=_
    unfold iX
    rw[ho]
    simp only
    rw[hf]
    simp only[hi',cond_true,qW]
    cases bM (p.cx (dK p n) fn.ntmps b) (cO n) fn (p.own f) (ee ax args) [] <;> rfl
theorem mH{P:Program}{p:Pg}(G:GoodPg P p):∀ n,cM P p.own (dK p n)
 | 0=>fun _f _args _h _S _β _w _vs hr=>absurd rfl hr
 | n + 1=>wj G n (mH G n) fun k a=>yX p G.nw n k a
end Go.Av
namespace Go.Av
theorem EC{m:List AV→M AV}{ms:Nat→List AV→M AV}(h:ba m ms)(args:List AV):aE (qW m args) fun n=>qW (ms n) args:=by
 intro x
 obtain⟨h1,h2⟩:=h (ee ax args) []
 (try dsimp only at h1 h2)
 refine⟨fun hne=>?_,fun n hne=>?_⟩
 ·have hne':m (ee ax args) []≠.fail:=fun hf=>hne (by simp only[qW,hf])
  obtain⟨N,hN⟩:=h1 hne'
  refine⟨N,fun n hn=>?_⟩
  (try dsimp only)
  simp only[qW,hN n hn]
 ·(try dsimp only at hne ⊢)
  have hne':ms n (ee ax args) []≠.fail:=fun hf=>hne (by simp only[qW,hf])
  simp only[qW,h2 n hne']
def dx(p:Pg):Prop:=∀ f E,p.other f=some E→∀(call:FuncId→List AV→M AV)(calls:Nat→FuncId→List AV→M AV),(∀ f,ba (call f) fun n=>calls n f)→ba (E call) fun n=>E (calls n)
section
variable {cx:Cx} {call:FuncId→List AV→M AV} {calls:Nat→FuncId→List AV→M AV} {fx:bJ AV} {fxs:Nat→bJ AV}
theorem yW(hc:∀ f,ba (call f) fun n=>calls n f)(hfx:nC fx fxs)(hfc:vz fx)(hfcs:∀ n,vz (fxs n))(fn:Func)(own:Option Nat):
  ba (bM (cx.wc call) fx fn own) fun n=>bM (cx.wc (calls n)) (fxs n) fn own:=by
 intro args
 unfold bM
 cases fn.body with
 | none=>exact aE.const _
 | some c=>
  have key:∀ b:Bool,aE (bif b then ev (cx.wc call) fx c (pF args) (ju (cx.wc call) fn own) (fun _ _=>M.fail) (ju (cx.wc call) fn own) else M.fail) fun n=>(bif b then ev (cx.wc (calls n)) (fxs n) c (pF args) (ju (cx.wc (calls n)) fn own) (fun _ _=>M.fail) (ju (cx.wc (calls n)) fn own) else M.fail):=by
   intro b
   cases b with
   | false=>exact aE.const _
   | true=>
    have hr:ba (ju (cx.wc call) fn own) fun n=>ju (cx.wc (calls n)) fn own:=ba.const (ju cx fn own)
    exact Km _ c (Nat.lt_succ_self _) call calls fx fxs hc hfx hfc hfcs (pF args) _ (fun n=>ju (cx.wc (calls n)) fn own) _ (fun _ _ _=>M.fail) _ (fun n=>ju (cx.wc (calls n)) fn own) hr (fun i=>ba.const _) hr
  exact key (decide (args.length≤fn.ntmps)&&decide (fn.ntmps≤1000)&&mU cx.nt cx.ann.kinds)
theorem s5{p:Pg}(hO:dx p)(hc:∀ f,ba (call f) fun n=>calls n f)(hfx:nC fx fxs)(hfc:vz fx)(hfcs:∀ n,vz (fxs n))(f:FuncId):ba (iX p call fx f) fun n=>iX p (calls n) (fxs n) f:=by
 intro args
 unfold iX
 cases ho:p.other f with
 | some E=>exact hO f E ho call calls hc args
 | none=>
  simp only
  cases p.funcs f with
  | none=>exact aE.const _
  | some x=>
   obtain⟨fn,a⟩:=x
   simp only
   have hb:=yW (cx:=p.cx call fn.ntmps a) hc hfx hfc hfcs fn (p.own f)
   cases a.iso with
   | true=>exact EC hb args
   | false=>exact hb args
end
theorem oT{p:Pg}(hO:dx p):∀ n f args,yh (dK p n f args) (dK p (n + 1) f args)
 | 0,f,args=>fun x hne=>absurd rfl hne
 | n + 1,f,args=>by
  have hc:∀ f,ba (dK p (n + 1) f) fun m=>(if m=0 then dK p n else dK p (n + 1)) f:=by
   intro f args x
   refine⟨fun _=>⟨1,fun m hm=>?_⟩,fun m hne=>?_⟩
   ·(try dsimp only)
    rw[if_neg (by omega)]
   ·(try dsimp only at hne ⊢)
    by_cases h0:m=0
    ·rw[if_pos h0] at hne ⊢;exact oT hO n f args x hne
    ·rw[if_neg h0]
  have h:=s5 hO hc (wq n) (uu (n + 1)) (fun m=>by
   by_cases h0:m=0
   ·rw[if_pos h0];exact uu n
   ·rw[if_neg h0];exact uu (n + 1)) f args
  intro x hne
  have:=(h x).2 0
  (try dsimp only at this)
  rw[if_pos rfl,if_pos rfl] at this
  exact this hne
theorem uq{p:Pg}(hO:dx p){n m:Nat}(h:n≤m)(f:FuncId)(args:List AV):yh (dK p n f args) (dK p m f args):=by
 induction m with
 | zero => have:n=0:=by omega
           subst this;exact .refl _
 | succ m ih=>
  by_cases hn:n=m + 1
  ·subst hn;exact .refl _
  ·exact (ih (by omega)).trans (oT hO m f args)
open Classical in
noncomputable def ai (p:Pg) (f:FuncId) (args:List AV):M AV:=fun h=>if hx:∃ n,dK p n f args h≠.fail then dK p (Classical.choose hx) f args h else .fail
theorem nG{p:Pg}(hO:dx p)(f:FuncId):ba (ai p f) fun n=>dK p n f:=by
 intro args h
 refine sU (fun n m hnm hne=>uq hO hnm f args h hne) ?_
 unfold ai
 by_cases hx:∃ n,dK p n f args h≠.fail
 ·left
  simp only[dif_pos hx]
  exact⟨_,Classical.choose_spec hx,rfl⟩
 ·right
  simp only[dif_neg hx]
  exact⟨fun n=>Classical.byContradiction fun h=>hx ⟨n,h⟩,trivial⟩
theorem oK.uniq{α:Type}{a a':R α}{b:Nat→R α}(h:oK a b)(g:oK a' fun n=>b (n + 1)):a=a':=by
 by_cases ha:a= .fail
 ·by_cases ha':a'= .fail
  ·rw[ha,ha']
  ·obtain⟨N,hN⟩:=g.1 ha'
   have h1:=hN N (Nat.le_refl _)
   (try dsimp only at h1)
   exact (h.2 (N + 1) (by rw[h1];exact ha')).symm.trans h1
 ·obtain⟨N,hN⟩:=h.1 ha
  have h1:=hN (N + 1) (by omega)
  have h2:=g.2 N
  (try dsimp only at h2)
  exact h1.symm.trans (h2 (by rw[h1];exact ha))
theorem qg{p:Pg}(hO:dx p)(f:FuncId)(args:List AV):ai p f args=iX p (ai p) af f args:=by
 funext h
 have h1:=nG hO f args h
 have h2:=s5 hO (fun f=>nG hO f) wo Em (fun n=>uu n) f args h
 exact h1.uniq h2
theorem iS[Dr]{P:Program}{p:Pg}(G:GoodPg P p)(hO:dx p):cM P p.own (ai p):=by
 intro f args h S β w vs hr hg hw hh hv
 obtain⟨N,hN⟩:=(nG hO f args h).1 hr
 have h1:=hN N (Nat.le_refl _)
 (try dsimp only at h1)
 rw[← h1] at hr ⊢
 exact mH G N f args h S β w vs hr hg hw hh hv
end Go.Av
namespace Go.Av
section
variable {ρ:Type}
theorem aQ{F:(List AV→M ρ)→List AV→M ρ}(hF:lA F)(vs:List AV):af F vs=F (af F) vs:=by
 funext h
 exact (gt hF vs h).uniq (hF _ _ (gt hF) vs h)
theorem ao{c:AV}{x y:M ρ}{xs ys:Nat→M ρ}(hx:aE x xs)(hy:aE y ys):aE (ap c x y) fun n=>ap c (xs n) (ys n):=by
 unfold ap
 cases c with
 | bool b=>cases b <;> first | exact hx | exact hy
 | _=>exact aE.const _
theorem Ky{k:List AV→M ρ}{ks:Nat→List AV→M ρ}{m:(List AV→M ρ)→M ρ}{ms:Nat→(List AV→M ρ)→M ρ}(hk:ba k ks)(hm:∀ j js,ba j js→aE (m j) fun n=>ms n (js n)):aE (jn k m) fun n=>jn (ks n) (ms n):=
 hm k ks hk
theorem ib{F:(List AV→M ρ)→List AV→M ρ}{Fs:Nat→(List AV→M ρ)→List AV→M ρ}(h1:bB F Fs)(h2:lA F)(h3:∀ n,lA (Fs n)):ba (af F) fun n=>af (Fs n):=Em F Fs h1 h2 h3
end
end Go.Av
namespace Go.Av
def aF(m:M AV):M AV:=fun h=>match m [] with
 | .ok r h'=>.ok (iE 6 h' r) h
 | .pan v h'=>.pan (iE 6 h' v) h
 | .fail=>.fail
theorem ay{p:Pg}(hO:dx p){f:FuncId}{fn:Func}{a:Ann}(h1:p.other f=none)(h2:p.funcs f=some (fn,a))(h3:a.iso=true)(args:List AV):
  ai p f args=aF (bM (p.cx (ai p) fn.ntmps a) af fn (p.own f) (ee ax args)):=by
 rw[qg hO]
 unfold iX
 rw[h1]
 simp only
 rw[h2]
 simp only[h3,cond_true]
 rfl
theorem cz{p:Pg}(hO:dx p){f:FuncId}{fn:Func}{a:Ann}(h1:p.other f=none)(h2:p.funcs f=some (fn,a))(h3:a.iso=false)(args:List AV):
  ai p f args=bM (p.cx (ai p) fn.ntmps a) af fn (p.own f) args:=by
 rw[qg hO]
 unfold iX
 rw[h1]
 simp only
 rw[h2]
 simp only[h3,cond_false]
theorem cS{p:Pg}(hO:dx p){f:FuncId}{E:(FuncId→List AV→M AV)→List AV→M AV}(h1:p.other f=some E)(args:List AV):ai p f args=E (ai p) args:=by
 rw[qg hO]
 unfold iX
 rw[h1]
def fe(T:TT)(t:TypeId):(FuncId→List AV→M AV)→List AV→M AV:=fun _ args=>match args with
 | [.sl es]=>ah (dL T t (.sl []) (.sl es))
 | _=>M.fail
def dJ(T:TT)(t:TypeId):(FuncId→List AV→M AV)→List AV→M AV:=fun _ args=>match args with
 | [.sl es]=>appH T t true (.sl []) (.sl es)
 | _=>M.fail
def FE(t:TypeId)(k:IntKind)(zero:AV):R AV→R AV
 | .ok v h'=>bif ct 4 v then .ok (.tup [.agg (ab v),.int k 0]) h' else .fail
 | .pan (.iface t' (.int k' n)) h'=>bif Nat.beq t' t&&decide (k'=k) then .ok (.tup [zero,.int k n]) h' else .fail
 | _=>.fail
def zP(t:TypeId)(k:IntKind)(zero:AV):(FuncId→List AV→M AV)→List AV→M AV:=fun call args=>match args with
 | [f]=>fun h=>FE t k zero (bH call f [] h)
 | _=>M.fail
theorem E3{m:M AV}{ms:Nat→M AV}(p:R AV→R AV)(hp:p .fail= .fail)(h:aE m ms):aE (fun x=>p (m x)) fun n=>fun x=>p (ms n x):=by
 intro x
 obtain⟨h1,h2⟩:=h x
 constructor
 ·intro hne
  obtain⟨N,hN⟩:=h1 (fun hh=>hne (by simp only[hh,hp]))
  exact⟨N,fun n hn=>congrArg p (hN n hn)⟩
 ·intro n hne
  exact congrArg p (h2 n (fun hh=>hne (by have:=congrArg p hh;simpa [hp] using this)))
theorem qq(T:TT)(t:TypeId)(call:FuncId→List AV→M AV)(calls:Nat→FuncId→List AV→M AV):ba (fe T t call) fun n=>fe T t (calls n):=ba.const _
theorem qn(T:TT)(t:TypeId)(call:FuncId→List AV→M AV)(calls:Nat→FuncId→List AV→M AV):ba (dJ T t call) fun n=>dJ T t (calls n):=ba.const _
theorem FD(t:TypeId)(k:IntKind)(zero:AV)(call:FuncId→List AV→M AV)(calls:Nat→FuncId→List AV→M AV)(hc:∀ f,ba (call f) fun n=>calls n f):ba (zP t k zero call) fun n=>zP t k zero (calls n):=by
 have hv:∀ f,aE (bH call f []) fun n=>bH (calls n) f []:=by
  intro f
  unfold bH
  split
  ·exact hc _ _
  ·exact aE.const _
 intro args
 cases args with
 | nil=>exact aE.const _
 | cons f r=>
  cases r with
  | nil=>exact E3 (FE t k zero) rfl (hv f)
  | cons _ _=>exact aE.const _
theorem dv{α:Type}{b:Bool}{x:α}{o:Option α}{y:α}(h:(bif b then some x else o)=some y):x=y∨o=some y:=by
 cases b with
 | true=>exact .inl (by simpa using h)
 | false=>exact .inr h
theorem sY (T:TT) (t:TypeId) (call:FuncId→List AV→M AV) (args:List AV):yp (dJ T t call args):=by
 unfold dJ
 split
 ·rename_i y
  intro h v h' hh
  unfold appH at hh
  split at hh
  ·cases hh
  ·split at hh
   ·split at hh
    ·cases hh
    ·split at hh
     ·cases hh
     ·rename_i bs _
      revert hh
      generalize (_&&_:Bool)=b1
      cases b1 with
      | false=>intro hh;cases hh
      | true=>
       simp only[cond_true]
       cases bs.isEmpty with
       | true=>intro hh;cases hh;exact⟨[],by simp⟩
       | false=>
        simp only[cond_false]
        generalize decide (_≤140737488355328)=b2
        cases b2 with
        | false=>intro hh;cases hh
        | true=>intro hh;cases hh;exact⟨_,rfl⟩
   ·cases hh
 ·intro h v h' hh;cases hh
end Go.Av
namespace Go.Av
variable [Dr]
open Go.RowKit
section
variable {S:au} {β:List bn} {h:Hp} {w w':World}
omit [Dr] in
theorem ca.below(hh:ca S β w h){S':au}(hb:∀ b,b < w.heap.size→w'.heap[b]? = w.heap[b]? ∧∀ o,S' b o=S b o)(hle:S.le S'):ca S' β w' h:=by
 obtain⟨hlen,ω,hr⟩:=hh
 exact⟨hlen,ω,hr.rows hle (eZ.refl β) hlen fun l cs hl _=>.inl ⟨hl,fun b hlt ho=>⟨ho,(hb b hlt).1,fun o h=>by rw[(hb b hlt).2];exact h⟩⟩⟩
theorem qY(hw:Wf S w)(hh:ca S β w h)(hb:Below w.heap.size w w')(hd:Dr.on→w.drawn≤w'.drawn){S':au}(hS:∀ b,b < w.heap.size→∀ o,S' b o=S b o)(hnew:∀ b o v,w.heap.size≤b→S' b o=some v→w'.cell? ⟨b,o,none⟩=some v):
  Left (bX β h) S β w S' β w' h:=by
 have hle:S.le S':=fun b o v hv=>by rw[hS b (hw.lt hv)];exact hv
 refine⟨hle,eZ.refl β,fun b o v hv=>?_,⟨hb.size,hb.os,hb.output,hb.tape,hd⟩,fun b hlt _=>⟨hb.block b hlt,hS b hlt⟩,hh.below (fun b hlt=>⟨hb.block b hlt,hS b hlt⟩) hle,fun b hb=>.inl hb⟩
 rcases Nat.lt_or_ge b w.heap.size with hlt | hge
 ·rw[hS b hlt] at hv
  rw[cell_of_heap (hb.block b hlt)]
  exact hw b o v hv
 ·exact hnew b o v hge hv
theorem eI(hw:Wf S w)(hh:ca S β w h)(hb:Below w.heap.size w w')(hd:Dr.on→w.drawn≤w'.drawn){r:AV}{v:Value}(hv:VR S β r v):dl none S β h w (.ok r h) (.returned v) w':=
 ⟨S,β,v,rfl,hv,qY hw hh hb hd (fun _ _ _=>rfl) (fun b o v hge hv=>by have:=hw.lt hv;omega),fun sz hsz=>by cases hsz⟩
theorem BC(hw:Wf S w)(hh:ca S β w h)(hb:Below w.heap.size w w')(hd:Dr.on→w.drawn≤w'.drawn){n:Nat}{x:Array Value}(hr:Row w' n x)(hn:w.heap.size≤n){r:AV}{v:Value}(hv:VR (S.withRowTo n x.size x) β r v):dl none S β h w (.ok r h) (.returned v) w':=
 ⟨_,β,v,rfl,hv,qY hw hh hb hd (fun b hlt o=>by unfold au.withRowTo;rw[if_neg (by omega)]) (fun b o v hge hv=>by
  by_cases hbn:b=n
  ·subst hbn
   unfold au.withRowTo at hv
   rw[if_pos rfl] at hv
   split at hv
   ·rw[hr.cell];exact hv
   ·cases hv
  ·unfold au.withRowTo at hv
   rw[if_neg hbn] at hv
   have:=hw.lt hv;omega),fun sz hsz=>by cases hsz⟩
theorem EI(hw:Wf S w)(hh:ca S β w h)(hb:Below w.heap.size w w')(hd:Dr.on→w.drawn≤w'.drawn){bo:Nat}{es:List AV}(hbo:w.heap.size≤bo)(hm:MapAt S β w' bo es):
  Left (bX β h) S β w S (β++[(bo,0)]) w' (h++[[.tup es]]):=by
 have hext:eZ β (β++[(bo,0)]):=fun l b hb=>by rw[List.getElem?_append_left (List.getElem?_eq_some_iff.1 hb).1];exact hb
 obtain⟨hlen,ω,hr⟩:=hh
 have hω:∀ b,b < w.heap.size→cI ω bo (.heap h.length) b=ω b:=fun b hb=>by
  unfold cI;rw[if_neg];rintro rfl;omega
 refine⟨au.le_refl S,hext,fun b o v hv=>?_,⟨hb.size,hb.os,hb.output,hb.tape,hd⟩,fun b hlt _=>⟨hb.block b hlt,fun _=>rfl⟩,⟨by simp[hlen],cI ω bo (.heap h.length),fun l cs hl hne=>?_⟩,fun b hb=>?_⟩
 ·rw[cell_of_heap (hb.block b (hw.lt hv))]
  exact hw b o v hv
 ·rcases Nat.lt_or_ge l h.length with hlt | hge
  ·rw[List.getElem?_append_left hlt] at hl
   rcases hr l cs hl hne with ⟨b,x,k1,k2,k3,k4,k5,k6⟩ | ⟨b,k1,k2,k3,k4⟩
   ·have hbl:=k2.lt
    exact .inl ⟨b,x,hext _ _ k1,k2.of_eq (hb.block b hbl),by rw[hω b hbl];exact k3,k4.mono (au.le_refl S) hext,k5,fun t ht=>by obtain⟨y,hy⟩:=k6 t ht;exact⟨y,(hb.block b hbl).trans hy⟩⟩
   ·have hbl:=k4.lt
    refine .inr ⟨b,hext _ _ k1,by rw[hω b hbl];exact k2,k3,k4.keep (au.le_refl S) hext (hb.block b hbl) fun j b' es' hj he=>?_⟩
    have hjl:j < h.length:=by rw[← hlen];exact (List.getElem?_eq_some_iff.1 hj).1
    rw[List.getElem?_append_left hjl] at he
    obtain⟨_,_,g1,_⟩:=hr.mapRow he hj
    exact⟨he,hb.block b' (Array.getElem?_eq_some_iff.1 g1).1⟩
  ·rw[List.getElem?_append_right hge] at hl
   have hlz:l=h.length:=by
    have:=(List.getElem?_eq_some_iff.1 hl).1
    simp at this
    omega
   subst hlz
   simp only[Nat.sub_self,List.getElem?_cons_zero,Option.some.injEq] at hl
   subst hl
   have hnew:(β++[(bo,0)])[h.length]? = some (bo,0):=by rw[← hlen];simp
   obtain⟨ents,clock,m1,m2,m3⟩:=hm
   exact .inr ⟨bo,hnew,by simp[cI],fun o=>hw.none hbo o,.inl ⟨es,rfl,ents,clock,m1,m2.mono (au.le_refl S) hext,m3⟩⟩
 ·obtain⟨l,cs,n,k1,k2,k3⟩:=hb
  rcases Nat.lt_or_ge l h.length with hlt | hge
  ·rw[List.getElem?_append_left hlt] at k1
   rw[List.getElem?_append_left (by rw[hlen];exact hlt)] at k3
   exact .inl ⟨l,cs,n,k1,k2,k3⟩
  ·have hl2:=(List.getElem?_eq_some_iff.1 k3).1
   simp at hl2
   have:l=β.length:=by omega
   subst this
   simp at k3
   exact .inr (by rw[← k3.1];exact hbo)
theorem BA(hw:Wf S w)(hh:ca S β w h)(hb:Below w.heap.size w w')(hd:Dr.on→w.drawn≤w'.drawn){bo:Nat}{es:List AV}(hbo:w.heap.size≤bo)(hm:MapAt S β w' bo es):
  dl none S β h w (.ok (.mp h.length) (h++[[.tup es]])) (.returned (.map (some bo))) w':=
 ⟨S,β++[(bo,0)],_,rfl,by simp only[VR];exact⟨(bo,0),by rw[← hh.1];simp,rfl,rfl⟩,EI hw hh hb hd hbo hm,fun sz hsz=>by cases hsz⟩
end
end Go.Av
namespace Go.Av
variable [Dr]
def jj:(FuncId→List AV→M AV)→List AV→M AV:=fun _ args=>match args with
 | [.str s,.str t]=>ah (bif decide (s.length < 4294967281) then some (.bool (Lib.contains s t)) else none)
 | _=>M.fail
def wu:AV→Option (List UInt8×Int×List AV)
 | .agg [.str n,.int .i64 k,.sl fs]=>some (n,k,fs)
 | _=>none
def fU:List AV→Option (List (List UInt8×Int×List AV))
 | []=>some []
 | x:: r=>match wu x,fU r with
  | some z,some l=>some (z:: l)
  | _,_=>none
def cm{α:Type}(p:α→Bool):List α→Option α
 | []=>none
 | z:: r=>match cm p r with
  | some y=>some y
  | none=>bif p z then some z else none
def zo(l:List (List UInt8×Int×List AV))(name:List UInt8):AV:=match cm (fun z=>z.1== name) l with
 | some z=>.tup [.agg [.int .i64 z.2.1,.sl z.2.2],.bool true]
 | none=>.tup [.agg [.int .i64 0,.sl []],.bool false]
def lh:(FuncId→List AV→M AV)→List AV→M AV:=fun _ args=>match args with
 | [.sl es,.str name]=>(match fU es with
  | some l=>ah (bif decide (l.length≤1000000000) then some (zo l name) else none)
  | none=>M.fail)
 | _=>M.fail
omit [Dr] in
theorem sB{α:Type}(p:α→Bool)(l:List α):cm p l=l.reverse.find? p:=by
 induction l with
 | nil=>rfl
 | cons z r ih=>
  simp only[cm,ih,List.reverse_cons,List.find?_append]
  cases r.reverse.find? p with
  | some y=>rfl
  | none=>cases h:p z <;> simp[h]
end Go.Av
namespace Go.Av.Ap
abbrev aW:=List UInt8
inductive Val where
 | mk (kind n:Int) (names:List aW) (values:List Val)
instance:Inhabited Val:=⟨.mk 0 0 [] []⟩
inductive Exp where
 | mk (op n:Int) (s m:aW) (names:List aW) (args:List Exp)
instance:Inhabited Exp:=⟨.mk 0 0 [] [] [] []⟩
inductive Ty where
 | mk (kind:Int) (fields:List (aW×Ty))
instance:Inhabited Ty:=⟨.mk 0 []⟩
abbrev cr:=aW×Ty
structure Fun where
 name:aW
 pub:Bool
 params:List cr
 result:Ty
 effects:Int
 body:Exp
 deriving Inhabited
structure Mod where
 name:aW
 uses:List aW
 vars:List cr
 init:List Exp
 funcs:List Fun
 moves:Bool
 old:List cr
 forward:List Exp
 back:List Exp
 deriving Inhabited
def Val.kind:Val→Int | .mk k _ _ _=>k
def Val.n:Val→Int | .mk _ n _ _=>n
def Val.names:Val→List aW | .mk _ _ ns _=>ns
def Val.values:Val→List Val | .mk _ _ _ vs=>vs
def Exp.op:Exp→Int | .mk o _ _ _ _ _=>o
def Exp.n:Exp→Int | .mk _ n _ _ _ _=>n
def Exp.s:Exp→aW | .mk _ _ s _ _ _=>s
def Exp.m:Exp→aW | .mk _ _ _ m _ _=>m
def Exp.names:Exp→List aW | .mk _ _ _ _ ns _=>ns
def Exp.args:Exp→List Exp | .mk _ _ _ _ _ es=>es
def Ty.kind:Ty→Int | .mk k _=>k
def Ty.fields:Ty→List cr | .mk _ fs=>fs
@[simp] theorem Val.kind_mk(a b c d):(Val.mk a b c d).kind=a:=rfl
@[simp] theorem Val.n_mk(a b c d):(Val.mk a b c d).n=b:=rfl
@[simp] theorem Val.names_mk(a b c d):(Val.mk a b c d).names=c:=rfl
@[simp] theorem Val.values_mk(a b c d):(Val.mk a b c d).values=d:=rfl
theorem Val.eta(v:Val):Val.mk v.kind v.n v.names v.values=v:=by cases v;rfl
theorem Exp.eta(e:Exp):Exp.mk e.op e.n e.s e.m e.names e.args=e:=by cases e;rfl
theorem Ty.eta(t:Ty):Ty.mk t.kind t.fields=t:=by cases t;rfl
def strs(l:List aW):AV:=.sl (l.map .str)
mutual
def Val.av:Val→AV
 | .mk k n ns vs=>.agg [.int .i64 k,.int .i64 n,strs ns,.sl (jU vs)]
def jU:List Val→List AV
 | []=>[]
 | v:: vs=>v.av:: jU vs
end
mutual
def Exp.cells:Exp→List AV
 | .mk o n s m ns es=>[.int .i64 o,.int .i64 n,.str s,.str m,strs ns,.sl (gI es)]
def gI:List Exp→List AV
 | []=>[]
 | e:: es=>.agg e.cells:: gI es
end
def Exp.av(e:Exp):AV:=.agg e.cells
mutual
def Ty.cells:Ty→List AV
 | .mk k fs=>[.int .i64 k,.sl (eq fs)]
def eq:List (aW×Ty)→List AV
 | []=>[]
 | f:: fs=>bj f:: eq fs
def bj:aW×Ty→AV
 | (n,t)=>.agg (.str n:: t.cells)
end
def Ty.av(t:Ty):AV:=.agg t.cells
def Fun.av(f:Fun):AV:=.agg ([.str f.name,.bool f.pub,.sl (eq f.params)]++f.result.cells++[.int .i64 f.effects]++f.body.cells)
def eQ(l:List Fun):AV:=.sl (l.map Fun.av)
def Mod.av(m:Mod):AV:=.agg [.str m.name,strs m.uses,.sl (eq m.vars),.sl (gI m.init),eQ m.funcs,.bool m.moves,.sl (eq m.old),.sl (gI m.forward),.sl (gI m.back)]
def vals(l:List Val):AV:=.sl (jU l)
def cG(l:List Exp):AV:=.sl (gI l)
def aH(l:List cr):AV:=.sl (eq l)
def mods(l:List Mod):AV:=.sl (l.map Mod.av)
def ints(l:List Int):AV:=.sl (l.map (.int .i64))
structure Vars where
 module:aW
 values:List Val
 deriving Inhabited
structure Deed where
 effect:Int
 arg:Int
 answer:Int
 deriving DecidableEq,Inhabited
structure Call where
 module:aW
 func:aW
 args:List Val
 deriving Inhabited
def Vars.av(v:Vars):AV:=.agg [.str v.module,vals v.values]
def Deed.av(d:Deed):AV:=.agg [.int .i64 d.effect,.int .i64 d.arg,.int .i64 d.answer]
def Call.av(c:Call):AV:=.agg [.str c.module,.str c.func,vals c.args]
def px(l:List Vars):AV:=.sl (l.map Vars.av)
def deeds(l:List Deed):AV:=.sl (l.map Deed.av)
def calls(l:List Call):AV:=.sl (l.map Call.av)
structure Out where
 err:Int
 value:Val
 deeds:List Deed
 calls:List Call
 state:List Vars
def Out.av(o:Out):AV:=.agg [.int .i64 o.err,.int .i64 o.value.kind,.int .i64 o.value.n,strs o.value.names,vals o.value.values,Ap.deeds o.deeds,Ap.calls o.calls,px o.state]
theorem mu:(l:List Val)→jU l=l.map Val.av
 | []=>rfl
 | v:: l=>by simp[jU,mu l]
theorem iz:(l:List Exp)→gI l=l.map Exp.av
 | []=>rfl
 | v:: l=>by simp[gI,iz l,Exp.av]
theorem dn:(l:List cr)→eq l=l.map bj
 | []=>rfl
 | v:: l=>by simp[eq,dn l]
theorem Val.av_eq(v:Val):v.av= .agg [.int .i64 v.kind,.int .i64 v.n,strs v.names,vals v.values]:=by cases v;rfl
theorem Exp.cells_eq(e:Exp):e.cells=[.int .i64 e.op,.int .i64 e.n,.str e.s,.str e.m,strs e.names,cG e.args]:=by cases e;rfl
theorem Ty.cells_eq(t:Ty):t.cells=[.int .i64 t.kind,aH t.fields]:=by cases t;simp[Ty.cells,aH,Ty.kind,Ty.fields]
theorem iB(f:cr):bj f= .agg [.str f.1,.int .i64 f.2.kind,aH f.2.fields]:=by obtain⟨n,t⟩:=f;simp[bj,Ty.cells_eq]
@[simp] theorem pZ(v:Val):ab v.av=[.int .i64 v.kind,.int .i64 v.n,strs v.names,vals v.values]:=by rw[v.av_eq];rfl
@[simp] theorem cw(e:Exp):ab e.av=[.int .i64 e.op,.int .i64 e.n,.str e.s,.str e.m,strs e.names,cG e.args]:=by rw[Exp.av,e.cells_eq];rfl
@[simp] theorem dm(f:cr):ab (bj f)=[.str f.1,.int .i64 f.2.kind,aH f.2.fields]:=by rw[iB];rfl
@[simp] theorem dI(t:Ty):ab t.av=[.int .i64 t.kind,aH t.fields]:=by rw[Ty.av,t.cells_eq];rfl
@[simp] theorem eE(f:Fun):ab f.av=[.str f.name,.bool f.pub,aH f.params,.int .i64 f.result.kind,aH f.result.fields,.int .i64 f.effects,.int .i64 f.body.op,.int .i64 f.body.n,.str f.body.s,.str f.body.m,strs f.body.names,cG f.body.args]:=by
 simp[Fun.av,ab,Ty.cells_eq,Exp.cells_eq,aH]
@[simp] theorem bC(m:Mod):ab m.av=[.str m.name,strs m.uses,aH m.vars,cG m.init,eQ m.funcs,.bool m.moves,aH m.old,cG m.forward,cG m.back]:=rfl
@[simp] theorem wy(v:Val):AV.agg [.int .i64 v.kind,.int .i64 v.n,strs v.names,vals v.values]=v.av:=(v.av_eq).symm
@[simp] theorem fD(e:Exp):AV.agg [.int .i64 e.op,.int .i64 e.n,.str e.s,.str e.m,strs e.names,cG e.args]=e.av:=by rw[Exp.av,e.cells_eq]
@[simp] theorem eA(t:Ty):AV.agg [.int .i64 t.kind,aH t.fields]=t.av:=by rw[Ty.av,t.cells_eq]
@[simp] theorem gu(f:cr):AV.agg [.str f.1,.int .i64 f.2.kind,aH f.2.fields]=bj f:=(iB f).symm
@[simp] theorem iC(f:Fun):AV.agg [.str f.name,.bool f.pub,aH f.params,.int .i64 f.result.kind,aH f.result.fields,.int .i64 f.effects,.int .i64 f.body.op,.int .i64 f.body.n,.str f.body.s,.str f.body.m,strs f.body.names,cG f.body.args]=f.av:=by
 simp[Fun.av,Ty.cells_eq,Exp.cells_eq,aH]
@[simp] theorem wv(m:Mod):AV.agg [.str m.name,strs m.uses,aH m.vars,cG m.init,eQ m.funcs,.bool m.moves,aH m.old,cG m.forward,cG m.back]=m.av:=rfl
theorem dF{α:Type}(g:Nat→Nat→Nat→Nat→Bool→AV)(f:α→AV)(h:∀ x,cl g (f x)=f x):(l:List α)→ee g (l.map f)=l.map f
 | []=>rfl
 | x:: l=>by simp[ee,h x,dF g f h l]
@[simp] theorem ul(g:Nat→Nat→Nat→Nat→Bool→AV)(l:List aW):cl g (strs l)=strs l:=by
 simp[strs,cl,dF g AV.str (fun _=>rfl) l]
@[simp] theorem N6(g:Nat→Nat→Nat→Nat→Bool→AV)(l:List Int):cl g (ints l)=ints l:=by
 simp[ints,cl,dF g (AV.int .i64) (fun _=>rfl) l]
mutual
theorem Val.cl_av(g:Nat→Nat→Nat→Nat→Bool→AV):(v:Val)→cl g v.av=v.av
 | .mk k n ns vs=>by simp[Val.av,cl,ee,vq g vs]
theorem vq(g:Nat→Nat→Nat→Nat→Bool→AV):(l:List Val)→ee g (jU l)=jU l
 | []=>rfl
 | v:: l=>by simp[jU,ee,Val.cl_av g v,vq g l]
end
mutual
theorem Exp.cl_cells(g:Nat→Nat→Nat→Nat→Bool→AV):(e:Exp)→ee g e.cells=e.cells
 | .mk o n s m ns es=>by simp[Exp.cells,cl,ee,pJ g es]
theorem pJ(g:Nat→Nat→Nat→Nat→Bool→AV):(l:List Exp)→ee g (gI l)=gI l
 | []=>rfl
 | e:: l=>by simp[gI,ee,cl,Exp.cl_cells g e,pJ g l]
end
mutual
theorem Ty.cl_cells(g:Nat→Nat→Nat→Nat→Bool→AV):(t:Ty)→ee g t.cells=t.cells
 | .mk k fs=>by simp[Ty.cells,cl,ee,mN g fs]
theorem mN(g:Nat→Nat→Nat→Nat→Bool→AV):(l:List (aW×Ty))→ee g (eq l)=eq l
 | []=>rfl
 | f:: l=>by simp[eq,ee,En g f,mN g l]
theorem En(g:Nat→Nat→Nat→Nat→Bool→AV):(f:aW×Ty)→cl g (bj f)=bj f
 | (n,t)=>by simp[bj,cl,ee,Ty.cl_cells g t]
end
@[simp] theorem Kh(g:Nat→Nat→Nat→Nat→Bool→AV)(v:Val):cl g v.av=v.av:=v.cl_av g
@[simp] theorem Gz(g:Nat→Nat→Nat→Nat→Bool→AV)(l:List Val):cl g (vals l)=vals l:=by simp[vals,cl,vq]
@[simp] theorem yJ(g:Nat→Nat→Nat→Nat→Bool→AV)(e:Exp):cl g e.av=e.av:=by simp[Exp.av,cl,Exp.cl_cells]
@[simp] theorem Gv(g:Nat→Nat→Nat→Nat→Bool→AV)(l:List Exp):cl g (cG l)=cG l:=by simp[cG,cl,pJ]
@[simp] theorem vX(g:Nat→Nat→Nat→Nat→Bool→AV)(t:Ty):cl g t.av=t.av:=by simp[Ty.av,cl,Ty.cl_cells]
@[simp] theorem DT(g:Nat→Nat→Nat→Nat→Bool→AV)(f:cr):cl g (bj f)=bj f:=En g f
@[simp] theorem Ah(g:Nat→Nat→Nat→Nat→Bool→AV)(l:List cr):cl g (aH l)=aH l:=by simp[aH,cl,mN]
theorem qt(g:Nat→Nat→Nat→Nat→Bool→AV):(a b:List AV)→ee g (a++b)=ee g a++ee g b
 | [],b=>rfl
 | x:: a,b=>by simp[ee,qt g a b]
@[simp] theorem DU(g:Nat→Nat→Nat→Nat→Bool→AV)(f:Fun):cl g f.av=f.av:=by
 simp[Fun.av,cl,ee,qt,mN,Ty.cl_cells,Exp.cl_cells]
@[simp] theorem Gw(g:Nat→Nat→Nat→Nat→Bool→AV)(l:List Fun):cl g (eQ l)=eQ l:=by simp[eQ,cl,dF g Fun.av (DU g)]
@[simp] theorem uk(g:Nat→Nat→Nat→Nat→Bool→AV)(m:Mod):cl g m.av=m.av:=by
 simp[Mod.av,cl,ee,mN,pJ,Gw]
@[simp] theorem gU(g:Nat→Nat→Nat→Nat→Bool→AV)(l:List Mod):cl g (mods l)=mods l:=by simp[mods,cl,dF g Mod.av (uk g)]
@[simp] theorem Kg(g:Nat→Nat→Nat→Nat→Bool→AV)(k:IntKind)(n:Int):cl g (.int k n)= .int k n:=rfl
@[simp] theorem N5(g:Nat→Nat→Nat→Nat→Bool→AV)(b:Bool):cl g (.bool b)= .bool b:=rfl
@[simp] theorem yL(g:Nat→Nat→Nat→Nat→Bool→AV)(s:aW):cl g (.str s)= .str s:=rfl
@[simp] theorem GA(g:Nat→Nat→Nat→Nat→Bool→AV)(v:Vars):cl g v.av=v.av:=by simp[Vars.av,cl,ee]
@[simp] theorem Gu(g:Nat→Nat→Nat→Nat→Bool→AV)(v:Deed):cl g v.av=v.av:=by simp[Deed.av,cl,ee]
@[simp] theorem Gt(g:Nat→Nat→Nat→Nat→Bool→AV)(v:Call):cl g v.av=v.av:=by simp[Call.av,cl,ee]
@[simp] theorem MG(g:Nat→Nat→Nat→Nat→Bool→AV)(l:List Vars):cl g (px l)=px l:=by simp[px,cl,dF g Vars.av (GA g)]
@[simp] theorem MD(g:Nat→Nat→Nat→Nat→Bool→AV)(l:List Deed):cl g (deeds l)=deeds l:=by simp[deeds,cl,dF g Deed.av (Gu g)]
@[simp] theorem DO(g:Nat→Nat→Nat→Nat→Bool→AV)(l:List Call):cl g (calls l)=calls l:=by simp[calls,cl,dF g Call.av (Gt g)]
@[simp] theorem O8(g:Nat→Nat→Nat→Nat→Bool→AV)(o:Out):cl g o.av=o.av:=by simp[Out.av,cl,ee]
@[simp] theorem oO(v:Vars):ab v.av=[.str v.module,vals v.values]:=rfl
@[simp] theorem oM(v:Deed):ab v.av=[.int .i64 v.effect,.int .i64 v.arg,.int .i64 v.answer]:=rfl
@[simp] theorem oL(v:Call):ab v.av=[.str v.module,.str v.func,vals v.args]:=rfl
@[simp] theorem pX(o:Out):ab o.av=[.int .i64 o.err,.int .i64 o.value.kind,.int .i64 o.value.n,strs o.value.names,vals o.value.values,deeds o.deeds,calls o.calls,px o.state]:=rfl
@[simp] theorem tg(v:Vars):AV.agg [.str v.module,vals v.values]=v.av:=rfl
@[simp] theorem tc(v:Deed):AV.agg [.int .i64 v.effect,.int .i64 v.arg,.int .i64 v.answer]=v.av:=rfl
@[simp] theorem tb(v:Call):AV.agg [.str v.module,.str v.func,vals v.args]=v.av:=rfl
@[simp] theorem ww(o:Out):AV.agg [.int .i64 o.err,.int .i64 o.value.kind,.int .i64 o.value.n,strs o.value.names,vals o.value.values,deeds o.deeds,calls o.calls,px o.state]=o.av:=rfl
@[simp] theorem LH(v:Vars):cH v.av=some 2:=rfl
@[simp] theorem LD(v:Deed):cH v.av=some 3:=rfl
@[simp] theorem LC(v:Call):cH v.av=some 3:=rfl
@[simp] theorem NE(v:Out):cH v.av=some 8:=rfl
@[simp] theorem tE(v:Vars):ct 2 v.av=true:=by simp[ct,aO,vals]
@[simp] theorem tD(v:Deed):ct 3 v.av=true:=by simp[ct,aO]
@[simp] theorem tC(v:Call):ct 3 v.av=true:=by simp[ct,aO,vals]
@[simp] theorem xp(v:Out):ct 8 v.av=true:=by simp[ct,aO,vals,strs,deeds,calls,px]
def Clean(a:AV):Prop:=∀ g,cl g a=a
theorem Clean.frz{a:AV}(h:Clean a)(d:Nat)(hp:Hp):iE d hp a=a:=by
 cases d with
 | zero=>exact h _
 | succ d=>exact h _
theorem bP{a:AV}(h:Clean a):aF (M.pure a)=M.pure a:=by
 funext hp
 simp only[aF,M.pure,h.frz]
@[simp] theorem lg(b:Bool):aF (M.pure (.bool b))=M.pure (.bool b):=bP fun _=>rfl
@[simp] theorem kB(k:IntKind)(n:Int):aF (M.pure (.int k n))=M.pure (.int k n):=bP fun _=>rfl
@[simp] theorem Nc(s:aW):aF (M.pure (.str s))=M.pure (.str s):=bP fun _=>rfl
@[simp] theorem Nf(v:Val):aF (M.pure v.av)=M.pure v.av:=bP fun g=>Kh g v
@[simp] theorem Ln(v:List Val):aF (M.pure (vals v))=M.pure (vals v):=bP fun g=>Gz g v
@[simp] theorem M7(v:Exp):aF (M.pure v.av)=M.pure v.av:=bP fun g=>yJ g v
@[simp] theorem M8(v:Fun):aF (M.pure v.av)=M.pure v.av:=bP fun g=>DU g v
@[simp] theorem NH(v:Val):cH v.av=some 4:=by rw[v.av_eq];rfl
@[simp] theorem NA(e:Exp):cH e.av=some 6:=by rw[Exp.av,e.cells_eq];rfl
@[simp] theorem NB(f:cr):cH (bj f)=some 3:=by rw[iB];rfl
@[simp] theorem N8(t:Ty):cH t.av=some 2:=by rw[Ty.av,t.cells_eq];rfl
@[simp] theorem NC(f:Fun):cH f.av=some 12:=by simp[Fun.av,cH,Ty.cells_eq,Exp.cells_eq]
@[simp] theorem ND(m:Mod):cH m.av=some 9:=rfl
@[simp] theorem rB(v:Val):ct 4 v.av=true:=by simp[ct,aO,strs,vals]
@[simp] theorem kG(e:Exp):ct 6 e.av=true:=by simp[ct,aO,strs,cG]
@[simp] theorem iG(f:cr):ct 3 (bj f)=true:=by simp[ct,aO,aH]
@[simp] theorem iH(f:Fun):ct 12 f.av=true:=by simp[ct,aO,aH,strs,cG]
@[simp] theorem ry(m:Mod):ct 9 m.av=true:=by simp[ct,aO,aH,strs,cG,eQ]
@[simp] theorem EY(s:aW):ct 1 (.str s)=true:=rfl
@[simp] theorem EX(k:IntKind)(n:Int):ct 1 (.int k n)=true:=rfl
theorem cW{α:Type}{sz:Nat}{f:α→AV}(h:∀ x,ct sz (f x)=true)(l:List α):cQ sz (l.map f)=true:=by simp[cQ,h]
@[simp] theorem Ly(l:List aW):cQ 1 (l.map AV.str)=true:=cW EY l
@[simp] theorem Lu(l:List Int):cQ 1 (l.map (AV.int .i64))=true:=cW (EX .i64) l
@[simp] theorem Lz(l:List Val):cQ 4 (jU l)=true:=by rw[mu];exact cW rB l
@[simp] theorem Lr(l:List Exp):cQ 6 (gI l)=true:=by rw[iz];exact cW kG l
@[simp] theorem Ls(l:List cr):cQ 3 (eq l)=true:=by rw[dn];exact cW iG l
@[simp] theorem Lt(l:List Fun):cQ 12 (l.map Fun.av)=true:=cW iH l
@[simp] theorem Lv(l:List Mod):cQ 9 (l.map Mod.av)=true:=cW ry l
theorem qR{T:TT}{t e:Nat}{ti ei:TI}(ht:T t=some ti)(hk:ti.kind= .slice e)(he:T e=some ei){α:Type}{f:α→AV}(hs:∀ x,cH (f x)=some ei.size){l:List α}{i:Nat}{x:α}(h:l[i]? = some x):
  ak T t (.sl (l.map f)) (.int .i64 (i:Int))=some (.ip (ab (f x))):=by
 unfold ak
 rw[ht]
 simp only[hk,he]
 rw[if_neg (by omega)]
 have:(l.map f)[(i:Int).toNat]? = some (f x):=by rw[Int.toNat_natCast,List.getElem?_map,h];rfl
 rw[this]
 simp only
 rw[if_pos (hs x)]
theorem cb{T:TT}{t e:Nat}{ti ei:TI}(ht:T t=some ti)(hk:ti.kind= .slice e)(he:T e=some ei){α:Type}[Inhabited α]{f:α→AV}(hs:∀ x,cH (f x)=some ei.size){l:List α}{n:Int}(h0:0≤n)(h:n < (l.length:Int)):
  ak T t (.sl (l.map f)) (.int .i64 n)=some (.ip (ab (f l[n.toNat]!))):=by
 have hlt:n.toNat < l.length:=by omega
 have:=qR ht hk he hs (l:=l) (i:=n.toNat) (x:=l[n.toNat]!) (by rw[List.getElem!_eq_getElem?_getD,List.getElem?_eq_getElem hlt];rfl)
 rw[show ((n.toNat:Nat):Int)=n by omega] at this
 exact this
theorem mC{T:TT}{t e:Nat}{ti ei:TI}(ht:T t=some ti)(hk:ti.kind= .slice e)(he:T e=some ei){α:Type}{f:α→AV}(hs:∀ x,ct ei.size (f x)=true){a b:List α}(h:(a.length + b.length) * ei.bytes≤140737488355328)(h0:0 < ei.bytes):
  dL T t (.sl (a.map f)) (.sl (b.map f))=some (.sl ((a++b).map f)):=by
 unfold dL
 rw[ht]
 simp only[hk,he,gM]
 rw[cW hs,cW hs]
 simp[h,h0,kS]
end Go.Av.Ap
