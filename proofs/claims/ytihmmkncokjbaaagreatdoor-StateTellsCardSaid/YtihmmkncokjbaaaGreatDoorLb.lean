/- The abstract evaluator and plain laws, part 2. Condition: the table of types is the program's. -/
import Derived.Test.YtihmmkncokjbaaaGreatDoorLa
import Derived.Orders
set_option linter.defProp false
set_option linter.unusedSimpArgs false
set_option linter.unusedVariables false
namespace Go.Av
variable [Dr]
section
variable {P:Program} {cx:Cx} {c:Entry} {N:Nat} {U:Nat->Prop} {e:Env} {h:Hp} {a:Act} {w:World} {S:aP} {β:List cu} {γ:Nat->Value} {lam:Nat->Option Nat} {ω:Nat->Owner} {o:Oper} {gid:Nat}
theorem bT(H:FR c N U e h a w S β γ lam ω)(x:Operand)(ht:∀t,x= .tmp t->t<1000):VR S β (opnd e x) (a.eval x):=by
 cases x with
 |tmp t=>
  have:=H.slots t (ht t rfl)
  simp only[opnd,Env.av,Ent.av,Act.eval];cases hv:(e.get t).v with
  |val av=>rw[hv]at this;exact this
  |loc B off=>simp[VR]
 |const v=>exact Ml S β v
 | global g=>
  simp only[opnd,Act.eval];cases hg:A0 g with
  |none=>simp only[VR]
  |some cs=>
   obtain⟨vs,h1,h2⟩:=c.gok.2.2 g cs hg;simp only[VR];exact⟨g,0,vs,rfl,bQ.mono H.le (gB.nil β) _ _ h1,h2.mono H.le⟩
 |func f=>simp only[opnd,VR,Act.eval];exact⟨[],[],rfl,by simp[bQ],by simp[bQ]⟩
theorem oe(H:FR c N U e h a w S β γ lam ω):(xs:List Operand)->(∀x∈xs,∀t,x= .tmp t->t<1000)->bQ S β (xs.map (opnd e)) (xs.map a.eval)
 |[],_=>by simp[bQ]
 |x:: xs,ht=>by
  simp only[QO,bQ];exact⟨_,_,rfl,bT H x (ht x (by simp)),oe H xs fun y hy=>ht y (by simp[hy])⟩
theorem mA(H:FR c N U e h a w S β γ lam ω)(x:Option Operand)(ht:∀y,x=some y->∀t,y= .tmp t->t<1000):kM S β (x.map (opnd e)) (x.map a.eval):=by
 cases x with
 |none=>rfl
 |some y=>exact⟨_,rfl,bT H y (ht y rfl)⟩
theorem Pm(H:gu c N U e h a w):gu c N (UG U gid) e h a w:=H.wider fun _ h=>.inl h
theorem ff(H:FR c N U e h a w S β γ lam ω)(hd:∀t,o.dst=some t->t<N){r:Option AV}{m:Sem Value}(hrun:execOp a.eval o=(do pure (.value (<- m))))(hp:∀x,r=some x->uC P w S β m x)(hr:(af (ah r) fun v=>ay (e.upd o.dst (.ofV v))) h≠.fail):After P c N (UG U gid) ((af (ah r) fun v=>ay (e.upd o.dst (.ofV v))) h) o a w:=by
 cases r with
 |none=>exact absurd rfl hr
 |some x=>
  obtain⟨v,h1,h2⟩:=hp x rfl;exact After.val (v:=v) (w':=w) (by rw[hrun];simp only[Sem.run_bind,h1,Result.andThen_ok,Sem.run_pure]) (Pm ⟨S,β,γ,lam,ω,H.setV hd h2⟩)
theorem AP(H:FR c N U e h a w S β γ lam ω)(hd:∀t,o.dst=some t->t<N){t:Nat}(ht:t<1000)(hrun:(execOp a.eval o).run P w= .ok (.value (a.tmps.getD t undef)) w):
  After P c N (UG U gid) (.ok (e.upd o.dst { ent:=e.get t }) h) o a w:=
 After.val hrun (Pm ⟨S,β,γ,lam,ω,H.set hd (H.slots t ht) (fun g z hg hz=>H.grps t g z ht hg hz) (fun g hg=>H.used.1 t g hg)⟩)
theorem Be(H:FR c N U e h a w S β γ lam ω)(hd:∀t,o.dst=some t->t<N)(hU:∀g,gid<=g->g<gid+1000->¬U g){x:Operand}(hx:o.op= .move x\/o.op= .assign x)(ht:∀t,x= .tmp t->t<1000):
  After P c N (UG U gid) (cb cx e gid o h) o a w:=by
 have hrun:(execOp a.eval o).run P w= .ok (.value (a.eval x)) w:=by rcases hx with hx|hx<;>simp[execOp,hx]
 have hop:cb cx e gid o=bK e o.dst (jN (cD cx.ann.hb o.dst) e gid x):=by unfold cb gJ;rcases hx with hx|hx<;>rw[hx]
 rw[hop];unfold jN;cases x with
 |tmp t=>exact AP H hd (ht t rfl) hrun
 | const v=>
  simp only;cases hn:bO (.const v)with
  | true=>
   have hv:v= .slice none 0 0:=by
    unfold bO at hn;split at hn
    ·rename_i hq;simpa using hq
    ·simp at hn
   subst hv;simp only[PV];cases htold:cD cx.ann.hb o.dst with
   |true=>exact After.val hrun (Pm ⟨S,β,γ,lam,ω,H.setV hd (by simp only[VR];rfl)⟩)
   |false=>
   simp only[P3];obtain⟨ω',F⟩:=H.own (v:=.slice none 0 0) (r:=.sl []) (z:=none) hd (by simp only[VR];exact⟨none,0,rfl,P5 _,fun _=>rfl,fun q h=>by cases h⟩) hU (.inl ⟨none,0,rfl,fun _=>rfl⟩);exact After.val hrun ⟨S,β,_,lam,ω',F⟩
  |false=>
   simp only[P3];exact After.val hrun (Pm ⟨S,β,γ,lam,ω,H.setV hd (bT H _ (fun t h=>by cases h))⟩)
 |global g=>
  exact After.val hrun (Pm ⟨S,β,γ,lam,ω,H.setV hd (bT H _ (fun t h=>by cases h))⟩)
 |func f=>
  exact After.val hrun (Pm ⟨S,β,γ,lam,ω,H.setV hd (bT H _ (fun t h=>by cases h))⟩)
omit [Dr]in
theorem bQ.allR{S:aP}{β:List cu}{cs:List AV}{vs:List Value}(h:bQ S β cs vs):∀i,i<cs.length->∃v,vs[i]? = some v/\VR S β (ae cs i) v:=by
 intro i hi;obtain⟨v,h1,h2⟩:=h.get (P1 hi);refine⟨v,h1,?_⟩;unfold ae;rw[Qw,P1 hi];exact h2
theorem oY(H:FR c N U e h a w S β γ lam ω):(ps:List (Nat×Operand))->(∀p∈ps,∀t,p.2= .tmp t->t<1000)->ju S β (ps.map fun p=>(p.1,opnd e p.2)) (ps.map fun p=>(p.1,a.eval p.2))
 |[],_=>rfl
 |(i,x):: ps,ht=>by
  simp only[QO,ju];exact⟨_,_,rfl,bT H x (ht (i,x) (by simp)),oY H ps fun q hq=>ht q (by simp[hq])⟩
theorem sT(hT:TOK P cx.T)(H:FR c N U e h a w S β γ lam ω)(hd:∀t,o.dst=some t->t<N)(hU:∀g,gid<=g->g<gid+1000->¬U g){t n:Nat}{ps:Array (Nat×Operand)}(ho:o.op= .buildSlice t n ps)(ht:∀p∈ps.toList,∀t,p.2= .tmp t->t<1000)(hha:cD cx.ann.ha o.dst=false)(hr:cb cx e gid o h≠.fail):After P c N (UG U gid) (cb cx e gid o h) o a w:=by
 unfold cb gJ at hr |-;rw[ho]at hr |-;simp only[hha,P3]at hr |-;cases hb:aG cx.T t n (ps.toList.map fun p=>(p.1,opnd e p.2))with
 |none=>rw[hb]at hr;exact absurd rfl hr
 | some r=>
  obtain⟨es,x,el,sz,rfl,hlen,hrow,hrun⟩:=sS (w:=w) (qs:=ps.map fun p=>(p.1,a.eval p.2)) hT hb (by simpa using oY H ps.toList ht);have H2:=H.allocS x el x.size;have hv:VR (S.withRowTo w.heap.size x.size x) β (.sl es) (.slice (some ⟨w.heap.size,0,none⟩) n n):=by
   simp only[VR];refine⟨_,n,by rw[hlen],by omega,(fun h=>by cases h),fun q hq=>?_⟩;simp only[PN]at hq;subst hq;refine⟨fun _=>rfl,sz,hrow.at (fun k o v hv=>?_) (fun o y hy=>?_)⟩
   ·unfold aP.withRowTo;split
    ·rename_i hk;subst hk;rw[H.wf.none (P5 _)]at hv;simp at hv
    ·exact hv
   ·unfold aP.withRowTo;rw[PS rfl,PS]
    ·exact hy
    ·rcases Qn o x.size with h|h
     ·exact h
     ·rw[QM h]at hy;simp at hy
  have hex:(execOp a.eval o).run P w= .ok (.value (.slice (some ⟨w.heap.size,0,none⟩) n n)) (w.alloc (.cells x el)):=by
   simp only[execOp,ho,Sem.run_bind,hrun,Result.andThen_ok,Sem.run_pure]
  simp only[bK,ah,af,ay];cases hno:cD cx.ann.no o.dst with
  |true=>
   simp only[PV];exact After.val hex (Pm ⟨_,_,_,_,_,H2.setV hd hv⟩)
  |false=>
   simp only[P3];obtain⟨ω',F⟩:=H2.own (z:=none) hd hv hU (.inl ⟨_,_,rfl,fun h=>by cases h⟩);exact After.val hex ⟨_,_,_,_,ω',F⟩
theorem vk(hT:TOK P cx.T)(H:FR c N U e h a w S β γ lam ω)(hd:∀t,o.dst=some t->t<N)(hU:∀g,gid<=g->g<gid+1000->¬U g){t:Nat}{l k:Operand}(ho:o.op= .makeSlice t l k)(hl:∀t,l= .tmp t->t<1000)(hk:∀t,k= .tmp t->t<1000)(hha:cD cx.ann.ha o.dst=false)(hr:cb cx e gid o h≠.fail):After P c N (UG U gid) (cb cx e gid o h) o a w:=by
 unfold cb gJ at hr |-;rw[ho]at hr |-;simp only[hha,P3]at hr |-;cases hb:nj cx.T t (opnd e l) (opnd e k)with
 |none=>rw[hb]at hr;exact absurd rfl hr
 | some r=>
  obtain⟨es,x,el,sz,cap,rfl,hes,hlen,hxs,hrow,hrun⟩:=vj (w:=w) hT hb (bT H l hl) (bT H k hk);have H2:=H.allocS x el (es.length*sz);have hle:es.length*sz<=cap*sz:=Qi _ hlen;have hv:VR (S.withRowTo w.heap.size (es.length*sz) x) β (.sl es) (.slice (some ⟨w.heap.size,0,none⟩) es.length cap):=by
   simp only[VR];refine⟨_,cap,rfl,hlen,(fun h=>by cases h),fun q hq=>?_⟩;simp only[PN]at hq;subst hq;refine⟨fun _=>rfl,sz,.of_get fun i y hy=>?_⟩;obtain⟨v,v1,v2,v3⟩:=hrow i y hy;have hi:i<es.length:=by
    rcases Qn i es.length with h|h
    ·exact h
    ·rw[Qh h]at hy;simp at hy
   have hm:(i+1)*sz<=es.length*sz:=Qi _ hi;rw[QI]at hm;refine⟨v,VR.mono (fun k o v hv=>?_) (gB.refl β) _ _ v1,v2,fun j u hu=>?_⟩
   ·unfold aP.withRowTo;split
    ·rename_i hk;subst hk;rw[H.wf.none (P5 _)]at hv;simp at hv
    ·exact hv
   ·have hj:j<sz:=by
     rcases Qn j v.cells.toList.length with h|h
     ·simp[v2]at h;exact h
     ·rw[Qh h]at hu;simp at hu
    unfold aP.withRowTo;rw[PS rfl,PS (QD (show 0+i*sz+j<i*sz+1*sz by omega) hm),Qb];exact v3 j u (by simpa using hu)
  have hωn:ω w.heap.size= .no:=by
   cases hoo:ω w.heap.size with
   |no=>rfl
   |_=>have:=(H.mine w.heap.size (by rw[hoo];simp)).2;omega
  obtain⟨ω',F⟩:=H2.own (z:=dU cx.T t) hd hv hU (.inr ⟨es.length,cap,sz,w.heap.size,0,x,rfl,hlen,hes,Row.new w x el,by omega,hωn,H.size,fun o' ho'=>by
   unfold aP.withRowTo;rw[PS rfl,if_neg (by omega)]⟩)
  refine After.val (v:=.slice (some ⟨w.heap.size,0,none⟩) es.length cap) (w':=w.alloc (.cells x el)) ?_ ⟨_,_,_,_,ω',F⟩;simp only[execOp,ho,Sem.run_bind,hrun,Result.andThen_ok,Sem.run_pure]
theorem GQ(hT:TOK P cx.T)(H:FR c N U e h a w S β γ lam ω)(hd:∀t,o.dst=some t->t<N)(hU:∀g,gid<=g->g<gid+1000->¬U g){t:Nat}{x:Operand}{lo hi mx:Option Operand}(ho:o.op= .slice t x lo hi mx)(hx:∀t,x= .tmp t->t<1000)(hlo:∀y,lo=some y->∀t,y= .tmp t->t<1000)(hhi:∀y,hi=some y->∀t,y= .tmp t->t<1000)(hmx:∀y,mx=some y->∀t,y= .tmp t->t<1000)(hso:cD cx.ann.so o.dst=false)(hr:cb cx e gid o h≠.fail):After P c N (UG U gid) (cb cx e gid o h) o a w:=by
 unfold cb gJ at hr |-;rw[ho]at hr |-;simp only[hso,P3]at hr |-;cases hb:(bif cD cx.ann.hb o.dst then Ag cx.T t (opnd e x) (lo.map (opnd e)) (hi.map (opnd e)) (mx.map (opnd e))else cV cx.T t (opnd e x) (lo.map (opnd e)) (hi.map (opnd e)) (mx.map (opnd e)))with
 |none=>rw[hb]at hr;exact absurd rfl hr
 | some r=>
  have hboth:∃v,(Instr.sliceAt t (a.eval x) (lo.map a.eval) (hi.map a.eval) (mx.map a.eval)).run P w= .ok v w/\VR S β r v/\((mx.map (opnd e)).isSome=true->(∃a n,v= .slice a n n)/\∃es,r= .sl es):=by
   cases htold:cD cx.ann.hb o.dst with
   |true=>rw[htold]at hb;exact C2 (P:=P) (w:=w) hT hb (bT H x hx) (mA H lo hlo) (mA H hi hhi) (mA H mx hmx)
   |false=>rw[htold]at hb;exact GP (P:=P) (w:=w) hT hb (bT H x hx) (mA H lo hlo) (mA H hi hhi) (mA H mx hmx)
  obtain⟨v,hrun,hv,hown⟩:=hboth;have hrun':(execOp a.eval o).run P w= .ok (.value v) w:=by simp only[execOp,ho,Sem.run_bind,hrun,Result.andThen_ok,Sem.run_pure]
  cases mx with
  |none=>exact After.val hrun' (Pm ⟨S,β,γ,lam,ω,H.setV hd hv⟩)
  | some m=>
   obtain⟨⟨ad,n,rfl⟩,es,rfl⟩:=hown rfl;have hn:ad=none->n=0:=by
    rintro rfl;have hv:=hv;simp only[VR]at hv;obtain⟨_,_,he,_,h2,_⟩:=hv;simp only[Value.slice.injEq]at he;obtain⟨rfl,_,rfl⟩:=he;exact h2 rfl
   obtain⟨ω',F⟩:=H.own (z:=none) hd hv hU (.inl ⟨ad,n,rfl,hn⟩);exact After.val hrun' ⟨_,_,_,_,ω',F⟩
end
end Go.Av
namespace Go.Av
variable [Dr]
section
variable {P:Program} {cx:Cx} {c:Entry} {N:Nat} {U:Nat->Prop} {e:Env} {h:Hp} {a:Act} {w:World} {S:aP} {β:List cu} {γ:Nat->Value} {lam:Nat->Option Nat} {ω:Nat->Owner} {o:Oper} {gid:Nat}
theorem FR.locals(H:FR c N U e h a w S β γ lam ω){B off n:Nat}(hin:mJ e B off n=true):∃b x m,bY e.lb B=some m/\off+n<=m/\lam B=some b/\Row w b x/\m<=x.size/\
  ∀i,i<n->∃v a',x[off+i]? = some v/\(e.get (B+off+i)).v= .val a'/\VR S β a' v/\∀g z,(e.get (B+off+i)).g=some g->be e.al g=some z->v=γ g:=by
 unfold mJ at hin;split at hin
 ·rename_i m hm;have hle:off+n<=m:=by simp at hin;exact hin.1
  obtain⟨_,_,_,b,x,h1,h2,h3,h4,h5⟩:=H.lblk B m hm;have hms:m<=x.size:=by
   rcases QK m with h0|h0
   ·omega
   ·obtain⟨v,_,hv,_⟩:=h5 (m-1) (by omega);rcases Qn (m-1) x.size with h|h
    ·omega
    ·rw[QM h]at hv;simp at hv
  refine⟨b,x,m,hm,hle,h1,h2,hms,fun i hi=>?_⟩
  have:=h5 (off+i) (by omega)
  rw[<- Nat.add_assoc]at this;exact this
 ·simp at hin
omit [Dr]in
theorem rA{S:aP}{β:List cu}{e:Env}{B:Nat}{f:Nat->Value}:(n:Nat)->(∀i,i<n->VR S β (e.av (B+i)) (f i))->bQ S β (nP e B n) ((List.range n).map f)
 |0,_=>by simp[nP,bQ]
 |n+1,hh=>by
  simp only[nP,List.range_succ,Rw,QO,SL];refine bQ.append (rA n fun i hi=>hh i (by omega)) ?_;simp only[bQ];exact⟨_,_,rfl,hh n (by omega),rfl⟩
omit [Dr]in
theorem pN(hT:TOK P cx.T){t:Nat}{ti:TI}(ht:cx.T t=some ti){b off:Nat}{x:Array Value}(hr:Row w b x)(f:Nat->Value)(hf:∀i,i<ti.size->x[off+i]? = some (f i)):
  (ti.agg=true->(loadVar t ⟨b,off,none⟩).run P w= .ok (.agg ((List.range ti.size).map f).toArray) w)/\(ti.agg=false->ti.size=1->(loadVar t ⟨b,off,none⟩).run P w= .ok (f 0) w):=by
 obtain⟨ii,d,_,hii,hd,_,_,hsz,_,_,hag,_⟩:=(hT.get ht).ex;refine⟨fun hagg=>?_,fun hagg hone=>?_⟩
 ·have:=run_loadCells (P:=P) w ⟨b,off,none⟩ ti.size f (fun j hj=>by rw[addr_add,hr.cell];exact hf j hj)
  simp[loadVar,ir hd,hag,hagg,run_sizeOf hii,hsz,this]
 ·have h0:=hf 0 (by omega);rw[<- hr.cell]at h0;simp only[Qu]at h0;simp[loadVar,ir hd,hag,hagg,h0]
omit [Dr]in
theorem Gb{T:TT}{t:Nat}{x:AV}{h:Hp}(hx:∀l off,x≠.hp l off):bi T t x h=match ai T t x with|some v=>.ok v h|none=>.fail:=by
 unfold bi;cases x<;>first|rfl|exact absurd rfl (hx _ _)
theorem H4(hT:TOK P cx.T)(H:FR c N U e h a w S β γ lam ω)(hd:∀t,o.dst=some t->t<N){t p:Nat}(ho:o.op= .load t (.tmp p))(hx:p<1000)(hr:bK e o.dst (fG cx e o.dst t p) h≠.fail):
  After P c N (UG U gid) (bK e o.dst (fG cx e o.dst t p) h) o a w:=by
 have hp:=H.slots p hx;unfold fG at hr |-;cases hv:(e.get p).v with
 | loc B off=>
  rw[hv]at hr hp;simp only at hr |-;simp only[gD]at hp;obtain⟨b,hlam,hpv⟩:=hp;cases ht:cx.T t with
  |none=>rw[ht]at hr;exact absurd rfl hr
  | some ti=>
   rw[ht]at hr;simp only at hr |-;cases hin:mJ e B off ti.size with
   |false=>rw[hin]at hr;exact absurd rfl hr
   | true=>
    rw[hin]at hr;simp only[PV]at hr |-;obtain⟨b',x,m,hm,hle,hlam',hrow,hms,hcells⟩:=H.locals hin;rw[hlam]at hlam';cases hlam';let f:Nat->Value:=fun i=>(x[off+i]?).getD undef;have hf:∀i,i<ti.size->x[off+i]? = some (f i):=fun i hi=>by
     obtain⟨v,_,hv',_⟩:=hcells i hi;show _=some ((x[off+i]?).getD undef);rw[hv'];rfl
    have hload:=pN hT ht hrow f hf;have hexec:∀v,(loadVar t ⟨b,off,none⟩).run P w= .ok v w->(execOp a.eval o).run P w= .ok (.value v) w:=fun v hv'=>by
     simp only[execOp,ho,Act.eval,hpv,Instr.loadAt,Instr.sureAddr,Sem.run_bind,Sem.run_pure,Result.andThen_ok,hv']
    cases hag:ti.agg with
    |true=>
     simp only[PV];refine After.val (hexec _ (hload.1 hag)) (Pm ⟨S,β,γ,lam,ω,H.setV hd ?_⟩);simp only[VR];refine⟨_,rfl,rA ti.size fun i hi=>?_⟩;obtain⟨v,a',g1,g2,g3,_⟩:=hcells i hi;have:f i=v:=by show (x[off+i]?).getD undef=v;rw[g1];rfl
     rw[this];simp only[Env.av,Ent.av,g2];exact g3
    | false=>
     rw[hag]at hr;simp only[P3]at hr |-;cases hone:decide (ti.size=1)with
     |false=>rw[hone]at hr;exact absurd rfl hr
     |true=>
      have hone':ti.size=1:=by simpa using hone
      simp only[PV];obtain⟨v,a',g1,g2,g3,g4⟩:=hcells 0 (by omega);simp only[Qu]at g1 g2 g4;have hfv:f 0=v:=by show (x[off+0]?).getD undef=v;rw[Qu,g1];rfl
      refine After.val (hexec _ (hfv▸hload.2 hag hone')) (Pm ⟨S,β,γ,lam,ω,H.set hd ?_ (fun g z hg hz=>g4 g z hg hz) (fun g hg=>H.used.1 _ g hg)⟩);rw[g2];exact g3
 | val av =>
  rw[hv]at hr hp;simp only at hr |-;simp only[gD]at hp;have hexec:∀v,(Instr.loadAt t (a.tmps.getD p undef)).run P w= .ok v w->(execOp a.eval o).run P w= .ok (.value v) w:=fun v hv'=>by
   simp only[execOp,ho,Act.eval,Sem.run_bind,hv',Result.andThen_ok,Sem.run_pure]
  have hbyval:∀r,ai cx.T t av=some r->After P c N (UG U gid) (.ok (e.upd o.dst (.ofV r)) h) o a w:=fun r hr'=>by
   obtain⟨v,h1,h2⟩:=A9 hT H.wf hr' hp;exact After.val (hexec v h1) (Pm ⟨S,β,γ,lam,ω,H.setV hd h2⟩)
  cases hmem:cD cx.ann.hl o.dst with
  |false=>
   rw[hmem]at hr;simp only[P3]at hr |-;cases hl:ai cx.T t av with
   |none=>rw[hl]at hr;exact absurd rfl hr
   |some r=>exact hbyval r hl
  | true =>
   rw[hmem]at hr;simp only[PV]at hr |-;simp only[bK,af]at hr |-;by_cases hav:∃l off,av= .hp l off
   ·obtain⟨l,off,rfl⟩:=hav;unfold bi at hr |-;simp only at hr |-;simp only[VR]at hp;obtain⟨⟨b,nb⟩,hb,hb0,hpv⟩:=hp;cases ht:cx.T t with
    |none=>rw[ht]at hr;exact absurd rfl hr
    | some ti=>
     cases hcs:h[l]? with
     |none=>rw[ht,hcs]at hr;exact absurd rfl hr
     | some cs=>
      rw[ht,hcs]at hr;simp only at hr |-;obtain⟨ii,d,_,hii,hdd,_,_,hsz,_,_,hagd,_⟩:=(hT.get ht).ex;by_cases hne:cs=[]
      ·subst hne;cases hag:ti.agg with
       | true=>
        rw[hag]at hr;simp only[PV,Qr]at hr |-;by_cases hz:off+ti.size<=0
        ·rw[PS hz]at hr |-;have hz0:ti.size=0:=by omega
         have hl0:(loadVar t ⟨b,off,none⟩).run P w= .ok (.agg #[]) w:=by
          simp[loadVar,ir hdd,hagd,hag,run_sizeOf hii,hsz,hz0,loadCells,loadCellsFrom]
         refine After.val (v:=.agg #[]) (hexec _ (by rw[hpv];simp only[Instr.loadAt,Instr.sureAddr,Sem.run_bind,Sem.run_pure,Result.andThen_ok,hl0])) (Pm ⟨S,β,γ,lam,ω,H.setV hd ?_⟩);simp only[VR];exact⟨[],by simp,by simp[bQ]⟩
        ·rw[if_neg hz]at hr;exact absurd rfl hr
       |false=>rw[hag,List.getElem?_nil]at hr;exact absurd rfl hr
      ·obtain⟨y,k1,k2,k3,k4,k5⟩:=H.heap.cells hcs hne hb hb0;rw[hb]at k1;cases k1;have hcell:∀j v,(y.toList.take cs.length)[j]? = some v->w.cell? ⟨b,0+j,none⟩=some v:=fun j v hj=>by
        rw[Qb,k2.cell];rw[Qo]at hj;split at hj
        ·simpa using hj
        ·simp at hj
       have hvd:=k4.drop off;have hcd:∀j v,((y.toList.take cs.length).drop off)[j]? = some v->w.cell? ⟨b,off+j,none⟩=some v:=fun j v hj=>by
        rw[QW]at hj
        have:=hcell _ _ hj
        rwa [Qb]at this
       cases hag:ti.agg with
       | true=>
        rw[hag]at hr;simp only[PV]at hr |-;by_cases hz:off+ti.size<=cs.length
        ·rw[PS hz]at hr |-;obtain⟨v,h1,h2⟩:=nh hT ht hvd hcd (r:=.agg ((cs.drop off).take ti.size)) (by rw[hag];simp only[PV];rw[PS (by simp;omega)]);exact After.val (hexec v (by rw[hpv];simp only[Instr.loadAt,Instr.sureAddr,Sem.run_bind,Sem.run_pure,Result.andThen_ok,h1])) (Pm ⟨S,β,γ,lam,ω,H.setV hd h2⟩)
        ·rw[if_neg hz]at hr;exact absurd rfl hr
       | false=>
        rw[hag]at hr;simp only[P3]at hr |-;cases hg:cs[off]? with
        |none=>rw[hg]at hr;exact absurd rfl hr
        |some r=>
         simp only;obtain⟨v,h1,h2⟩:=nh hT ht hvd hcd (r:=r) (by rw[hag];simp only[P3,List.head?_drop];exact hg);exact After.val (hexec v (by rw[hpv];simp only[Instr.loadAt,Instr.sureAddr,Sem.run_bind,Sem.run_pure,Result.andThen_ok,h1])) (Pm ⟨S,β,γ,lam,ω,H.setV hd h2⟩)
   ·rw[Gb (fun l off hh=>hav ⟨l,off,hh⟩)]at hr |-;cases hl:ai cx.T t av with
    |none=>rw[hl]at hr;exact absurd rfl hr
    |some r=>exact hbyval r hl
end
end Go.Av
namespace Go.Av
variable [Dr]
section
variable {P:Program} {cx:Cx} {c:Entry} {N:Nat} {U:Nat->Prop} {e:Env} {h:Hp} {a:Act} {w:World} {S:aP} {β:List cu} {γ:Nat->Value} {lam:Nat->Option Nat} {ω:Nat->Owner} {o:Oper} {gid:Nat}
omit [Dr]in
theorem jp{x:AV}{v:Value}(h:bM x=true)(hv:VR S β x v):v.cells= #[v]/\v.oneCell'=true:=by
 have h1:dk x=some 1:=by cases x<;>simp_all[bM,dk]
 have h2:cz 1 x=true:=by
  unfold cz;rw[h1];cases x<;>simp_all[bM,aa]
 obtain⟨g1,g2,g3⟩:=iB h2 hv;have hc:v.cells= #[v]:=by
  cases x<;>simp[bM]at h<;>simp only[VR]at hv
  case bool=>subst hv;rfl
  case int=>subst hv;rfl
  case nilp=>subst hv;rfl
  case nilf=>subst hv;rfl
  case nili=>subst hv;rfl
  case hn=>subst hv;rfl
  case str=>obtain⟨_,rfl,_⟩:=hv;rfl
  case sl=>obtain⟨_,_,rfl,_⟩:=hv;rfl
  case ip=>obtain⟨_,_,_,rfl,_⟩:=hv;rfl
  case hp=>obtain⟨_,_,_,rfl⟩:=hv;rfl
  case mp=>obtain⟨_,_,_,rfl⟩:=hv;rfl
  case nilm=>subst hv;rfl
  case hs=>rcases hv with⟨_,_,_,_,rfl,_⟩|⟨_,_,rfl⟩<;>rfl
  case fn=>obtain⟨_,_,rfl,_⟩:=hv;rfl
  case iface=>obtain⟨_,rfl,_⟩:=hv;rfl
 exact⟨hc,g3 v (by rw[hc];simp)⟩
omit [Dr]in
theorem p7(hT:TOK P cx.T){t:Nat}{ti:TI}(ht:cx.T t=some ti){b off:Nat}{x:Array Value}{v:Value}(hr:Row w b x)(hs:v.cells.size=ti.size)(hone:∀y∈v.cells.toList,y.oneCell'=true)(hle:off+ti.size<=x.size):
  (Instr.storeAt t (.pointer (some ⟨b,off,none⟩)) v).run P w= .ok () (w.setRow b (x.toList.take off++v.cells.toList++x.toList.drop (off+v.cells.toList.length)).toArray):=by
 obtain⟨ii,d,_,hii,hd,_,_,hsz,_⟩:=(hT.get ht).ex;obtain⟨te,hrow⟩:=hr;have hst:=run_storeCells_at P b off te v.cells.toList 0 x w hrow (by simp[hs];omega) hone;simp only[Qu]at hst;have hne:¬(v.cells.size≠ii.size):=by rw[hs,hsz];simp
 simp only[Instr.storeAt,Instr.sureAddr,Sem.run_bind,Sem.run_pure,Result.andThen_ok,storeVar,run_sizeOf hii,hne,PP,hst]
omit [Dr]in
theorem oJ{n:Nat}{x:AV}{cs:List AV}{v:Value}(h:j9 n x=some cs)(hv:VR S β x v):cs=aa x/\v.cells.size=n/\bQ S β cs v.cells.toList/\∀y∈v.cells.toList,y.oneCell'=true:=by
 unfold j9 at h;cases hk:cz n x with
 |false=>rw[hk]at h;simp at h
 |true=>
  rw[hk]at h;simp only[PV,PN]at h;subst h;obtain⟨h1,h2,h3⟩:=iB hk hv;exact⟨rfl,h1,h2,h3⟩
omit [Dr]in
theorem xr{x:AV}(h:K3 x=true):x= .hn:=by cases x<;>simp_all[K3]
theorem GT(hT:TOK P cx.T)(H:FR c N U e h a w S β γ lam ω)(_hN:∀t,t<1000->True)(hU:∀g,gid<=g->g<gid+1000->¬U g){t:Nat}{x y:Operand}(ho:o.op= .store t x y)(hx:∀t,x= .tmp t->t<1000)(hy:∀t,y= .tmp t->t<1000)(hpN:∀p,x= .tmp p->Cm (da cx.ann.kinds p .L)=true->p<N)(hr:cb cx e gid o h≠.fail):After P c N (UG U gid) (cb cx e gid o h) o a w:=by
 unfold cb gJ at hr |-;rw[ho]at hr |-;cases x<;>simp only at hr |- <;> (try exact absurd rfl hr);rename_i p;cases hdst:o.dst with
 |some d=>rw[hdst]at hr;exact absurd rfl hr
 |none=>
 rw[hdst]at hr;simp only at hr |-;cases hlw:gA cx.ann.lw p&&!(jK (e.get p))with
 |true=>rw[hlw]at hr;exact absurd rfl hr
 |false=>
 rw[hlw]at hr;simp only[P3]at hr |-;have hp:=H.slots p (hx p rfl);have hyv:=bT H y hy;have hexec:∀w',(Instr.storeAt t (a.tmps.getD p undef) (a.eval y)).run P w= .ok () w'->(execOp a.eval o).run P w= .ok .skip w':=fun w' hh=>by
  have he:a.eval (.tmp p)=a.tmps.getD p undef:=rfl;simp only[execOp,ho,he,Sem.run_bind,hh,Result.andThen_ok,Sem.run_pure]
 unfold gU at hr |-;cases hv:(e.get p).v with
 | loc B off=>
  rw[hv]at hr hp;simp only at hr |-;simp only[gD]at hp;obtain⟨b,hlam,hpv⟩:=hp;cases ht:cx.T t with
  |none=>rw[ht]at hr;exact absurd rfl hr
  | some ti =>
   rw[ht]at hr;simp only at hr |-;cases hin:mJ e B off ti.size with
   |false=>rw[hin]at hr;exact absurd rfl hr
   | true =>
    rw[hin]at hr;simp only[PV]at hr |-;obtain⟨b',z,m,hm,hle,hlam',hrow,hms,hcells⟩:=H.locals hin;rw[hlam]at hlam';cases hlam';have hst:∀v,a.eval y=v->v.cells.size=ti.size->(∀q∈v.cells.toList,q.oneCell'=true)->
      (execOp a.eval o).run P w= .ok .skip (w.setRow b (z.toList.take off++v.cells.toList++z.toList.drop (off+v.cells.toList.length)).toArray):=fun v hv' h1 h2=>
     hexec _ (by rw[hpv,hv'];exact p7 hT ht hrow h1 h2 (by omega))
    cases hS:Cm (da cx.ann.kinds p .L)with
    | true=>
     rw[hS]at hr;simp only[PV]at hr |-;cases hcond:nr e B off p ti.size with
     |false=>rw[hcond]at hr;exact absurd rfl hr
     | true=>
      rw[hcond]at hr;simp only[PV]at hr |-;unfold nr at hcond;rw[hm]at hcond;simp only[PO]at hcond;obtain⟨⟨h1,h2⟩,h3⟩:=hcond;have h1:=Qc h1;have h3:=Qc h3;subst h1 h3;unfold aW at hr |-;cases hcs:j9 ti.size (opnd e y)with
      |none=>rw[hcs]at hr;exact absurd rfl hr
      |some cs=>
       obtain⟨k1,k2,k3,k4⟩:=oJ hcs hyv;obtain⟨S',ω',_,F⟩:=H.storeS (u:=⟨.val (.tup []),none⟩) (hpN p rfl hS) hm (by simpa using k2) hlam hrow k3 hpv;refine After.skip hdst (hst _ rfl k2 k4) ?_;have F2:=F.wider (V:=UG U gid) (fun _ h=>.inl h);have hacs:aa (.agg cs)=cs:=rfl;simp only[R6,Qv,Qb]at F2 |-;exact⟨_,_,_,_,_,F2⟩
    | false =>
     rw[hS]at hr;simp only[P3]at hr |-;cases hag:ti.agg with
     | true =>
      rw[hag]at hr;simp only[PV]at hr |-;unfold az at hr |-;cases hcs:j9 ti.size (opnd e y)with
      |none=>rw[hcs]at hr;exact absurd rfl hr
      | some cs=>
       rw[hcs]at hr;simp only at hr |-;cases hnil:kY cs (gF cx.ann.nils p) ti.size with
       |false=>rw[hnil]at hr;exact absurd rfl hr
       | true=>
        obtain⟨k1,k2,k3,k4⟩:=oJ hcs hyv;have hnb:∀i∈gF cx.ann.nils p,i<ti.size/\ae cs i= .hn:=fun i hi=>by
         unfold kY at hnil;rw[P7]at hnil
         have:=hnil i hi
         rw[PO]at this;exact⟨by simpa using this.1,xr this.2⟩
        have hm1000:m<1000:=(H.lblk B m hm).2.2.1;have hcsl:cs.length=ti.size:=by rw[<- k3.length];simpa using k2
        have F:=H.storeL (u:=⟨.val (.tup []),none⟩) (L:=lU (B+off) cs (gF cx.ann.nils p) gid ti.size) (A:=qi (gF cx.ann.nils p) gid) (vs:=(a.eval y).cells.toList) (ent:=jT cs (gF cx.ann.nils p) gid)
         hU (lX (fun i hi=>(hnb i hi).1) (by omega)) hm hle (by simpa using k2) hlam hrow (fun t'=>rQ _ _ _ _ _ _ _) (fun i hi=>by
          obtain⟨v,v1,v2⟩:=k3.allR i (by omega);unfold jT;cases hmem:gA (gF cx.ann.nils p) i with
          | true=>
           have hn:=(hnb i ((iO _ _).1 hmem)).2;rw[hn]at v2;simp only[VR]at v2;subst v2;refine⟨_,.sl [],v1,rfl,?_,fun g z hg _=>?_,fun g hg=>?_⟩
           ·simp only[VR];exact⟨none,0,rfl,P5 _,fun _=>rfl,fun q hq=>by cases hq⟩
           ·simp only[PV,PN]at hg;unfold γN;rw[PS (by omega)]
           ·simp only[PV,PN]at hg;exact .inr (by omega)
          |false=>exact⟨v,ae cs i,v1,rfl,v2,fun g z hg _=>by simp at hg,fun g hg=>by simp at hg⟩)
        refine After.skip hdst (hst _ rfl k2 k4) ?_;exact⟨_,_,_,_,_,F⟩
     | false=>
      rw[hag]at hr;simp only[P3]at hr |-;cases hone:decide (ti.size=1)with
      |false=>rw[hone]at hr;exact absurd rfl hr
      | true=>
       have hone':ti.size=1:=by simpa using hone
       rw[hone]at hr;simp only[PV]at hr |-;have hput:∀(v:Value)(u:Ent)(en:Ent)(A:List (Nat×Option Nat))(av:AV),a.eval y=v->v.cells= #[v]->v.oneCell'=true->gC A gid->en.v= .val av->VR S β av v->
         (∀g z,en.g=some g->be (A++e.al) g=some z->v=γN γ gid g)->(∀g,en.g=some g->U g\/(gid<=g/\g<gid+1000))->
         After P c N (UG U gid) (.ok (e.upd none { ent:=u,ls:=[(B+off,en)],add:=A }) h) o a w:=by
        intro v u en A av hav hc1 hc2 hA hen hr1 hg1 hg2;have F:=H.storeL (u:=u) (L:=[(B+off,en)]) (A:=A) (n:=1) (m:=m) (off:=off) (vs:=v.cells.toList) (ent:=fun _=>en) hU hA hm (by omega) (by rw[hc1];rfl) hlam hrow (fun t'=>by
          simp only[QC,Qv,cY];by_cases ht':B+off=t'
          ·rw[PS ht',PS (by omega)]
          ·rw[if_neg ht',if_neg (by omega)];rfl) (fun i hi=>by
          have:i=0:=by omega
          subst this;exact⟨v,av,by rw[hc1];rfl,hen,hr1,hg1,hg2⟩)
        refine After.skip hdst (hst v hav (by rw[hc1,hone'];rfl) (by rw[hc1];simpa using hc2)) ?_;exact⟨_,_,_,_,_,F⟩
       rw[hdst]at *;cases y with
       | tmp s=>
        simp only at hr |-;have hs:=H.slots s (hy s rfl);cases hsv:(e.get s).v with
        |loc _ _=>rw[hsv]at hr;exact absurd rfl hr
        | val av=>
         rw[hsv]at hr hs;simp only at hr |-;unfold cp at hr |-;cases hok:bM av with
         |false=>rw[hok]at hr;exact absurd rfl hr
         |true=>
          obtain⟨j1,j2⟩:=jp hok hs;refine hput _ _ (e.get s) [] av rfl j1 j2 (iA gid) hsv hs (fun g z hg hz=>?_) (fun g hg=>.inl (H.used.1 s g hg));unfold γN;rw[if_neg (fun hr=>hU g hr.1 hr.2 (H.used.1 s g hg))];exact H.grps s g z (hy s rfl) hg hz
       | const v=>
        simp only at hr |-;cases hn:bO (.const v)with
        | true=>
         have hv':v= .slice none 0 0:=by
          unfold bO at hn;split at hn
          ·rename_i hq;simpa using hq
          ·simp at hn
         subst hv';refine hput _ _ _ _ (.sl []) rfl rfl rfl (sY gid) rfl ?_ (fun g z hg hz=>?_) (fun g hg=>?_)
         ·simp only[VR];exact⟨none,0,rfl,P5 _,fun _=>rfl,fun q hq=>by cases hq⟩
         ·simp only[PN]at hg;unfold γN;rw[PS (by omega)];rfl
         ·simp only[PN]at hg;exact .inr (by omega)
        | false=>
         rw[hn]at hr;simp only[P3]at hr |-;unfold cp at hr |-;cases hok:bM (opnd e (.const v))with
         |false=>rw[hok]at hr;exact absurd rfl hr
         |true=>
          obtain⟨j1,j2⟩:=jp hok hyv;exact hput _ _ _ [] _ rfl j1 j2 (iA gid) rfl hyv (fun g z hg _=>by cases hg) (fun g hg=>by cases hg)
       | global g=>
        simp only[bO,P3]at hr |-;unfold cp at hr |-;cases hok:bM (opnd e (.global g))with
        |false=>rw[hok]at hr;exact absurd rfl hr
        |true=>
         obtain⟨j1,j2⟩:=jp hok hyv;exact hput _ _ _ [] _ rfl j1 j2 (iA gid) rfl hyv (fun g z hg _=>by cases hg) (fun g hg=>by cases hg)
       | func f=>
        simp only[bO,P3]at hr |-;unfold cp at hr |-;cases hok:bM (opnd e (.func f))with
        |false=>rw[hok]at hr;exact absurd rfl hr
        |true=>
         obtain⟨j1,j2⟩:=jp hok hyv;exact hput _ _ _ [] _ rfl j1 j2 (iA gid) rfl hyv (fun g z hg _=>by cases hg) (fun g hg=>by cases hg)
 | val av=>
  rw[hv]at hr hp;simp only at hr |-;simp only[gD]at hp;simp only[bK,af]at hr |-;cases hav:av with
  | hp l off=>
   subst hav;simp only[VR]at hp;obtain⟨⟨b,nb⟩,hb,hb0,hpv⟩:=hp;unfold cq at hr |-;cases ht:cx.T t with
   |none=>rw[ht]at hr;exact absurd rfl hr
   | some ti=>
    rw[ht]at hr;simp only at hr |-;cases hcs:h[l]? with
    |none=>rw[hcs]at hr;exact absurd rfl hr
    | some cs=>
     rw[hcs]at hr;simp only at hr |-;cases hcond:(cz ti.size (opnd e y)&&decide (off+ti.size<=cs.length)&&decide (0<ti.size))with
     |false=>rw[hcond]at hr;exact absurd rfl hr
     | true=>
      rw[hcond]at hr;simp only[PV]at hr |-;simp only[PO,PW]at hcond;obtain⟨⟨h1,h2⟩,h3⟩:=hcond;obtain⟨k2,k3,k4⟩:=iB h1 hyv;have hne:cs≠[]:=by rintro rfl;simp at h2;omega
      obtain⟨z,j1,j2,j3,j4,j5⟩:=H.heap.cells hcs hne hb hb0;rw[hb]at j1;cases j1;have hzs:cs.length<=z.size:=by
       have:=j4.length
       simp at this;omega
      have hacl:(aa (opnd e y)).length=ti.size:=by rw[<- k3.length];simpa using k2
      have F:=H.turnH (cs':=setCells cs off (aa (opnd e y))) (y:=(z.toList.take off++(a.eval y).cells.toList++z.toList.drop (off+(a.eval y).cells.toList.length)).toArray) hcs hne ⟨_,hb⟩ j2 (by simp[k2];omega) (by
       rw[iX _ _ _ (by omega)];have hsp:bQ S β (setCells cs off (aa (opnd e y))) (((z.toList.take cs.length).take off++(a.eval y).cells.toList++(z.toList.take cs.length).drop (off+(a.eval y).cells.toList.length))):=by
        unfold setCells;have hl1:(a.eval y).cells.toList.length=(aa (opnd e y)).length:=k3.length;rw[hl1];exact ((j4.take off).append k3).append (j4.drop _)
       have heq:(z.toList.take off++(a.eval y).cells.toList++z.toList.drop (off+(a.eval y).cells.toList.length)).take cs.length=
         (z.toList.take cs.length).take off++(a.eval y).cells.toList++(z.toList.take cs.length).drop (off+(a.eval y).cells.toList.length):=by
        rw[R9,R9];have hl:(a.eval y).cells.toList.length=ti.size:=by simpa using k2
        have e1:(z.toList.take off).length=off:=by simp;omega
        rw[Sl,Sl];have e2:min cs.length off=off:=by omega
        have e3:min off cs.length=off:=by omega
        rw[e2,e3,e1];have e4:(a.eval y).cells.toList.take (cs.length-off)=(a.eval y).cells.toList:=Q6 (by omega);rw[e4];congr 1;rw[List.take_drop,P0,e1,hl];congr 2;omega
       show bQ S β _ (List.take _ _);rw[show (z.toList.take off++(a.eval y).cells.toList++z.toList.drop (off+(a.eval y).cells.toList.length)).toArray.toList=(z.toList.take off++(a.eval y).cells.toList++z.toList.drop (off+(a.eval y).cells.toList.length))from rfl,heq];exact hsp) (fun t ht=>ht.setCells.resolve_right (xN h1 t))
      refine After.skip hdst (hexec _ (by rw[hpv];exact p7 hT ht j2 k2 k4 (by omega))) ?_;have hupd:∀E:Env,E.upd none (.ofV (.tup []))=E:=fun E=>rfl;rw[hupd];exact Pm ⟨_,_,_,_,_,F⟩
  |_=>subst hav;unfold cq at hr;exact absurd rfl hr
end
end Go.Av
namespace Go.Av
variable [Dr]
section
variable {P:Program} {cx:Cx} {c:Entry} {N:Nat} {U:Nat->Prop} {e:Env} {h:Hp} {a:Act} {w:World} {S:aP} {β:List cu} {γ:Nat->Value} {lam:Nat->Option Nat} {ω:Nat->Owner} {o:Oper} {gid:Nat}
theorem Mq(H:FR c N U e h a w S β γ lam ω)(hd:∀t,o.dst=some t->t<N){cs:List AV}{x:Array Value}{vs:List Value}{t:TypeId}(hvs:bQ S β cs vs)(hx:∀(j:Nat)(v:Value),vs[j]? = some v->x[j]? = some v)(hrun:(execOp a.eval o).run P w= .ok (.value (.pointer (some ⟨w.heap.size,0,none⟩))) (w.alloc (.cells x t))):After P c N (UG U gid) (.ok (e.upd o.dst (.ofV (.ip cs))) h) o a w:=by
 have H2:=H.allocS x t x.size;refine After.val hrun (Pm ⟨_,β,γ,lam,ω,H2.setV hd ?_⟩);simp only[VR];refine⟨w.heap.size,0,vs,rfl,hvs.mono (fun k o v hv=>?_) (gB.refl β),fun j v hj=>?_⟩
 ·unfold aP.withRowTo;split
  ·rename_i hk;subst hk;rw[H.wf.none (P5 _)]at hv;simp at hv
  ·exact hv
 ·have:=hx j v hj
  unfold aP.withRowTo;rw[PS rfl,Qb,PS]
  ·exact this
  ·rcases Qn j x.size with h|h
   ·exact h
   ·rw[QM h]at this;simp at this
theorem Bh(H:FR c N U e h a w S β γ lam ω)(hd:∀t,o.dst=some t->t<N){cs:List AV}{x:Array Value}{vs:List Value}{t:TypeId}(hvs:bQ S β cs vs)(hx:∀(j:Nat)(v:Value),vs[j]? = some v->x[j]? = some v)(hrun:(execOp a.eval o).run P w= .ok (.value (.pointer (some ⟨w.heap.size,0,none⟩))) (w.alloc (.cells x t)))(hr:bK e o.dst (.dyn (newH cs) .ofV) h≠.fail):After P c N (UG U gid) (bK e o.dst (.dyn (newH cs) .ofV) h) o a w:=by
 have hcs:cs≠[]:=by
  rintro rfl;exact hr rfl
 have hemp:(cs.isEmpty||cs.any rH)=false:=by
  cases hq:(cs.isEmpty||cs.any rH)with
  |false=>rfl
  |true=>
   exfalso;apply hr;simp only[bK,af,newH,hq,PV]
 have hnb:=Im (Rl.1 hemp).2;have htake:bQ S β cs (x.toList.take cs.length):=by
  refine .of_get ?_ fun i y v hy hv=>?_
  ·have hl:=hvs.length;rw[Rh];have:cs.length<=x.size:=by
    rcases QK cs.length with h0|h0
    ·omega
    ·obtain⟨v,hv,_⟩:=hvs.allR (cs.length-1) (by omega)
     have:=hx _ _ hv
     rcases Qn (cs.length-1) x.size with h|h
     ·omega
     ·rw[QM h]at this;simp at this
   simp;omega
  ·obtain⟨u,hu,hur⟩:=hvs.get hy
   have:=hx i u hu
   rw[Qo]at hv;split at hv
   ·rw[QV,this]at hv;cases hv;exact hur
   ·simp at hv
 obtain⟨ω',F,hnew,_⟩:=H.newH x t htake (fun t ht=>absurd ht (hnb t));have hx0:x.size≠0:=by
  have h1:=htake.length;have h2:=RO.2 hcs;simp only[Rh,QE]at h1;omega
 simp only[bK,af,newH,hemp,P3,ay];refine After.val hrun (Pm ⟨_,_,γ,lam,ω',F.setV hd ?_⟩);simp only[VR];exact⟨_,hnew,hx0,rfl⟩
theorem Il(H:FR c N U e h a w S β γ lam ω)(hd:∀t,o.dst=some t->t<N){cs:List AV}{x:Array Value}{t:TypeId}(hvs:bQ S β cs x.toList)(hrun:(execOp a.eval o).run P w= .ok (.value (.pointer (some ⟨w.heap.size,0,none⟩))) (w.alloc (.cells x t)))(hr:bK e o.dst (.dyn (Ik t cs) .ofV) h≠.fail):After P c N (UG U gid) (bK e o.dst (.dyn (Ik t cs) .ofV) h) o a w:=absurd rfl hr
omit [Dr]in
theorem BP(hT:TOK P cx.T){t:Nat}{ti:TI}(ht:cx.T t=some ti):∃z:Value,(Instr.alloc t true (.tuple #[])).run P w= .ok (.pointer (some ⟨w.heap.size,0,none⟩)) (w.alloc (.cells z.cells t))/\z.cells.size=ti.size/\
  (∀told,bQ S β (eO told ti) z.cells.toList):=by
 obtain⟨i,d,z,hi,hd,hz,hzs,hsz,_⟩:=(hT.get ht).ex;refine⟨z,?_,by omega,fun told=>sO hT ht told hi hz⟩;simp[Instr.alloc,zeroValue,typeInfo,hi,hz,newVar,newRow]
theorem Dv(hT:TOK P cx.T)(H:FR c N U e h a w S β γ lam ω)(hd:∀t,o.dst=some t->t<N)(hU:∀g,gid<=g->g<gid+1000->¬U g){t:Nat}(ho:o.op= .alloc t)(hr:cb cx e gid o h≠.fail):
  After P c N (UG U gid) (cb cx e gid o h) o a w:=by
 unfold cb gJ at hr |-;rw[ho]at hr |-;simp only at hr |-;cases hdst:o.dst with
 |none=>rw[hdst]at hr;exact absurd rfl hr
 | some s=>
  rw[hdst]at hr;simp only at hr |-;unfold gS at hr |-;cases ht:cx.T t with
  |none=>rw[ht]at hr;exact absurd rfl hr
  | some ti=>
   rw[ht]at hr;simp only at hr |-;obtain⟨z,hrun,hzs,hz⟩:=BP (w:=w) (S:=S) (β:=β) hT ht;have hexec:(execOp a.eval o).run P w= .ok (.value (.pointer (some ⟨w.heap.size,0,none⟩))) (w.alloc (.cells z.cells t)):=by
    simp only[execOp,ho,Sem.run_bind,hrun,Result.andThen_ok,Sem.run_pure]
   have hL:∀A:Act1,A=(bif decide (ti.size<1000)&&bL e.sl (bW s)&&kY (eO true ti) (gF cx.ann.nils s) ti.size then
     .stat { ent:=⟨.loc (bW s) 0,none⟩,ls:=lU (bW s) (eO (gA cx.ann.hb s) ti) (gF cx.ann.nils s) gid ti.size,add:=qi (gF cx.ann.nils s) gid,lb:=some (bW s,ti.size) }else .bad)->
     bK e (some s) A h≠.fail->After P c N (UG U gid) (bK e (some s) A h) o a w:=by
    rintro A rfl hr;cases hcond:(decide (ti.size<1000)&&bL e.sl (bW s)&&kY (eO true ti) (gF cx.ann.nils s) ti.size)with
    |false=>rw[hcond]at hr;exact absurd rfl hr
    |true=>
     simp only[PV];simp only[PO,PW]at hcond;obtain⟨⟨h1,h2⟩,h3⟩:=hcond;obtain⟨lam',ω',F⟩:=H.allocL (s:=s) (n:=ti.size) (gid:=gid) (x:=z.cells) (t:=t) (cs:=eO (gA cx.ann.hb s) ti) (offs:=gF cx.ann.nils s) (hd s hdst) hU h1 (fun i hi=>by
       have hzz:=hz (gA cx.ann.hb s);have hl:=hzz.length;obtain⟨v,v1,v2⟩:=hzz.allR i (by rw[<- hl];simpa [hzs]using hi);exact⟨v,by simpa using v1,v2⟩) (fun i hi=>by
       unfold kY at h3;rw[P7]at h3
       have:=h3 i hi
       rw[PO]at this;have hn:=xr this.2;have hlt:i<ti.size:=by simpa using this.1
       have hzz:=hz true;have hl:=hzz.length;obtain⟨v,v1,v2⟩:=hzz.allR i (by rw[<- hl];simpa [hzs]using hlt);rw[hn]at v2;simp only[VR]at v2;subst v2;exact⟨hlt,by simpa using v1⟩) h2
     refine After.val hexec ?_;rw[hdst];exact⟨_,_,_,_,_,F⟩
   cases hk:da cx.ann.kinds s .L with
   |F=>
    simp only;rw[<- hdst];exact Mq H hd (hz false) (fun j v hj=>by simpa using hj) hexec
   |H=>
    simp only;rw[<- hdst];exact Bh H hd (hz _) (fun j v hj=>by simpa using hj) hexec (by rw[hdst];simpa only[hk]using hr)
   |B=>
    simp only;rw[hk]at hr;rw[<- hdst]at hr |-;exact Il H hd (hz _) hexec hr
   |L=>rw[hk]at hr;exact hL _ rfl hr
   |S=>rw[hk]at hr;exact hL _ rfl hr
theorem KF(H:FR c N U e h a w S β γ lam ω)(hd:∀t,o.dst=some t->t<N)(hU:∀g,gid<=g->g<gid+1000->¬U g){t:Nat}{x:Operand}(ho:o.op= .box t x)(hx:∀t,x= .tmp t->t<1000)(hr:cb cx e gid o h≠.fail):
  After P c N (UG U gid) (cb cx e gid o h) o a w:=by
 unfold cb gJ at hr |-;rw[ho]at hr |-;simp only at hr |-;cases hdst:o.dst with
 |none=>rw[hdst]at hr;exact absurd rfl hr
 | some s=>
  rw[hdst]at hr;simp only at hr |-;have hv:=bT H x hx;have hexec:(execOp a.eval o).run P w= .ok (.value (.pointer (some ⟨w.heap.size,0,none⟩))) (w.alloc (.cells (a.eval x).cells t)):=by
   simp[execOp,ho,Instr.box,newVar,newRow]
  obtain⟨vs,hvs,hvx⟩:=hv.acells
  have hL:∀A:Act1,A=(match cx.T t with
    |none=>.bad
    | some ti=>bif decide (ti.size<1000)&&bL e.sl (bW s)then
      .dyn (aW ti.size (opnd e x)) fun v=>{ ent:=⟨.loc (bW s) 0,none⟩,ls:=lU (bW s) (aa v) [] 0 ti.size,lb:=some (bW s,ti.size) }
     else .bad)->bK e (some s) A h≠.fail->After P c N (UG U gid) (bK e (some s) A h) o a w:=by
   rintro A rfl hr;cases ht:cx.T t with
   |none=>rw[ht]at hr;exact absurd rfl hr
   | some ti=>
    rw[ht]at hr;simp only at hr |-;cases hcond:(decide (ti.size<1000)&&bL e.sl (bW s))with
    |false=>rw[hcond]at hr;exact absurd rfl hr
    | true=>
     rw[hcond]at hr;simp only[PV]at hr |-;simp only[PO,PW]at hcond;obtain⟨h1,h2⟩:=hcond;unfold aW at hr |-;cases hcs:j9 ti.size (opnd e x)with
     |none=>rw[hcs]at hr;exact absurd rfl hr
     | some cs=>
      obtain⟨_,k2,k3,_⟩:=oJ hcs hv;obtain⟨lam',ω',F⟩:=H.allocL (s:=s) (n:=ti.size) (gid:=gid) (x:=(a.eval x).cells) (t:=t) (cs:=cs) (offs:=[]) (hd s hdst) hU h1 (fun i hi=>by
       obtain⟨v,v1,v2⟩:=k3.allR i (by rw[<- k3.length];simpa [k2]using hi);exact⟨v,by simpa using v1,v2⟩) (fun i hi=>by simp at hi) h2
      refine After.val hexec ?_;rw[hdst];have hls:lU (bW s) cs [] 0 ti.size=lU (bW s) cs [] gid ti.size:=by simp[lU,gA]
      have hac:aa (.agg cs)=cs:=rfl;simp only[hac,hls];exact⟨_,_,_,_,_,F⟩
  unfold lZ at hr |-;cases hk:da cx.ann.kinds s .F with
  |F=>
   simp only;rw[<- hdst];exact Mq H hd hvs (fun j v hj=>by simpa using hvx j v hj) hexec
  |H=>
   simp only;rw[<- hdst];exact Bh H hd hvs (fun j v hj=>by simpa using hvx j v hj) hexec (by rw[hdst];simpa only[hk]using hr)
  |B=>rw[hk]at hr;exact absurd rfl hr
  |L=>rw[hk]at hr;exact hL _ rfl hr
  |S=>rw[hk]at hr;exact hL _ rfl hr
theorem GN(H:FR c N U e h a w S β γ lam ω)(hd:∀t,o.dst=some t->t<N){B b off:Nat}(hlam:lam B=some b)(hrun:(execOp a.eval o).run P w= .ok (.value (.pointer (some ⟨b,off,none⟩))) w):
  After P c N (UG U gid) (.ok (e.upd o.dst { ent:=⟨.loc B off,none⟩ }) h) o a w:=
 After.val hrun (Pm ⟨S,β,γ,lam,ω,H.set hd (by simp only[gD];exact⟨b,hlam,rfl⟩) (fun _ _ h=>by cases h) (fun _ h=>by cases h)⟩)
theorem uT(hT:TOK P cx.T)(H:FR c N U e h a w S β γ lam ω)(hd:∀t,o.dst=some t->t<N){t f:Nat}{x:Operand}(ho:o.op= .fieldAddr t x f)(hx:∀t,x= .tmp t->t<1000)(hr:cb cx e gid o h≠.fail):
  After P c N (UG U gid) (cb cx e gid o h) o a w:=by
 unfold cb gJ at hr |-;rw[ho]at hr |-;cases x<;>simp only at hr |- <;> (try exact absurd rfl hr);rename_i p;have hp:=H.slots p (hx p rfl);unfold jk at hr |-;cases hv:(e.get p).v with
 | loc B off=>
  rw[hv]at hr hp;simp only at hr |-;simp only[gD]at hp;obtain⟨b,hlam,hpv⟩:=hp;cases ht:cx.T t with
  |none=>rw[ht]at hr;exact absurd rfl hr
  | some ti=>
   rw[ht]at hr;simp only at hr |-;cases hf:ti.offs[f]? with
   |none=>rw[hf]at hr;exact absurd rfl hr
   | some q=>
    obtain⟨o',ft,nm⟩:=q;rw[hf]at hr;simp only at hr |-;cases hft:cx.T ft with
    |none=>rw[hft]at hr;exact absurd rfl hr
    | some fi=>
     rw[hft]at hr;simp only at hr |-;cases hz:decide (fi.size=0)with
     |true=>rw[hz]at hr;exact absurd rfl hr
     | false=>
      simp only[P3];have hfa:ab cx.T t (.hp 0 off) f=some (.hp 0 (off+o')):=by
       unfold ab;rw[ht];simp only;rw[hf];simp only;rw[hft];simp only;rw[if_neg (by simpa using hz)]
      obtain⟨v,h1,h2⟩:=nK (P:=P) (w:=w) (S:=S) (β:=[(b,1)]) hT hfa (vx:=.pointer (some ⟨b,off,none⟩)) (by simp[VR]);simp only[VR]at h2;obtain⟨b',hb',_,rfl⟩:=h2;simp only[PU,PN]at hb';subst hb';refine GN H hd hlam ?_;have he:a.eval (.tmp p)= .pointer (some ⟨b,off,none⟩):=hpv;simp only[execOp,ho,he,Sem.run_bind,h1,Result.andThen_ok,Sem.run_pure]
 |val av=>
  rw[hv]at hr hp;simp only at hr |-;refine ff H hd (m:=Instr.fieldAt t (a.eval (.tmp p)) f) (by simp[execOp,ho]) (fun r hr'=>nK hT hr' hp) hr
theorem ve(hT:TOK P cx.T)(H:FR c N U e h a w S β γ lam ω)(hd:∀t,o.dst=some t->t<N){t:Nat}{x i:Operand}(ho:o.op= .indexAddr t x i)(hx:∀t,x= .tmp t->t<1000)(hi:∀t,i= .tmp t->t<1000)(hr:cb cx e gid o h≠.fail):
  After P c N (UG U gid) (cb cx e gid o h) o a w:=by
 unfold cb gJ at hr |-;rw[ho]at hr |-;cases x<;>simp only at hr |- <;> (try exact absurd rfl hr)
 rotate_left
 ·rename_i g;exact ff H hd (m:=Instr.indexAt t (a.eval (.global g)) (a.eval i)) (by simp[execOp,ho]) (fun r hr'=>kV hT hr' (bT H (.global g) (fun t h=>by cases h)) (bT H i hi)) hr
 rename_i p;have hp:=H.slots p (hx p rfl);unfold eE at hr |-;cases hv:(e.get p).v with
 | loc B off=>
  rw[hv]at hr hp;simp only at hr |-;simp only[gD]at hp;obtain⟨b,hlam,hpv⟩:=hp;cases ht:cx.T t with
  |none=>rw[ht]at hr;exact absurd rfl hr
  | some ti=>
   rw[ht]at hr;cases hci:q8 i with
   |none=>rw[hci]at hr;exact absurd rfl hr
   |some n=>
   rw[hci]at hr;simp only at hr |-;obtain⟨ik,rfl⟩:∃ik,i= .const (.int ik n):=by
    unfold q8 at hci;split at hci
    ·simp only[PN]at hci;subst hci;exact⟨_,rfl⟩
    ·simp at hci
   cases hk:ti.kind<;>rw[hk]at hr<;>simp only at hr |- <;> (try exact absurd rfl hr);rename_i m el;cases hel:cx.T el with
   |none=>rw[hel]at hr;exact absurd rfl hr
   | some ei=>
    rw[hel]at hr;simp only at hr |-;cases hc:decide (0<=n/\n<m)with
    |false=>rw[hc]at hr;exact absurd rfl hr
    | true=>
     simp only[PV];have hia:au cx.T t (.hp 0 off) (.int ik n)=some (.hp 0 (off+n.toNat*ei.size)):=by
      unfold au;rw[ht];simp only;rw[hk];simp only;rw[hel];simp only;rw[PS (by simpa using hc)]
     obtain⟨v,h1,h2⟩:=kV (P:=P) (w:=w) (S:=S) (β:=[(b,1)]) hT hia (vx:=.pointer (some ⟨b,off,none⟩)) (vi:=.int ik n) (by simp[VR]) (by simp[VR]);simp only[VR]at h2;obtain⟨b',hb',_,rfl⟩:=h2;simp only[PU,PN]at hb';subst hb';refine GN H hd hlam ?_;have he:a.eval (.tmp p)= .pointer (some ⟨b,off,none⟩):=hpv;have hei:a.eval (.const (.int ik n))= .int ik n:=rfl;simp only[execOp,ho,he,hei,Sem.run_bind,h1,Result.andThen_ok,Sem.run_pure]
 |val av=>
  rw[hv]at hr hp;simp only at hr |-;refine ff H hd (m:=Instr.indexAt t (a.eval (.tmp p)) (a.eval i)) (by simp[execOp,ho]) (fun r hr'=>kV hT hr' hp (bT H i hi)) hr
theorem xM(H:FR c N U e h a w S β γ lam ω)(hd:∀t,o.dst=some t->t<N){x:Operand}(ho:o.op= .nilCheck x)(hx:∀t,x= .tmp t->t<1000)(hr:cb cx e gid o h≠.fail):
  After P c N (UG U gid) (cb cx e gid o h) o a w:=by
 unfold cb gJ at hr |-;rw[ho]at hr |-;cases x<;>simp only at hr |- <;> (try exact absurd rfl hr);rename_i p;have hp:=H.slots p (hx p rfl);cases hv:(e.get p).v with
 |loc B off=>
  have hp2:=hp;rw[hv]at hr hp;simp only at hr |-;simp only[gD]at hp;obtain⟨b,hlam,hpv⟩:=hp;have he:a.eval (.tmp p)= .pointer (some ⟨b,off,none⟩):=hpv;exact AP H hd (hx p rfl) (by simp[execOp,ho,he,hpv])
 | val av=>
  rw[hv]at hr hp;simp only at hr |-;have he:a.eval (.tmp p)=a.tmps.getD p undef:=rfl;cases hn:aV av with
  |none=>rw[hn]at hr;exact absurd rfl hr
  | some r=>
   have hrun:(execOp a.eval o).run P w= .ok (.value (a.tmps.getD p undef)) w/\r=av:=by
    simp only[gD]at hp;unfold aV at hn;split at hn<;>simp only[PN,reduceCtorEq]at hn<;>subst hn<;>simp only[VR]at hp
    ·obtain⟨b,off,vs,hpv,_⟩:=hp;exact⟨by simp[execOp,ho,he,hpv],rfl⟩
    ·obtain⟨b,hb,hpv⟩:=hp;exact⟨by simp[execOp,ho,he,hpv],rfl⟩
    ·obtain⟨y,hpv,_⟩:=hp;exact⟨by simp[execOp,ho,he,hpv],rfl⟩
    ·obtain⟨y,z,hpv,_⟩:=hp;exact⟨by simp[execOp,ho,he,hpv],rfl⟩
   obtain⟨hrun,rfl⟩:=hrun;exact After.val hrun (Pm ⟨S,β,γ,lam,ω,H.setV hd hp⟩)
end
end Go.Av
namespace Go.Av
variable [Dr]
section
variable {P:Program} {cx:Cx} {c:Entry} {N:Nat} {U:Nat->Prop} {e:Env} {h:Hp} {a:Act} {w:World} {S:aP} {β:List cu} {γ:Nat->Value} {lam:Nat->Option Nat} {ω:Nat->Owner} {o:Oper} {gid:Nat}
theorem FR.out'(H:FR c N U e h a w S β γ lam ω){S':aP}{β':List cu}{w':World}{h':Hp}(L:Left (cB β h) S β w S' β' w' h'):Out c h' w' S' β':=by
 obtain⟨ω',F,_⟩:=H.left L;exact F.out
theorem m0(hC:df P cx.own cx.call)(H:FR c N U e h a w S β γ lam ω)(hd:∀t,o.dst=some t->t<N)(hU:∀g,gid<=g->g<gid+1000->¬U g){f:FuncId}{args:List AV}{vs:List Value}(hargs:bQ S β args vs)(hrun:(P.funcs[f]?).any (fun fn=>fn.body.isSome&&!(fn.name== "runtime.NumGoroutine"))=true->(execOp a.eval o).run P w= .ok (.enter f vs.toArray) w){sh:AV->Upd}(hsh:(∀v,sh v= .ofV v)\/∃sz,cx.own f=some sz/\∀v,sh v= .own v gid (some sz))(hr:(af (cx.call f args) fun v=>ay (e.upd o.dst (sh v))) h≠.fail):After P c N (UG U gid) ((af (cx.call f args) fun v=>ay (e.upd o.dst (sh v))) h) o a w:=by
 have hne:cx.call f args h≠.fail:=by
  intro hf;unfold af at hr;rw[hf]at hr;exact hr rfl
 obtain⟨hcalls,hfn⟩:=hC f args h S β w vs hne H.gok H.wf H.heapX hargs;have hrun:=hrun hfn;intro next Q hn hp
 unfold Oper.wp;rw[hrun];simp only[Oper.upon];refine hcalls.mono fun en w' hpost=>?_;unfold af at hn hp;cases hres:cx.call f args h with
 |fail=>exact absurd hres hne
 |pan pv h'=>
  rw[hres]at hpost hp;obtain⟨S',β',v,rfl,hv,hleft⟩:=hpost;exact hp pv h' v w' rfl ⟨S',β',H.out' hleft,hv⟩
 | ok rv h'=>
  rw[hres]at hpost hn;obtain⟨S',β',v,rfl,hv,hleft,hown⟩:=hpost;obtain⟨ω',F,hno⟩:=H.left hleft;refine hn (e.upd o.dst (sh rv)) h' _ _ rfl ?_ (put_defers a o.dst v);rcases hsh with hsh|⟨sz,hof,hsh⟩
  ·rw[hsh];exact Pm ⟨_,_,_,_,_,F.setV hd hv⟩
  ·rw[hsh];obtain⟨ad,len,cap,rfl,h1,h2,h3⟩:=hown sz hof;obtain⟨ω2,F2⟩:=F.own (z:=some sz) hd hv hU (by
    rcases h3 with h3|⟨b,off,x,rfl,g1,g2,g3,g4,g5⟩
    ·subst h3;exact .inl ⟨ad,len,rfl,h2⟩
    ·exact .inr ⟨len,cap,sz,b,off,x,rfl,h1,rfl,g1,g2,hno b g3 g4,QQ H.size g3,g5⟩)
   exact⟨_,_,_,_,ω2,F2⟩
omit [Dr]in
theorem jg{f:FuncId}{args:Array Value}(hf:(P.funcs[f]?).any (fun fn=>fn.body.isSome&&!(fn.name== "runtime.NumGoroutine"))=true):(callFunc f args).run P w= .ok (.enter f args) w:=by
 cases hfn:P.funcs[f]? with
 |none=>rw[hfn]at hf;simp at hf
 |some fn=>
  rw[hfn]at hf;simp only[Option.any_some,PO,QU]at hf;obtain⟨h1,h2⟩:=hf;have h3:fn.body.isNone=false:=by cases hb:fn.body<;>simp_all
  simp only[callFunc,Sem.run_bind,run_program,Result.andThen_ok,hfn,h2,PM,PP,h3,Sem.run_pure]
omit [Dr]in
theorem tN{z:Option Nat}{g sz:Nat}{v:Value}(hf:pf S w ω g z v)(hz:vO z (some sz)=true):qK w sz v/\(z=none\/z=some sz):=by
 have hz':z=none\/z=some sz:=by
  unfold vO at hz;cases z with
  |none=>exact .inl rfl
  |some n=>simp only at hz;exact .inr (by rw[Qc hz])
 refine⟨?_,hz'⟩;obtain⟨ad,len,cap,h1,h2,h3,h4⟩:=hf;refine⟨ad,len,cap,h1,h2,h3,h4.imp id ?_⟩;rintro⟨sz',b,off,x,g1,g2,g3,g4,_⟩;rcases hz' with rfl|rfl
 ·cases g1
 ·cases g1;exact⟨b,off,x,g2,g3,g4⟩
omit [Dr]in
theorem E1{T:TT}{t:Nat}{as:List AV}{y r:AV}(h:cf T t (.sl as) y=some r):∃ti e ei bs,T t=some ti/\ti.kind= .slice e/\T e=some ei/\jW y=some bs/\eD ei.size as=true/\eD ei.size bs=true/\
  (as.length+bs.length)*ei.bytes<=140737488355328/\0<ei.bytes/\r= .sl (as++bs)/\dU T t=some ei.size/\mf y ei.size=true:=by
 unfold cf at h;cases ht:T t with
 |none=>rw[ht]at h;simp at h
 | some ti=>
  rw[ht]at h;simp only at h;split at h
  ·rename_i e hk;cases he:T e with
   |none=>rw[he]at h;simp at h
   | some ei=>
    rw[he]at h;simp only at h;cases hb:jW y with
    |none=>rw[hb]at h;simp at h
    | some bs=>
     rw[hb]at h;simp only at h;cases hc:(eD ei.size as&&eD ei.size bs&&decide ((as.length+bs.length)*ei.bytes<=140737488355328)&&decide (0<ei.bytes)&&mf y ei.size)with
     |false=>rw[hc]at h;simp at h
     |true=>
      rw[hc]at h;simp only[PV,PN]at h;simp only[PO,PW]at hc;obtain⟨⟨⟨⟨h1,h2⟩,h3⟩,h4⟩,h5⟩:=hc;exact⟨ti,e,ei,bs,rfl,hk,he,rfl,h1,h2,h3,h4,h.symm,by simp[dU,ht,hk,he],h5⟩
  ·simp at h
omit [Dr]in
theorem Hm{T:TT}{t:Nat}{x y r:AV}(h:cf T t x y=some r):∃as,x= .sl as:=by
 unfold cf at h;split at h
 ·simp at h
 ·split at h
  ·split at h
   ·simp at h
   ·split at h
    ·exact⟨_,rfl⟩
    ·simp at h
  ·simp at h
omit [Dr]in
theorem uq{y:AV}{n:Nat}(h:mf y n=true):∀s,y= .str s->n=1:=by
 rintro s rfl;exact Qc h
omit [Dr]in
theorem fB{t u:TypeId}{x y:Operand}{cc:Call}(ho:o.op= .call cc)(hb:cc.callee= .builtin .append)(ht:cc.argTypes.toList=[t,u])(hx:cc.args.toList=[x,y]){v:Value}{w':World}(hrun:(Builtin.append_ #[t,u] o.type #[a.eval x,a.eval y]).run P w= .ok v w'):(execOp a.eval o).run P w= .ok (.value v) w':=by
 have h1:cc.argTypes= #[t,u]:=by apply RV;simpa using ht
 have h2:cc.args= #[x,y]:=by apply RV;simpa using hx
 have h3:cc.args.map a.eval= #[a.eval x,a.eval y]:=by rw[h2];simp
 simp only[execOp,ho,resolve,hb,Sem.run_bind,Sem.run_pure,Result.andThen_ok,invoke,builtin,h1,h3,hrun]
omit [Dr]in
theorem pF{ag:Bool}{sz:Nat}(hs:ag=true\/sz=1):∀(n:Nat)(cs:List AV)(vs:List Value),bQ S β cs vs->n*sz<=cs.length->(cs.take (n*sz)).all bM=true->eq S β (jU ag sz n cs) (vs.take (n*sz)) sz
 |0,cs,vs,_,_,_=>by rw[RJ,R6];exact .nil sz
 | n + 1,cs,vs,hv,hl,hok=>by
  have hm:(n+1)*sz=sz+n*sz:=by rw[QI,Nat.one_mul,Nat.add_comm]
  have hle:sz<=cs.length:=by omega
  have hvl:=hv.length
  have h1:eq S β [bif ag then .agg (cs.take sz)else ae cs 0] (vs.take sz) sz:=by
   have hcl:(vs.take sz).length=sz:=by simp;omega
   have hone:∀(c:AV)(x:Value)(j:Nat),j<sz->cs[j]? = some c->vs[j]? = some x->x.cells= #[x]/\x.oneCell'=true:=fun c x j hj hc hx=>by
    obtain⟨y,hy,hr⟩:=hv.get hc;rw[hx]at hy;cases hy;refine jp (P7.1 hok c (QT (i:=j) ?_)) hr;rw[Qo,PS (by omega)];exact hc
   have hex:∀(j:Nat)(x:Value),j<sz->vs[j]? = some x->∃c,cs[j]? = some c:=fun j x hj hx=>⟨_,P1 (by omega)⟩;refine⟨by rw[hcl];simp,fun i e he=>?_,fun x hx=>?_⟩
   ·cases i with
    |succ i=>simp at he
    | zero=>
     simp only[PU,PN]at he;subst he;cases ag with
     |true=>
      refine⟨.agg (vs.take sz).toArray,by simp only[PV,VR];exact⟨_,rfl,hv.take sz⟩,by simp[Value.cells];omega,fun j x hx=>?_⟩;simpa [Value.cells]using hx
     | false=>
      rcases hs with hs|hs
      ·cases hs
      ·subst hs;have hc0:cs[0]? = some (ae cs 0):=by
        unfold ae;rw[P1 (by omega),Qw,P1 (by omega)];rfl
       obtain⟨y,hy,hr⟩:=hv.get hc0;have ho:=hone _ y 0 (by omega) hc0 hy;refine⟨y,hr,by rw[ho.1];rfl,fun j x hx=>?_⟩;rw[ho.1]at hx;cases j with
       |succ j=>simp at hx
       |zero=>
        simp only[QX,PU,PN]at hx;subst hx;simp only[RJ,Qb,QX];rw[Qo,PS (by omega)];exact hy
   ·obtain⟨j,hj⟩:=Sy hx;rw[Qo]at hj;split at hj
    ·rename_i hlt;obtain⟨c,hc⟩:=hex j x hlt hj;exact (hone c x j hlt hc hj).2
    ·simp at hj
  have h2:=pF hs n (cs.drop sz) (vs.drop sz) (hv.drop sz) (by simp;omega) (by
   rw[P7]at hok |-;intro x hx;obtain⟨j,hj⟩:=Sy hx;rw[Qo]at hj;split at hj
   ·rename_i hlt;rw[QW]at hj;refine hok x (QT (i:=sz+j) ?_);rw[Qo,PS (by omega)];exact hj
   ·simp at hj)
  have:=h1.append h2
  rw[hm,List.take_add];exact this
def wa(P:Program)(S:aP)(β:List cu)(w:World)(v:Value)(Y:AV):Prop:=
 ∀(sz:Nat)(bs:List AV),jW Y=some bs->eD sz bs=true->(∀s,Y= .str s->sz=1)->(Builtin.lenOf v).run P w= .ok bs.length w/\∃cs:List Value,eq S β bs cs sz/\
  ∀w':World,(∀a:Addr,w'.cell? a=w.cell? a)->(Builtin.firstCells sz bs.length v).run P w'= .ok cs.toArray w'
omit [Dr]in
theorem oo{Y:AV}{v:Value}(hw:Wf S w)(hv:VR S β Y v):wa P S β w v Y:=fun sz bs he hok hs=>by
 obtain⟨h1,cs,h2,h3⟩:=src_ok (P:=P) hw he hv hok hs;exact⟨h1,cs,h2,fun w' hw'=>h3 w' fun b o x hx=>by rw[hw'];exact hw b o x hx⟩
omit [Dr]in
theorem qX(ag:Bool)(sz:Nat):∀(n:Nat)(cs:List AV),(jU ag sz n cs).length=n
 |0,_=>rfl
 |n+1,cs=>by simp[jU,qX ag sz n]
theorem sC(H:FR c N U e h a w S β γ lam ω){Y:AV}{v:Value}{es:List AV}(hv:VR S β Y v)(hsrc:s6 h Y=some es):wa P S β w v (.sl es):=fun sz' bs he hok _=>by
 simp only[jW,PN]at he;subst he;unfold s6 at hsrc;split at hsrc
 ·rename_i l off len sz ag;cases hcs:h[l]? with
  |none=>rw[hcs]at hsrc;cases hsrc
  | some cs=>
   rw[hcs]at hsrc;simp only at hsrc;cases hb:((ag||Nat.beq sz 1)&&decide (off+len*sz<=cs.length)&&((cs.drop off).take (len*sz)).all bM)with
   |false=>rw[hb]at hsrc;cases hsrc
   | true =>
    rw[hb]at hsrc;simp only[PV,PN]at hsrc;subst hsrc;simp only[PO,PW,QF]at hb;obtain⟨⟨h1,h2⟩,h3⟩:=hb;have hag:ag=true\/sz=1:=h1.imp id Qc;rw[qX];rcases QK len with rfl|h0
    ·obtain⟨q,cap,rfl,_⟩:=hv.hs_some;exact⟨rfl,[],by simp only[jU];exact .nil sz',fun w' _=>run_firstCells_some w' sz' 0 q 0 cap [] (by simp) fun j x hx=>by simp at hx⟩
    ·obtain⟨⟨b',nb⟩,cap,hβ,hb0,rfl,hlc,hcn⟩:=hv.hs_pos h0;have hne:cs≠[]\/sz=0:=by
      rcases QK sz with hz|hz
      ·exact .inr hz
      ·refine .inl ?_;rintro rfl
       have:=Se h0 hz
       simp at h2;omega
     -- the size of an element is that of the slice
     have hsz:sz'=sz:=by
      have hall:=P7.1 hok (bif ag then .agg ((cs.drop off).take sz)else ae (cs.drop off) 0) (by
       cases len with
       |zero=>omega
       |succ n=>simp[jU])
      simp only[cz,PO,Qk]at hall;have hsa:=hall.1;have hle:sz<=(cs.drop off).length:=by
       have:1*sz<=len*sz:=Qi _ h0;simp;omega
      cases ag with
      |true=>
       simp only[PV,dk,PN,Rh]at hsa;omega
      | false=>
       rcases hag with hag|hag
       ·cases hag
       ·subst hag;simp only[P3]at hsa;have hc0:(cs.drop off)[0]? = some (ae (cs.drop off) 0):=by
         unfold ae;rw[P1 (by omega),Qw,P1 (by omega)];rfl
        have hoc:=P7.1 h3 (ae (cs.drop off) 0) (QT (i:=0) (by rw[Qo,PS (by omega)];exact hc0));generalize ae (cs.drop off) 0=q at hsa hoc;cases q<;>simp[bM,dk]at hsa hoc<;>omega
     subst hsz;rcases hne with hne|hz
     ·obtain⟨z,j1,j2,j3,j4,j5⟩:=H.heap.cells hcs hne hβ hb0;rw[hβ]at j1;cases j1;have hzl:cs.length<=z.size:=by have:=j4.length;simp at this;omega
      have j6:bQ S β (cs.drop off) ((z.toList.take cs.length).drop off):=j4.drop off;have hF:=pF hag len (cs.drop off) _ j6 (by simp;omega) h3;refine⟨rfl,_,hF,fun w' hw'=>?_⟩;refine run_firstCells_some w' sz' len ⟨b',off,none⟩ len cap _ (by simp;omega) fun j q hq=>?_;rw[addr_add,hw',j2.cell];rw[Qo]at hq;split at hq
      ·rw[QW,Qo]at hq;split at hq
       ·simpa using hq
       ·simp at hq
      ·simp at hq
     ·subst hz;rcases hag with rfl|hag
      ·have hall:∀n cs,eq S β (jU true 0 n cs) [] 0:=by
        intro n
        induction n with
        |zero=>intro cs;exact .nil 0
        | succ n ih=>
         intro cs;have:eq S β [AV.agg (cs.take 0)] [] 0:=⟨by simp,fun i e he=>by
          cases i with
          |zero=>
           simp only[PU,PN]at he;subst he;exact⟨.agg #[],by simp only[VR,R6];exact⟨[],rfl,by simp[bQ]⟩,rfl,fun j x hx=>by simp[Value.cells]at hx⟩
          |succ i=>simp at he,fun x hx=>by simp at hx⟩
         exact this.append (ih _)
       exact⟨rfl,[],hall _ _,fun w' _=>run_firstCells_some w' 0 len _ len cap [] (by simp) fun j x hx=>by simp at hx⟩
      ·omega
 ·cases hsrc;exact oo (P:=P) H.wf hv sz' [] rfl hok (fun s h=>by cases h)
 ·cases hsrc;exact oo (P:=P) H.wf hv sz' _ rfl hok (fun s h=>by cases h)
 ·cases hsrc
theorem tf(hT:TOK P cx.T)(H:FR c N U e h a w S β γ lam ω)(hd:∀t,o.dst=some t->t<N)(hU:∀g,gid<=g->g<gid+1000->¬U g){t u:TypeId}{x y:Operand}{cc:Call}(ho:o.op= .call cc)(hb:cc.callee= .builtin .append)(hts:cc.argTypes.toList=[t,u])(hxs:cc.args.toList=[x,y])(hu:iV cx.T u=true){as:List AV}{vx:Value}{g0:Option Nat}{r Y:AV}(hav:a.eval x=vx)(hx:VR S β (.sl as) vx)(hfree:(g0=none/\vx= .slice none 0 0)\/∃g z,g0=some g/\pf S w ω g z vx/\vO z (dU cx.T t)=true)(happ:cf cx.T t (.sl as) Y=some r)(hsrc:wa P S β w (a.eval y) Y):
  After P c N (UG U gid) (.ok (e.upd o.dst { Upd.own r gid (dU cx.T t)with drop:=g0 }) h) o a w:=by
 obtain⟨ti,el,ei,bs,ht,hk,hei,hels,hoa,hob,hby,hb0,rfl,hes,hstr⟩:=E1 happ;rw[hes]at hfree |-;have hroom:qK w ei.size vx:=by
  rcases hfree with⟨_,rfl⟩|⟨g,z,_,hf,hz⟩
  ·exact⟨none,0,0,rfl,P5 _,fun _=>rfl,.inl rfl⟩
  ·exact (tN hf hz).1
 obtain⟨hlen,cs,hflat,hfirst⟩:=hsrc ei.size bs hels hob (uq hstr);obtain⟨v,w',hrun,hA⟩:=yJ (ty:=o.type) hT H.wf ht hk hei hu hx hlen hflat hfirst hoa hby hb0 hroom;have hfr2:∃z,((g0=none/\vx= .slice none 0 0)\/∃g,g0=some g/\pf S w ω g z vx)/\(z=none\/z=some ei.size):=by
  rcases hfree with h1|⟨g,z,h1,hf,hz⟩
  ·exact⟨none,.inl h1,.inl rfl⟩
  ·exact⟨z,.inr ⟨g,h1,hf⟩,(tN hf hz).2⟩
 obtain⟨z,hf2,hz2⟩:=hfr2;obtain⟨S',ω',F⟩:=H.app hd hU hx hoa hf2 hz2 hA;exact After.val (fB ho hb hts hxs (by rw[hav];exact hrun)) ⟨_,_,_,_,_,F⟩
end
end Go.Av
namespace Go.Av
variable [Dr]
section
variable {P:Program} {cx:Cx} {c:Entry} {N:Nat} {U:Nat->Prop} {e:Env} {h:Hp} {a:Act} {w:World} {S:aP} {β:List cu} {γ:Nat->Value} {lam:Nat->Option Nat} {ω:Nat->Owner} {o:Oper} {gid:Nat}
omit [Dr]in
theorem rp{sz:Nat}{x:Array Value}:(es:List AV)->(off:Nat)->(∀(i:Nat)(e:AV),es[i]? = some e->∃v,VR S β e v/\v.cells.size=sz/\∀(j:Nat)(y:Value),v.cells[j]? = some y->x[off+i*sz+j]? = some y)->
  eD sz es=true->(es.flatMap aa).length=es.length*sz/\bQ S β (es.flatMap aa) ((x.toList.drop off).take (es.length*sz))
 |[],off,_,_=>by simp[bQ]
 | e:: es,off,hh,hok=>by
  simp only[eD,QH,PO]at hok;obtain⟨v,v1,v2,v3⟩:=hh 0 e (by simp);obtain⟨k1,k2,k3⟩:=iB hok.1 v1;obtain⟨h1,h2⟩:=rp es (off+sz) (fun i e' he=>by
   obtain⟨u,u1,u2,u3⟩:=hh (i+1) e' (by simpa using he);exact⟨u,u1,u2,fun j y hy=>by
    have:=u3 j y hy
    rwa [show off+(i+1)*sz+j=off+sz+i*sz+j by rw[QI];omega]at this⟩) hok.2
  have hacl:(aa e).length=sz:=by rw[<- k2.length];simpa using k1
  refine⟨by simp[h1,hacl,QI];omega,?_⟩;have hfirst:(x.toList.drop off).take sz=v.cells.toList:=by
   apply List.ext_getElem?;intro j;rw[Qo];split
   ·rename_i hj;rw[QW,QV,QV];have:j<v.cells.size:=by omega
    have hv:=v3 j v.cells[j] (Q7 this);simp only[RJ,Qu]at hv;rw[hv,Q7 this]
   ·rename_i hj;rw[Qh];simp;omega
  have hsplit:(x.toList.drop off).take ((e:: es).length*sz)=v.cells.toList++(x.toList.drop (off+sz)).take (es.length*sz):=by
   rw[<- hfirst,P4,QI,Nat.one_mul,Nat.add_comm (es.length*sz) sz,List.take_add,S4]
  rw[hsplit,Rn];exact k2.append h2
inductive AppRaw (w:World) (el sz n0 n:Nat) (olds news:List Value) (vx:Value):Value->World->Prop where
 |same (h:n=0):AppRaw w el sz n0 n olds news vx vx w
 | place (b off cap:Nat) (x:Array Value) (hv:vx= .slice (some ⟨b,off,none⟩) n0 cap) (hr:Row w b x) (hlt:n0+n<=cap) (hc:off+cap*sz<=x.size) (hn:n≠0):
   AppRaw w el sz n0 n olds news vx (.slice (some ⟨b,off,none⟩) (n0+n) cap)
    (w.setRow b (x.toList.take (off+n0*sz)++news++x.toList.drop (off+n0*sz+news.length)).toArray)
 | fresh (x:Array Value) (e cap:Nat) (hlt:n0+n<=cap) (hc:x.size=cap*sz) (hr:∀(i:Nat)(y:Value),(olds++news)[i]? = some y->x[i]? = some y) (hn:n≠0) (he:e=el):
   AppRaw w el sz n0 n olds news vx (.slice (some ⟨w.heap.size,0,none⟩) (n0+n) cap) (w.drew.alloc (.cells x e))
omit [Dr]in
theorem ie{T:TT}(hT:TOK P T){t u e ty:Nat}{ti ei:TI}{n0 n:Nat}{olds news:List Value}{vx vy:Value}(ht:T t=some ti)(hk:ti.kind= .slice e)(hei:T e=some ei)(hu:iV T u=true)(hvx:∃a cap,vx= .slice a n0 cap)(hlen:(Builtin.lenOf vy).run P w= .ok n w)(hfirst:∀w':World,(∀a:Addr,w'.cell? a=w.cell? a)->(Builtin.firstCells ei.size n vy).run P w'= .ok news.toArray w')(hold:∀w':World,(∀a:Addr,w'.cell? a=w.cell? a)->(Builtin.firstCells ei.size n0 vx).run P w'= .ok olds.toArray w')(hol:olds.length=n0*ei.size)(hnl:news.length=n*ei.size)(hone:∀x∈news,x.oneCell'=true)(hby:(n0+n)*ei.bytes<=140737488355328)(hb0:0<ei.bytes)(hroom:qK w ei.size vx):
  ∃v w',(Builtin.append_ #[t,u] ty #[vx,vy]).run P w= .ok v w'/\AppRaw w e ei.size n0 n olds news vx v w':=by
 obtain⟨_,d,_,_,hd,_,_,_,_,hkd,_⟩:=(hT.get ht).ex;have hd':d= .slice e:=by cases d<;>simp_all[kindOf]
 subst hd';obtain⟨ii,_,zz,hii,_,hzz,hzs,hsz,hbb,_⟩:=(hT.get hei).ex;have hz:∃du,P.underlying u=some du/\((∃e',du= .slice e')\/du= .string):=by
  unfold iV at hu;split at hu
  ·rename_i tu htu;obtain⟨_,du,_,_,hdu,_,_,_,_,hku,_⟩:=(hT.get htu).ex;refine⟨du,hdu,?_⟩;split at hu
   ·rename_i e' hk';exact .inl ⟨e',by cases du<;>simp_all[kindOf]⟩
   ·exact .inr (by cases du<;>simp_all[kindOf])
   ·simp at hu
  ·simp at hu
 obtain⟨du,hdu,hduk⟩:=hz;obtain⟨a,len,cap,rfl,hlc,hnone,hspare⟩:=hroom;obtain⟨a',cap',he⟩:=hvx;simp only[Value.slice.injEq]at he;obtain⟨rfl,rfl,rfl⟩:=he;by_cases hfit:len+n<=cap
 ·by_cases hn0:n=0
  ·subst hn0;refine⟨.slice a len cap,w,?_,.same rfl⟩;have hns:news=[]:=P6 (by simpa using hnl);subst hns;have hf:(Builtin.firstCells ei.size 0 vy).run P w= .ok #[] w:=by simpa using hfirst w (fun _=>rfl)
   rcases hduk with⟨e',rfl⟩|rfl<;>cases a <;>
    simp[Builtin.append_,run_underlying hd,run_underlying hdu,sizeOf,typeInfo,hii,hsz,hlen,hlc,hf,storeCells]
  ·rcases hspare with hsp|⟨b,off,x,rfl,⟨ce,hrow⟩,hcap⟩
   ·omega
   ·refine⟨_,_,?_,.place b off cap x rfl ⟨ce,hrow⟩ hfit hcap hn0⟩;have hf:=hfirst w (fun _=>rfl);have hle:(len+n)*ei.size<=cap*ei.size:=Qi _ hfit;rw[QI]at hle;have hst:=run_storeCells_at P b (off+len*ei.size) ce news 0 x w hrow (by omega) hone;simp only[Qu]at hst;rcases hduk with⟨e',rfl⟩|rfl <;>
     simp[Builtin.append_,run_underlying hd,run_underlying hdu,sizeOf,typeInfo,hii,hsz,hlen,hfit,hf,addr_add,hst]
 ·have hne:n≠0:=by rintro rfl;omega
  have hgt:cap<len+n:=by omega
  have h63:¬(9223372036854775807<((len:Int)+(n:Int))):=by
   have:=QQ (SQ (len+n) hb0) hby
   omega
  have hfit48:=growslice_fits hgt hby;have h48:¬(281474976710656<Builtin.nextslicecap (len+n) cap*ei.bytes):=by omega
  have hb0':ei.bytes≠0:=by omega
  have hof:=hold w.drew (fun a=>World.cell?_drew ..);have hf:=hfirst w.drew (fun a=>World.cell?_drew ..);have hcapn:len+n<=grownCap w (len+n) cap e:=Nat.le_add_right _ _;have hzcs:(Builtin.zeroCells zz.cells (grownCap w (len+n) cap e-(len+n))).size=(grownCap w (len+n) cap e-(len+n))*ei.size:=by
   rw[size_zeroCells,hzs,hsz]
  refine⟨_,_,?_,.fresh ((olds++news).toArray++Builtin.zeroCells zz.cells (grownCap w (len+n) cap e-(len+n))) e (grownCap w (len+n) cap e) hcapn ?_ ?_ hne rfl⟩
  ·rcases hduk with⟨e',rfl⟩|rfl <;>
    (simp[Builtin.append_,run_underlying hd,run_underlying hdu,sizeOf,typeInfo,zeroValue,hii,hsz,hzz,hlen,hfit,hbb,h48,hb0',Question.forced,hf,hof,newRow,grownCap]
     congr 2;apply RV;simp)
  ·rw[Array.size_append,hzcs];simp only[List.size_toArray,P0,hol,hnl];rw[<- QI,<- QI];congr 1;omega
  ·intro i y hy;rw[Array.getElem?_append];split
   ·simpa using hy
   ·rename_i hlt;rw[Qh (by simpa using hlt)]at hy;simp at hy
end
end Go.Av
namespace Go.Av
variable [Dr]
section
variable {P:Program} {cx:Cx} {c:Entry} {N:Nat} {U:Nat->Prop} {e:Env} {h:Hp} {a:Act} {w:World} {S:aP} {β:List cu} {γ:Nat->Value} {lam:Nat->Option Nat} {ω:Nat->Owner} {o:Oper} {gid:Nat}
omit [Dr]in
theorem qh{es:List AV}{cs:List Value}{sz:Nat}(hf:eq S β es cs sz)(hok:eD sz es=true):(es.flatMap aa).length=es.length*sz/\bQ S β (es.flatMap aa) cs:=by
 obtain⟨h1,h2,_⟩:=hf;obtain⟨g1,g2⟩:=rp (x:=cs.toArray) es 0 (fun i e he=>by
  obtain⟨v,v1,v2,v3⟩:=h2 i e he;exact⟨v,v1,v2,fun j y hy=>by rw[Qb];exact v3 j y hy⟩) hok
 refine⟨g1,?_⟩;have:(cs.toArray.toList.drop 0).take (es.length*sz)=cs:=by simp[<- h1]
 rw[this]at g2;exact g2
theorem B2(hT:TOK P cx.T)(H:FR c N U e h a w S β γ lam ω)(hd:∀t,o.dst=some t->t<N){t n:Nat}{ps:Array (Nat×Operand)}(ho:o.op= .buildSlice t n ps)(ht:∀p∈ps.toList,∀t,p.2= .tmp t->t<1000)(hr:bK e o.dst (.dyn (uJ cx.T t n (ps.toList.map fun p=>(p.1,opnd e p.2))) .ofV) h≠.fail):
  After P c N (UG U gid) (bK e o.dst (.dyn (uJ cx.T t n (ps.toList.map fun p=>(p.1,opnd e p.2))) .ofV) h) o a w:=absurd rfl hr
theorem Gk(hT:TOK P cx.T)(H:FR c N U e h a w S β γ lam ω)(hd:∀t,o.dst=some t->t<N){t:Nat}{l k:Operand}(ho:o.op= .makeSlice t l k)(hl:∀t,l= .tmp t->t<1000)(hk:∀t,k= .tmp t->t<1000)(hr:bK e o.dst (.dyn (Bd cx.T t (opnd e l) (opnd e k)) .ofV) h≠.fail):
  After P c N (UG U gid) (bK e o.dst (.dyn (Bd cx.T t (opnd e l) (opnd e k)) .ofV) h) o a w:=absurd rfl hr
theorem Hq(hT:TOK P cx.T)(H:FR c N U e h a w S β γ lam ω)(hd:∀t,o.dst=some t->t<N){t u:TypeId}{x y:Operand}{cc:Call}(ho:o.op= .call cc)(hb:cc.callee= .builtin .append)(hts:cc.argTypes.toList=[t,u])(hxs:cc.args.toList=[x,y])(hx:∀t,x= .tmp t->t<1000)(hy:∀t,y= .tmp t->t<1000)(hu:iV cx.T u=true)(hr:bK e o.dst (.dyn (appH cx.T t (jj e x) (opnd e x) (opnd e y)) .ofV) h≠.fail):After P c N (UG U gid) (bK e o.dst (.dyn (appH cx.T t (jj e x) (opnd e x) (opnd e y)) .ofV) h) o a w:=by
 have hvx:=bT H x hx;have hvy:=bT H y hy;simp only[bK,af,ay]at hr |-
 have hz:jj e x=true->opnd e x= .sl []->∃a0,a.eval x= .slice a0 0 0:=by
  intro hz hX;unfold jj at hz;split at hz
  ·rename_i s;have hs1:=hx s rfl;have hs2:=H.slots s hs1;split at hz
   ·rename_i g hg;split at hz
    ·rename_i hal;obtain⟨a0,len,cap,e1,e2,e3,e4⟩:=H.free g none hal;have e5:=H.grps s g none hs1 hg hal;have e6:a.eval (.tmp s)=γ g:=e5;rw[hX]at hvx;simp only[VR]at hvx;obtain⟨a1,cap1,f1,f2,f3,_⟩:=hvx;rw[e6,e1]at f1;cases f1;rcases e4 with e4|⟨sz,_,_,_,e4,_⟩
     ·simp only[Qr]at e4;subst e4;exact⟨a0,by rw[e6,e1];rfl⟩
     ·cases e4
    ·cases hz
   ·cases hz
  ·cases hz
 generalize jj e x=zz at hr hz |-;generalize hX:opnd e x=X at hr hvx hz |-;unfold appH at hr |-;cases ht:cx.T t with
 |none=>rw[ht]at hr;exact absurd rfl hr
 | some ti =>
  rw[ht]at hr;simp only at hr |-;cases hk:ti.kind<;>rw[hk]at hr<;>simp only at hr |- <;> (try exact absurd rfl hr);rename_i el;cases hei:cx.T el with
  |none=>rw[hei]at hr;exact absurd rfl hr
  | some ei =>
   rw[hei]at hr;simp only at hr |-;cases hels:jW (opnd e y)with
   |none=>rw[hels]at hr;exact absurd rfl hr
   | some bs =>
    rw[hels]at hr;simp only at hr |-;cases hc:(eD ei.size bs&&decide (0<ei.bytes)&&decide (0<ei.size)&&mf (opnd e y) ei.size)with
    |false=>rw[hc]at hr;exact absurd rfl hr
    | true =>
     rw[hc]at hr;simp only[PV]at hr |-;simp only[PO,PW]at hc;obtain⟨⟨⟨h1,h2⟩,h3⟩,h4⟩:=hc;obtain⟨hlen,news,hflat,hfirst⟩:=src_ok (P:=P) H.wf hels hvy h1 (uq h4);obtain⟨hfl,hfv⟩:=qh hflat h1;have hfirst':∀w':World,(∀a:Addr,w'.cell? a=w.cell? a)->(Builtin.firstCells ei.size bs.length (a.eval y)).run P w'= .ok news.toArray w':=fun w' hw'=>
      hfirst w' (fun b o x hx=>by rw[hw'];exact H.wf b o x hx)
     have hna:ei.agg=false->ei.size=1:=by
      intro hag;obtain⟨ii,_,zz,_,_,_,hzs,hsz,_,_,_,_,_,_,_,hnn⟩:=(hT.get hei).ex;have hz1:zz.cells.size=1:=by cases zz<;>first|rfl|exact absurd rfl (hnn hag _)
      omega
     by_cases hXs:X= .sl []/\zz=true
     ·obtain⟨rfl,hzz⟩:=hXs;subst hzz;simp only[PV]at hr |-;obtain⟨a0,hvx0⟩:=hz rfl rfl;have hvr:=hvx
      replace hvx:=hvx0
      cases hbe:bs.isEmpty with
      | true=>
       have hbs:bs=[]:=by simpa using hbe
       subst hbs;simp only[PV];obtain⟨v,w',hrun,hA⟩:=ie (ty:=o.type) hT ht hk hei hu (n0:=0) (olds:=[]) ⟨a0,0,hvx⟩ hlen hfirst' (fun w' _=>by rw[hvx];cases a0 with|none=>simp[Builtin.firstCells]|some q=>exact run_firstCells_some w' _ 0 q 0 0 [] (by simp) (fun j x hx=>by simp at hx)) (by simp) hflat.1 hflat.2.2 (by simp) h2
        (by rw[hvx];exact⟨a0,0,0,rfl,P5 _,fun _=>rfl,.inl rfl⟩)
       cases hA with
       |same _=>
        exact After.val (fB ho hb hts hxs hrun) (Pm ⟨S,β,γ,lam,ω,H.setV hd hvr⟩)
       |place _ _ _ _ _ _ _ _ hn=>exact absurd rfl hn
       |fresh _ _ _ _ _ _ hn=>exact absurd rfl hn
      | false=>
       rw[hbe]at hr;simp only[P3]at hr |-;cases hby:decide (bs.length*ei.bytes<=140737488355328)with
       |false=>rw[hby]at hr;exact absurd rfl hr
       | true=>
        simp only[PV];have hne:bs.length≠0:=by
         intro h0
         have:=P6 h0
         subst this;simp at hbe
        obtain⟨v,w',hrun,hA⟩:=ie (ty:=o.type) hT ht hk hei hu (n0:=0) (olds:=[]) ⟨a0,0,hvx⟩ hlen hfirst' (fun w' _=>by rw[hvx];cases a0 with|none=>simp[Builtin.firstCells]|some q=>exact run_firstCells_some w' _ 0 q 0 0 [] (by simp) (fun j x hx=>by simp at hx)) (by simp) hflat.1 hflat.2.2 (by simpa using hby) h2
         (by rw[hvx];exact⟨a0,0,0,rfl,P5 _,fun _=>rfl,.inl rfl⟩)
        cases hA with
        |same h0=>exact absurd h0 hne
        |place b off cap z hv _ hlt _ _=>rw[hvx]at hv;cases hv;omega
        | fresh z te cap hlt hzc hzr hn=>
         obtain⟨ω',F,hnew,hext⟩:=(H.drew).newH z te (cs:=bs.flatMap aa) (by
          refine .of_get ?_ fun i q v hq hv=>?_
          ·have:bs.length*ei.size<=cap*ei.size:=Qi _ (by omega);rw[Rh];apply Sg;have hz':z.toList.length=cap*ei.size:=by simpa using hzc
           have hfl':(bs.flatMap aa).length=bs.length*ei.size:=hfl;rw[hz',hfl'];exact this
          ·obtain⟨v',h1',h2'⟩:=hfv.get hq
           have:=hzr i v' (by simpa using h1')
           rw[Qo]at hv;split at hv
           ·rw[QV,this]at hv;cases hv;exact h2'
           ·simp at hv) (fun t ht=>absurd ht (lY h1 t))
         have hnew':(β++[(w.drew.heap.size,z.size)])[h.length]? = some (w.heap.size,z.size):=hnew;refine After.val (fB ho hb hts hxs hrun) (Pm ⟨_,_,γ,lam,ω',F.setV hd ?_⟩);simp only[VR];have hz0:z.size≠0:=by
          have:0<cap*ei.size:=Se (by omega) h3;omega
         exact .inl ⟨(w.heap.size,z.size),cap,hnew',hz0,by simp,by omega,by simp[hzc]⟩
     by_cases hXn:X= .hn
     ·subst hXn;simp only at hr |-;simp only[VR]at hvx;cases hbe:bs.isEmpty with
      | true=>
       have hbs:bs=[]:=by simpa using hbe
       subst hbs;simp only[PV];obtain⟨v,w',hrun,hA⟩:=ie (ty:=o.type) hT ht hk hei hu (n0:=0) (olds:=[]) ⟨none,0,hvx⟩ hlen hfirst' (fun w' _=>by rw[hvx];simp[Builtin.firstCells]) (by simp) hflat.1 hflat.2.2 (by simp) h2
        (by rw[hvx];exact⟨none,0,0,rfl,P5 _,fun _=>rfl,.inl rfl⟩)
       cases hA with
       |same _=>
        exact After.val (fB ho hb hts hxs hrun) (Pm ⟨S,β,γ,lam,ω,H.setV hd (by simp only[VR];exact hvx)⟩)
       |place _ _ _ _ _ _ _ _ hn=>exact absurd rfl hn
       |fresh _ _ _ _ _ _ hn=>exact absurd rfl hn
      | false=>
       rw[hbe]at hr;simp only[P3]at hr |-;cases hby:decide (bs.length*ei.bytes<=140737488355328)with
       |false=>rw[hby]at hr;exact absurd rfl hr
       | true=>
        simp only[PV];have hne:bs.length≠0:=by
         intro h0
         have:=P6 h0
         subst this;simp at hbe
        obtain⟨v,w',hrun,hA⟩:=ie (ty:=o.type) hT ht hk hei hu (n0:=0) (olds:=[]) ⟨none,0,hvx⟩ hlen hfirst' (fun w' _=>by rw[hvx];simp[Builtin.firstCells]) (by simp) hflat.1 hflat.2.2 (by simpa using hby) h2
         (by rw[hvx];exact⟨none,0,0,rfl,P5 _,fun _=>rfl,.inl rfl⟩)
        cases hA with
        |same h0=>exact absurd h0 hne
        |place b off cap z hv _ _ _ _=>rw[hvx]at hv;cases hv
        | fresh z te cap hlt hzc hzr hn=>
         obtain⟨ω',F,hnew,hext⟩:=(H.drew).newH z te (cs:=bs.flatMap aa) (by
          refine .of_get ?_ fun i q v hq hv=>?_
          ·have:bs.length*ei.size<=cap*ei.size:=Qi _ (by omega);rw[Rh];apply Sg;have hz':z.toList.length=cap*ei.size:=by simpa using hzc
           have hfl':(bs.flatMap aa).length=bs.length*ei.size:=hfl;rw[hz',hfl'];exact this
          ·obtain⟨v',h1',h2'⟩:=hfv.get hq
           have:=hzr i v' (by simpa using h1')
           rw[Qo]at hv;split at hv
           ·rw[QV,this]at hv;cases hv;exact h2'
           ·simp at hv) (fun t ht=>absurd ht (lY h1 t))
         have hnew':(β++[(w.drew.heap.size,z.size)])[h.length]? = some (w.heap.size,z.size):=hnew;refine After.val (fB ho hb hts hxs hrun) (Pm ⟨_,_,γ,lam,ω',F.setV hd ?_⟩);simp only[VR];have hz0:z.size≠0:=by
          have:0<cap*ei.size:=Se (by omega) h3;omega
         exact .inl ⟨(w.heap.size,z.size),cap,hnew',hz0,by simp,by omega,by simp[hzc]⟩
     ·-- a row of the heap
      cases X with
      | hs l off len sz ag=>
       cases off with
       |succ k=>exact absurd rfl hr
       | zero =>
        simp only at hr |-;cases hcs:h[l]? with
        |none=>rw[hcs]at hr;exact absurd rfl hr
        | some cs=>
         rw[hcs]at hr;simp only at hr |-;cases hc2:(sz== ei.size&&ag== ei.agg&&cs.all bM&&decide (len*sz<=cs.length)&&decide (0<cs.length)&&decide ((len+bs.length)*ei.bytes<=140737488355328))with
         |false=>rw[hc2]at hr;exact absurd rfl hr
         | true=>
          simp only[PV];simp only[PO,PW,Qk]at hc2;obtain⟨⟨⟨⟨⟨rfl,rfl⟩,k3⟩,k4⟩,k5⟩,k6⟩:=hc2;have hvx0:=hvx;have hne:cs≠[]:=by
           rintro rfl;simp at k5
          have hl:l<h.length:=by
           rcases Qn l h.length with h'|h'
           ·exact h'
           ·rw[Qh h']at hcs;simp at hcs
          simp only[VR]at hvx;rcases hvx with⟨⟨b,nb⟩,cap,hβ,hb0,hvx,hlc,hcn⟩|⟨h00,q,hvx⟩
          ·obtain⟨z,j1,j2,j3,j4,j5⟩:=H.heap.cells hcs hne hβ hb0;rw[hβ]at j1;simp only[PN,Q2,true_and]at j1;subst j1;have hzs:cs.length<=z.size:=by have:=j4.length;simp at this;omega
           have hol:(z.toList.take (len*ei.size)).length=len*ei.size:=by simp;omega
           have j6:bQ S β (cs.take (len*ei.size)) (z.toList.take (len*ei.size)):=by
            have:=j4.take (len*ei.size)
            rw[Sl,Sg k4]at this;exact this
           have hcl:(cs.take (len*ei.size)).length=len*ei.size:=by simp;omega
           have hold:∀w':World,(∀a:Addr,w'.cell? a=w.cell? a)->(Builtin.firstCells ei.size len (a.eval x)).run P w'= .ok (z.toList.take (len*ei.size)).toArray w':=fun w' hw'=>by
            rw[hvx];refine run_firstCells_some w' ei.size len ⟨b,0,none⟩ len cap _ hol fun j q hq=>?_;rw[addr_add,Qb,hw',j2.cell];rw[Qo]at hq;split at hq
            ·simpa using hq
            ·simp at hq
           have hroom:qK w ei.size (a.eval x):=⟨_,len,cap,hvx,hlc,(fun h=>by cases h),.inr ⟨b,0,z,rfl,j2,hcn⟩⟩;obtain⟨v,w',hrun,hA⟩:=ie (ty:=o.type) hT ht hk hei hu (n0:=len) (olds:=z.toList.take (len*ei.size)) ⟨_,cap,hvx⟩ hlen hfirst' hold hol hflat.1 hflat.2.2 k6 h2 hroom;have hexec:=fB ho hb hts hxs hrun;cases hA with
           |same h0=>
            have hbs:bs=[]:=P6 h0;subst hbs;simp only[List.isEmpty_nil,PV];exact After.val hexec (Pm ⟨S,β,γ,lam,ω,H.setV hd hvx0⟩)
           | place b2 off2 cap2 z2 hv2 hr2 hlt2 hc2' hn2=>
            have hbe:bs.isEmpty=false:=by cases bs<;>simp_all
            rw[hbe];simp only[P3];rw[hvx]at hv2;simp only[Value.slice.injEq,PN,Addr.mk.injEq]at hv2;obtain⟨⟨rfl,rfl,_⟩,_,rfl⟩:=hv2;cases j2.inj hr2;have hnl:=hflat.1;have hle:(len+bs.length)*ei.size<=cap*ei.size:=Qi _ hlt2;rw[QI]at hle;have hysz:(z.toList.take (0+len*ei.size)++news++z.toList.drop (0+len*ei.size+news.length)).toArray.size=z.size:=by simp;omega
            have hyv:bQ S β (cs.take (len*ei.size)++bs.flatMap aa) ((z.toList.take (0+len*ei.size)++news++z.toList.drop (0+len*ei.size+news.length)).toArray.toList.take (cs.take (len*ei.size)++bs.flatMap aa).length):=by
             have hl1:(z.toList.take (0+len*ei.size)++news).length=(cs.take (len*ei.size)++bs.flatMap aa).length:=by
              rw[P0,P0,Qb,hol,hcl,hfl,hnl]
             show bQ S β _ (List.take _ (z.toList.take (0+len*ei.size)++news++z.toList.drop (0+len*ei.size+news.length)));rw[List.take_left' hl1,Qb];exact j6.append hfv
            have hne2:cs.take (len*ei.size)++bs.flatMap aa≠[]:=by
             intro h0;have h1':=(List.append_eq_nil_iff.1 h0).2;rw[h1']at hfl;have:0<bs.length*ei.size:=Se (Nat.pos_of_ne_zero fun h=>by rw[P6 h]at hbe;cases hbe) h3;rw[Qr]at hfl;omega
            have hnb:∀t,¬eu t (cs.take (len*ei.size)++bs.flatMap aa):=fun t ht=>by
             rcases ht.append with ht|ht
             ·exact oW k3 t (ht.mono fun a=>R7)
             ·exact lY h1 t ht
            have F1:=H.turnH hcs hne ⟨_,hβ⟩ j2 hysz hyv (fun t ht=>absurd ht (hnb t));have hcs1:(h.set l (cs.take (len*ei.size)++bs.flatMap aa))[l]? = some (cs.take (len*ei.size)++bs.flatMap aa):=by simp[hl]
            obtain⟨ω',F2,hnew,hext⟩:=F1.moveH hcs1 hne2 ⟨_,hβ⟩ j2.setRow hyv (fun t ht=>ht);have hset:(h.set l (cs.take (len*ei.size)++bs.flatMap aa)).set l []=h.set l []:=by simp
            rw[hset]at F2;rw[RX]at hnew;refine After.val hexec (Pm ⟨_,_,γ,lam,ω',F2.setV hd ?_⟩);simp only[VR];exact .inl ⟨_,cap,hnew,by simp only;rw[hysz];exact hb0,rfl,hlt2,by simp only;rw[hysz];exact hcn⟩
           | fresh z2 te cap2 hlt2 hzc hzr hn2=>
            have hbe:bs.isEmpty=false:=by cases bs<;>simp_all
            rw[hbe];simp only[P3];have F1:=(H.drew).killH l;obtain⟨ω',F2,hnew,hext⟩:=F1.newH z2 te (cs:=cs.take (len*ei.size)++bs.flatMap aa) (by
             refine .of_get ?_ fun i q v hq hv=>?_
             ·have:(len+bs.length)*ei.size<=cap2*ei.size:=Qi _ hlt2;rw[QI]at this;rw[Rh,P0,hcl,hfl];apply Sg;have hz':z2.toList.length=cap2*ei.size:=by simpa using hzc
              omega
             ·obtain⟨v',h1',h2'⟩:=(j6.append hfv).get hq
              have:=hzr i v' h1'
              rw[Qo]at hv;split at hv
              ·rw[QV,this]at hv;cases hv;exact h2'
              ·simp at hv) (fun t ht=>absurd ht (fun ht=>by
             rcases ht.append with ht|ht
             ·exact oW k3 t (ht.mono fun a=>R7)
             ·exact lY h1 t ht))
            rw[RX]at hnew;have hnew':(β++[(w.drew.heap.size,z2.size)])[h.length]? = some (w.heap.size,z2.size):=hnew;refine After.val hexec (Pm ⟨_,_,γ,lam,ω',F2.setV hd ?_⟩);simp only[VR];have hz0:z2.size≠0:=by
             have:0<cap2*ei.size:=Se (by omega) h3;omega
            exact .inl ⟨(w.heap.size,z2.size),cap2,hnew',hz0,rfl,hlt2,by simp[hzc]⟩
          ·subst h00;obtain⟨v,w',hrun,hA⟩:=ie (ty:=o.type) hT ht hk hei hu (n0:=0) (olds:=[]) ⟨some q,0,hvx⟩ hlen hfirst' (fun w' _=>by rw[hvx];exact run_firstCells_some w' _ 0 q 0 0 [] (by simp) (fun j x hx=>by simp at hx)) (by simp) hflat.1 hflat.2.2 k6 h2
            (by rw[hvx];exact⟨some q,0,0,rfl,P5 _,fun _=>rfl,.inl rfl⟩)
           have hexec:=fB ho hb hts hxs hrun;cases hA with
           |same h0=>
            have hbs:bs=[]:=P6 h0;subst hbs;simp only[List.isEmpty_nil,PV];exact After.val hexec (Pm ⟨S,β,γ,lam,ω,H.setV hd hvx0⟩)
           |place b off cap z hv _ hlt _ hn=>
            rw[hvx]at hv;cases hv;have:bs.length≠0:=hn;omega
           | fresh z2 te cap2 hlt2 hzc hzr hn2=>
            have hbe:bs.isEmpty=false:=by cases bs<;>simp_all
            rw[hbe];simp only[P3,RJ,R6,Qv];have F1:=(H.drew).killH l;obtain⟨ω',F2,hnew,hext⟩:=F1.newH z2 te (cs:=bs.flatMap aa) (by
             refine .of_get ?_ fun i q v hq hv=>?_
             ·have:bs.length*ei.size<=cap2*ei.size:=Qi _ (by omega);rw[Rh,hfl];apply Sg;have hz':z2.toList.length=cap2*ei.size:=by simpa using hzc
              omega
             ·obtain⟨v',h1',h2'⟩:=hfv.get hq
              have:=hzr i v' (by simpa using h1')
              rw[Qo]at hv;split at hv
              ·rw[QV,this]at hv;cases hv;exact h2'
              ·simp at hv) (fun t ht=>absurd ht (lY h1 t))
            rw[RX]at hnew;have hnew':(β++[(w.drew.heap.size,z2.size)])[h.length]? = some (w.heap.size,z2.size):=hnew;refine After.val hexec (Pm ⟨_,_,γ,lam,ω',F2.setV hd ?_⟩);simp only[VR];have hz0:z2.size≠0:=by
             have:0<cap2*ei.size:=Se (by omega) h3;omega
            exact .inl ⟨(w.heap.size,z2.size),cap2,hnew',hz0,by simp,by omega,by simp[hzc]⟩
      | sl es=>
       cases es with
       |nil=>
        cases zz with
        |true=>exact absurd ⟨rfl,rfl⟩ hXs
        |false=>exact absurd rfl hr
       |cons _ _=>exact absurd rfl hr
      |_=>first|exact absurd rfl hXn|exact absurd rfl hr
end
end Go.Av
namespace Go.Av
variable [Dr]
section
variable {P:Program} {cx:Cx} {c:Entry} {N:Nat} {U:Nat->Prop} {e:Env} {h:Hp} {a:Act} {w:World} {S:aP} {β:List cu} {γ:Nat->Value} {lam:Nat->Option Nat} {ω:Nat->Owner} {o:Oper} {gid:Nat}
theorem Ho(hT:TOK P cx.T)(H:FR c N U e h a w S β γ lam ω)(hd:∀t,o.dst=some t->t<N){t u:TypeId}{x y:Operand}{cc:Call}(ho:o.op= .call cc)(hb:cc.callee= .builtin .append)(hts:cc.argTypes.toList=[t,u])(hxs:cc.args.toList=[x,y])(hx:∀t,x= .tmp t->t<1000)(hy:∀t,y= .tmp t->t<1000)(hu:iV cx.T u=true)(hr:bK e o.dst (.dyn (Hn cx.T t (opnd e x) (opnd e y)) .ofV) h≠.fail):After P c N (UG U gid) (bK e o.dst (.dyn (Hn cx.T t (opnd e x) (opnd e y)) .ofV) h) o a w:=absurd rfl hr
end
end Go.Av
namespace Go.Av
variable [Dr]
section
variable {P:Program} {cx:Cx} {c:Entry} {N:Nat} {U:Nat->Prop} {e:Env} {h:Hp} {a:Act} {w:World} {S:aP} {β:List cu} {γ:Nat->Value} {lam:Nat->Option Nat} {ω:Nat->Owner} {o:Oper} {gid:Nat}
theorem FR.putH(H:FR c N U e h a w S β γ lam ω){l off b nb:Nat}{cs acs:List AV}{vs:List Value}(hcs:h[l]? = some cs)(hne:cs≠[])(hb:β[l]? = some (b,nb))(hb0:nb≠0)(hvs:bQ S β acs vs)(hle:off+acs.length<=cs.length)(htag:∀t,¬eu t acs):
  ∃z,Row w b z/\cs.length<=z.size/\FR c N U e (h.set l (setCells cs off acs)) a (w.setRow b (z.toList.take off++vs++z.toList.drop (off+vs.length)).toArray) S β γ lam ω:=by
 obtain⟨z,j1,j2,j3,j4,j5⟩:=H.heap.cells hcs hne hb hb0;rw[hb]at j1;cases j1;have hvl:=hvs.length;have hzs:cs.length<=z.size:=by
  have:=j4.length
  simp at this;omega
 refine⟨z,j2,hzs,H.turnH hcs hne ⟨_,hb⟩ j2 (by simp;omega) ?_ (fun t ht=>ht.setCells.resolve_right (htag t))⟩;rw[iX _ _ _ (by omega)];have hsp:bQ S β (setCells cs off acs) (((z.toList.take cs.length).take off++vs++(z.toList.take cs.length).drop (off+vs.length))):=by
  unfold setCells;rw[hvl];exact ((j4.take off).append hvs).append (j4.drop _)
 have heq:(z.toList.take off++vs++z.toList.drop (off+vs.length)).take cs.length=
   (z.toList.take cs.length).take off++vs++(z.toList.take cs.length).drop (off+vs.length):=by
  rw[R9,R9];have e1:(z.toList.take off).length=off:=by simp;omega
  rw[Sl,Sl];have e2:min cs.length off=off:=by omega
  have e3:min off cs.length=off:=by omega
  rw[e2,e3,e1];have e4:vs.take (cs.length-off)=vs:=Q6 (by omega);rw[e4];congr 1;rw[List.take_drop,P0,e1];congr 2;omega
 show bQ S β _ (List.take _ _);rw[show (z.toList.take off++vs++z.toList.drop (off+vs.length)).toArray.toList=(z.toList.take off++vs++z.toList.drop (off+vs.length))from rfl,heq];exact hsp
theorem Fl(hT:TOK P cx.T)(H:FR c N U e h a w S β γ lam ω)(hd:∀t,o.dst=some t->t<N){cc:Call}(ho:o.op= .call cc)(hcal:cc.callee= .builtin .clear){t:TypeId}{ts:List TypeId}{x:Operand}{xs:List Operand}(hts:cc.argTypes.toList=t:: ts)(hxs:cc.args.toList=x:: xs)(hx:∀t,x= .tmp t->t<1000)(hr:bK e o.dst (.dyn (uM cx.T t (opnd e x)) .ofV) h≠.fail):After P c N (UG U gid) (bK e o.dst (.dyn (uM cx.T t (opnd e x)) .ofV) h) o a w:=absurd rfl hr
end
end Go.Av
namespace Go.Av
variable [Dr]
def dp(p:Upd->Prop):Act1->Prop
 |.bad=>True
 |.stat u=>p u
 |.dyn _ sh=>∀v,p (sh v)
 |.thr _=>True
omit [Dr]in
theorem dp.cond{p:Upd->Prop}{b:Bool}{x y:Act1}(h1:b=true->dp p x)(h2:b=false->dp p y):dp p (bif b then x else y):=by
 cases b with
 |true=>exact h1 rfl
 |false=>exact h2 rfl
structure Shape (e:Env) (gid:Nat) (f:Foot) (ss:Option Nat) (u:Upd):Prop where
 ls:f.wl=false->u.ls=[]
 lb:f.wl=false->u.lb=none
 unlb:f.wl=false->u.unlb=none
 add:f.wl=false->∀x∈u.add,x.1=gid
 noad:f.ad=false->u.add=[]
 nodr:f.dr=false->u.drop=none
 loc:f.wl=false->∀C off,u.ent.v= .loc C off->∃t off',(e.get t).v= .loc C off'
 keys:∀x∈u.ls,1000<=x.1\/ss=some x.1
omit [Dr]in
theorem Shape.ofV(e:Env)(gid:Nat)(f:Foot)(ss:Option Nat)(a:AV):Shape e gid f ss (.ofV a):=
 ⟨fun _=>rfl,fun _=>rfl,fun _=>rfl,fun _ x h=>by simp[Upd.ofV]at h,fun _=>rfl,fun _=>rfl,fun _ C off h=>by simp[Upd.ofV]at h,fun x h=>by simp[Upd.ofV]at h⟩
omit [Dr]in
theorem Shape.own(e:Env)(gid:Nat)(f:Foot)(ss:Option Nat)(a:AV)(z:Option Nat)(h:f.ad=true):Shape e gid f ss (.own a gid z):=
 ⟨fun _=>rfl,fun _=>rfl,fun _=>rfl,fun _ x h=>by simp[Upd.own]at h;rw[h],fun h'=>by(rw[h]at h';cases h'),fun _=>rfl,fun _ C off h=>by simp[Upd.own]at h,fun x h=>by simp[Upd.own]at h⟩
omit [Dr]in
theorem Shape.ent(e:Env)(gid:Nat)(f:Foot)(ss:Option Nat)(x:Ent)(h:∀C off,x.v= .loc C off->∃t off',(e.get t).v= .loc C off'):Shape e gid f ss { ent:=x } :=
 ⟨fun _=>rfl,fun _=>rfl,fun _=>rfl,fun _ x h=>by simp at h,fun _=>rfl,fun _=>rfl,fun _ C off h'=>h C off h',fun x h=>by simp at h⟩
omit [Dr]in
theorem Shape.get(e:Env)(gid:Nat)(f:Foot)(ss:Option Nat)(t:Nat):Shape e gid f ss { ent:=e.get t }:=.ent _ _ _ _ _ fun _ off h=>⟨t,off,h⟩
omit [Dr]in
theorem oR{B n gid:Nat}{cs:List AV}{offs:List Nat}(hB:1000<=B):∀x∈lU B cs offs gid n,1000<=x.1:=by
 intro x hx;unfold lU at hx;simp only[List.mem_map]at hx;obtain⟨i,_,rfl⟩:=hx;simp only;omega
omit [Dr]in
theorem xj{offs:List Nat}{gid:Nat}(h:offs.isEmpty=true):qi offs gid=[]:=by
 have:offs=[]:=by simpa using h
 subst this;rfl
variable {cx:Cx} {e:Env} {gid:Nat} {o:Oper}
omit [Dr]in
theorem rY(told:Bool)(x:Operand)(f:Foot)(hf:f.ad=bO x):dp (Shape e gid f none) (jN told e gid x):=by
 unfold jN;split
 ·exact Shape.get ..
 ·cases h:bO x with
  |true=>
   cases told with
   |true=>exact Shape.ofV ..
   |false=>exact Shape.own _ _ _ _ _ _ (by rw[hf,h])
  |false=>exact Shape.ofV ..
omit [Dr]in
theorem xn{e:Env}{B off n:Nat}(h:mJ e B off n=true):∃m,bY e.lb B=some m/\off+n<=m/\1000<=B:=by
 unfold mJ at h;split at h
 ·rename_i m hm;simp at h;exact⟨m,hm,h.1,h.2⟩
 ·simp at h
omit [Dr]in
theorem zJ(d:Option Tmp)(t:TypeId)(p:Nat)(f:Foot):dp (Shape e gid f none) (fG cx e d t p):=by
 unfold fG;split
 ·split
  ·trivial
  ·cases mJ e _ _ _ with
   |false=>trivial
   | true=>
    simp only[PV];rename_i ti _;cases ti.agg with
    |true=>exact Shape.ofV ..
    |false=>
     simp only[P3];cases decide (ti.size=1)with
     |true=>exact Shape.get ..
     |false=>trivial
 ·cases cD cx.ann.hl d with
  |true=>exact fun v=>Shape.ofV ..
  |false=>exact fun v=>Shape.ofV ..
omit [Dr]in
theorem Shape.wl{e:Env}{gid:Nat}{f:Foot}{ss:Option Nat}{u:Upd}(hw:f.wl=true)(h1:f.ad=false->u.add=[])(h2:u.drop=none)(h3:∀x∈u.ls,1000<=x.1\/ss=some x.1):Shape e gid f ss u:=
 ⟨fun h=>by(rw[hw]at h;cases h),fun h=>by(rw[hw]at h;cases h),fun h=>by(rw[hw]at h;cases h),fun h=>by(rw[hw]at h;cases h),h1,fun _=>h2,fun h=>by(rw[hw]at h;cases h),h3⟩
omit [Dr]in
theorem yo(t p:Nat)(y:Operand)(f:Foot)(hw:f.wl=true)(ha:f.ad=(!(gF cx.ann.nils p).isEmpty||bO y)):dp (Shape e gid f (some p)) (gU cx e gid t p y):=by
 unfold gU;split
 ·rename_i B off _;split
  ·trivial
  ·rename_i ti _;cases hlb:mJ e B off ti.size with
   |false=>trivial
   | true=>
    obtain⟨m,_,_,hB⟩:=xn hlb;simp only[PV];cases Cm (da cx.ann.kinds p .L)with
    | true=>
     simp only[PV];cases nr e B off p ti.size with
     |false=>trivial
     |true=>
      simp only[PV];exact fun v=>Shape.wl hw (fun _=>rfl) rfl (fun x hx=>by simp at hx;exact .inr (by rw[hx]))
    | false=>
     simp only[P3];cases ti.agg with
     |true=>
      simp only[PV];refine fun v=>Shape.wl hw (fun h=>?_) rfl (fun x hx=>.inl (oR (by omega) x hx));rw[ha]at h;simp only[Rl,Si]at h;exact xj h.1
     | false=>
      simp only[P3];cases decide (ti.size=1)with
      |false=>trivial
      | true=>
       simp only[PV];split
       ·split
        ·exact fun v=>Shape.wl hw (fun _=>rfl) rfl (fun x hx=>by simp at hx;rw[hx];exact .inl (by simp only;omega))
        ·trivial
       ·cases hn:bO y with
        |true=>
         refine Shape.wl hw (fun h=>?_) rfl (fun x hx=>by simp at hx;rw[hx];exact .inl (by simp only;omega));rw[ha,hn]at h;simp at h
        |false=>exact fun v=>Shape.wl hw (fun _=>rfl) rfl (fun x hx=>by simp at hx;rw[hx];exact .inl (by simp only;omega))
 ·exact fun v=>Shape.ofV ..
omit [Dr]in
theorem wT(t p i:Nat)(f:Foot):dp (Shape e gid f none) (jk cx e t p i):=by
 unfold jk;split
 ·rename_i B off hv;split
  ·trivial
  ·split
   ·trivial
   ·split
    ·trivial
    ·rename_i fi _;cases decide (fi.size=0)with
     |true=>trivial
     |false=>exact Shape.ent _ _ _ _ _ fun C o' h=>⟨p,off,by simp at h;rw[hv,h.1]⟩
 ·exact fun v=>Shape.ofV ..
omit [Dr]in
theorem xq(t p:Nat)(i:Operand)(f:Foot):dp (Shape e gid f none) (eE cx e t p i):=by
 unfold eE;split
 ·rename_i B off hv;split
  ·split
   ·split
    ·trivial
    ·refine dp.cond (p:=Shape e gid f none) (y:=.bad) (fun _=>?_) (fun _=>trivial);exact Shape.ent _ _ _ _ _ fun C o' h=>⟨p,off,by simp at h;rw[hv,h.1]⟩
   ·trivial
  ·trivial
 ·exact fun v=>Shape.ofV ..
omit [Dr]in
theorem wk(s t:Nat)(f:Foot)(hf:f=(match da cx.ann.kinds s .L with|.F=>{}|.H=>{ wh:=true }|.B=>{ wh:=true }|_=>{ wl:=true,ad:=!(gF cx.ann.nils s).isEmpty })):dp (Shape e gid f none) (gS cx e gid s t):=by
 unfold gS;split
 ·trivial
 ·rename_i ti _;have key:f.wl=true->(f.ad= !(gF cx.ann.nils s).isEmpty)->dp (Shape e gid f none) (match gF cx.ann.nils s with
   | offs=>bif decide (ti.size<1000)&&bL e.sl (bW s)&&kY (eO true ti) offs ti.size then
     .stat { ent:=⟨.loc (bW s) 0,none⟩,ls:=lU (bW s) (eO (gA cx.ann.hb s) ti) offs gid ti.size,add:=qi offs gid,lb:=some (bW s,ti.size) }else .bad):=by
   intro hw ha;simp only;cases decide (ti.size<1000)&&bL e.sl (bW s)&&kY (eO true ti) (gF cx.ann.nils s) ti.size with
   |false=>trivial
   |true=>exact Shape.wl hw (fun h=>xj (by rw[ha]at h;simpa using h)) rfl (fun x hx=>.inl (oR (by unfold bW;omega) x hx))
  cases hk:da cx.ann.kinds s .L with
  |F=>exact Shape.ofV ..
  |H=>exact fun v=>Shape.ofV ..
  |B=>exact fun v=>Shape.ofV ..
  |L=>rw[hk]at hf;exact key (by rw[hf]) (by rw[hf])
  |S=>rw[hk]at hf;exact key (by rw[hf]) (by rw[hf])
omit [Dr]in
theorem B1(s t:Nat)(x:Operand)(f:Foot)(hf:f=(match da cx.ann.kinds s .F with|.F=>{}|.H=>{ wh:=true }|.B=>{ wh:=true }|_=>{ wl:=true })):dp (Shape e gid f none) (lZ cx e s t x):=by
 unfold lZ;have key:f.wl=true->dp (Shape e gid f none) (match cx.T t with
  |none=>.bad
  | some ti=>bif decide (ti.size<1000)&&bL e.sl (bW s)then
    .dyn (aW ti.size (opnd e x)) fun v=>{ ent:=⟨.loc (bW s) 0,none⟩,ls:=lU (bW s) (aa v) [] 0 ti.size,lb:=some (bW s,ti.size) }
   else .bad):=by
  intro hw;split
  ·trivial
  ·rename_i ti _;cases decide (ti.size<1000)&&bL e.sl (bW s)with
   |false=>trivial
   |true=>exact fun v=>Shape.wl hw (fun _=>rfl) rfl (fun x hx=>.inl (oR (by unfold bW;omega) x hx))
 cases hk:da cx.ann.kinds s .F with
 |F=>exact Shape.ofV ..
 |H=>exact fun v=>Shape.ofV ..
 |B=>trivial
 |L=>rw[hk]at hf;exact key (by rw[hf])
 |S=>rw[hk]at hf;exact key (by rw[hf])
omit [Dr]in
theorem yS(c:Call)(f:Foot)(ho:o.op= .call c)(hf:f=aK cx o):dp (Shape e gid f none) (gT cx e gid o c):=by
 unfold gT;cases hc:c.callee with
 |invoke r m=>trivial
 | value x=>
  cases x with
  | func g=>
   simp only;refine dp.cond (fun _=>dp.cond (fun _ v=>Shape.ofV ..) (fun _=>trivial)) fun _=>?_;intro v;cases ho':cx.own g with
   |none=>exact Shape.ofV ..
   |some z=>
    refine Shape.own _ _ _ _ _ _ ?_;rw[hf];unfold aK;rw[ho];simp only[hc,ho'];cases cx.iso g<;>rfl
  |tmp t=>exact fun v=>Shape.ofV ..
  |const t=>exact fun v=>Shape.ofV ..
  |global t=>exact fun v=>Shape.ofV ..
 | builtin b=>
  cases b<;>simp only<;>(try trivial)
  case clear=>
   split
   ·exact fun v=>Shape.ofV ..
   ·trivial
  case append=>
   split
   ·rename_i t u x y hts hxs;cases iV cx.T u with
    |false=>trivial
    | true =>
     simp only[Qa,P3];cases hha:cD cx.ann.ha o.dst with
     |true=>exact fun v=>Shape.ofV ..
     | false=>
      have hfa:f.ad=true/\f.wl=false/\f.dr= !bO x:=by
       rw[hf];unfold aK;rw[ho];simp only[hc,hha,P3,hxs];exact⟨trivial,trivial,trivial⟩
      cases hn:bO x with
      |true=>exact fun v=>Shape.own _ _ _ _ _ _ hfa.1
      | false=>
       simp only[P3];split
       ·split
        ·trivial
        ·split
         ·trivial
         ·rename_i z _;cases vO z (dU cx.T t)with
          |false=>trivial
          |true=>
           simp only[PV];intro v;have hdr:f.dr=true:=by rw[hfa.2.2,hn];rfl
           exact⟨fun _=>rfl,fun _=>rfl,fun _=>rfl,fun _ x h=>by simp[Upd.own]at h;rw[h],fun h'=>by(rw[hfa.1]at h';cases h'),fun h'=>by(rw[hdr]at h';cases h'),fun _ C off h=>by simp[Upd.own]at h,fun x h=>by simp[Upd.own]at h⟩
       ·trivial
   ·trivial
  case len=>
   split
   ·exact fun v=>Shape.ofV ..
   ·trivial
  case min=>exact fun v=>Shape.ofV ..
  case max=>exact fun v=>Shape.ofV ..
omit [Dr]in
theorem Cf(f:Foot)(ss:Option Nat)(A:Act1):dp (Shape e gid f ss) (MN A):=trivial
omit [Dr]in
theorem mz(cx:Cx)(e:Env)(gid:Nat)(o:Oper):dp (Shape e gid (aK cx o) (de o)) (gJ cx e gid o):=by
 have hss:(∀t p y,o.op≠.store t (.tmp p) y)->de o=none:=by
  intro h;unfold de;split
  ·rename_i t p y hq;exact absurd hq (h t p y)
  ·rfl
 unfold gJ;cases ho:o.op
 case store t x y=>
  simp only;cases x<;>(try trivial);rename_i p;cases hd:o.dst with
  |some d=>trivial
  |none=>
   have h1:de o=some p:=by unfold de;rw[ho]
   rw[h1];exact dp.cond (fun _=>trivial) fun _=>yo t p y _ (by unfold aK;rw[ho]) (by unfold aK;rw[ho])
 all_goals
  have hs0:=hss (by rw[ho];intros;simp);rw[hs0];simp only
 case move x=>exact rY _ x _ (by unfold aK;rw[ho])
 case assign x=>exact rY _ x _ (by unfold aK;rw[ho])
 case box t x=>
  cases hd:o.dst with
  |none=>trivial
  |some s=>exact B1 s t x _ (by unfold aK;rw[ho];simp only[hd];cases da cx.ann.kinds s .F<;>rfl)
 case alloc t=>
  cases hd:o.dst with
  |none=>trivial
  |some s=>exact wk s t _ (by unfold aK;rw[ho];simp only[hd];cases da cx.ann.kinds s .L<;>rfl)
 case load t x=>cases x<;>first|exact dp.cond (fun _=>trivial) (fun _=>dp.cond (fun _=>Cf _ _ _) (fun _=>zJ ..))|trivial
 case buildSlice=>
  cases hha:cD cx.ann.ha o.dst with
  |true=>exact fun v=>Shape.ofV ..
  |false=>
   intro v;cases hno:cD cx.ann.no o.dst with
   |true=>exact Shape.ofV ..
   |false=>exact Shape.own _ _ _ _ _ _ (by unfold aK;rw[ho];simp[hno,hha])
 case makeSlice=>
  cases hha:cD cx.ann.ha o.dst with
  |true=>exact fun v=>Shape.ofV ..
  |false=>exact fun v=>Shape.own _ _ _ _ _ _ (by unfold aK;rw[ho];simp[hha])
 case slice t x lo hi mx=>
  cases hso:cD cx.ann.so o.dst with
  | true=>
   simp only[PV];unfold oc;have hf:aK cx o= { ad:=true,dr:=true }:=by unfold aK;rw[ho];simp only[hso,PV]
   rw[hf];split
   ·split
    ·trivial
    ·split
     ·exact dp.cond (fun _ v=>⟨fun _=>rfl,fun _=>rfl,fun _=>rfl,fun _ x h=>by simp[Upd.own]at h;rw[h],fun h'=>(by cases h'),fun h'=>(by cases h'),fun _ C off h=>by simp[Upd.own]at h,fun x h=>by simp[Upd.own]at h⟩) fun _=>trivial
     ·trivial
   ·trivial
  |false=>
  simp only[P3];cases mx with
  |none=>exact fun v=>Shape.ofV ..
  |some m=>exact fun v=>Shape.own _ _ _ _ _ _ (by unfold aK;rw[ho];simp only[hso,P3];rfl)
 case nilCheck x=>
  cases x<;>(try trivial);simp only;split
  ·exact Shape.get ..
  ·exact fun v=>Shape.ofV ..
 case fieldAddr t x i=>cases x<;>first|exact wT ..|trivial
 case indexAddr t x i=>cases x<;>first|exact xq ..|exact fun v=>Shape.ofV ..|trivial
 case call c=>exact yS c _ ho rfl
 case panic x=>exact fun v=>Shape.ofV ..
 case makeFunc=>exact Shape.ofV ..
 case makeMap=>exact dp.cond (fun _=>trivial) fun _ v=>Shape.ofV ..
 case mapUpdate=>unfold l5;split;exact fun v=>Shape.ofV ..;trivial
 case insert=>unfold l5;split;exact fun v=>Shape.ofV ..;trivial
 case binOp=>exact dp.cond (fun _=>trivial) fun _ v=>Shape.ofV ..
 all_goals first|trivial|exact fun v=>Shape.ofV ..
end Go.Av
namespace Go.Av
mutual
theorem wA{S S':aP}{β β':List cu}{g:Nat->Nat->Nat->Nat->Bool->AV}(hS:S.le S')(hg:∀l off len sz ag v,VR S β (.hs l off len sz ag) v->VR S' β' (g l off len sz ag) v):(a:AV)->(v:Value)->VR S β a v->VR S' β' (cl g a) v
 |.any,_,_=>by simp[cl,VR]
 |.bool _,_,x=>by simpa [cl,VR]using x
 |.int _ _,_,x=>by simpa [cl,VR]using x
 |.str _,_,x=>by simpa [cl,VR]using x
 |.nilp,_,x=>by simpa [cl,VR]using x
 |.nilf,_,x=>by simpa [cl,VR]using x
 |.nili,_,x=>by simpa [cl,VR]using x
 |.mp _,_,_=>by simp[cl,VR]
 |.it _,_,_=>by simp[cl,VR]
 |.nilm,_,x=>by simpa [cl,VR]using x
 |.nilb _,_,x=>by simpa [cl,VR]using x
 |.byt _ _,_,x=>by simpa [cl,VR]using x
 |.agg cs,v,x=>by
  simp only[cl,VR]at x |-;obtain⟨vs,rfl,y⟩:=x;exact⟨vs,rfl,m6 hS hg cs vs y⟩
 |.tup cs,v,x=>by
  simp only[cl,VR]at x |-;obtain⟨vs,rfl,y⟩:=x;exact⟨vs,rfl,m6 hS hg cs vs y⟩
 |.sl es,v,x=>by
  simp only[cl,VR]at x |-;obtain⟨a,cap,rfl,hc,hn,hq⟩:=x;have hl:(eM g es).length=es.length:=q7 g es;refine⟨a,cap,by rw[hl],by rw[hl];exact hc,hn,fun q e=>?_⟩;obtain⟨hs,sz,he⟩:=hq q e;exact⟨hs,sz,Fx hS hg es _ _ _ he⟩
 |.ip cs,v,x=>by
  simp only[cl,VR]at x |-;obtain⟨b,off,vs,rfl,y,z⟩:=x;exact⟨b,off,vs,rfl,m6 hS hg cs vs y,z.mono hS⟩
 |.hp l off,v,x=>by simp[cl,VR]
 |.hn,v,x=>by
  simp only[cl,VR]at x |-;exact⟨none,0,x,P5 _,fun _=>rfl,fun q hq=>by cases hq⟩
 |.hs l off len sz ag,v,x=>by
  simp only[cl];exact hg l off len sz ag v x
 |.fn f a c,v,x=>by
  simp only[cl,VR]at x |-;obtain⟨x,y,rfl,hx,hy⟩:=x;exact⟨x,y,rfl,m6 hS hg a x hx,m6 hS hg c y hy⟩
 |.iface t a,v,x=>by
  simp only[cl,VR]at x |-;obtain⟨y,rfl,hy⟩:=x;exact⟨y,rfl,wA hS hg a y hy⟩
theorem q7(g:Nat->Nat->Nat->Nat->Bool->AV):(cs:List AV)->(eM g cs).length=cs.length
 |[]=>rfl
 |c:: cs=>by simp[eM,q7 g cs]
theorem m6{S S':aP}{β β':List cu}{g:Nat->Nat->Nat->Nat->Bool->AV}(hS:S.le S')(hg:∀l off len sz ag v,VR S β (.hs l off len sz ag) v->VR S' β' (g l off len sz ag) v):(cs:List AV)->(vs:List Value)->bQ S β cs vs->bQ S' β' (eM g cs) vs
 |[],_,x=>by simpa [eM,bQ]using x
 |c:: cs,vs,x=>by
  simp only[eM,bQ]at x |-;obtain⟨y,ys,rfl,hy,hys⟩:=x;exact⟨y,ys,rfl,wA hS hg c y hy,m6 hS hg cs ys hys⟩
theorem Fx{S S':aP}{β β':List cu}{g:Nat->Nat->Nat->Nat->Bool->AV}(hS:S.le S')(hg:∀l off len sz ag v,VR S β (.hs l off len sz ag) v->VR S' β' (g l off len sz ag) v):(es:List AV)->(b off sz:Nat)->cJ S β es b off sz->cJ S' β' (eM g es) b off sz
 |[],_,_,_,_=>by simp[eM,cJ]
 |e:: es,b,off,sz,x=>by
  simp only[eM,cJ]at x |-;obtain⟨⟨v,hv,hs,hc⟩,hes⟩:=x;exact⟨⟨v,wA hS hg e v hv,hs,hc.mono hS⟩,Fx hS hg es b (off+sz) sz hes⟩
end
variable [Dr]
omit [Dr]in
theorem wC{S:aP}{β:List cu}{args:List AV}{vs:List Value}(h:bQ S β args vs):bQ S [] (eM aB args) vs:=
 m6 (aP.le_refl S) (fun _ _ _ _ _ _ _=>by simp[aB,VR]) args vs h
omit [Dr]in
theorem vu{S:aP}{β:List cu}{a:AV}{v:Value}(h:bM a=true)(hv:VR S β a v):v.cells= #[v]:=by
 cases a<;>simp only[bM,PM]at h<;>simp only[VR]at hv
 case bool=>subst hv;rfl
 case int=>subst hv;rfl
 case str=>obtain⟨x,rfl,_⟩:=hv;rfl
 case nilp=>subst hv;rfl
 case nilf=>subst hv;rfl
 case nili=>subst hv;rfl
 case sl=>obtain⟨x,c,rfl,_⟩:=hv;rfl
 case ip=>obtain⟨b,o,vs,rfl,_⟩:=hv;rfl
 case hp=>obtain⟨b,_,_,rfl⟩:=hv;rfl
 case mp=>obtain⟨b,_,_,rfl⟩:=hv;rfl
 case nilm=>subst hv;rfl
 case hs=>rcases hv with⟨b,c,_,_,rfl,_⟩|⟨_,_,rfl⟩<;>rfl
 case hn=>subst hv;rfl
 case fn=>obtain⟨x,y,rfl,_⟩:=hv;rfl
 case iface=>obtain⟨x,rfl,_⟩:=hv;rfl
omit [Dr]in
theorem uY{S S2:aP}{β β2:List cu}{w:World}{ω:Nat->Owner}{h:Hp}(hH:iF S β w ω h)(hS:S.le S2)(h2:∀(b o:Nat)(x:Array Value),cB β h b->Row w b x->S2 b o=x[o]?):∀(d:Nat)(a:AV)(v:Value),VR S β a v->VR S2 β2 (oO d h a) v
 |0,a,v,hv=>wA hS (fun _ _ _ _ _ _ _=>by simp[aB,VR]) a v hv
 | d + 1,a,v,hv=>by
  refine wA hS (fun l off len sz ag u hu=>?_) a v hv;cases hl:h[l]? with
  |none=>simp[VR]
  | some cs=>
   simp only;cases hc:(decide (off+len*sz<=cs.length)&&decide (0<sz)&&(ag||(Nat.beq sz 1&&cs.all bM)))with
   |false=>simp[VR]
   | true=>
    simp only[PO,PW,QF]at hc;obtain⟨⟨hc1,hc2⟩,hc3⟩:=hc;simp only[PV];simp only[VR]at hu |-;rcases hu with⟨⟨b,nb⟩,cap,hβ,hb0,rfl,hlc,hcn⟩|⟨h00,q0,rfl⟩
    rotate_left
    ·subst h00;exact⟨some q0,0,rfl,P5 _,fun _=>rfl,fun q hq=>⟨fun h=>absurd h (by omega),sz,trivial⟩⟩
    refine⟨some ⟨b,off,none⟩,cap,by simp,by simpa using hlc,(fun hh=>by cases hh),fun q hq=>?_⟩;simp only[PN]at hq;subst hq;refine⟨fun _=>rfl,sz,.of_get fun i e he=>?_⟩;have hi:i<len:=by
     rcases Qn i len with h'|h'
     ·exact h'
     ·rw[Qh (by simpa using h')]at he;cases he
    rw[Q8,List.getElem?_range hi]at he;simp only[Q3,PN]at he;have hile:off+i*sz+sz<=cs.length:=by
     have:(i+1)*sz<=len*sz:=Qi _ hi;rw[QI]at this;omega
    have hne:cs≠[]:=by rintro rfl;simp at hile;omega
    obtain⟨x,k1,k2,k3,k4,k5⟩:=hH.cells hl hne hβ hb0;rw[hβ]at k1;simp only[PN,Q2,true_and]at k1;subst k1;have hx:=k4.length;simp only[Rh,QE]at hx;have hS2:∀o,S2 b o=x[o]?:=fun o=>h2 b o x ⟨l,cs,_,hl,hne,hβ⟩ k2;subst he;cases ag with
    | true=>
     simp only[PV];have hsub:=(k4.drop (off+i*sz)).take sz;refine⟨.agg (((x.toList.take cs.length).drop (off+i*sz)).take sz).toArray,uY hH hS h2 d _ _ (by simp only[VR];exact⟨_,rfl,hsub⟩),?_,fun j y hy=>?_⟩
     ·simp[Value.cells];omega
     ·simp only[Value.cells]at hy;rw[Qo]at hy;split at hy
      ·rw[QW,Qo]at hy;split at hy
       ·rw[hS2];simpa using hy
       ·cases hy
      ·cases hy
    | false=>
     simp only[P3];simp only[PM,false_or]at hc3;have hsz:sz=1:=Qc hc3.1;subst hsz;have hlt:off+i*1<cs.length:=by omega
     have hcs:cs[off+i*1]? = some (ae cs (off+i*1)):=by unfold ae;rw[Qw,P1 hlt];rfl
     obtain⟨y,hy1,hy2⟩:=k4.get hcs;have hok:=P7.1 hc3.2 _ (QT hcs);have hcells:=vu hok hy2;refine⟨y,uY hH hS h2 d _ _ hy2,by rw[hcells];rfl,fun j z hz=>?_⟩;rw[hcells]at hz;cases j with
     |zero=>
      simp only[PU,PN]at hz;subst hz;rw[hS2,Qu];rw[Qo,PS hlt]at hy1;rw[<- hy1];simp
     |succ j=>simp at hz
theorem FR.weak{c:Entry}{N:Nat}{U:Nat->Prop}{e e2:Env}{h:Hp}{a:Act}{w:World}{S:aP}{β:List cu}{γ:Nat->Value}{lam:Nat->Option Nat}{ω:Nat->Owner}(H:FR c N U e h a w S β γ lam ω)(hv:∀t,(e2.get t).v=(e.get t).v\/(e2.get t).v= .val .any/\t<1000)(hg:∀t g,(e2.get t).g=some g->(e.get t).g=some g)(hal:∀g z,be e2.al g=some z->be e.al g=some z)(hlb:∀B n,bY e2.lb B=some n->bY e.lb B=some n):FR c N U e2 h a w S β γ lam ω:=by
 refine⟨H.wf,H.gro,H.keep,H.le,H.ext,H.hlen,H.heap,H.tsz,fun t ht=>?_,fun t g z ht hgg hz=>H.grps t g z ht (hg t g hgg) (hal g z hz),fun B n hB=>?_,fun g z hz=>H.free g z (hal g z hz),H.mine,⟨fun t g hgg=>H.used.1 t g (hg t g hgg),fun g z hz=>H.used.2 g z (hal g z hz)⟩⟩
 ·rcases hv t with h1|⟨h1,_⟩
  ·rw[h1];exact H.slots t ht
  ·rw[h1];simp[gD,VR]
 ·obtain⟨h1,h2,h3,b,x,h4,h5,h6,h7,h8⟩:=H.lblk B n (hlb B n hB);refine⟨h1,h2,h3,b,x,h4,h5,h6,h7,fun i hi=>?_⟩;obtain⟨v,a',g1,g2,g3,g4⟩:=h8 i hi;refine⟨v,a',g1,?_,g3,fun g z hgg hz=>g4 g z (hg _ g hgg) (hal g z hz)⟩;rcases hv (B+i)with k1|⟨_,k1⟩
  ·rw[k1];exact g2
  ·omega
theorem FR.acts{c:Entry}{N:Nat}{U:Nat->Prop}{e:Env}{h:Hp}{a a2:Act}{w:World}{S:aP}{β:List cu}{γ:Nat->Value}{lam:Nat->Option Nat}{ω:Nat->Owner}(H:FR c N U e h a w S β γ lam ω)(ht:a2.tmps=a.tmps):FR c N U e h a2 w S β γ lam ω:=
 ⟨H.wf,H.gro,H.keep,H.le,H.ext,H.hlen,H.heap,by rw[ht];exact H.tsz,fun t h=>by rw[ht];exact H.slots t h,fun t g z h=>by rw[ht];exact H.grps t g z h,H.lblk,H.free,H.mine,H.used⟩
open Classical in
theorem FR.freeze{c:Entry}{N:Nat}{U:Nat->Prop}{e:Env}{h:Hp}{a:Act}{w:World}{S:aP}{β:List cu}{γ:Nat->Value}{lam:Nat->Option Nat}{ω:Nat->Owner}(H:FR c N U e h a w S β γ lam ω):
  ∃S2 ω2,FR c N U e (h.map fun _=>[]) a w S2 β γ lam ω2/\∀v u,VR S β v u->VR S2 β (oO 6 h v) u:=by
 let S2:aP:=fun b o=>if cB β h b then w.cell? ⟨b,o,none⟩else S b o;let ω2:Nat->Owner:=fun b=>if cB β h b then .no else ω b;have hn:∀b,¬cB β h b->∀o,S2 b o=S b o:=fun b hb o=>if_neg hb;have hy:∀b,cB β h b->∀o,S2 b o=w.cell? ⟨b,o,none⟩:=fun b hb o=>PS hb;have hωn:∀b,¬cB β h b->ω2 b=ω b:=fun b hb=>if_neg hb;have hωy:∀b,cB β h b->ω2 b= .no:=fun b hb=>PS hb;have hho:∀b,cB β h b->∃l,ω b= .heap l:=fun b hb=>by obtain⟨l,_,h1,_⟩:=H.hown hb;exact⟨l,h1⟩
 have hno:∀b,(∀l,ω b≠.heap l)->¬cB β h b:=fun b hb ho=>by obtain⟨l,hl⟩:=hho b ho;exact hb l hl
 have hle:S.le S2:=by
  intro b o v hv;by_cases hb:cB β h b
  ·obtain⟨l,x,_,_,_,h5⟩:=H.hown hb;rw[h5]at hv;cases hv
  ·rw[hn b hb];exact hv
 have hwf:Wf S2 w:=by
  intro b o v hv;by_cases hb:cB β h b
  ·rw[hy b hb]at hv;exact hv
  ·rw[hn b hb]at hv;exact H.wf b o v hv
 refine⟨S2,ω2,⟨hwf,H.gro,fun b hb hE=>⟨(H.keep b hb hE).1,fun o=>?_⟩,aP.le_trans H.le hle,H.ext,by simp[H.hlen],fun l cs hl hcs=>?_,H.tsz,fun t ht=>?_,H.grps,fun B n hB=>?_,fun g z hg=>?_,fun b hb=>?_,H.used⟩,fun v u hv=>?_⟩
 ·have:¬cB β h b:=fun ho=>by
   obtain⟨l,hl⟩:=hho b ho;rcases (H.mine b (by rw[hl];simp)).1.low with h1|h1
   ·exact hE h1
   ·omega
  rw[hn b this];exact (H.keep b hb hE).2 o
 ·rw[Q8]at hl;cases hq:h[l]? with
  |none=>rw[hq]at hl;cases hl
  |some x=>rw[hq]at hl;simp at hl;exact absurd hl (fun hh=>hcs hh)
 ·have:=H.slots t ht
  cases hv:(e.get t).v with
  |val av=>rw[hv]at this;exact VR.mono hle (gB.refl β) _ _ this
  |loc B off=>rw[hv]at this;exact this
 ·obtain⟨h1,h2,h3,b,x,h4,h5,h6,h7,h8⟩:=H.lblk B n hB;have hb:=hno b (fun l hl=>by rw[h6]at hl;cases hl);refine⟨h1,h2,h3,b,x,h4,h5,by rw[hωn b hb];exact h6,fun o=>by rw[hn b hb];exact h7 o,fun i hi=>?_⟩;obtain⟨v,a',g1,g2,g3,g4⟩:=h8 i hi;exact⟨v,a',g1,g2,VR.mono hle (gB.refl β) _ _ g3,g4⟩
 ·obtain⟨a',len,cap,h1,h2,h3,h4⟩:=H.free g z hg;refine⟨a',len,cap,h1,h2,h3,h4.imp id ?_⟩;rintro⟨sz,b,off,x,g1,g2,g3,g4,g5,g6⟩;have hb:=hno b (fun l hl=>by rw[g5]at hl;cases hl);exact⟨sz,b,off,x,g1,g2,g3,g4,by rw[hωn b hb];exact g5,fun o ho=>by rw[hn b hb];exact g6 o ho⟩
 ·by_cases ho:cB β h b
  ·exact absurd (hωy b ho) hb
  ·have hb':ω b≠.no:=by rw[<- hωn b ho];exact hb
   exact⟨(H.mine b hb').1.of_eq (hωn b ho),(H.mine b hb').2⟩
 ·exact uY H.heap hle (fun b o x hb hr=>by rw[hy b hb,hr.cell]) 6 v u hv
theorem zq{c:Entry}{N:Nat}{U:Nat->Prop}{e:Env}{h:Hp}{a:Act}{w:World}{gid:Nat}{d:Option Tmp}{u:Upd}(hd:∀t,d=some t->t<N)(hs:Shape e gid {} none u)(H:gu c N U (e.upd d u) h a w):gu c N U (e.upd d (.ofV (oO 6 h u.ent.av))) (h.map fun _=>[]) a w:=by
 obtain⟨S,β,γ,lam,ω,F⟩:=H;obtain⟨S2,ω2,F2,hf⟩:=F.freeze;have h1:=hs.ls rfl;have h2:=hs.lb rfl;have h3:=hs.unlb rfl;have h4:=hs.noad rfl;have h5:=hs.nodr rfl;have hget:∀t,(e.upd d u).get t=if d=some t then u.ent else e.get t:=fun t=>by rw[dt,h1];rfl
 have hget':∀x t,(e.upd d (.ofV x)).get t=if d=some t then⟨.val x,none⟩else e.get t:=fun x t=>by rw[dt];rfl
 have hal:(e.upd d u).al=e.al:=by show u.add++fy e.al u.drop=e.al;rw[h4,h5];rfl
 have hlb:(e.upd d u).lb=e.lb:=by show mZ (e8 e.lb u.unlb) u.lb=e.lb;rw[h2,h3];rfl
 -- first forget the slot, then tell it anew
 have F3:FR c N U (e.upd d (.ofV .any)) (h.map fun _=>[]) a w S2 β γ lam ω2:=by
  refine F2.weak (fun t=>?_) (fun t g hg=>?_) (fun g z hz=>by rw[hal];exact hz) (fun B n hB=>by rw[hlb];exact hB)
  ·rw[hget,hget'];split
   ·rename_i hdt;exact .inr ⟨rfl,by have h1:=hd t hdt;have h2:=F.tsz.2;exact QD h1 h2⟩
   ·exact .inl rfl
  ·rw[hget']at hg;rw[hget];split at hg
   ·cases hg
   ·rename_i hdt;rw[if_neg hdt];exact hg
 cases d with
 |none=>exact⟨S2,β,γ,lam,ω2,F3⟩
 | some s=>
  have hsl:=F.slots s (QD (hd s rfl) F.tsz.2);rw[hget,PS rfl]at hsl;generalize hv0:a.tmps.getD s undef=v0 at hsl;have hvr:VR S β u.ent.av v0:=by
   unfold Ent.av;cases hv:u.ent.v with
   |val x=>rw[hv]at hsl;exact hsl
   |loc B off=>simp[VR]
  have F4:=F3.setV (d:=some s) hd (hf _ _ hvr);refine⟨S2,β,γ,lam,ω2,(F4.weak (e2:=e.upd (some s) (.ofV (oO 6 h u.ent.av))) (fun t=>.inl ?_) (fun t g hg=>?_) (fun g z hz=>hz) (fun B n hB=>hB)).acts ?_⟩
  ·rw[hget',dt];split
   ·rfl
   ·rename_i hdt;show (e.get t).v=(cF ((s,⟨.val .any,none⟩):: e.sl) t).v;rw[cY,if_neg (fun hh=>hdt (by rw[hh]))];rfl
  ·rw[hget']at hg;rw[dt];split at hg
   ·cases hg
   ·rename_i hdt;rw[if_neg hdt];show (cF ((s,⟨.val .any,none⟩):: e.sl) t).g=some g;rw[cY,if_neg (fun hh=>hdt (by rw[hh]))];exact hg
  ·have hlt:s<a.tmps.size:=QD (hd s rfl) F.tsz.1;simp only[Act.put];rw[<- hv0,Qz,Q7 hlt];apply Array.ext_getElem?;intro i;rw[RB];split
   ·rename_i hi;subst hi;rw[Q7 hlt];rfl
   ·rfl
end Go.Av
namespace Go.Av
section
variable {P:Program} {T:TT} {w:World} {S:aP} {β:List cu}
theorem qG.cons{e:AV}{es:List AV}{ents:List MapEntry}(h:qG S β (e:: es) ents):∃k v x ents',e= .tup [k,v]/\ents=x:: ents'/\VR S β k x.key/\VR S β v x.val/\qG S β es ents':=by
 obtain⟨h1,h2⟩:=h;cases ents with
 |nil=>simp at h1
 |cons x ents'=>
  obtain⟨k,v,g1,g2,g3⟩:=h2 0 e x rfl rfl;exact⟨k,v,x,ents',g1,rfl,g2,g3,by simpa using h1,fun i a b ha hb=>h2 (i+1) a b (by simpa using ha) (by simpa using hb)⟩
end
end Go.Av
namespace Go.Av
variable [Dr]
section
variable {P:Program} {cx:Cx} {c:Entry} {N:Nat} {U:Nat->Prop} {e:Env} {h:Hp} {a:Act} {w:World} {S:aP} {β:List cu} {γ:Nat->Value} {lam:Nat->Option Nat} {ω:Nat->Owner} {o:Oper} {gid:Nat}
theorem zN(H:FR c N U e h a w S β γ lam ω)(hd:∀t,o.dst=some t->t<N){t:TypeId}(ho:o.op= .makeMap t none)(hr:bK e o.dst (.dyn qw .ofV) h≠.fail):After P c N (UG U gid) (bK e o.dst (.dyn qw .ofV) h) o a w:=absurd rfl hr
theorem Cr(hT:TOK P cx.T)(H:FR c N U e h a w S β γ lam ω)(hd:∀t,o.dst=some t->t<N){t:TypeId}{x i:Operand}{ok:Bool}(ho:o.op= .lookup t x i ok)(hx:∀t,x= .tmp t->t<1000)(hi:∀t,i= .tmp t->t<1000)(hr:bK e o.dst (.dyn (xE cx.T t (opnd e x) (opnd e i) ok) .ofV) h≠.fail):After P c N (UG U gid) (bK e o.dst (.dyn (xE cx.T t (opnd e x) (opnd e i) ok) .ofV) h) o a w:=absurd rfl hr
theorem Gu(hT:TOK P cx.T)(H:FR c N U e h a w S β γ lam ω){t:TypeId}{m k x:Operand}(ho:o.op= .mapUpdate t m k x\/o.op= .insert t m k x)(hm:∀t,m= .tmp t->t<1000)(hk:∀t,k= .tmp t->t<1000)(hx:∀t,x= .tmp t->t<1000)(hr:bK e o.dst (l5 cx e o.dst t m k x) h≠.fail):After P c N (UG U gid) (bK e o.dst (l5 cx e o.dst t m k x) h) o a w:=by unfold l5 at hr |-;split at hr<;>exact absurd rfl hr
end
end Go.Av
namespace Go.Av
variable [Dr]
section
variable {c:Entry} {N:Nat} {U:Nat->Prop} {e:Env} {h:Hp} {a:Act} {w:World} {S:aP} {β:List cu} {γ:Nat->Value} {lam:Nat->Option Nat} {ω:Nat->Owner} {P:Program} {cx:Cx} {gid:Nat} {o:Oper}
theorem Gv(hT:TOK P cx.T)(H:FR c N U e h a w S β γ lam ω)(hd:∀t,o.dst=some t->t<N){t:TypeId}{x:Operand}(ho:o.op= .range t x)(hx:∀t,x= .tmp t->t<1000)(hr:bK e o.dst (.dyn (vB cx.T t (opnd e x)) .ofV) h≠.fail):After P c N (UG U gid) (bK e o.dst (.dyn (vB cx.T t (opnd e x)) .ofV) h) o a w:=absurd rfl hr
theorem FA(H:FR c N U e h a w S β γ lam ω)(hd:∀t,o.dst=some t->t<N){x:Operand}(ho:o.op= .entry x)(hx:∀t,x= .tmp t->t<1000)(hr:bK e o.dst (.dyn (rc (opnd e x)) .ofV) h≠.fail):After P c N (UG U gid) (bK e o.dst (.dyn (rc (opnd e x)) .ofV) h) o a w:=absurd rfl hr
end
end Go.Av
namespace Go.Av
variable [Dr]
section
variable {P:Program} {cx:Cx} {c:Entry} {N:Nat} {U:Nat->Prop} {e:Env} {h:Hp} {a:Act} {w:World} {S:aP} {β:List cu} {γ:Nat->Value} {lam:Nat->Option Nat} {ω:Nat->Owner} {o:Oper} {gid:Nat}
open Classical in
theorem KS(hT:TOK P cx.T)(H:FR c N U e h a w S β γ lam ω)(hd:∀t,o.dst=some t->t<N)(hU:∀g,gid<=g->g<gid+1000->¬U g){t:Nat}{x:Operand}{lo hi mx:Option Operand}(ho:o.op= .slice t x lo hi mx)(hx:∀t,x= .tmp t->t<1000)(hlo:∀y,lo=some y->∀t,y= .tmp t->t<1000)(hr:bK e o.dst (oc cx e gid t x lo hi mx) h≠.fail):After P c N (UG U gid) (bK e o.dst (oc cx e gid t x lo hi mx) h) o a w:=by unfold oc at hr;exfalso;revert hr;(repeat' split)<;>first|(intro hr;exact hr rfl)|(generalize (Fw cx.T t _&&hi.isNone&&mx.isNone)=b;cases b<;>exact fun hr=>hr rfl)
end
end Go.Av
namespace Go.Av
variable [Dr]
section
variable {P:Program} {cx:Cx} {c:Entry} {N:Nat} {U:Nat->Prop} {e:Env} {h:Hp} {a:Act} {w:World} {S:aP} {β:List cu} {γ:Nat->Value} {lam:Nat->Option Nat} {ω:Nat->Owner} {o:Oper} {gid:Nat}
omit [Dr]in
theorem rG{x:Operand}(h:bO x=true):x= .const (.slice none 0 0):=by
 unfold bO at h;split at h
 ·rfl
 ·simp at h
theorem FP{m:M AV}(hd:∀t,o.dst=some t->t<N)(hl:bK e o.dst (.dyn m .ofV) h≠.fail->After P c N (UG U gid) (bK e o.dst (.dyn m .ofV) h) o a w)(hr:bK e o.dst (.dyn (af m Hf) .ofV) h≠.fail):After P c N (UG U gid) (bK e o.dst (.dyn (af m Hf) .ofV) h) o a w:=by
 intro next Q hn hp
 simp only[bK,af,Hf,ay]at hr hn hp hl;cases hm:m h with
 |fail=>rw[hm]at hr;exact absurd rfl hr
 |pan pv h1=>
  rw[hm]at hp hl;exact hl (by simp) next Q (fun e' h' a' w' h1=>by cases h1) hp
 |ok v h1=>
  rw[hm]at hn hl;refine hl (by simp) next Q (fun e' h' a' w' k1 k2 k3=>?_) (fun pv h' v w' k1=>by cases k1)
  cases k1;exact hn _ _ a' w' rfl (zq (gid:=gid) hd (Shape.ofV ..) k2) k3
omit [Dr]in
theorem sa{x:Operand}(h:VR S β (opnd e x) (a.eval x)):VR S β (od e x) (a.eval x):=by
 unfold od;cases hn:bO x with
 |false=>exact h
 |true=>
  unfold bO at hn;split at hn
  ·simp[Act.eval,VR]
  ·cases hn
omit [Dr]in
theorem Oq{f g:Operand->AV}{v:Operand->Value}{l:List Operand}(_:bQ S β (l.map f) (l.map v))(h:∀x∈l,VR S β (g x) (v x)):bQ S β (l.map g) (l.map v):=by
 induction l with
 |nil=>simp[bQ]
 |cons x l ih=>
  rename_i hh;simp only[QO,bQ]at hh |-;obtain⟨y,ys,hy,_,h2⟩:=hh;cases hy;exact⟨_,_,rfl,h x (by simp),ih h2 fun y hy=>h y (by simp[hy])⟩
theorem Hs(hT:TOK P cx.T)(hC:df P cx.own cx.call)(H:FR c N U e h a w S β γ lam ω)(hd:∀t,o.dst=some t->t<N)(hU:∀g,gid<=g->g<gid+1000->¬U g){cc:Call}(ho:o.op= .call cc)(ht:∀x∈o.op.operands.toList,∀t,x= .tmp t->t<1000)(hr:bK e o.dst (gT cx e gid o cc) h≠.fail):After P c N (UG U gid) (bK e o.dst (gT cx e gid o cc) h) o a w:=by
 have hargs:∀x∈cc.args.toList,∀t,x= .tmp t->t<1000:=fun x hx t hxt=>ht x (by rw[ho];simp[Op.operands,Call.operands];exact .inr (by simpa using hx)) t hxt;have hvs:=oe H cc.args.toList hargs;have hmap:cc.args.map a.eval=(cc.args.toList.map a.eval).toArray:=by apply RV;simp
 unfold gT at hr |-;cases hcal:cc.callee with
 |invoke r m=>rw[hcal]at hr;exact absurd rfl hr
 | value f=>
  rw[hcal]at hr;have hfv:∀t,f= .tmp t->t<1000:=fun t hft=>ht f (by rw[ho];simp[Op.operands,Call.operands,hcal]) t hft;have hclos:∀(hr:bK e o.dst (.dyn (cX cx.call (opnd e f) (cc.args.toList.map (opnd e))) .ofV) h≠.fail),After P c N (UG U gid) (bK e o.dst (.dyn (cX cx.call (opnd e f) (cc.args.toList.map (opnd e))) .ofV) h) o a w:=by
   intro hr;have hf:=bT H f hfv;simp only[bK]at hr |-;generalize hq:opnd e f=q at hr hf |-;unfold cX at hr |-;split at hr
   ·rename_i g fi cap;simp only[VR]at hf;obtain⟨xs,ys,hav,hx,hy⟩:=hf;refine m0 hC H hd hU ((hx.append hvs).append hy) (fun hfn=>?_) (.inl fun v=>rfl) hr;have hargs':(xs++cc.args.toList.map a.eval++ys).toArray=xs.toArray++cc.args.map a.eval++ys.toArray:=by rw[hmap];simp
    simp only[execOp,ho,resolve,hcal,hav,Deferred.ofValue,Sem.run_bind,Sem.run_pure,Result.andThen_ok,invoke];rw[hargs'];exact jg (w:=w) hfn
   ·exact absurd rfl hr
  cases f with
  | func f=>
   simp only at hr |-;have hrunc:∀hfn,(execOp a.eval o).run P w= .ok (.enter f (cc.args.toList.map a.eval).toArray) w:=fun hfn=>by
    simp only[execOp,ho,resolve,hcal,Act.eval,Deferred.ofValue,Sem.run_bind,Sem.run_pure,Result.andThen_ok,invoke];rw[hmap];simpa using jg (w:=w) (args:=(cc.args.toList.map a.eval).toArray) hfn
   cases hfz:cD cx.ann.fz o.dst with
   | true=>
    rw[hfz]at hr;simp only[PV]at hr |-;cases hq:!(cx.iso f)&&!(cx.nw f)&&(cx.own f).isNone with
    |false=>rw[hq]at hr;exact absurd rfl hr
    |true=>
     rw[hq]at hr;simp only[PV]at hr |-;exact FP (m:=cx.call f (cc.args.toList.map (opnd e))) hd (fun hr=>m0 hC H hd hU hvs hrunc (.inl fun v=>rfl) hr) hr
   |false=>
   rw[hfz]at hr;simp only[P3]at hr |-;have hvt:bQ S β (cc.args.toList.map (pP (cD cx.ann.hb o.dst) e)) (cc.args.toList.map a.eval):=by
    refine Oq hvs fun x hx=>?_;unfold pP;cases cD cx.ann.hb o.dst with
    |false=>exact bT H x (hargs x hx)
    |true=>exact sa (bT H x (hargs x hx))
   refine m0 hC H hd hU hvt (fun hfn=>?_) ?_ hr
   rotate_left
   ·cases hof:cx.own f with
    |none=>exact .inl fun v=>rfl
    |some sz=>exact .inr ⟨sz,rfl,fun v=>rfl⟩
   simp only[execOp,ho,resolve,hcal,Act.eval,Deferred.ofValue,Sem.run_bind,Sem.run_pure,Result.andThen_ok,invoke];rw[hmap];simpa using jg (w:=w) (args:=(cc.args.toList.map a.eval).toArray) hfn
  |tmp t=>exact hclos hr
  |const v=>exact hclos hr
  |global g=>exact hclos hr
 | builtin b=>
  rw[hcal]at hr;cases b<;>simp only at hr |- <;> (try exact absurd rfl hr)
  case append=>
   split at hr
   ·rename_i t u x y hts hxs;cases hu:iV cx.T u with
    |false=>rw[hu]at hr;exact absurd rfl hr
    | true =>
     rw[hu]at hr;simp only[Qa,P3]at hr |-;have hx:∀t,x= .tmp t->t<1000:=hargs x (by rw[hxs];simp);have hy:∀t,y= .tmp t->t<1000:=hargs y (by rw[hxs];simp);cases hha:cD cx.ann.ha o.dst with
     | true=>
      rw[hha]at hr;simp only[PV]at hr |-;cases hhb:cD cx.ann.hb o.dst with
      |true=>
       rw[hhb]at hr;exact Ho hT H hd ho hcal hts hxs hx hy hu hr
      |false=>
       rw[hhb]at hr;exact Hq hT H hd ho hcal hts hxs hx hy hu hr
     | false=>
      rw[hha]at hr;simp only[P3]at hr |-;cases hnc:bO x with
      | true=>
       rw[hnc]at hr;simp only[PV]at hr |-;have hxc:=rG hnc;subst hxc;have key:∀Y r,cf cx.T t (.sl []) Y=some r->wa P S β w (a.eval y) Y->After P c N (UG U gid) (.ok (e.upd o.dst (Upd.own r gid (dU cx.T t))) h) o a w:=fun Y r happ hsrc=>
        tf hT H hd hU ho hcal hts hxs hu (as:=[]) (g0:=none) rfl (by simp only[VR];exact⟨none,0,rfl,P5 _,fun _=>rfl,fun q hq=>by cases hq⟩) (.inl ⟨rfl,rfl⟩) happ hsrc
       cases hhl:cD cx.ann.hl o.dst with
       | true=>
        rw[hhl]at hr;simp only[PV,bK,Av.af,wm]at hr |-;cases hsa:s6 h (opnd e y)with
        |none=>rw[hsa]at hr;exact absurd rfl hr
        |some es=>
         rw[hsa]at hr;simp only at hr |-;cases happ:cf cx.T t (.sl []) (.sl es)with
         |none=>rw[happ]at hr;exact absurd rfl hr
         |some r=>exact key _ r happ (sC H (bT H y hy) hsa)
       |false=>
        rw[hhl]at hr;simp only[P3]at hr |-;cases happ:cf cx.T t (.sl []) (opnd e y)with
        |none=>rw[happ]at hr;exact absurd rfl hr
        |some r=>exact key _ r happ (oo H.wf (bT H y hy))
      | false=>
       rw[hnc]at hr;simp only[P3]at hr |-;cases x<;>simp only at hr |- <;> (try exact absurd rfl hr);rename_i s;cases hg:(e.get s).g with
       |none=>rw[hg]at hr;exact absurd rfl hr
       | some g=>
        rw[hg]at hr;simp only at hr |-;cases hal:be e.al g with
        |none=>rw[hal]at hr;exact absurd rfl hr
        | some z=>
         rw[hal]at hr;simp only at hr |-;cases hz:vO z (dU cx.T t)with
         |false=>rw[hz]at hr;exact absurd rfl hr
         | true=>
          rw[hz]at hr;simp only[PV]at hr |-;have key:∀Y r,cf cx.T t (opnd e (.tmp s)) Y=some r->wa P S β w (a.eval y) Y->After P c N (UG U gid) (.ok (e.upd o.dst { Upd.own r gid (dU cx.T t)with drop:=some g }) h) o a w:=fun Y r happ hsrc=>by
           obtain⟨as,has⟩:=Hm happ;have hvx:=bT H (.tmp s) hx;rw[has]at hvx happ;have hγ:=H.grps s g z (hx s rfl) hg hal;exact tf hT H hd hU ho hcal hts hxs hu (as:=as) (g0:=some g) rfl hvx (.inr ⟨g,z,rfl,by
            have:a.eval (.tmp s)=γ g:=hγ;rw[this];exact H.free g z hal,hz⟩) happ hsrc
          cases hhl:cD cx.ann.hl o.dst with
          | true=>
           rw[hhl]at hr;simp only[PV,bK,Av.af,wm]at hr |-;cases hsa:s6 h (opnd e y)with
           |none=>rw[hsa]at hr;exact absurd rfl hr
           |some es=>
            rw[hsa]at hr;simp only at hr |-;cases happ:cf cx.T t (opnd e (.tmp s)) (.sl es)with
            |none=>rw[happ]at hr;exact absurd rfl hr
            |some r=>exact key _ r happ (sC H (bT H y hy) hsa)
          |false=>
           rw[hhl]at hr;simp only[P3]at hr |-;cases happ:cf cx.T t (opnd e (.tmp s)) (opnd e y)with
           |none=>rw[happ]at hr;exact absurd rfl hr
           |some r=>exact key _ r happ (oo H.wf (bT H y hy))
   ·exact absurd rfl hr
  case clear=>
   split at hr
   ·rename_i t ts x xs hts hxs;exact Fl hT H hd ho hcal hts hxs (hargs x (by rw[hxs];simp)) hr
   ·exact absurd rfl hr
  case len=>
   split at hr
   ·rename_i t ts x xs hts hxs;refine ff H hd (m:=Builtin.len_ cc.argTypes o.type (cc.args.map a.eval)) ?_ (fun r hr'=>?_) hr
    ·simp only[execOp,ho,resolve,hcal,invoke,builtin,pure_bind]
    ·have h1:cc.argTypes=(t:: ts).toArray:=by apply RV;simpa using hts
     have h2:cc.args.map a.eval=(a.eval x:: xs.map a.eval).toArray:=by rw[hmap,hxs];simp
     rw[h1,h2];exact K5 hT ts (xs.map a.eval) hr' (bT H x (hargs x (by rw[hxs];simp)))
   ·exact absurd rfl hr
  case min=>
   refine ff H hd (m:=Builtin.min_ cc.argTypes o.type (cc.args.map a.eval)) ?_ (fun r hr'=>?_) hr
   ·simp only[execOp,ho,resolve,hcal,invoke,builtin,pure_bind]
   ·obtain⟨v,rest,he,hp⟩:=vo (P:=P) (w:=w) _ _ (P5 _) r _ hr' hvs;obtain⟨u,hu,hur⟩:=hp;exact⟨u,by rw[hmap];simp only[Builtin.min_];rw[he];simpa using hu,hur⟩
  case max=>
   refine ff H hd (m:=Builtin.max_ cc.argTypes o.type (cc.args.map a.eval)) ?_ (fun r hr'=>?_) hr
   ·simp only[execOp,ho,resolve,hcal,invoke,builtin,pure_bind]
   ·obtain⟨v,rest,he,hp⟩:=vo (P:=P) (w:=w) _ _ (P5 _) r _ hr' hvs;obtain⟨u,hu,hur⟩:=hp;exact⟨u,by rw[hmap];simp only[Builtin.max_];rw[he];simpa using hu,hur⟩
theorem MO(hT:TOK P cx.T)(H:FR c N U e h a w S β γ lam ω)(hd:∀t,o.dst=some t->t<N){t p:Nat}(ho:o.op= .load t (.tmp p))(hx:p<1000)(hr:bK e o.dst (MN (fG cx e o.dst t p)) h≠.fail):
  After P c N (UG U gid) (bK e o.dst (MN (fG cx e o.dst t p)) h) o a w:=absurd rfl hr
theorem Gs(hT:TOK P cx.T)(hC:df P cx.own cx.call)(H:FR c N U e h a w S β γ lam ω)(hd:∀t,o.dst=some t->t<N)(hU:∀g,gid<=g->g<gid+1000->¬U g)(ht:∀x∈o.op.operands.toList,∀t,x= .tmp t->t<1000)(hpN:∀p,Cm (da cx.ann.kinds p .L)=true->p<N)(hr:cb cx e gid o h≠.fail):After P c N (UG U gid) (cb cx e gid o h) o a w:=by
 cases ho:o.op with
 |move x=>exact Be H hd hU (.inl ho) (fun t hx=>ht x (by rw[ho];simp[Op.operands]) t hx)
 |assign x=>exact Be H hd hU (.inr ho) (fun t hx=>ht x (by rw[ho];simp[Op.operands]) t hx)
 |pick k x y=>
  have h1:=fun t hx=>ht k (by rw[ho];simp[Op.operands]) t hx;have h2:=fun t hx=>ht x (by rw[ho];simp[Op.operands]) t hx;have h3:=fun t hx=>ht y (by rw[ho];simp[Op.operands]) t hx;unfold cb gJ at hr |-;rw[ho]at hr |-;simp only at hr |-;refine ff H hd (m:=do pure (if <- asBool (a.eval k)then a.eval x else a.eval y)) ?_ (fun r hr'=>Ip hr' (bT H k h1) (bT H x h2) (bT H y h3)) hr;simp only[execOp,ho,bind_assoc,pure_bind]
 |alloc t=>exact Dv hT H hd hU ho hr
 |box t x=>exact KF H hd hU ho (fun t hx=>ht x (by rw[ho];simp[Op.operands]) t hx) hr
 |build t ps=>
  have hps:∀p∈ps.toList,∀t,p.2= .tmp t->t<1000:=fun p hp t hx=>ht p.2 (by rw[ho];simp[Op.operands];exact⟨p.1,by simpa using hp⟩) t hx;unfold cb gJ at hr |-;rw[ho]at hr |-;simp only at hr |-;exact ff H hd (m:=Instr.build t (ps.map fun p=>(p.1,a.eval p.2))) (by simp only[execOp,ho]) (fun r hr'=>ww hT hr' (by simpa using oY H ps.toList hps)) hr
 | buildSlice t n ps=>
  have hps:∀p∈ps.toList,∀t,p.2= .tmp t->t<1000:=fun p hp t hx=>ht p.2 (by rw[ho];simp[Op.operands];exact⟨p.1,by simpa using hp⟩) t hx;cases hha:cD cx.ann.ha o.dst with
  |false=>exact sT hT H hd hU ho hps hha hr
  |true=>
   unfold cb gJ at hr |-;rw[ho]at hr |-;simp only[hha,PV]at hr |-;exact B2 hT H hd ho hps hr
 | load t x=>
  unfold cb gJ at hr |-;rw[ho]at hr |-;cases x with
  | tmp p=>
   have hp:=ht (.tmp p) (by rw[ho];simp[Op.operands]) p rfl;simp only at hr |-;cases hnl:cD cx.ann.nl o.dst&&jK (e.get p)with
   |true=>rw[hnl]at hr;exact absurd rfl hr
   |false=>
   rw[hnl]at hr;simp only[P3]at hr |-;cases hz:cD cx.ann.fz o.dst with
   |false=>rw[hz]at hr;exact H4 hT H hd ho hp hr
   |true=>
    rw[hz]at hr;simp only[PV]at hr |-;exact MO hT H hd ho hp hr
  |_=>exact absurd rfl hr
 |store t x y=>
  exact GT hT H (fun _ _=>trivial) hU ho (fun t hx=>ht x (by rw[ho];simp[Op.operands]) t hx) (fun t hx=>ht y (by rw[ho];simp[Op.operands]) t hx) (fun p _ hp=>hpN p hp) hr
 |nilCheck x=>exact xM H hd ho (fun t hx=>ht x (by rw[ho];simp[Op.operands]) t hx) hr
 |binOp op t x y u=>
  have h1:=fun t hx=>ht x (by rw[ho];simp[Op.operands]) t hx;have h2:=fun t hx=>ht y (by rw[ho];simp[Op.operands]) t hx;unfold cb gJ at hr |-;rw[ho]at hr |-;simp only at hr |-;cases hlit:rB cx.T op t x y with
  |true=>rw[hlit]at hr;exact absurd rfl hr
  |false=>
  rw[hlit]at hr;simp only[P3]at hr |-;exact ff H hd (m:=do eqGuard op t x y (a.eval x) (a.eval y);Go.binOp op t (a.eval x) (a.eval y)) (by simp only[execOp,ho]) (fun r hr'=>KE hT x y hlit hr' (sa (bT H x h1)) (sa (bT H y h2))) hr
 |unOp op t x=>
  have h1:=fun t hx=>ht x (by rw[ho];simp[Op.operands]) t hx;unfold cb gJ at hr |-;rw[ho]at hr |-;simp only at hr |-;exact ff H hd (m:=Op.unary op (a.eval x)) (by simp only[execOp,ho]) (fun r hr'=>Nr hr' (bT H x h1)) hr
 |convert s t x=>
  have h1:=fun t hx=>ht x (by rw[ho];simp[Op.operands]) t hx;unfold cb gJ at hr |-;rw[ho]at hr |-;simp only at hr |-;exact ff H hd (m:=convert s t (a.eval x)) (by simp only[execOp,ho]) (fun r hr'=>HL hT hr' (bT H x h1)) hr
 |makeInterface t x=>
  have h1:=fun t hx=>ht x (by rw[ho];simp[Op.operands]) t hx;unfold cb gJ at hr |-;rw[ho]at hr |-;simp only at hr |-;exact ff H hd (m:=Instr.makeInterface t (a.eval x)) (by simp only[execOp,ho]) (fun r hr'=>zO hT hr' (bT H x h1)) hr
 |makeFunc f x y=>
  have h1:=oe H x.toList (fun z hz t hx=>ht z (by rw[ho];simp[Op.operands];exact .inl (by simpa using hz)) t hx);have h2:=oe H y.toList (fun z hz t hx=>ht z (by rw[ho];simp[Op.operands];exact .inr (by simpa using hz)) t hx);unfold cb gJ at hr |-;rw[ho]at hr |-;simp only at hr |-;refine After.val (v:=.func f (x.map a.eval) (y.map a.eval)) (w':=w) (by simp[execOp,ho,Instr.makeFunc]) (Pm ⟨S,β,γ,lam,ω,H.setV hd ?_⟩);simp only[VR];have hm:∀z:Array Operand,z.map a.eval=(z.toList.map a.eval).toArray:=fun z=>by apply RV;simp
  exact⟨_,_,by rw[hm x,hm y],h1,h2⟩
 | makeSlice t x y=>
  have hx1:∀t,x= .tmp t->t<1000:=fun t hx=>ht x (by rw[ho];simp[Op.operands]) t hx;have hy1:∀t,y= .tmp t->t<1000:=fun t hx=>ht y (by rw[ho];simp[Op.operands]) t hx;cases hha:cD cx.ann.ha o.dst with
  |false=>exact vk hT H hd hU ho hx1 hy1 hha hr
  |true=>
   unfold cb gJ at hr |-;rw[ho]at hr |-;simp only[hha,PV]at hr |-;exact Gk hT H hd ho hx1 hy1 hr
 | slice t x lo hi mx=>
  cases hso:cD cx.ann.so o.dst with
  |true=>
   unfold cb gJ at hr |-;rw[ho]at hr |-;simp only[hso,PV]at hr |-;exact KS hT H hd hU ho (fun t hx=>ht x (by rw[ho];simp[Op.operands]) t hx) (fun y hy t hx=>ht y (by rw[ho];simp[Op.operands,hy]) t hx) hr
  |false=>
   exact GQ hT H hd hU ho (fun t hx=>ht x (by rw[ho];simp[Op.operands]) t hx) (fun y hy t hx=>ht y (by rw[ho];simp[Op.operands,hy]) t hx) (fun y hy t hx=>ht y (by rw[ho];simp[Op.operands,hy]) t hx) (fun y hy t hx=>ht y (by rw[ho];simp[Op.operands,hy]) t hx) hso hr
 |fieldAddr t x f=>exact uT hT H hd ho (fun t hx=>ht x (by rw[ho];simp[Op.operands]) t hx) hr
 |field t x f=>
  have h1:=fun t hx=>ht x (by rw[ho];simp[Op.operands]) t hx;unfold cb gJ at hr |-;rw[ho]at hr |-;simp only at hr |-;exact ff H hd (m:=Instr.field t (a.eval x) f) (by simp only[execOp,ho]) (fun r hr'=>FG hT hr' (bT H x h1)) hr
 |indexAddr t x i=>exact ve hT H hd ho (fun t hx=>ht x (by rw[ho];simp[Op.operands]) t hx) (fun t hx=>ht i (by rw[ho];simp[Op.operands]) t hx) hr
 |index t x i=>
  have h1:=fun t hx=>ht x (by rw[ho];simp[Op.operands]) t hx;have h2:=fun t hx=>ht i (by rw[ho];simp[Op.operands]) t hx;unfold cb gJ at hr |-;rw[ho]at hr |-;simp only at hr |-;exact ff H hd (m:=Instr.index t (a.eval x) (a.eval i)) (by simp only[execOp,ho]) (fun r hr'=>xo hT hr' (bT H x h1) (bT H i h2)) hr
 |extract x i=>
  have h1:=fun t hx=>ht x (by rw[ho];simp[Op.operands]) t hx;unfold cb gJ at hr |-;rw[ho]at hr |-;simp only at hr |-;exact ff H hd (m:=Instr.extract (a.eval x) i) (by simp only[execOp,ho]) (fun r hr'=>zm hr' (bT H x h1)) hr
 |panic x=>
  have h1:=fun t hx=>ht x (by rw[ho];simp[Op.operands]) t hx;have hv:=bT H x h1;unfold cb gJ at hr |-;rw[ho]at hr |-;simp only at hr |-;cases hq:opnd e x<;>rw[hq]at hr hv<;>(try exact absurd rfl hr);rename_i t v;intro next Q hn hp
  simp only[VR]at hv;obtain⟨y,hav,hy⟩:=hv;unfold Oper.wp;have hrun:(execOp a.eval o).run P w= .halt (.panic (.iface t y)) w:=by simp[execOp,ho,hav,Instr.panic]
  rw[hrun];exact hp (.iface t v) h (.iface t y) w rfl ⟨S,β,H.out,by simp only[VR];exact⟨y,rfl,hy⟩⟩
 |call cc=>
  unfold cb gJ at hr |-;rw[ho]at hr |-;simp only at hr |-;exact Hs hT hC H hd hU ho ht hr
 | makeMap t r=>
  unfold cb gJ at hr |-;rw[ho]at hr |-;simp only at hr |-;cases r with
  |some r=>exact absurd rfl hr
  |none=>
   simp only[Option.isSome_none,P3];exact zN H hd ho hr
 |lookup t x i ok=>
  have h1:=fun t hx=>ht x (by rw[ho];simp[Op.operands]) t hx;have h2:=fun t hx=>ht i (by rw[ho];simp[Op.operands]) t hx;unfold cb gJ at hr |-;rw[ho]at hr |-;simp only at hr |-;exact Cr hT H hd ho h1 h2 hr
 |range t x=>
  have h1:=fun t hx=>ht x (by rw[ho];simp[Op.operands]) t hx;unfold cb gJ at hr |-;rw[ho]at hr |-;simp only at hr |-;exact Gv hT H hd ho h1 hr
 |entry x=>
  have h1:=fun t hx=>ht x (by rw[ho];simp[Op.operands]) t hx;unfold cb gJ at hr |-;rw[ho]at hr |-;simp only at hr |-;exact FA H hd ho h1 hr
 |mapUpdate t m k x=>
  have h1:=fun t hx=>ht m (by rw[ho];simp[Op.operands]) t hx;have h2:=fun t hx=>ht k (by rw[ho];simp[Op.operands]) t hx;have h3:=fun t hx=>ht x (by rw[ho];simp[Op.operands]) t hx;unfold cb gJ at hr |-;rw[ho]at hr |-;simp only at hr |-;exact Gu hT H (.inl ho) h1 h2 h3 hr
 |insert t m k x=>
  have h1:=fun t hx=>ht m (by rw[ho];simp[Op.operands]) t hx;have h2:=fun t hx=>ht k (by rw[ho];simp[Op.operands]) t hx;have h3:=fun t hx=>ht x (by rw[ho];simp[Op.operands]) t hx;unfold cb gJ at hr |-;rw[ho]at hr |-;simp only at hr |-;exact Gu hT H (.inr ho) h1 h2 h3 hr
 |_=>unfold cb gJ at hr;rw[ho]at hr;exact absurd rfl hr
end
end Go.Av
namespace Go.Av
variable [Dr]
structure Agree (cx:Cx) (o:Oper) (e e':Env):Prop where
 ops:∀t∈kg o,e'.get t=e.get t
 loc:((aK cx o).rl||(aK cx o).wl)=true->(∀t,1000<=t->e'.get t=e.get t)/\∀B,bY e'.lb B=bY e.lb B
 al:(aK cx o).dr=true->∀g,be e'.al g=be e.al g
 lf:(aK cx o).wl=true->∀s,o.dst=some s->bL e.sl (bW s)=true->bL e'.sl (bW s)=true
section
variable {cx:Cx} {e e':Env} {gid:Nat} {o:Oper}
omit [Dr]in
theorem Agree.get(A:Agree cx o e e'){t:Nat}(h:Operand.tmp t∈o.op.operands.toList):e'.get t=e.get t:=
 A.ops t (Sk.2 ⟨.tmp t,h,rfl⟩)
omit [Dr]in
theorem Agree.opnd(A:Agree cx o e e'){x:Operand}(h:x∈o.op.operands.toList):opnd e' x=opnd e x:=by
 cases x with
 |tmp t=>simp only[Av.opnd,Env.av];rw[A.get h]
 |const v=>rfl
 |func f=>rfl
 |global g=>rfl
omit [Dr]in
theorem Agree.opnds(A:Agree cx o e e'){l:List Operand}(h:∀x∈l,x∈o.op.operands.toList):l.map (Av.opnd e')=l.map (Av.opnd e):=
 RP fun x hx=>A.opnd (h x hx)
omit [Dr]in
theorem Agree.parts(A:Agree cx o e e'){l:List (Nat×Operand)}(h:∀x∈l,x.2∈o.op.operands.toList):l.map (fun p=>(p.1,Av.opnd e' p.2))=l.map (fun p=>(p.1,Av.opnd e p.2)):=
 RP fun x hx=>by rw[A.opnd (h x hx)]
omit [Dr]in
theorem pJ(h:∀t,1000<=t->e'.get t=e.get t){B:Nat}(hB:1000<=B):∀n,nP e' B n=nP e B n
 |0=>rfl
 |n+1=>by
  simp only[nP,Env.av];rw[pJ h hB n,h (B+n) (by omega)]
omit [Dr]in
theorem rC(h:∀B,bY e'.lb B=bY e.lb B)(B off n:Nat):mJ e' B off n=mJ e B off n:=by
 unfold mJ;rw[h]
omit [Dr]in
theorem vW(h:∀B,bY e'.lb B=bY e.lb B)(B off p n:Nat):nr e' B off p n=nr e B off p n:=by
 unfold nr;rw[h]
omit [Dr]in
theorem rV{told:Bool}{x:Operand}(A:Agree cx o e e')(h:x∈o.op.operands.toList):jN told e' gid x=jN told e gid x:=by
 unfold jN;cases x with
 |tmp t=>simp only;rw[A.get h]
 |_=>rfl
omit [Dr]in
theorem zH{d:Option Tmp}{t:TypeId}{p:Nat}(A:Agree cx o e e')(hp:Operand.tmp p∈o.op.operands.toList)(hf:(aK cx o).rl=true\/jK (e.get p)=false):fG cx e' d t p=fG cx e d t p:=by
 unfold fG;rw[A.get hp];cases hv:(e.get p).v with
 |val a=>rfl
 | loc B off=>
  replace hf:(aK cx o).rl=true:=hf.elim id fun h=>by simp[jK,hv]at h
  simp only;cases cx.T t with
  |none=>rfl
  | some ti=>
   obtain⟨h1,h2⟩:=A.loc (by rw[hf];rfl);simp only;rw[rC h2];cases hlb:mJ e B off ti.size with
   |false=>rfl
   |true=>
    obtain⟨m,_,_,hB⟩:=xn hlb;rw[pJ h1 (by omega),h1 (B+off) (by omega)]
omit [Dr]in
theorem yn{t:TypeId}{p:Nat}{y:Operand}(A:Agree cx o e e')(hp:Operand.tmp p∈o.op.operands.toList)(hy:y∈o.op.operands.toList)(hf:(aK cx o).wl=true):gU cx e' gid t p y=gU cx e gid t p y:=by
 unfold gU;rw[A.get hp,A.opnd hy];obtain⟨h1,h2⟩:=A.loc (by rw[hf];simp);cases hv:(e.get p).v with
 |val a=>rfl
 | loc B off=>
  simp only;cases cx.T t with
  |none=>rfl
  |some ti=>
   simp only;rw[rC h2,vW h2];cases y with
   |tmp s=>simp only;rw[A.get hy]
   |_=>rfl
omit [Dr]in
theorem wS{t:TypeId}{p i:Nat}(A:Agree cx o e e')(hp:Operand.tmp p∈o.op.operands.toList):jk cx e' t p i=jk cx e t p i:=by
 unfold jk;rw[A.get hp]
omit [Dr]in
theorem xp{t:TypeId}{p:Nat}{i:Operand}(A:Agree cx o e e')(hp:Operand.tmp p∈o.op.operands.toList)(hi:i∈o.op.operands.toList):eE cx e' t p i=eE cx e t p i:=by
 unfold eE;rw[A.get hp,A.opnd hi]
omit [Dr]in
theorem wj{s:Nat}{t:TypeId}(A:Agree cx o e e')(hs:o.dst=some s)(hf:da cx.ann.kinds s .L≠.F->da cx.ann.kinds s .L≠.H->da cx.ann.kinds s .L≠.B->(aK cx o).wl=true)(hb:gS cx e gid s t≠.bad):gS cx e' gid s t=gS cx e gid s t:=by
 unfold gS at hb |-;cases ht:cx.T t with
 |none=>rfl
 | some ti=>
  rw[ht]at hb;simp only at hb |-;cases hk:da cx.ann.kinds s .L<;>rw[hk]at hb hf<;>simp only at hb |-
  all_goals
   have hw:=hf (by simp) (by simp) (by simp);cases hl:bL e.sl (bW s)with
   |false=>exact absurd (by rw[hl];simp) hb
   |true=>rw[A.lf hw s hs hl]
omit [Dr]in
theorem BZ{s:Nat}{t:TypeId}{x:Operand}(A:Agree cx o e e')(hs:o.dst=some s)(hx:x∈o.op.operands.toList)(hf:da cx.ann.kinds s .F≠.F->da cx.ann.kinds s .F≠.H->da cx.ann.kinds s .F≠.B->(aK cx o).wl=true)(hb:lZ cx e s t x≠.bad):lZ cx e' s t x=lZ cx e s t x:=by
 unfold lZ at hb |-;rw[A.opnd hx];cases hk:da cx.ann.kinds s .F<;>rw[hk]at hb hf<;>simp only at hb |-
 all_goals
  cases ht:cx.T t with
  |none=>rfl
  |some ti=>
   rw[ht]at hb;simp only at hb |-;have hw:=hf (by simp) (by simp) (by simp);cases hl:bL e.sl (bW s)with
   |false=>exact absurd (by rw[hl];simp) hb
   |true=>rw[A.lf hw s hs hl]
omit [Dr]in
theorem yQ{c:Call}(A:Agree cx o e e')(ho:o.op= .call c):gT cx e' gid o c=gT cx e gid o c:=by
 have hargs:∀x∈c.args.toList,x∈o.op.operands.toList:=fun x hx=>by
  rw[ho];simp[Op.operands,Call.operands];exact .inr (by simpa using hx)
 have hT:∀b:Bool,c.args.toList.map (pP b e')=c.args.toList.map (pP b e):=fun b=>by
  refine RP fun x hx=>?_;unfold pP od;rw[A.opnd (hargs x hx)]
 unfold gT;rw[A.opnds hargs,hT];cases hc:c.callee with
 |invoke r m=>rfl
 |value f=>
  have hf:f∈o.op.operands.toList:=by rw[ho];simp[Op.operands,Call.operands,hc]
  cases f with
  |func g=>rfl
  |_=>simp only;rw[A.opnd hf]
 | builtin b=>
  cases b<;>simp only
  case clear=>
   split
   ·rename_i t ts x xs hts hxs;rw[A.opnd (hargs x (by rw[hxs];simp))]
   ·rfl
  case len=>
   split
   ·rename_i t ts x xs hts hxs;rw[A.opnd (hargs x (by rw[hxs];simp))]
   ·rfl
  case append=>
   split
   ·rename_i t u x y hts hxs;have hx:=hargs x (by rw[hxs];simp);rw[A.opnd hx,A.opnd (hargs y (by rw[hxs];simp))];cases iV cx.T u with
    |false=>rfl
    | true=>
     simp only[Qa,P3];cases hha:cD cx.ann.ha o.dst with
     | true=>
      have hns:jj e' x=jj e x:=by
       cases x with
       | tmp s=>
        have hdr:(aK cx o).dr=true:=by
         unfold aK;rw[ho];simp only[hc,hha,PV]
        unfold jj;simp only;rw[A.get hx];cases (e.get s).g with
        |none=>rfl
        |some g=>simp only;rw[A.al hdr]
       |_=>rfl
      rw[hns];rfl
     | false=>
      simp only[P3];cases hn:bO x with
      |true=>rfl
      | false=>
       simp only[P3];cases x with
       | tmp s=>
        simp only;rw[A.get hx];have hdr:(aK cx o).dr=true:=by
         unfold aK;rw[ho];simp only[hc,hha,P3,hxs,hn];rfl
        cases (e.get s).g with
        |none=>rfl
        |some g=>simp only;rw[A.al hdr]
       |_=>rfl
   ·rfl
omit [Dr]in
theorem A6{k:Kind}{f g b h:Foot}(hh:h.wl=true)(h1:k≠.F)(h2:k≠.H)(h3:k≠.B):(match k with|.F=>f|.H=>g|.B=>b|_=>h).wl=true:=by
 cases k<;>first|exact absurd rfl h1|exact absurd rfl h2|exact absurd rfl h3|exact hh
omit [Dr]in
theorem CI(A:Agree cx o e e')(hb:gJ cx e gid o≠.bad):gJ cx e' gid o=gJ cx e gid o:=by
 have hm:∀ {x:Operand},x∈o.op.operands.toList->opnd e' x=opnd e x:=fun h=>A.opnd h;unfold gJ at hb |-;cases ho:o.op<;>rw[ho]at hb hm<;>simp only[Op.operands]at hm hb |-
 case move x=>exact rV A (by rw[ho];simp[Op.operands])
 case assign x=>exact rV A (by rw[ho];simp[Op.operands])
 case pick k x y=>rw[hm (x:=k) (by simp),hm (x:=x) (by simp),hm (x:=y) (by simp)]
 case box t x=>
  cases hd:o.dst with
  |none=>rfl
  |some s=>
   rw[hd]at hb;exact BZ A hd (by rw[ho];simp[Op.operands]) (fun h1 h2 h3=>by unfold aK;rw[ho,hd];exact A6 rfl h1 h2 h3) hb
 case alloc t=>
  cases hd:o.dst with
  |none=>rfl
  |some s=>
   rw[hd]at hb;exact wj A hd (fun h1 h2 h3=>by unfold aK;rw[ho,hd];exact A6 rfl h1 h2 h3) hb
 case load t x=>
  cases x with
  | tmp p=>
   simp only;rw[A.get (t:=p) (by rw[ho];simp[Op.operands])];cases hnl:cD cx.ann.nl o.dst&&jK (e.get p)with
   |true=>rfl
   | false=>
    rw[zH A (by rw[ho];simp[Op.operands]) (by
     rw[RF]at hnl;rcases hnl with h|h
     ·exact .inl (by unfold aK;rw[ho];simp[h])
     ·exact .inr h)]
  |_=>rfl
 case store t x y=>
  cases x with
  | tmp p=>
   cases hd:o.dst with
   |some d=>rfl
   |none=>
    simp only;rw[A.get (t:=p) (by rw[ho];simp[Op.operands]),yn A (by rw[ho];simp[Op.operands]) (by rw[ho];simp[Op.operands]) (by unfold aK;rw[ho])]
  |_=>rfl
 case build t ps=>rw[A.parts (l:=ps.toList) (fun p hp=>by rw[ho];simp[Op.operands];exact⟨p.1,by simpa using hp⟩)]
 case buildSlice t n ps=>rw[A.parts (l:=ps.toList) (fun p hp=>by rw[ho];simp[Op.operands];exact⟨p.1,by simpa using hp⟩)]
 case nilCheck x=>
  cases x with
  |tmp p=>simp only;rw[A.get (by rw[ho];simp[Op.operands])]
  |_=>rfl
 case binOp op t x y u=>
  have hn:∀ {x:Operand},x∈o.op.operands.toList->od e' x=od e x:=fun h=>by unfold od;rw[A.opnd h]
  rw[hn (x:=x) (by rw[ho];simp[Op.operands]),hn (x:=y) (by rw[ho];simp[Op.operands])]
 case unOp op t x=>rw[hm (x:=x) (by simp)]
 case convert s t x=>rw[hm (x:=x) (by simp)]
 case makeInterface t x=>rw[hm (x:=x) (by simp)]
 case makeFunc f x y=>
  rw[A.opnds (l:=x.toList) (fun z hz=>by rw[ho];simp[Op.operands];exact .inl (by simpa using hz)),A.opnds (l:=y.toList) (fun z hz=>by rw[ho];simp[Op.operands];exact .inr (by simpa using hz))]
 case makeSlice t x y=>rw[hm (x:=x) (by simp),hm (x:=y) (by simp)]
 case slice t x lo hi mx=>
  have h1:∀z:Option Operand,(∀y,z=some y->y∈o.op.operands.toList)->z.map (opnd e')=z.map (opnd e):=by
   intro z hz;cases z with
   |none=>rfl
   |some y=>simp only[Q3];rw[A.opnd (hz y rfl)]
  have hcut:oc cx e' gid t x lo hi mx=oc cx e gid t x lo hi mx\/cD cx.ann.so o.dst=false:=by
   cases hso:cD cx.ann.so o.dst with
   |false=>exact .inr rfl
   | true=>
    refine .inl ?_;unfold oc;cases x with
    |tmp s=>
     have hdr:(aK cx o).dr=true:=by unfold aK;rw[ho];simp only[hso,PV]
     simp only[A.get (t:=s) (by rw[ho];simp[Op.operands]),A.al hdr,hm (x:=.tmp s) (by simp),h1 lo (fun y hy=>by rw[ho];simp[Op.operands,hy])]
    |_=>rfl
  rcases hcut with hcut|hcut
  ·rw[hcut,hm (x:=x) (by simp),h1 lo (fun y hy=>by rw[ho];simp[Op.operands,hy]),h1 hi (fun y hy=>by rw[ho];simp[Op.operands,hy]),h1 mx (fun y hy=>by rw[ho];simp[Op.operands,hy])]
  rw[hcut];simp only[P3];rw[hm (x:=x) (by simp),h1 lo (fun y hy=>by rw[ho];simp[Op.operands,hy]),h1 hi (fun y hy=>by rw[ho];simp[Op.operands,hy]),h1 mx (fun y hy=>by rw[ho];simp[Op.operands,hy])]
 case fieldAddr t x i=>
  cases x with
  |tmp p=>exact wS A (by rw[ho];simp[Op.operands])
  |_=>rfl
 case indexAddr t x i=>
  cases x with
  |tmp p=>exact xp A (by rw[ho];simp[Op.operands]) (by rw[ho];simp[Op.operands])
  |global g=>simp only;rw[hm (x:=i) (by simp)];rfl
  |_=>rfl
 case field t x f=>rw[hm (x:=x) (by simp)]
 case index t x i=>rw[hm (x:=x) (by simp),hm (x:=i) (by simp)]
 case extract x i=>rw[hm (x:=x) (by simp)]
 case lookup t x i ok=>rw[hm (x:=x) (by simp),hm (x:=i) (by simp)]
 case mapUpdate t m k x=>unfold l5;rw[hm (x:=m) (by simp),hm (x:=k) (by simp),hm (x:=x) (by simp)]
 case insert t m k x=>unfold l5;rw[hm (x:=m) (by simp),hm (x:=k) (by simp),hm (x:=x) (by simp)]
 case panic x=>rw[hm (x:=x) (by simp)]
 case range t x=>rw[hm (x:=x) (by simp)]
 case entry x=>rw[hm (x:=x) (by simp)]
 case call c=>exact yQ A ho
end
end Go.Av
namespace Go.Av
variable [Dr]
def eY:Act1->M Upd
 |.bad=>f7
 |.stat u=>ay u
 |.dyn m sh=>af m fun v=>ay (sh v)
 |.thr v=>eI v
def lp(c:AV)(want:Bool)(m:M Upd):M Upd:=match c with
 |.bool b=>bif b== want then m else ay (.ofV (.tup []))
 |.tup []=>ay (.ofV (.tup []))
 |_=>f7
def gd(cx:Cx)(base:Nat)(ops:Array Oper)(i:Nat)(e:Env):M Upd:=match ops[i]? with
 |none=>f7
 | some o=>match o.guard with
  |none=>eY (gJ cx e ((base+i)*1000) o)
  |some (j,want)=>match ez ops j with
   |none=>f7
   |some t=>bif fS cx o then lp (e.av t) want (eY (iY (gJ cx e ((base+i)*1000) o)))else f7
def stepG(cx:Cx)(base:Nat)(ops:Array Oper)(i:Nat)(e:Env):M Env:=af (gd cx base ops i e) fun u=>ay (e.upd (ez ops i) u)
def bF(cx:Cx)(base:Nat)(ops:Array Oper):List Nat->Env->M Env
 |[],e=>ay e
 |i:: is,e=>af (stepG cx base ops i e) (bF cx base ops is)
omit [Dr]in
theorem mC(e:Env)(d:Option Tmp)(A:Act1):bK e d A=af (eY A) fun u=>ay (e.upd d u):=by
 cases A with
 |bad=>rfl
 |stat u=>rfl
 |dyn m sh=>simp only[bK,eY,fu,ap]
 |thr v=>rfl
omit [Dr]in
theorem mj{p:Upd->Prop}{A:Act1}(h:dp p A){x y:Hp}{u:Upd}(hr:eY A x= .ok u y):p u:=by
 cases A with
 |bad=>cases hr
 |stat v=>cases hr;exact h
 |dyn m sh=>
  simp only[eY,af,ay]at hr;cases hm:m x<;>rw[hm]at hr<;>simp at hr;rw[<- hr.1];exact h _
 |thr v=>cases hr
omit [Dr]in
theorem pn(A:Act1)(x:Hp):eY (iY A) x=(match eY A x with|.ok u y=>.ok (iu u) y|.pan v y=>.pan v y|.fail=>.fail):=by
 cases A with
 |bad=>rfl
 |stat v=>rfl
 |dyn m sh=>
  simp only[eY,iY,af,ay];cases m x<;>rfl
 |thr v=>rfl
section
variable {P:Program} {cx:Cx} {c:Entry} {N:Nat} {e:Env} {h:Hp} {a:Act} {w:World} {ops:Array Oper} {base:Nat}
def UD(base:Nat)(D:List Nat):Nat->Prop:=fun g=>g<base*1000\/∃i∈D,(base+i)*1000<=g/\g<(base+i)*1000+1000
omit [Dr]in
theorem wb{D:List Nat}{i:Nat}(hi:i ∉ D):∀g,(base+i)*1000<=g->g<(base+i)*1000+1000->¬UD base D g:=by
 rintro g h1 h2 (h3|⟨j,hj,h4,h5⟩)
 ·have:base*1000<=(base+i)*1000:=Qi _ (by omega);omega
 ·have:i=j:=by omega
  exact hi (this▸hj)
omit [Dr]in
theorem uE{D:List Nat}{i:Nat}:∀g,UG (UD base D) ((base+i)*1000) g->UD base (i:: D) g:=by
 rintro g ((h1|⟨j,hj,h2⟩)|h1)
 ·exact .inl h1
 ·exact .inr ⟨j,by simp[hj],h2⟩
 ·exact .inr ⟨i,by simp,h1⟩
structure OpsOk (N:Nat) (cx:Cx) (ops:Array Oper):Prop where
 dst:∀(i:Nat)(o:Oper),ops[i]? = some o->∀t,o.dst=some t->t<N
 src:∀(i:Nat)(o:Oper),ops[i]? = some o->∀x∈o.op.operands.toList,∀t,x= .tmp t->t<1000
 kin:∀p,Cm (da cx.ann.kinds p .L)=true->p<N
omit [Dr]in
theorem Cg{x:Array Value}{t:Nat}{b:Bool}(h:x.getD t undef= .bool b):x[t]? = some (.bool b):=by
 rw[Qz]at h;cases hx:x[t]? with
 |none=>rw[hx]at h;cases h
 |some v=>rw[hx]at h;simp at h;rw[h]
theorem C3{U:Nat->Prop}{gid:Nat}{f:Foot}{ss:Option Nat}{d:Option Tmp}{u:Upd}(hs:Shape e gid f ss u)(hw:f.wl=false)(hdr:f.dr=false)(hU:∀g z,be e.al g=some z->g≠gid){a':Act}{w':World}{h':Hp}(H:gu c N U (e.upd d u) h' a' w'):gu c N U (e.upd d (iu u)) h' a' w':=by
 obtain⟨S,β,γ,lam,ω,F⟩:=H;have h1:=hs.ls hw;have h2:=hs.lb hw;have h3:=hs.unlb hw;have h4:=hs.nodr hdr;have hget:∀t,(e.upd d (iu u)).get t=if d=some t then⟨u.ent.v,none⟩else e.get t:=fun t=>by rw[dt];rfl
 have hget':∀t,(e.upd d u).get t=if d=some t then u.ent else e.get t:=fun t=>by rw[dt,h1];rfl
 refine⟨S,β,γ,lam,ω,F.weak (fun t=>.inl ?_) (fun t g hg=>?_) (fun g z hz=>?_) (fun B n hB=>?_)⟩
 ·rw[hget,hget'];split<;>rfl
 ·rw[hget]at hg;rw[hget'];split at hg
  ·cases hg
  ·rename_i hd;rw[if_neg hd];exact hg
 ·have hz':be e.al g=some z:=hz;show be (u.add++fy e.al u.drop) g=some z;rw[h4];have hne:=hU g z hz';have:∀l:List (Nat×Option Nat),(∀x∈l,x.1=gid)->be (l++fy e.al none) g=some z:=by
   intro l
   induction l with
   |nil=>intro _;exact hz'
   | cons x l ih=>
    intro hl;obtain⟨k,y⟩:=x;rw[QC,cK,if_neg]
    ·exact ih fun x hx=>hl x (by simp[hx])
    ·have:=hl (k,y) (by simp)
     simp at this;omega
  exact this u.add (hs.add hw)
 ·show bY (mZ (e8 e.lb u.unlb) u.lb) B=some n;rw[h2,h3];exact hB
theorem sD(hT:TOK P cx.T)(hC:df P cx.own cx.call)(hO:OpsOk N cx ops){D:List Nat}{i:Nat}(hi:i ∉ D)(H:gu c N (UD base D) e h a w)(hr:stepG cx base ops i e h≠.fail){K:Act->World->Prop}{Q:Exit->Act->World->Prop}(hn:∀e' h' a' w',stepG cx base ops i e h= .ok e' h'->gu c N (UD base (i:: D)) e' h' a' w'->a'.defers=a.defers->K a' w')(hp:∀pv h' v w',stepG cx base ops i e h= .pan pv h'->mX c pv h' v w'->Q (.panic [{ v,recovered:=false }]) a w'):wpOp P ops Q i K a w:=by
 obtain⟨S,β,γ,lam,ω,F⟩:=H;unfold stepG gd at hr hn hp;simp only[wpOp];cases ho:ops[i]? with
 |none=>rw[ho]at hr;exact absurd rfl hr
 | some o=>
  have hdst:ez ops i=o.dst:=by simp[ez,ho]
  rw[hdst,ho]at hr hn hp;simp only at hr hn hp |-;have hop:=fun(hr:cb cx e ((base+i)*1000) o h≠.fail)=>Gs hT hC F (hO.dst i o ho) (wb hi) (hO.src i o ho) hO.kin hr;cases hg:o.guard with
  |none=>
   rw[hg]at hr hn hp;simp only at hr hn hp;rw[<- mC]at hr hn hp;have hw:Region.wanted o (yielded ops a.tmps)=true:=by unfold Region.wanted;rw[hg]
   rw[PS hw];exact .inl (hop hr K Q (fun e' h' a' w' h1 h2 h3=>hn e' h' a' w' h1 (h2.wider uE) h3) hp)
  | some g=>
   obtain⟨j,want⟩:=g;rw[hg]at hr hn hp;simp only at hr hn hp;have hwant:Region.wanted o (yielded ops a.tmps)=(yielded ops a.tmps j== some want):=by unfold Region.wanted;rw[hg]
   cases hdj:ez ops j with
   |none=>rw[hdj]at hr;exact absurd rfl hr
   | some t=>
    rw[hdj]at hr hn hp;simp only at hr hn hp;cases hpl:fS cx o with
    |false=>rw[hpl]at hr;exact absurd rfl hr
    |true=>
    rw[hpl]at hr hn hp;simp only[PV]at hr hn hp;have hdj':(ops[j]?).bind (·.dst)=some t:=hdj;have htN:t<N:=by
     cases hoj:ops[j]? with
     |none=>rw[hoj]at hdj';simp at hdj'
     |some oj=>rw[hoj]at hdj';exact hO.dst j oj hoj t hdj'
    have hs:=F.slots t (by have:=F.tsz.2;omega);have hav:VR S β (e.av t) (a.tmps.getD t undef):=by
     simp only[Env.av,Ent.av];cases hv:(e.get t).v with
     |val av=>rw[hv]at hs;exact hs
     |loc B off=>simp[VR]
    have hskip:(∀e' h' a' w',(R.ok (e.upd o.dst (.ofV (.tup []))) h:R Env)= .ok e' h'->gu c N (UD base (i:: D)) e' h' a' w'->a'.defers=a.defers->K a' w')->K (a.put o.dst undef) w:=by
     intro hn;exact hn _ _ _ _ rfl ⟨S,β,γ,lam,ω,(F.setV (v:=undef) (hO.dst i o ho) (by simp only[VR];exact⟨[],rfl,by simp[bQ]⟩)).wider (fun g hg=>uE g (.inl hg))⟩ (put_defers a o.dst undef)
    cases hq:e.av t with
    | bool b=>
     rw[hq]at hr hn hp hav;simp only[VR]at hav;have hy:yielded ops a.tmps j=some b:=by
      unfold yielded;rw[hdj'];simp only[Sa,Cg hav]
     rw[hwant,hy];cases hbw:(b== want)with
     | true=>
      simp only[lp,hbw,PV]at hr hn hp;have:b=want:=by simpa using hbw
      subst this;rw[PS (by simp)];simp only[fS,PO,QU]at hpl;simp only[af,pn,ay]at hr hn hp;have hact:eY (gJ cx e ((base+i)*1000) o) h≠.fail:=by
       intro hf;rw[hf]at hr;exact hr rfl
      refine .inl (hop ?_ K Q (fun e' h' a' w' h1 h2 h3=>?_) (fun pv h' v w' h1 h2=>?_))
      ·unfold cb;rw[mC];simp only[af,ay];cases hx:eY (gJ cx e ((base+i)*1000) o) h with
       |fail=>exact absurd hx hact
       |_=>simp
      ·unfold cb at h1;rw[mC]at h1;simp only[af,ay]at h1;cases hx:eY (gJ cx e ((base+i)*1000) o) h with
       |fail=>exact absurd hx hact
       |pan pv hh=>rw[hx]at h1;cases h1
       |ok u hh=>
        rw[hx]at h1 hn;simp only[R.ok.injEq]at h1;obtain⟨rfl,rfl⟩:=h1;have hsh:=mj (mz cx e ((base+i)*1000) o) hx;exact hn _ _ a' w' rfl ((C3 hsh hpl.1 hpl.2 (fun g z hz hgg=>wb hi g (by omega) (by omega) (F.used.2 g z hz)) h2).wider uE) h3
      ·unfold cb at h1;rw[mC]at h1;simp only[af,ay]at h1;cases hx:eY (gJ cx e ((base+i)*1000) o) h with
       |fail=>exact absurd hx hact
       |ok u hh=>rw[hx]at h1;cases h1
       |pan pv2 hh=>
        rw[hx]at h1 hp;simp only[R.pan.injEq]at h1;obtain⟨rfl,rfl⟩:=h1;exact hp _ _ v w' rfl h2
     |false=>
      simp only[lp,hbw,P3,ap]at hn;have:(some b== some want)=false:=by simpa using hbw
      rw[if_neg (by rw[this];simp)];exact hskip hn
    | tup vs=>
     rw[hq]at hr hn hp hav;cases vs with
     | nil=>
      simp only[lp,ap]at hn;simp only[VR,bQ]at hav;obtain⟨vs,hav,rfl⟩:=hav;have hy:yielded ops a.tmps j=none:=by
       unfold yielded;rw[hdj'];simp only[Sa];rw[Qz]at hav;cases hx:a.tmps[t]? with
       |none=>rfl
       |some v=>rw[hx]at hav;simp at hav;rw[hav]
      rw[hwant,hy,if_neg (by simp)];exact hskip hn
     |cons v vs=>exact absurd rfl hr
    |_=>rw[hq]at hr;exact absurd rfl hr
def UR(base n:Nat):Nat->Prop:=fun g=>g<(base+n)*1000
omit [Dr]in
theorem IQ{D:List Nat}{n:Nat}(h:∀i∈D,i<n):∀g,UD base D g->UR base n g:=by
 rintro g (h1|⟨i,hi,h2,h3⟩)
 ·exact QD h1 (Qi _ (by omega))
 ·have h4:(base+i)*1000+1000<=(base+n)*1000:=by
   have:=h i hi
   rw[show (base+i)*1000+1000=(base+i+1)*1000 by rw[QI _ 1]];exact Qi _ (by omega)
  exact QD h3 h4
theorem un(hT:TOK P cx.T)(hC:df P cx.own cx.call)(hO:OpsOk N cx ops){Q:Exit->Act->World->Prop}:∀(l:List Nat)(D:List Nat)(e:Env)(h:Hp)(a:Act)(w:World),l.Nodup->(∀i∈l,i ∉ D)->
  gu c N (UD base D) e h a w->bF cx base ops l e h≠.fail->
  (∀e' h' a' w',bF cx base ops l e h= .ok e' h'->gu c N (UD base (l.reverse++D)) e' h' a' w'->a'.defers=a.defers->Q .normal a' w')->
  (∀pv h' v w' a',bF cx base ops l e h= .pan pv h'->mX c pv h' v w'->a'.defers=a.defers->Q (.panic [{ v,recovered:=false }]) a' w')->wpOps P ops Q l a w
 |[],D,e,h,a,w,_,_,H,_,hn,_=>by
  simp only[wpOps];exact hn e h a w rfl (by simpa using H) rfl
 | i:: l,D,e,h,a,w,hnd,hdis,H,hr,hn,hp=>by
  simp only[bF,af]at hr hn hp;have hnd':=SA.1 hnd;rw[wpOps_cons];refine sD hT hC hO (hdis i (by simp)) H (fun hf=>by rw[hf]at hr;exact hr rfl) (fun e' h' a' w' hst hs hdf=>?_) (fun pv h' v w' hst hps=>?_)
  ·rw[hst]at hr hn hp;simp only at hr hn hp;refine un hT hC hO l (i:: D) e' h' a' w' hnd'.2 (fun j hj=>?_) hs hr (fun e2 h2 a2 w2 h1 h3 h4=>hn e2 h2 a2 w2 h1 (by simpa using h3) (h4.trans hdf)) (fun pv h2 v w2 a2 h1 h3 h4=>hp pv h2 v w2 a2 h1 h3 (h4.trans hdf));simp only[Qm,not_or];exact⟨fun hji=>hnd'.1 (hji▸hj),hdis j (by simp[hj])⟩
  ·rw[hst]at hp;exact hp pv h' v w' a rfl hps rfl
end
end Go.Av
namespace Go.Av
variable [Dr]
def bS{α:Type}(m:M α):Prop:=∃o,m=ah o
def eK{α:Type}(m:M α):Prop:=∀h,m h= .fail\/∃v,m h= .ok v h
def fk{α:Type}(m:M α):Prop:=∀h v h',m h≠.pan v h'
omit [Dr]in
theorem bS.read{α:Type}{m:M α}(h:bS m):eK m:=by
 obtain⟨o,rfl⟩:=h;intro h;cases o with
 |none=>exact .inl rfl
 |some v=>exact .inr ⟨v,rfl⟩
omit [Dr]in
theorem eK.stay{α:Type}{m:M α}(g:eK m):fk m:=by
 intro h v h' hh;rcases g h with g|⟨x,g⟩<;>rw[g]at hh<;>cases hh
omit [Dr]in
theorem bS.bnd{α β:Type}{m:M α}(h:bS m)(f:α->β):bS (af m fun v=>ay (f v)):=by
 obtain⟨o,rfl⟩:=h;cases o with
 |none=>exact⟨none,rfl⟩
 |some v=>exact⟨some (f v),rfl⟩
omit [Dr]in
theorem eK.bnd{α β:Type}{m:M α}(g:eK m)(f:α->β):eK (af m fun v=>ay (f v)):=by
 intro h;simp only[Av.af,ay];rcases g h with g|⟨x,g⟩<;>rw[g]
 ·exact .inl rfl
 ·exact .inr ⟨_,rfl⟩
omit [Dr]in
theorem fk.bnd{α β:Type}{m:M α}(g:fk m)(f:α->β):fk (af m fun v=>ay (f v)):=by
 intro h v h' hh;simp only[Av.af,ay]at hh;cases hm:m h<;>rw[hm]at hh<;>simp at hh;exact g _ _ _ hm
omit [Dr]in
theorem bS.lft{α:Type}(o:Option α):bS (ah o):=⟨o,rfl⟩
omit [Dr]in
theorem bS.pure{α:Type}(a:α):bS (ay a):=⟨some a,rfl⟩
omit [Dr]in
theorem bS.fail{α:Type}:bS (f7:M α):=⟨none,rfl⟩
def mF{α:Type}(m:M α):Prop:=∀h t v,m h= .ok v h->m (h++t)= .ok v (h++t)
def yH{α:Type}(m:M α):Prop:=∀h v h',m h= .ok v h'->∃t,h'=h++t
omit [Dr]in
theorem bS.app{α:Type}{m:M α}(h:bS m):mF m:=by
 obtain⟨o,rfl⟩:=h;intro h t v hh;cases o with
 |none=>cases hh
 |some x=>cases hh;rfl
omit [Dr]in
theorem bS.nw{α:Type}{m:M α}(h:bS m):yH m:=by
 obtain⟨o,rfl⟩:=h;intro h v h' hh;cases o with
 |none=>cases hh
 |some x=>cases hh;exact⟨[],by simp⟩
omit [Dr]in
theorem mF.bnd{α β:Type}{m:M α}(g:mF m/\eK m)(f:α->β):mF (af m fun v=>ay (f v))/\eK (af m fun v=>ay (f v)):=by
 refine⟨fun h t v hh=>?_,g.2.bnd f⟩;simp only[Av.af,ay]at hh |-;rcases g.2 h with k|⟨x,k⟩
 ·rw[k]at hh;cases hh
 ·rw[k]at hh;cases hh;rw[g.1 h t x k]
omit [Dr]in
theorem yH.bnd{α β:Type}{m:M α}(g:yH m)(f:α->β):yH (af m fun v=>ay (f v)):=by
 intro h v h' hh;simp only[Av.af,ay]at hh;cases hm:m h<;>rw[hm]at hh<;>simp at hh;obtain⟨t,ht⟩:=g _ _ _ hm;exact⟨t,by rw[<- hh.2,ht]⟩
def cC(p:∀ {α:Type},M α->Prop):Act1->Prop
 |.dyn m _=>p m
 |.thr _=>False
 |_=>True
structure IsoPure (cx:Cx):Prop where
 iso:∀f args,cx.iso f=true->bS (cx.call f args)
 nw:∀f args,cx.nw f=true->yH (cx.call f args)
section
variable {cx:Cx} {e:Env} {gid:Nat} {o:Oper}
omit [Dr]in
theorem cC.cond{p:∀ {α:Type},M α->Prop}{b:Bool}{x y:Act1}(h1:b=true->cC p x)(h2:b=false->cC p y):cC p (bif b then x else y):=by
 cases b with
 |true=>exact h1 rfl
 |false=>exact h2 rfl
omit [Dr]in
theorem cC.lft(o:Option AV)(sh:AV->Upd):cC bS (.dyn (ah o) sh):=bS.lft o
omit [Dr]in
theorem rN(T:TT)(t:TypeId)(x:AV):eK (bi T t x):=by
 have key:∀x,eK (fun h:Hp=>(match ai T t x with|some v=>R.ok v h|none=>.fail)):=by
  intro x h;cases hq:ai T t x with
  |none=>exact .inl rfl
  |some v=>exact .inr ⟨v,rfl⟩
 cases x with
 | hp l off=>
  intro h;simp only[bi];cases T t with
  |none=>exact .inl rfl
  | some ti=>
   cases h[l]? with
   |none=>exact .inl rfl
   | some cs=>
    simp only;cases ti.agg with
    |true=>
     simp only[PV];split
     ·exact .inr ⟨_,rfl⟩
     ·exact .inl rfl
    |false=>
     simp only[P3];cases cs[off]? with
     |none=>exact .inl rfl
     |some v=>exact .inr ⟨v,rfl⟩
 |_=>exact key _
omit [Dr]in
theorem ym(T:TT)(t:TypeId)(x y:AV):fk (cq T t x y):=by
 intro h v h' hh;unfold cq at hh;split at hh
 ·split at hh
  ·revert hh;generalize (_&&_:Bool)=b1;cases b1<;>simp
  ·cases hh
 ·cases hh
omit [Dr]in
theorem wD(T:TT)(t:TypeId)(x:AV):fk (uM T t x):=fun h v h' hh=>by cases hh
omit [Dr]in
theorem ud(cs:List AV):fk (newH cs):=by
 intro h v h' hh;unfold newH at hh;revert hh;generalize (_||_:Bool)=b1;cases b1<;>simp
omit [Dr]in
theorem Cy(t:Nat)(cs:List AV):fk (Ik t cs):=fun h v h' hh=>by cases hh
omit [Dr]in
theorem vp:fk qw:=fun h v h' hh=>by cases hh
omit [Dr]in
theorem zK(T:TT)(t:TypeId)(x k:AV)(ok:Bool):eK (xE T t x k ok):=fun h=>.inl rfl
omit [Dr]in
theorem Cq(T:TT)(t:TypeId)(x k:AV)(ok:Bool):mF (xE T t x k ok):=fun h s v hh=>by cases hh
omit [Dr]in
theorem xU(T:TT)(t:TypeId)(x:AV):fk (vB T t x):=fun h v h' hh=>by cases hh
omit [Dr]in
theorem wL(x:AV):eK (rc x):=fun h=>.inl rfl
omit [Dr]in
theorem zf(x:AV):mF (rc x):=fun h s v hh=>by cases hh
omit [Dr]in
theorem uh(T:TT)(t:TypeId)(x k y:AV):fk (Lx T t x k y):=fun h v h' hh=>by cases hh
omit [Dr]in
theorem BR(T:TT)(t:TypeId)(z:Bool)(x y:AV):fk (appH T t z x y):=by
 intro h v h' hh;unfold appH at hh;have hc:∀ {b:Bool} {r s:R AV},(∀v h',r≠.pan v h')->(∀v h',s≠.pan v h')->(bif b then r else s)≠.pan v h':=by
  intro b r s h1 h2;cases b
  ·exact h2 _ _
  ·exact h1 _ _
 split at hh
 ·cases hh
 ·split at hh
  ·split at hh
   ·cases hh
   ·split at hh
    ·cases hh
    ·refine hc (fun v h' hh=>?_) (fun v h' hh=>by cases hh) hh;split at hh
     ·revert hh;generalize List.isEmpty _=b1;generalize decide (_<=140737488355328)=b2;cases b1<;>cases b2<;>simp
     ·revert hh;generalize List.isEmpty _=b1;generalize decide (_<=140737488355328)=b2;cases z<;>cases b1<;>cases b2<;>simp
     ·split at hh
      ·cases hh
      ·revert hh;generalize (_&&_:Bool)=b1;generalize List.isEmpty _=b2;cases b1<;>cases b2<;>simp
     ·cases hh
  ·cases hh
omit [Dr]in
theorem BQ(T:TT)(t:TypeId)(x y:AV):fk (Hn T t x y):=fun h v h' hh=>by cases hh
omit [Dr]in
theorem wv(T:TT)(t n:Nat)(ps:List (Nat×AV)):fk (uJ T t n ps):=fun h v h' hh=>by cases hh
omit [Dr]in
theorem zM(T:TT)(t:Nat)(x y:AV):fk (Bd T t x y):=fun h v h' hh=>by cases hh
omit [Dr]in
theorem ub(told:Bool)(x:Operand):cC bS (jN told e gid x):=by
 unfold jN;split
 ·trivial
 ·exact cC.cond (fun _=>cC.cond (fun _=>trivial) (fun _=>trivial)) (fun _=>trivial)
omit [Dr]in
theorem zI(d:Option Tmp)(t:TypeId)(p:Nat):cC eK (fG cx e d t p)/\(cD cx.ann.hl d=false->cC bS (fG cx e d t p)):=by
 unfold fG;split
 ·split
  ·exact⟨trivial,fun _=>trivial⟩
  ·constructor
   ·exact cC.cond (fun _=>cC.cond (fun _=>trivial) (fun _=>cC.cond (fun _=>trivial) (fun _=>trivial))) (fun _=>trivial)
   ·exact fun _=>cC.cond (fun _=>cC.cond (fun _=>trivial) (fun _=>cC.cond (fun _=>trivial) (fun _=>trivial))) (fun _=>trivial)
 ·cases hm:cD cx.ann.hl d with
  |true=>exact⟨rN _ _ _,fun h=>by cases h⟩
  |false=>exact⟨(bS.lft _).read,fun _=>bS.lft _⟩
omit [Dr]in
theorem Cp(T:TT)(t:TypeId)(x:AV):mF (bi T t x):=by
 intro h s v hh;have hk:∀y,(match ai T t y with|some v=>R.ok v h|none=>.fail)=R.ok v h->(match ai T t y with|some v=>R.ok v (h++s)|none=>.fail)=R.ok v (h++s):=by
  intro y hy;cases hq:ai T t y with
  |none=>rw[hq]at hy;cases hy
  |some u=>rw[hq]at hy;cases hy;rfl
 unfold bi at hh |-;cases x with
 | hp l off=>
  simp only at hh |-;cases hT:T t with
  |none=>rw[hT]at hh;cases hh
  | some ti=>
   rw[hT]at hh;cases hl:h[l]? with
   |none=>rw[hl]at hh;cases hh
   | some cs=>
    have hl':(h++s)[l]? = some cs:=by
     rw[Sw]
     have:=(QB.1 hl).1
     rw[PS this,hl]
    rw[hl]at hh;rw[hl'];simp only at hh |-;cases hag:ti.agg with
    |true=>
     rw[hag]at hh;simp only[PV]at hh |-;split at hh
     ·rename_i hc;cases hh;rw[PS hc]
     ·cases hh
    |false=>
     rw[hag]at hh;simp only[P3]at hh |-;cases hq:cs[off]? with
     |none=>rw[hq]at hh;cases hh
     |some u=>rw[hq]at hh;cases hh;rfl
 |_=>exact hk _ hh
omit [Dr]in
theorem Gc(d:Option Tmp)(t:TypeId)(p:Nat):cC (fun m=>mF m/\eK m) (fG cx e d t p):=by
 unfold fG;split
 ·split
  ·trivial
  ·exact cC.cond (fun _=>cC.cond (fun _=>trivial) (fun _=>cC.cond (fun _=>trivial) (fun _=>trivial))) (fun _=>trivial)
 ·cases hm:cD cx.ann.hl d with
  |true=>exact⟨Cp _ _ _,rN _ _ _⟩
  |false=>exact⟨(bS.lft _).app,(bS.lft _).read⟩
omit [Dr]in
theorem FO{A:Act1}(h:cC fk A):cC fk (MN A):=trivial
omit [Dr]in
theorem zn(t p i:Nat):cC bS (jk cx e t p i):=by
 unfold jk;split
 ·split
  ·trivial
  ·split
   ·trivial
   ·split
    ·trivial
    ·exact cC.cond (fun _=>trivial) (fun _=>trivial)
 ·exact bS.lft _
omit [Dr]in
theorem zA(t p:Nat)(i:Operand):cC bS (eE cx e t p i):=by
 unfold eE;split
 ·split
  ·split
   ·split
    ·trivial
    ·exact cC.cond (p:=bS) (fun _=>trivial) (fun _=>trivial)
   ·trivial
  ·trivial
 ·exact bS.lft _
omit [Dr]in
theorem Aj(t p:Nat)(y:Operand):cC fk (gU cx e gid t p y):=by
 have hl:∀o:Option AV,fk (Av.ah o):=fun o=>(bS.lft o).read.stay;unfold gU;split
 ·split
  ·trivial
  ·refine cC.cond (fun _=>cC.cond (fun _=>cC.cond (fun _=>hl _) (fun _=>trivial)) (fun _=>cC.cond (fun _=>hl _) (fun _=>cC.cond (fun _=>?_) (fun _=>trivial)))) (fun _=>trivial);split
   ·split
    ·exact hl _
    ·trivial
   ·exact cC.cond (fun _=>trivial) (fun _=>hl _)
 ·exact ym _ _ _ _
omit [Dr]in
theorem Ai(t p:Nat)(y:Operand)(hl:jK (e.get p)=true):cC bS (gU cx e gid t p y):=by
 have hl':∀o:Option AV,bS (Av.ah o):=fun o=>bS.lft o;unfold gU;cases hv:(e.get p).v with
 |val a=>simp[jK,hv]at hl
 | loc B off=>
  simp only;split
  ·trivial
  ·refine cC.cond (fun _=>cC.cond (fun _=>cC.cond (fun _=>hl' _) (fun _=>trivial)) (fun _=>cC.cond (fun _=>hl' _) (fun _=>cC.cond (fun _=>?_) (fun _=>trivial)))) (fun _=>trivial);split
   ·split
    ·exact hl' _
    ·trivial
   ·exact cC.cond (fun _=>trivial) (fun _=>hl' _)
omit [Dr]in
theorem lH(s t:Nat):cC fk (gS cx e gid s t)/\(da cx.ann.kinds s .L≠.H->da cx.ann.kinds s .L≠.B->cC bS (gS cx e gid s t)):=by
 unfold gS;split
 ·exact⟨trivial,fun _ _=>trivial⟩
 ·cases hk:da cx.ann.kinds s .L with
  |F=>exact⟨trivial,fun _ _=>trivial⟩
  |H=>exact⟨ud _,fun h=>absurd rfl h⟩
  |B=>exact⟨Cy _ _,fun _ h=>absurd rfl h⟩
  |L=>exact⟨cC.cond (fun _=>trivial) (fun _=>trivial),fun _ _=>cC.cond (fun _=>trivial) (fun _=>trivial)⟩
  |S=>exact⟨cC.cond (fun _=>trivial) (fun _=>trivial),fun _ _=>cC.cond (fun _=>trivial) (fun _=>trivial)⟩
omit [Dr]in
theorem tn(s t:Nat)(x:Operand):cC fk (lZ cx e s t x)/\(da cx.ann.kinds s .F≠.H->cC bS (lZ cx e s t x)):=by
 have hl:∀o:Option AV,fk (Av.ah o):=fun o=>(bS.lft o).read.stay;unfold lZ;cases hk:da cx.ann.kinds s .F with
 |F=>exact⟨trivial,fun _=>trivial⟩
 |H=>exact⟨ud _,fun h=>absurd rfl h⟩
 |B=>exact⟨trivial,fun _=>trivial⟩
 |L=>
  simp only;split
  ·exact⟨trivial,fun _=>trivial⟩
  ·exact⟨cC.cond (fun _=>hl _) (fun _=>trivial),fun _=>cC.cond (fun _=>bS.lft _) (fun _=>trivial)⟩
 |S=>
  simp only;split
  ·exact⟨trivial,fun _=>trivial⟩
  ·exact⟨cC.cond (fun _=>hl _) (fun _=>trivial),fun _=>cC.cond (fun _=>bS.lft _) (fun _=>trivial)⟩
structure Class (f:Foot) (A:Act1):Prop where
 stay:f.piv=false->cC fk A
 read:f.wh=false->cC eK A
 pure:f.wh=false->f.rh=false->cC bS A
 app:f.wh=false->cC (fun m=>mF m/\eK m) A
 nw:f.nw=true->cC yH A
omit [Dr]in
theorem cC.imp{p q:∀ {α:Type},M α->Prop}(hpq:∀ {α:Type} (m:M α),p m->q m){A:Act1}(h:cC p A):cC q A:=by
 cases A<;>first|trivial|exact hpq _ h|exact h
omit [Dr]in
theorem Class.of_pure{f:Foot}{A:Act1}(h:cC bS A):Class f A:=
 ⟨fun _=>h.imp fun _ g=>g.read.stay,fun _=>h.imp fun _ g=>g.read,fun _ _=>h,fun _=>h.imp fun _ g=>⟨g.app,g.read⟩,fun _=>h.imp fun _ g=>g.nw⟩
omit [Dr]in
theorem mF.nw{α:Type}{m:M α}(h:eK m):yH m:=fun x v h' hh=>by
 rcases h x with g|⟨u,g⟩
 ·rw[g]at hh;cases hh
 ·rw[g]at hh;cases hh;exact⟨[],by simp⟩
omit [Dr]in
theorem Class.of_app{f:Foot}{A:Act1}(_hw:f.wh=false)(hr:f.rh=true)(h:cC (fun m=>mF m/\eK m) A):Class f A:=
 ⟨fun _=>h.imp fun _ g=>g.2.stay,fun _=>h.imp fun _ g=>g.2,fun _ h=>by(rw[hr]at h;cases h),fun _=>h,fun _=>h.imp fun _ g=>mF.nw g.2⟩
omit [Dr]in
theorem td(T:TT)(t:TypeId)(x y:AV):eK (wm T t x y):=by
 intro h;unfold wm;cases s6 h y with
 |none=>exact .inl rfl
 |some es=>
  simp only;cases cf T t x (.sl es)with
  |none=>exact .inl rfl
  |some v=>exact .inr ⟨v,rfl⟩
omit [Dr]in
theorem GR{h s:Hp}{y:AV}{es:List AV}(hh:s6 h y=some es):s6 (h++s) y=some es:=by
 unfold s6 at hh |-;split at hh
 ·rename_i l off len sz ag;cases hl:h[l]? with
  |none=>rw[hl]at hh;cases hh
  | some cs=>
   rw[hl]at hh;have hl':(h++s)[l]? = some cs:=by
    rw[Sw]
    have:=(QB.1 hl).1
    rw[PS this,hl]
   simp only[hl'];exact hh
 ·exact hh
 ·exact hh
 ·cases hh
omit [Dr]in
theorem wn(T:TT)(t:TypeId)(x y:AV):mF (wm T t x y):=by
 intro h s v hh;unfold wm at hh |-;cases hs:s6 h y with
 |none=>rw[hs]at hh;cases hh
 |some es=>
  rw[hs]at hh;rw[GR hs];simp only at hh |-;cases ha:cf T t x (.sl es)with
  |none=>rw[ha]at hh;cases hh
  |some u=>rw[ha]at hh;cases hh;rfl
omit [Dr]in
theorem Class.of_stay{f:Foot}{A:Act1}(hw:f.wh=true)(hn:f.nw=false)(h:cC fk A):Class f A:=
 ⟨fun _=>h,fun h=>by(rw[hw]at h;cases h),fun h=>by(rw[hw]at h;cases h),fun h=>by(rw[hw]at h;cases h),fun h=>by(rw[hn]at h;cases h)⟩
omit [Dr]in
theorem Class.of_piv{f:Foot}{A:Act1}(hw:f.wh=true)(h:f.piv=true)(hn:f.nw=true->cC yH A):Class f A:=
 ⟨fun h'=>by(rw[h]at h';cases h'),fun h=>by(rw[hw]at h;cases h),fun h=>by(rw[hw]at h;cases h),fun h=>by(rw[hw]at h;cases h),hn⟩
omit [Dr]in
theorem yR(hI:IsoPure cx){c:Call}(ho:o.op= .call c):Class (aK cx o) (gT cx e gid o c):=by
 unfold gT;cases hc:c.callee with
 |invoke r m=>exact .of_pure trivial
 | value x=>
  cases x with
  | func f=>
   simp only;cases hfz:cD cx.ann.fz o.dst with
   | true=>
    simp only[PV];cases hq:!(cx.iso f)&&!(cx.nw f)&&(cx.own f).isNone with
    |false=>exact .of_pure trivial
    |true=>
     simp only[PO,QU]at hq;exact .of_piv (by unfold aK;rw[ho];simp only[hc,hq.1.1,P3]) (by unfold aK;rw[ho];simp only[hc,hq.1.1,P3]) fun hn=>by unfold aK at hn;rw[ho]at hn;simp only[hc,hq.1.1,P3,hq.1.2]at hn;cases hn
   |false=>
   simp only[P3];cases hi:cx.iso f with
   |true=>exact .of_pure (hI.iso f _ hi)
   |false=>exact .of_piv (by unfold aK;rw[ho];simp only[hc,hi,P3]) (by unfold aK;rw[ho];simp only[hc,hi,P3]) fun hn=>hI.nw f _ (by unfold aK at hn;rw[ho]at hn;simpa only[hc,hi,P3]using hn)
  |_=>exact .of_piv (by unfold aK;rw[ho];simp only[hc]) (by unfold aK;rw[ho];simp only[hc]) fun hn=>by unfold aK at hn;rw[ho]at hn;simp[hc]at hn
 | builtin b=>
  cases b<;>simp only<;>(try exact .of_pure trivial)
  case clear=>
   have hw:(aK cx o).wh=true/\(aK cx o).nw=false:=by unfold aK;rw[ho];simp only[hc];exact⟨trivial,trivial⟩
   split
   ·exact .of_stay hw.1 hw.2 (wD _ _ _)
   ·exact .of_pure trivial
  case append=>
   split
   ·cases hu:iV cx.T _ with
    |false=>exact .of_pure trivial
    | true=>
     simp only[Qa,P3];cases hha:cD cx.ann.ha o.dst with
     | true=>exact .of_stay (by unfold aK;rw[ho];simp only[hc,hha,PV]) (by unfold aK;rw[ho];simp only[hc,hha,PV]) (by
       cases cD cx.ann.hb o.dst with
       |true=>simp only[PV];exact BQ _ _ _ _
       |false=>exact BR _ _ _ _ _)
     | false=>
      simp only[P3];cases hhl:cD cx.ann.hl o.dst with
      | true=>
       refine .of_app (by unfold aK;rw[ho];simp only[hc,hha,P3]) (by unfold aK;rw[ho];simp only[hc,hha,hhl,P3]) ?_;simp only[PV];refine cC.cond (fun _=>⟨wn _ _ _ _,td _ _ _ _⟩) (fun _=>?_);split
       ·split
        ·trivial
        ·split
         ·trivial
         ·exact cC.cond (fun _=>⟨wn _ _ _ _,td _ _ _ _⟩) (fun _=>trivial)
       ·trivial
      | false=>
       refine .of_pure ?_;simp only[P3];refine cC.cond (fun _=>bS.lft _) (fun _=>?_);split
       ·split
        ·trivial
        ·split
         ·trivial
         ·exact cC.cond (fun _=>bS.lft _) (fun _=>trivial)
       ·trivial
   ·exact .of_pure trivial
  case len=>
   split
   ·exact .of_pure (bS.lft _)
   ·exact .of_pure trivial
  case min=>exact .of_pure (bS.lft _)
  case max=>exact .of_pure (bS.lft _)
omit [Dr]in
theorem fQ(hI:IsoPure cx)(e:Env)(gid:Nat)(o:Oper):Class (aK cx o) (gJ cx e gid o):=by
 unfold gJ;cases ho:o.op<;>simp only<;>(try exact .of_pure (bS.lft _))<;>(try exact .of_pure trivial)
 case binOp=>exact .of_pure (cC.cond (fun _=>trivial) fun _=>bS.lft _)
 case buildSlice t n ps=>
  cases hha:cD cx.ann.ha o.dst with
  |true=>exact .of_stay (by unfold aK;rw[ho];simp only[hha,PV]) (by unfold aK;rw[ho];simp only[hha,PV]) (wv _ _ _ _)
  |false=>exact .of_pure (bS.lft _)
 case makeSlice t x y=>
  cases hha:cD cx.ann.ha o.dst with
  |true=>exact .of_stay (by unfold aK;rw[ho];simp only[hha,PV]) (by unfold aK;rw[ho];simp only[hha,PV]) (zM _ _ _ _)
  |false=>exact .of_pure (bS.lft _)
 case move x=>exact .of_pure (ub _ x)
 case assign x=>exact .of_pure (ub _ x)
 case box t x=>
  cases hd:o.dst with
  |none=>exact .of_pure trivial
  |some s=>
   cases hk:da cx.ann.kinds s .F with
   |H=>exact .of_stay (by unfold aK;rw[ho];simp only[hd,hk]) (by unfold aK;rw[ho];simp only[hd,hk]) (tn s t x).1
   |_=>exact .of_pure ((tn s t x).2 (by rw[hk];simp))
 case alloc t=>
  cases hd:o.dst with
  |none=>exact .of_pure trivial
  |some s=>
   cases hk:da cx.ann.kinds s .L with
   |H=>exact .of_stay (by unfold aK;rw[ho];simp only[hd,hk]) (by unfold aK;rw[ho];simp only[hd,hk]) (lH s t).1
   |B=>exact .of_stay (by unfold aK;rw[ho];simp only[hd,hk]) (by unfold aK;rw[ho];simp only[hd,hk]) (lH s t).1
   |_=>exact .of_pure ((lH s t).2 (by rw[hk];simp) (by rw[hk];simp))
 case load t x=>
  cases x with
  |tmp p=>
   have h:=zI (cx:=cx) (e:=e) o.dst t p;simp only;cases hnl:cD cx.ann.nl o.dst&&jK (e.get p)with
   |true=>exact .of_pure trivial
   |false=>
   simp only[P3];cases hz:cD cx.ann.fz o.dst with
   |true=>exact .of_stay (by unfold aK;rw[ho];exact hz) (by unfold aK;rw[ho]) (FO (h.1.imp fun _ g=>g.stay))
   |false=>exact⟨fun _=>h.1.imp fun _ g=>g.stay,fun _=>h.1,fun _ hr=>h.2 (by unfold aK at hr;rw[ho]at hr;exact hr),fun _=>Gc o.dst t p,fun hn=>by unfold aK at hn;rw[ho]at hn;cases hn⟩
  |_=>exact .of_pure trivial
 case store t x y=>
  cases x with
  | tmp p=>
   cases hd:o.dst with
   |some d=>exact .of_pure trivial
   | none=>
    simp only;cases hlw:gA cx.ann.lw p with
    |false=>exact .of_stay (by unfold aK;rw[ho];simp[hlw]) (by unfold aK;rw[ho]) (by simp only[QZ,P3];exact Aj t p y)
    |true=>
     cases hlo:jK (e.get p)with
     |false=>exact .of_pure trivial
     |true=>exact .of_pure (by simp only[Qa,RI,P3];exact Ai t p y hlo)
  |_=>exact .of_pure trivial
 case nilCheck x=>
  cases x with
  |tmp p=>
   simp only;split
   ·exact .of_pure trivial
   ·exact .of_pure (bS.lft _)
  |_=>exact .of_pure trivial
 case fieldAddr t x i=>cases x<;>first|exact .of_pure (zn _ _ _)|exact .of_pure trivial
 case indexAddr t x i=>cases x<;>first|exact .of_pure (zA _ _ _)|exact .of_pure (bS.lft _)|exact .of_pure trivial
 case slice t x lo hi mx=>
  refine .of_pure (cC.cond (fun _=>?_) fun _=>bS.lft _);unfold oc;split
  ·split
   ·trivial
   ·split
    ·exact cC.cond (fun _=>bS.lft _) fun _=>trivial
    ·trivial
  ·trivial
 case makeMap t r=>exact .of_stay (by unfold aK;rw[ho]) (by unfold aK;rw[ho]) (cC.cond (fun _=>trivial) fun _=>vp)
 case lookup t x i ok=>exact .of_app (by unfold aK;rw[ho]) (by unfold aK;rw[ho]) ⟨Cq _ _ _ _ _,zK _ _ _ _ _⟩
 case mapUpdate t m k x=>exact .of_stay (by unfold aK;rw[ho]) (by unfold aK;rw[ho]) (by unfold l5;split;exact uh _ _ _ _ _;trivial)
 case insert t m k x=>exact .of_stay (by unfold aK;rw[ho]) (by unfold aK;rw[ho]) (by unfold l5;split;exact uh _ _ _ _ _;trivial)
 case range t x=>exact .of_stay (by unfold aK;rw[ho]) (by unfold aK;rw[ho]) (xU _ _ _)
 case entry x=>exact .of_app (by unfold aK;rw[ho]) (by unfold aK;rw[ho]) ⟨zf _,wL _⟩
 case panic x=>
  refine .of_piv ?_ ?_ ?_
  ·unfold aK;rw[ho]
  ·unfold aK;rw[ho]
  ·intro hn;unfold aK at hn;rw[ho]at hn;cases hn
 case call c=>exact yR hI ho
end
end Go.Av
namespace Go.Av
variable [Dr]
structure EqE (e e':Env):Prop where
 get:∀t,e'.get t=e.get t
 al:∀g,be e'.al g=be e.al g
 lb:∀B,bY e'.lb B=bY e.lb B
 lf:∀B,bL e'.sl B=bL e.sl B
omit [Dr]in
theorem EqE.refl(e:Env):EqE e e:=⟨fun _=>rfl,fun _=>rfl,fun _=>rfl,fun _=>rfl⟩
omit [Dr]in
theorem EqE.symm{e e':Env}(h:EqE e e'):EqE e' e:=⟨fun t=>(h.get t).symm,fun t=>(h.al t).symm,fun t=>(h.lb t).symm,fun t=>(h.lf t).symm⟩
omit [Dr]in
theorem EqE.trans{a b c:Env}(h:EqE a b)(g:EqE b c):EqE a c:=
 ⟨fun t=>(g.get t).trans (h.get t),fun t=>(g.al t).trans (h.al t),fun t=>(g.lb t).trans (h.lb t),fun t=>(g.lf t).trans (h.lf t)⟩
def RE:R Env->R Env->Prop
 |.fail,_=>True
 |.ok e h,r=>∃e',r= .ok e' h/\EqE e e'
 |.pan v h,r=>r= .pan v h
omit [Dr]in
theorem RE.refl(r:R Env):RE r r:=by
 cases r with
 |ok e h=>exact⟨e,rfl,.refl e⟩
 |pan v h=>exact rfl
 |fail=>trivial
omit [Dr]in
theorem RE.trans{a b c:R Env}(h:RE a b)(g:RE b c):RE a c:=by
 cases a with
 |ok e x=>
  obtain⟨e',rfl,h⟩:=h;obtain⟨e2,rfl,g⟩:=g;exact⟨e2,rfl,h.trans g⟩
 |pan v x=>cases h;exact g
 |fail=>trivial
omit [Dr]in
theorem kz(l r:List (Nat×Ent))(t:Nat):cF (l++r) t=if(∃x∈l,x.1=t)then cF l t else cF r t:=by
 induction l with
 |nil=>simp
 | cons x l ih=>
  obtain⟨k,y⟩:=x;rw[QC,cY,cY];by_cases hk:k=t
  ·subst hk;simp
  ·rw[if_neg hk,if_neg hk,ih];have:(∃x∈(k,y):: l,x.1=t)↔(∃x∈l,x.1=t):=by
    simp only[Qm,exists_eq_or_imp];constructor
    ·rintro (h|h)
     ·exact absurd h hk
     ·exact h
    ·exact .inr
   simp only[this]
omit [Dr]in
theorem rR{l:List (Nat×Ent)}(r:List (Nat×Ent)){t:Nat}(h:∀x∈l,x.1≠t):cF (l++r) t=cF r t:=by
 rw[kz,if_neg];rintro⟨x,hx,ht⟩;exact h x hx ht
omit [Dr]in
theorem kA(d:Option Tmp)(x:Ent)(r:List (Nat×Ent))(t:Nat):cF (sP d x r) t=if d=some t then x else cF r t:=by
 cases d with
 |none=>simp[sP]
 |some s=>simp only[sP,cY,PN]
omit [Dr]in
theorem pO{l r s:List (Nat×Ent)}{t:Nat}(h:cF r t=cF s t):cF (l++r) t=cF (l++s) t:=by
 rw[kz,kz,h]
omit [Dr]in
theorem iN(l r:List (Nat×Ent))(B:Nat):bL (l++r) B=(bL l B&&bL r B):=by
 unfold bL;rw[List.all_append]
def nE(x:Ent)(B:Nat):Bool:=match x.v with
 |.loc C _=>!(Nat.beq C B)
 |.val _=>true
omit [Dr]in
theorem fE(d:Option Tmp)(x:Ent)(r:List (Nat×Ent))(B:Nat):bL (sP d x r) B=((d.isNone||nE x B)&&bL r B):=by
 cases d with
 |none=>simp[sP]
 |some t=>rfl
omit [Dr]in
theorem nV{l:List (Nat×Ent)}{B t C off:Nat}(h:bL l B=true)(ht:(cF l t).v= .loc C off):C≠B:=by
 induction l with
 |nil=>simp[cF,Ent.none]at ht
 | cons x l ih=>
  obtain⟨k,y⟩:=x;rw[cY]at ht;simp only[bL,QH,PO]at h;split at ht
  ·rw[ht]at h;have h1:=h.1;simp only[QU]at h1;intro hc;rw[hc,SK]at h1;cases h1
  ·exact ih (by unfold bL;exact h.2) ht
omit [Dr]in
theorem fA(l r:List (Nat×Option Nat))(g:Nat):be (l++r) g=(match be l g with|some z=>some z|none=>be r g):=by
 induction l with
 |nil=>rfl
 |cons x l ih=>
  obtain⟨k,y⟩:=x;rw[QC,cK,cK];split
  ·rfl
  ·exact ih
omit [Dr]in
theorem po{l:List (Nat×Option Nat)}{k g:Nat}(h:∀x∈l,x.1=k)(hg:g≠k):be l g=none:=by
 induction l with
 |nil=>rfl
 | cons x l ih=>
  obtain⟨j,y⟩:=x;rw[cK,if_neg]
  ·exact ih fun x hx=>h x (by simp[hx])
  ·have:=h (j,y) (by simp)
   simp at this;omega
omit [Dr]in
theorem nU(r:List (Nat×Nat))(k B:Nat):bY (mP r k) B=if k=B then none else bY r B:=by
 induction r with
 |nil=>simp[mP,bY]
 | cons x r ih=>
  obtain⟨j,y⟩:=x;simp only[mP];by_cases hj:j=k
  ·subst hj;simp only[SK,PV,ih,e7];split<;>rfl
  ·have:Nat.beq j k=false:=by rw[Q9];intro hh;exact hj (Qc hh)
   simp only[this,P3,e7,ih];by_cases hg:j=B
   ·subst hg;rw[PS rfl,if_neg (fun h=>hj h.symm),PS rfl]
   ·rw[if_neg hg,if_neg hg]
omit [Dr]in
theorem EqE.upd{e e':Env}(h:EqE e e')(d:Option Tmp)(u:Upd):EqE (e.upd d u) (e'.upd d u):=by
 refine⟨fun t=>?_,fun g=>?_,fun B=>?_,fun B=>?_⟩
 ·show cF (sP d u.ent (u.ls++e'.sl)) t=cF (sP d u.ent (u.ls++e.sl)) t;rw[kA,kA,pO (h.get t)]
 ·show be (u.add++fy e'.al u.drop) g=be (u.add++fy e.al u.drop) g;have:be (fy e'.al u.drop) g=be (fy e.al u.drop) g:=by
   cases u.drop with
   |none=>exact h.al g
   |some k=>simp only[fy,lF,h.al g]
  rw[fA,fA,this]
 ·show bY (mZ (e8 e'.lb u.unlb) u.lb) B=bY (mZ (e8 e.lb u.unlb) u.lb) B;have:bY (e8 e'.lb u.unlb) B=bY (e8 e.lb u.unlb) B:=by
   cases u.unlb with
   |none=>exact h.lb B
   |some k=>simp only[e8,nU,h.lb B]
  cases u.lb with
  |none=>exact this
  |some x=>
   obtain⟨k,n⟩:=x;simp only[mZ,e7,this]
 ·show bL (sP d u.ent (u.ls++e'.sl)) B=bL (sP d u.ent (u.ls++e.sl)) B;rw[fE,fE,iN,iN,h.lf B]
section
variable {cx:Cx} {ops:Array Oper} {base:Nat}
def fP(ops:Array Oper)(o:Oper):List Nat:=match o.guard with
 |some (j,_)=>(match (ops[j]?).bind (·.dst)with|some t=>[t]|none=>[])
 |none=>[]
omit [Dr]in
theorem io{i:Nat}{o:Oper}(ho:ops[i]? = some o):dN ops i=fP ops o++kg o:=by
 unfold dN fP;rw[ho];rfl
omit [Dr]in
theorem ic{e e':Env}{i:Nat}{o:Oper}(ho:ops[i]? = some o)(hg:∀t∈fP ops o,e'.get t=e.get t)(A:Agree cx o e e'){h:Hp}(hr:gd cx base ops i e h≠.fail):gd cx base ops i e' h=gd cx base ops i e h:=by
 unfold gd at hr |-;rw[ho]at hr;rw[ho];simp only at hr |-;have key:∀ {A':Act1->Act1} ,(∀h,eY (A' .bad) h= .fail)->eY (A' (gJ cx e ((base+i)*1000) o)) h≠.fail->eY (A' (gJ cx e' ((base+i)*1000) o)) h=eY (A' (gJ cx e ((base+i)*1000) o)) h:=by
  intro A' h1 h2;rw[CI A];intro hb;rw[hb]at h2;exact h2 (h1 h)
 cases hgd:o.guard with
 |none=>
  rw[hgd]at hr;exact key (A':=id) (fun _=>rfl) hr
 | some g=>
  obtain⟨j,want⟩:=g;rw[hgd]at hr;simp only at hr |-;cases hdj:ez ops j with
  |none=>rfl
  | some t=>
   rw[hdj]at hr;simp only at hr |-;cases hpl:fS cx o with
   |false=>rfl
   | true=>
    rw[hpl]at hr;simp only[PV]at hr |-;have ht:e'.get t=e.get t:=hg t (by unfold fP;rw[hgd];simp only;rw[show (ops[j]?).bind (·.dst)=some t from hdj];simp);have hav:e'.av t=e.av t:=by simp only[Env.av,ht]
    rw[hav];cases hq:e.av t with
    | bool b=>
     rw[hq]at hr;simp only[lp]at hr |-;cases hb:(b== want)with
     |false=>rfl
     |true=>
      rw[hb]at hr;exact key (A':=iY) (fun _=>rfl) hr
    |tup vs=>cases vs<;>rfl
    |_=>rfl
omit [Dr]in
theorem EqE.agree{e e':Env}(h:EqE e e')(o:Oper):Agree cx o e e':=
 ⟨fun t _=>h.get t,fun _=>⟨fun t _=>h.get t,h.lb⟩,fun _=>h.al,fun _ s _ hl=>by rw[h.lf];exact hl⟩
omit [Dr]in
theorem yl{e e':Env}(h:EqE e e')(i:Nat)(x:Hp):RE (stepG cx base ops i e x) (stepG cx base ops i e' x):=by
 unfold stepG;simp only[af,ay];cases hr:gd cx base ops i e x with
 |fail=>trivial
 | _=>
  have ho:∃o,ops[i]? = some o:=by
   cases ho:ops[i]? with
   |none=>unfold gd at hr;rw[ho]at hr;cases hr
   |some o=>exact⟨o,rfl⟩
  obtain⟨o,ho⟩:=ho;rw[ic ho (fun t _=>h.get t) (h.agree o) (by rw[hr];simp),hr]
  first
   |exact⟨_,rfl,h.upd _ _⟩
   |exact rfl
omit [Dr]in
theorem RE.bind{m m':M Env}{x x':Hp}(h:RE (m x) (m' x')){f f':Env->M Env}(hf:∀e e' x,EqE e e'->RE (f e x) (f' e' x)):RE (af m f x) (af m' f' x'):=by
 simp only[af];revert h;generalize m x=r;generalize m' x'=r';intro h;cases r with
 |ok e x=>obtain⟨e',rfl,h⟩:=h;exact hf e e' x h
 |pan v x=>cases h;exact rfl
 |fail=>trivial
omit [Dr]in
theorem ol:∀(l:List Nat){e e':Env}(_:EqE e e')(x:Hp),RE (bF cx base ops l e x) (bF cx base ops l e' x)
 |[],e,e',h,x=>⟨e',rfl,h⟩
 |i:: l,e,e',h,x=>by
  exact RE.bind (yl h i x) fun e e' x h=>ol l h x
end
end Go.Av
namespace Go.Av
variable [Dr]
omit [Dr]in
theorem xI{l:List Nat}{t:Nat}(h:t∈l):gA l t=true:=(iO l t).2 h
omit [Dr]in
theorem nX{l:List Nat}{d:Option Nat}(h:cD l d=false):∀t∈l,d≠some t:=by
 intro t ht hd;rw[hd]at h;simp only[cD]at h;rw[xI ht]at h;cases h
omit [Dr]in
theorem oX{a b:Option Nat}(h:clash a b=false):∀t,a=some t->b≠some t:=by
 intro t ha hb;rw[ha,hb]at h;simp[clash]at h
section
variable {cx:Cx} {ops:Array Oper} {base:Nat} {e:Env}
omit [Dr]in
theorem vL{gid:Nat}{f:Foot}{ss:Option Nat}{u:Upd}(h:Shape e gid f ss u):Shape e gid f ss (iu u):=
 ⟨fun _=>rfl,fun _=>rfl,fun _=>rfl,fun _ x h=>by simp[iu]at h,fun _=>rfl,fun _=>rfl,fun hw C off hh=>h.loc hw C off hh,fun x h=>by simp[iu]at h⟩
omit [Dr]in
theorem Ak{p q:Upd->Prop}(hpq:∀u,p u->q (iu u)){A:Act1}(h:dp p A):dp q (iY A):=by
 cases A with
 |bad=>trivial
 |stat u=>exact hpq _ h
 |dyn m sh=>exact fun v=>hpq _ (h v)
 |thr v=>trivial
omit [Dr]in
theorem GU{p:∀ {α:Type},M α->Prop}{A:Act1}(h:cC p A):cC p (iY A):=by
 cases A<;>exact h
omit [Dr]in
theorem qN{i:Nat}{o:Oper}(ho:ops[i]? = some o){h h':Hp}{u:Upd}(hr:gd cx base ops i e h= .ok u h'):Shape e ((base+i)*1000) (aK cx o) (de o) u:=by
 unfold gd at hr;rw[ho]at hr;simp only at hr;cases hgd:o.guard with
 |none=>rw[hgd]at hr;exact mj (mz _ _ _ _) hr
 | some g=>
  obtain⟨j,want⟩:=g;rw[hgd]at hr;simp only at hr;cases hdj:ez ops j with
  |none=>rw[hdj]at hr;cases hr
  | some t=>
   rw[hdj]at hr;simp only at hr;cases hpl:fS cx o with
   |false=>rw[hpl]at hr;cases hr
   | true=>
    rw[hpl]at hr;simp only[PV]at hr;have h0:∀ {h h':Hp},(ay (Upd.ofV (.tup [])):M Upd) h= .ok u h'->Shape e ((base+i)*1000) (aK cx o) (de o) u:=by
     intro h h' hh;cases hh;exact Shape.ofV ..
    generalize e.av t=q at hr;cases q with
    |bool b=>
     simp only[lp]at hr;cases hb:(b== want)with
     |false=>rw[hb]at hr;exact h0 hr
     |true=>rw[hb]at hr;exact mj (Ak (fun u=>vL) (mz _ _ _ _)) hr
    |tup vs=>
     cases vs with
     |nil=>exact h0 hr
     |cons v vs=>cases hr
    |_=>cases hr
omit [Dr]in
theorem AC{p:∀ {α:Type},M α->Prop}(h1:∀ {α:Type} (m:M α),bS m->p m)(h2:∀ {α β:Type} (m:M α) (f:α->β),p m->p (af m fun v=>ay (f v))){A:Act1}(h:cC p A):p (eY A):=by
 cases A with
 |bad=>exact h1 _ bS.fail
 |stat u=>exact h1 _ (bS.pure u)
 |dyn m sh=>exact h2 _ _ h
 |thr v=>exact h.elim
omit [Dr]in
theorem kO{p:∀ {α:Type},M α->Prop}(h1:∀ {α:Type} (m:M α),bS m->p m)(h2:∀ {α β:Type} (m:M α) (f:α->β),p m->p (af m fun v=>ay (f v))){i:Nat}{o:Oper}(ho:ops[i]? = some o)(h:cC p (gJ cx e ((base+i)*1000) o)):p (gd cx base ops i e):=by
 unfold gd;rw[ho];simp only;cases hgd:o.guard with
 |none=>exact AC h1 h2 h
 | some g=>
  obtain⟨j,want⟩:=g;simp only;cases hdj:ez ops j with
  |none=>exact h1 _ bS.fail
  | some t=>
   simp only;cases hpl:fS cx o with
   |false=>exact h1 _ bS.fail
   | true=>
    simp only[PV];unfold lp;split
    ·rename_i b _;cases hb:(b== want)with
     |false=>exact h1 _ (bS.pure _)
     |true=>exact AC h1 h2 (GU h)
    ·exact h1 _ (bS.pure _)
    ·exact h1 _ bS.fail
structure Small (ops:Array Oper):Prop where
 dst:∀(i:Nat)(o:Oper),ops[i]? = some o->∀t,o.dst=some t->t<1000
 src:∀(i:Nat)(o:Oper),ops[i]? = some o->∀t∈kg o,t<1000
omit [Dr]in
theorem Small.reads(hS:Small ops){i:Nat}{o:Oper}(ho:ops[i]? = some o):∀t∈dN ops i,t<1000:=by
 intro t ht;rw[io ho,Qp]at ht;rcases ht with ht|ht
 ·unfold fP at ht;split at ht
  ·rename_i j _ _;cases hj:ops[j]? with
   |none=>rw[hj]at ht;simp at ht
   |some oj=>
    rw[hj]at ht;simp only[Sa]at ht;cases hd:oj.dst with
    |none=>rw[hd]at ht;simp at ht
    |some s=>rw[hd]at ht;simp at ht;rw[ht];exact hS.dst j oj hj s hd
  ·simp at ht
 ·exact hS.src i o ho t ht
omit [Dr]in
theorem oP{gid:Nat}{x:Foot}{ss:Option Nat}{u:Upd}{d:Option Tmp}(hsh:Shape e gid x ss u){t:Nat}(h1:d≠some t)(h2:ss≠some t)(h3:t<1000):(e.upd d u).get t=e.get t:=by
 rw[dt,if_neg h1];refine rR _ fun y hy hyt=>?_;rcases hsh.keys y hy with h|h
 ·omega
 ·exact h2 (by rw[h,hyt])
omit [Dr]in
theorem FS{gid:Nat}{x:Foot}{ss:Option Nat}{u:Upd}{d:Option Tmp}(hsh:Shape e gid x ss u)(hw:x.wl=false){t:Nat}(h1:d≠some t):(e.upd d u).get t=e.get t:=by
 rw[dt,if_neg h1,hsh.ls hw];rfl
omit [Dr]in
theorem ta{gid:Nat}{x:Foot}{ss:Option Nat}{u:Upd}{d:Option Tmp}{o:Oper}(hsh:Shape e gid x ss u)(hd:∀t,d=some t->t<1000)(hops:∀t∈kg o,d≠some t/\ss≠some t/\t<1000)(hloc:((aK cx o).rl||(aK cx o).wl)=true->x.wl=false)(hal:(aK cx o).dr=true->x.ad=false/\x.dr=false):Agree cx o e (e.upd d u):=by
 refine⟨fun t ht=>oP hsh (hops t ht).1 (hops t ht).2.1 (hops t ht).2.2,fun h=>⟨fun t ht=>FS hsh (hloc h) (fun hh=>Nat.not_lt.2 ht (hd t hh)),fun B=>?_⟩,fun h g=>?_,fun h s _ hl=>?_⟩
 ·show bY (mZ (e8 e.lb u.unlb) u.lb) B=bY e.lb B;rw[hsh.lb (hloc h),hsh.unlb (hloc h)];rfl
 ·show be (u.add++fy e.al u.drop) g=be e.al g;rw[hsh.noad (hal h).1,hsh.nodr (hal h).2];rfl
 ·have hw:=hloc (by rw[h];simp);show bL (sP d u.ent (u.ls++e.sl)) (bW s)=true;rw[hsh.ls hw,fE,Qv,hl,Rx];have:nE u.ent (bW s)=true:=by
   unfold nE;split
   ·rename_i C off hv;obtain⟨t,off',ht⟩:=hsh.loc hw C off hv
    have:=nV hl ht
    rw[QU,Q9];intro hh;exact this (Qc hh)
   ·rfl
  rw[this,Bool.or_true]
omit [Dr]in
theorem BN{gid:Nat}{x:Foot}{ss:Option Nat}{u:Upd}{d:Option Tmp}{o:Oper}(hsh:Shape e gid x ss u)(hd:∀t,d=some t->t<1000)(hops:∀t∈kg o,d≠some t/\ss≠some t/\t<1000)(hloc:((aK cx o).rl||(aK cx o).wl)=true->x.wl=false)(hal:(aK cx o).dr=true->x.ad=false/\x.dr=false):Agree cx o (e.upd d u) e:=by
 have A:=ta (cx:=cx) hsh hd hops hloc hal;refine⟨fun t ht=>(A.ops t ht).symm,fun h=>⟨fun t ht=>((A.loc h).1 t ht).symm,fun B=>((A.loc h).2 B).symm⟩,fun h g=>(A.al h g).symm,fun _ s _ hl=>?_⟩;have hl':bL (sP d u.ent (u.ls++e.sl)) (bW s)=true:=hl;rw[fE,iN]at hl';simp only[PO]at hl';exact hl'.2.2
omit [Dr]in
theorem yz{gi gj:Nat}{x y:Foot}{si sj:Option Nat}{u v:Upd}{d f:Option Tmp}(hu:Shape e gi x si u)(hv:Shape e gj y sj v)(hy:y.wl=false)(hf:∀t,f=some t->t<1000)(hdf:∀t,d=some t->f≠some t)(hsf:∀t,si=some t->f≠some t)(hg:gi≠gj)(h1:x.dr=true->y.dr=false/\y.ad=false)(h2:x.ad=true->y.dr=false)(h3:x.ad=true->y.ad=true->x.wl=false):EqE ((e.upd d u).upd f v) ((e.upd f v).upd d u):=by
 have e1:=hv.ls hy;have e2:=hv.lb hy;have e3:=hv.unlb hy;refine⟨fun t=>?_,fun g=>?_,fun B=>?_,fun B=>?_⟩
 ·rw[dt,dt,e1];show (if d=some t then u.ent else cF (u.ls++sP f v.ent (v.ls++e.sl)) t)=if f=some t then v.ent else cF (sP d u.ent (u.ls++e.sl)) t;rw[e1,kA,Qv];by_cases hft:f=some t
  ·rw[PS hft,if_neg (fun h=>hdf t h hft),rR,kA,PS hft];intro z hz hzt;rcases hu.keys z hz with h|h
   ·exact Nat.not_lt.2 h (by rw[hzt];exact hf t hft)
   ·exact hsf z.1 h (by rw[hzt];exact hft)
  ·rw[if_neg hft];split
   ·rfl
   ·exact pO (by rw[kA,if_neg hft])
 ·show be (u.add++fy (v.add++fy e.al v.drop) u.drop) g=be (v.add++fy (u.add++fy e.al u.drop) v.drop) g;cases hxd:x.dr with
  |true=>
   obtain⟨h4,h5⟩:=h1 hxd;rw[hv.noad h5,hv.nodr h4];rfl
  | false=>
   rw[hu.nodr hxd];cases hxa:x.ad with
   |false=>rw[hu.noad hxa];rfl
   | true=>
    rw[hv.nodr (h2 hxa)];cases hya:y.ad with
    |false=>rw[hv.noad hya];rfl
    |true=>
     have k1:=hu.add (h3 hxa hya);have k2:=hv.add hy;show be (u.add++(v.add++e.al)) g=be (v.add++(u.add++e.al)) g;rw[fA,fA,fA,fA];by_cases hgi:g=gi
     ·rw[po k2 (by omega)]
     ·rw[po k1 hgi]
 ·show bY (mZ (e8 (mZ (e8 e.lb v.unlb) v.lb) u.unlb) u.lb) B=bY (mZ (e8 (mZ (e8 e.lb u.unlb) u.lb) v.unlb) v.lb) B;rw[e2,e3];rfl
 ·show bL (sP d u.ent (u.ls++sP f v.ent (v.ls++e.sl))) B=bL (sP f v.ent (v.ls++sP d u.ent (u.ls++e.sl))) B;simp only[fE,iN]
  ac_rfl
end
end Go.Av
namespace Go.Av
variable [Dr]
section
variable {cx:Cx} {ops:Array Oper} {base:Nat}
structure Ind (cx:Cx) (ops:Array Oper) (i j:Nat) (a b:Oper):Prop where
 ha:ops[i]? = some a
 hb:ops[j]? = some b
 piv:(aK cx a).piv=false
 l1:(aK cx a).wl=true->(aK cx b).rl=false/\(aK cx b).wl=false
 l2:(aK cx a).rl=true->(aK cx b).wl=false
 h1:(aK cx a).wh=true->(aK cx b).rh=false/\(aK cx b).wh=false
 h2:(aK cx a).rh=true->(aK cx b).wh=false\/(aK cx b).nw=true
 g1:(aK cx a).dr=true->(aK cx b).dr=false/\(aK cx b).ad=false
 g2:(aK cx a).ad=true->(aK cx b).dr=false
 g3:(aK cx a).ad=true->(aK cx b).ad=true->(aK cx a).wl=false/\(aK cx b).wl=false
 r1:∀t∈dN ops j,a.dst≠some t
 r2:∀t∈dN ops i,b.dst≠some t
 s1:∀t∈dN ops j,de a≠some t
 s2:∀t∈dN ops i,de b≠some t
 c1:∀t,de a=some t->b.dst≠some t
 c2:∀t,a.dst=some t->de b≠some t
 c3:∀t,a.dst=some t->b.dst≠some t
omit [Dr]in
theorem Cl{i j:Nat}(h:nQ cx ops i j=true):∃a b,Ind cx ops i j a b:=by
 unfold nQ at h;split at h
 ·rename_i a b ha hb;refine⟨a,b,?_⟩;simp only[PO,QU]at h;obtain⟨⟨⟨⟨⟨⟨⟨⟨⟨⟨⟨⟨⟨⟨k1,k2⟩,k3⟩,k4⟩,k5⟩,k6⟩,k7⟩,k8⟩,k9⟩,k10⟩,k11⟩,k12⟩,k13⟩,k14⟩,k15⟩:=h;refine⟨ha,hb,k1,fun q=>?_,fun q=>?_,fun q=>?_,fun q=>?_,fun q=>?_,fun q=>?_,fun q q'=>?_,nX k9,nX k10,nX k11,nX k12,oX k13,oX k14,oX k15⟩
  ·rw[q]at k2;simpa using k2
  ·rw[q]at k3;simpa using k3
  ·rw[q]at k4;simpa using k4
  ·rw[q]at k5;simp only[QJ]at k5;cases hb:(aK cx b).wh<;>simp_all
  ·rw[q]at k6;simpa using k6
  ·rw[q]at k7;simpa using k7
  ·rw[q,q']at k8;simpa using k8
 ·cases h
omit [Dr]in
theorem swap(hI:IsoPure cx)(hS:Small ops){i j:Nat}(hij:nQ cx ops i j=true)(hne:i≠j)(e:Env)(h:Hp):
  RE (af (stepG cx base ops i e) (stepG cx base ops j) h) (af (stepG cx base ops j e) (stepG cx base ops i) h):=by
 obtain⟨a,b,I⟩:=Cl hij;have hda:ez ops i=a.dst:=by simp[ez,I.ha]
 have hdb:ez ops j=b.dst:=by simp[ez,I.hb]
 unfold stepG;rw[hda,hdb];simp only[af,ay];cases hri:gd cx base ops i e h with
 |fail=>trivial
 |pan v h'=>exact absurd hri (kO (p:=@fk) (fun _ g=>g.read.stay) (fun _ f g=>g.bnd f) I.ha ((fQ hI e _ a).stay I.piv) h v h')
 | ok u h1=>
  simp only;have shu:=qN I.ha hri;have hra:=io (ops:=ops) I.ha;have hrb:=io (ops:=ops) I.hb;have hbo:∀t∈kg b,a.dst≠some t/\de a≠some t/\t<1000:=fun t ht=>⟨I.r1 t (by rw[hrb];simp[ht]),I.s1 t (by rw[hrb];simp[ht]),hS.src j b I.hb t ht⟩;have hao:∀t∈kg a,b.dst≠some t/\de b≠some t/\t<1000:=fun t ht=>⟨I.r2 t (by rw[hra];simp[ht]),I.s2 t (by rw[hra];simp[ht]),hS.src i a I.ha t ht⟩;have Abwd:Agree cx b (e.upd a.dst u) e:=BN shu (hS.dst i a I.ha) hbo (fun q=>by
   cases hw:(aK cx a).wl with
   |false=>rfl
   |true=>obtain⟨q1,q2⟩:=I.l1 hw;rw[q1,q2]at q;cases q) (fun q=>by
   constructor
   ·cases hw:(aK cx a).ad with
    |false=>rfl
    |true=>have:=I.g2 hw;rw[this]at q;cases q
   ·cases hw:(aK cx a).dr with
    |false=>rfl
    |true=>have:=(I.g1 hw).1;rw[this]at q;cases q)
  have hgb:∀t∈fP ops b,e.get t=(e.upd a.dst u).get t:=fun t ht=>by
   have htr:t∈dN ops j:=by rw[hrb];simp[ht]
   exact (oP shu (I.r1 t htr) (I.s1 t htr) (hS.reads I.hb t htr)).symm
  -- the second, after the first
  cases hrj:gd cx base ops j (e.upd a.dst u) h1 with
  |fail=>trivial
  | pan v h2=>
   have hj:=ic (base:=base) I.hb hgb Abwd (h:=h1) (by rw[hrj];simp);rw[hrj]at hj
   -- j leaves: so it may write, and i did not touch the heap
   have hwb:(aK cx b).wh=true:=by
    cases hw:(aK cx b).wh with
    |true=>rfl
    |false=>exact absurd hj ((kO (p:=@eK) (fun _ g=>g.read) (fun _ f g=>g.bnd f) I.hb ((fQ hI e _ b).read hw)).stay _ _ _)
   have hwa:(aK cx a).wh=false:=by
    cases hw:(aK cx a).wh with
    |false=>rfl
    |true=>have:=(I.h1 hw).2;rw[this]at hwb;cases hwb
   have hh:h1=h:=by
    have hR:eK (gd cx base ops i e):=kO (p:=@eK) (fun _ g=>g.read) (fun _ f g=>g.bnd f) I.ha ((fQ hI e _ a).read hwa);rcases hR h with hx|⟨u',hx⟩<;>rw[hri]at hx<;>cases hx;rfl
   subst hh;rw[hj];exact rfl
  | ok v h2=>
   have hj:=ic (base:=base) I.hb hgb Abwd (h:=h1) (by rw[hrj];simp);rw[hrj]at hj;have shv:=qN I.hb hj;have Afwd:Agree cx a e (e.upd b.dst v):=ta shv (hS.dst j b I.hb) hao (fun q=>by
    cases hw:(aK cx b).wl with
    |false=>rfl
    | true=>
     exfalso;cases hrl:(aK cx a).rl with
     |true=>have:=I.l2 hrl;rw[this]at hw;cases hw
     |false=>
      rw[hrl]at q;have hwl:(aK cx a).wl=true:=by simpa using q
      have:=(I.l1 hwl).2
      rw[this]at hw;cases hw) (fun q=>⟨(I.g1 q).2,(I.g1 q).1⟩)
   have hga:∀t∈fP ops a,(e.upd b.dst v).get t=e.get t:=fun t ht=>by
    have htr:t∈dN ops i:=by rw[hra];simp[ht]
    exact oP shv (I.r2 t htr) (I.s2 t htr) (hS.reads I.ha t htr)
   have hcomm:EqE ((e.upd a.dst u).upd b.dst v) ((e.upd b.dst v).upd a.dst u):=by
    have hgij:(base+i)*1000≠(base+j)*1000:=by omega
    cases hwb:(aK cx b).wl with
    |false=>
     exact yz shu shv hwb (hS.dst j b I.hb) I.c3 I.c1 hgij I.g1 I.g2 (fun q q'=>(I.g3 q q').1)
    | true=>
     have hwa:(aK cx a).wl=false:=by
      cases hw:(aK cx a).wl with
      |false=>rfl
      |true=>have:=(I.l1 hw).2;rw[this]at hwb;cases hwb
     refine (yz shv shu hwa (hS.dst i a I.ha) (fun t ht hh=>I.c3 t hh ht) (fun t ht hh=>I.c2 t hh ht) (SB hgij) (fun q=>⟨?_,?_⟩) (fun q=>?_) (fun q q'=>?_)).symm
     ·cases hw:(aK cx a).dr with
      |false=>rfl
      |true=>have:=(I.g1 hw).1;rw[this]at q;cases q
     ·cases hw:(aK cx a).ad with
      |false=>rfl
      |true=>have:=I.g2 hw;rw[this]at q;cases q
     ·cases hw:(aK cx a).dr with
      |false=>rfl
      |true=>have:=(I.g1 hw).2;rw[this]at q;cases q
     ·have:=(I.g3 q' q).2;rw[this]at hwb;cases hwb
   cases hwa:(aK cx a).wh with
   | false=>
    have hR:eK (gd cx base ops i e):=kO (p:=@eK) (fun _ g=>g.read) (fun _ f g=>g.bnd f) I.ha ((fQ hI e _ a).read hwa);have hh:h1=h:=by
     rcases hR h with hx|⟨u',hx⟩<;>rw[hri]at hx<;>cases hx;rfl
    subst hh;rw[hj];simp only;have hi2:gd cx base ops i e h2= .ok u h2:=by
     cases hra':(aK cx a).rh with
     |false=>
      obtain⟨q,hq⟩:bS (gd cx base ops i e):=kO (p:=@bS) (fun _ g=>g) (fun _ f g=>g.bnd f) I.ha ((fQ hI e _ a).pure hwa hra');rw[hq]at hri |-;cases q with
      |none=>cases hri
      |some u'=>cases hri;rfl
     | true=>
      rcases I.h2 hra' with hwb|hnw
      case inr=>
       have hNw:yH (gd cx base ops j e):=kO (p:=@yH) (fun _ g=>g.nw) (fun _ f g=>g.bnd f) I.hb ((fQ hI e _ b).nw hnw);have hAp:mF (gd cx base ops i e)/\eK (gd cx base ops i e):=kO (p:=fun m=>mF m/\eK m) (fun _ g=>⟨g.app,g.read⟩) (fun _ f g=>mF.bnd g f) I.ha ((fQ hI e _ a).app hwa);obtain⟨t,rfl⟩:=hNw _ _ _ hj;exact hAp.1 _ t _ hri
      have hRb:eK (gd cx base ops j e):=kO (p:=@eK) (fun _ g=>g.read) (fun _ f g=>g.bnd f) I.hb ((fQ hI e _ b).read hwb);rcases hRb h1 with hx|⟨u',hx⟩<;>rw[hj]at hx<;>cases hx;exact hri
    rw[ic I.ha hga Afwd (by rw[hi2];simp),hi2];exact⟨_,rfl,hcomm⟩
   | true=>
    obtain⟨hrb',hwb⟩:=I.h1 hwa;obtain⟨q,hq⟩:bS (gd cx base ops j e):=kO (p:=@bS) (fun _ g=>g) (fun _ f g=>g.bnd f) I.hb ((fQ hI e _ b).pure hwb hrb');rw[hq]at hj |-;cases q with
    |none=>cases hj
    |some u'=>
     cases hj;simp only[ah];rw[ic I.ha hga Afwd (by rw[hri];simp),hri];exact⟨_,rfl,hcomm⟩
omit [Dr]in
theorem Kd(hI:IsoPure cx)(hS:Small ops){i:Nat}(q:List Nat):∀(p:List Nat),(∀x∈p,nQ cx ops x i=true/\x≠i)->∀(e:Env)(h:Hp),RE (bF cx base ops (p++i:: q) e h) (bF cx base ops (i:: (p++q)) e h)
 |[],_,e,h=>RE.refl _
 | x:: p,hp,e,h=>by
  have ih:=fun e h=>Kd hI hS q p (fun y hy=>hp y (by simp[hy])) e h;have h1:RE (bF cx base ops (x:: (p++i:: q)) e h) (bF cx base ops (x:: i:: (p++q)) e h):=by
   simp only[bF,af]at ih |-;cases stepG cx base ops x e h with
   |ok e' h'=>exact ih e' h'
   |pan v h'=>exact rfl
   |fail=>trivial
  refine h1.trans ?_;have e1:bF cx base ops (x:: i:: (p++q)) e=af (af (stepG cx base ops x e) (stepG cx base ops i)) (bF cx base ops (p++q)):=by rw[fu];rfl
  have e2:bF cx base ops (i:: x:: (p++q)) e=af (af (stepG cx base ops i e) (stepG cx base ops x)) (bF cx base ops (p++q)):=by rw[fu];rfl
  show RE (bF cx base ops (x:: i:: (p++q)) e h) (bF cx base ops (i:: x:: (p++q)) e h);rw[e1,e2];exact RE.bind (swap hI hS (hp x (by simp)).1 (hp x (by simp)).2 e h) fun e e' x h=>ol _ h x
end
end Go.Av
namespace Go.Av
variable [Dr]
omit [Dr]in
theorem GL{a b:Option (Nat×Bool)}(h:BA a b=true):a=b:=by
 unfold BA at h;split at h
 ·rfl
 ·simp only[PO,Qk]at h;rw[Qc h.1,h.2]
 ·cases h
def iZ(gs:List (Option (Nat×Bool)×List Nat)):List Nat:=gs.flatMap (·.2)
omit [Dr]in
theorem kb(ops:Array Oper):∀l:List Nat,iZ (eC ops l)=l/\∀g∈eC ops l,∀i∈g.2,guardOf ops i=g.1
 |[]=>⟨rfl,by simp[eC]⟩
 | i :: is=>by
  obtain⟨h1,h2⟩:=kb ops is;simp only[eC];cases hg:eC ops is with
  |nil=>
   rw[hg]at h1;have:is=[]:=by simpa [iZ]using h1.symm
   subst this;exact⟨rfl,by simp⟩
  | cons x r=>
   obtain⟨g,js⟩:=x;rw[hg]at h1 h2;simp only;cases hs:BA (guardOf ops i) g with
   | true=>
    refine⟨?_,fun y hy=>?_⟩
    ·simp only[PV,iZ,Rn,QC]at h1 |-;rw[h1]
    ·simp only[PV,Qm]at hy;rcases hy with rfl|hy
     ·intro k hk;simp only[Qm]at hk;rcases hk with rfl|hk
      ·exact GL hs
      ·exact h2 (g,js) (by simp) k hk
     ·exact h2 y (by simp[hy])
   | false=>
    refine⟨?_,fun y hy=>?_⟩
    ·simp only[P3,iZ,Rn,QC,Qv]at h1 |-;rw[h1]
    ·simp only[P3,Qm]at hy;rcases hy with rfl|rfl|hy
     ·intro k hk;simp only[Qt]at hk;subst hk;rfl
     ·exact h2 (g,js) (by simp)
     ·exact h2 y (by simp[hy])
omit [Dr]in
theorem wN{ρ:Type}(e:Env)(d:Option Tmp)(A:Act1)(k:Env->M ρ):nG e d A k=af (eY A) fun u=>k (e.upd d u):=by
 cases A with
 |bad=>rfl
 |stat u=>rfl
 |dyn m sh=>simp only[nG,eY,fu,ap]
 |thr v=>rfl
omit [Dr]in
theorem BW{α β:Type}{m:M α}{f g:α->M β}{h:Hp}(hfg:∀u h',m h= .ok u h'->f u h'=g u h'):af m f h=af m g h:=by
 simp only[af];cases hm:m h with
 |ok u h'=>exact hfg u h' hm
 |pan v h'=>rfl
 |fail=>rfl
section
variable {cx:Cx} {ops:Array Oper} {base:Nat}
omit [Dr]in
theorem BM{i:Nat}{o:Oper}(ho:ops[i]? = some o)(hg:guardOf ops i=none)(e:Env):gd cx base ops i e=eY (gJ cx e ((base+i)*1000) o):=by
 have:o.guard=none:=by simpa [guardOf,ho]using hg
 unfold gd;rw[ho];simp only;rw[this]
omit [Dr]in
theorem oE{i j t:Nat}{want:Bool}{o:Oper}(ho:ops[i]? = some o)(hg:guardOf ops i=some (j,want))(hj:ez ops j=some t)(hp:fS cx o=true)(e:Env):
  gd cx base ops i e=lp (e.av t) want (eY (iY (gJ cx e ((base+i)*1000) o))):=by
 have:o.guard=some (j,want):=by simpa [guardOf,ho]using hg
 unfold gd;rw[ho];simp only;rw[this];simp only;rw[hj];simp only;rw[hp];rfl
omit [Dr]in
theorem ye{ρ:Type}:∀(is:List Nat)(e:Env)(k:Env->M ρ)(_:∀i∈is,guardOf ops i=none),jY cx base ops false is e k=af (bF cx base ops is e) k
 |[],e,k,_=>rfl
 | i:: is,e,k,hg=>by
  simp only[jY,bF];unfold stepG;cases ho:ops[i]? with
  |none=>unfold gd;rw[ho];rfl
  |some o=>
   simp only;rw[wN,BM ho (hg i (by simp)),fu,fu];have hd:ez ops i=o.dst:=by simp[ez,ho]
   rw[hd];congr 1;funext u;simp only[ap];exact ye is _ k fun j hj=>hg j (by simp[hj])
structure Turned (ds:List Nat) (e e':Env):Prop where
 get:∀t,t ∉ ds->e'.get t=e.get t
 al:e'.al=e.al
 lb:e'.lb=e.lb
 lf:∀B,bL e.sl B=true->bL e'.sl B=true
 ng:∀t∈ds,(e'.get t).g=none
omit [Dr]in
theorem Turned.step{ds:List Nat}{e e':Env}(H:Turned ds e e'){u:Upd}{d:Option Nat}(hls:u.ls=[])(hadd:u.add=[])(hdrop:u.drop=none)(hlb:u.lb=none)(hunlb:u.unlb=none)(hg:u.ent.g=none)(hloc:∀C off,u.ent.v= .loc C off->∃t off',(e'.get t).v= .loc C off'):Turned (d.toList++ds) e (e'.upd d u):=by
 have hget:∀t,(e'.upd d u).get t=if d=some t then u.ent else e'.get t:=fun t=>by rw[dt,hls];rfl
 refine⟨fun t ht=>?_,?_,?_,fun B hB=>?_,fun t ht=>?_⟩
 ·simp only[Qp,not_or,RZ]at ht;rw[hget,if_neg ht.1];exact H.get t ht.2
 ·show u.add++fy e'.al u.drop=e.al;rw[hadd,hdrop];exact H.al
 ·show mZ (e8 e'.lb u.unlb) u.lb=e.lb;rw[hlb,hunlb];exact H.lb
 ·have h1:=H.lf B hB;show bL (sP d u.ent (u.ls++e'.sl)) B=true;rw[hls,fE,Qv,h1,Rx];have:nE u.ent B=true:=by
   unfold nE;split
   ·rename_i C off hv;obtain⟨t,off',ht⟩:=hloc C off hv
    have:=nV h1 ht
    rw[QU,Q9];intro hh;exact this (Qc hh)
   ·rfl
  rw[this,Bool.or_true]
 ·rw[hget];split
  ·exact hg
  ·rename_i hd;simp only[Qp,RZ]at ht;rcases ht with ht|ht
   ·exact absurd ht hd
   ·exact H.ng t ht
omit [Dr]in
theorem Turned.refl(e:Env):Turned [] e e:=⟨fun _ _=>rfl,rfl,rfl,fun _ h=>h,fun t h=>by simp at h⟩
omit [Dr]in
theorem Turned.sub{ds ds':List Nat}{e e':Env}(H:Turned ds e e')(h:∀t,t∈ds↔t∈ds'):Turned ds' e e':=
 ⟨fun t ht=>H.get t fun hh=>ht ((h t).1 hh),H.al,H.lb,H.lf,fun t ht=>H.ng t ((h t).2 ht)⟩
structure GroupOk (cx:Cx) (ops:Array Oper) (j:Nat) (want:Bool) (t:Nat) (is:List Nat):Prop where
 hj:ez ops j=some t
 each:∀i∈is,∃o,ops[i]? = some o/\guardOf ops i=some (j,want)/\fS cx o=true
 nt:t ∉ dC ops is
omit [Dr]in
theorem jV(i:Nat)(is:List Nat):∀t,t∈dC ops (i:: is)↔ez ops i=some t\/t∈dC ops is:=by
 intro t;unfold dC;simp only[Sk,Qm,exists_eq_or_imp]
omit [Dr]in
theorem GroupOk.tail{j:Nat}{want:Bool}{t i:Nat}{is:List Nat}(G:GroupOk cx ops j want t (i:: is)):GroupOk cx ops j want t is:=
 ⟨G.hj,fun k hk=>G.each k (by simp[hk]),fun h=>G.nt ((jV i is t).2 (.inr h))⟩
omit [Dr]in
theorem GroupOk.ne{j:Nat}{want:Bool}{t i:Nat}{is:List Nat}(G:GroupOk cx ops j want t (i:: is)):ez ops i≠some t:=fun h=>G.nt ((jV i is t).2 (.inl h))
omit [Dr]in
theorem ll{A:Act1}{h h':Hp}{u:Upd}(hr:eY (iY A) h= .ok u h'):∃u0,eY A h= .ok u0 h'/\u=iu u0:=by
 rw[pn]at hr;cases hx:eY A h<;>rw[hx]at hr<;>simp at hr;exact⟨_,by rw[hr.2],hr.1.symm⟩
omit [Dr]in
theorem ul{ρ:Type}{j:Nat}{want:Bool}{t:Nat}:∀(is:List Nat)(e:Env)(k:Env->M ρ)(h:Hp),GroupOk cx ops j want t is->e.av t= .bool want->jY cx base ops true is e k h=af (bF cx base ops is e) k h
 |[],e,k,h,_,_=>rfl
 |i:: is,e,k,h,G,hc=>by
  obtain⟨o,ho,hg,hp⟩:=G.each i (by simp);have hd:ez ops i=o.dst:=by simp[ez,ho]
  simp only[jY,bF,ho,PV];rw[wN];unfold stepG;rw[oE ho hg G.hj hp,hc,fu,fu];simp only[lp,QL,PV,ap,hd];refine BW fun u h' hu=>?_;obtain⟨u0,hu0,rfl⟩:=ll hu;refine ul is _ k h' G.tail ?_;have:(e.upd o.dst (iu u0)).get t=e.get t:=by rw[dt,if_neg (by rw[<- hd];exact G.ne)];rfl
  simp only[Env.av,this];exact hc
omit [Dr]in
theorem ot{j:Nat}{want:Bool}{t:Nat}:∀(is:List Nat)(e e':Env)(h h':Hp),GroupOk cx ops j want t is->e.av t= .bool want->bF cx base ops is e h= .ok e' h'->Turned (dC ops is) e e':=by
 have key:∀(is:List Nat)(e0 e e':Env)(ds:List Nat)(h h':Hp),GroupOk cx ops j want t is->e.av t= .bool want->Turned ds e0 e->bF cx base ops is e h= .ok e' h'->Turned (dC ops is++ds) e0 e':=by
  intro is
  induction is with
  |nil=>
   intro e0 e e' ds h h' _ _ H hr;cases hr;exact H
  | cons i is ih=>
   intro e0 e e' ds h h' G hc H hr;obtain⟨o,ho,hg,hp⟩:=G.each i (by simp);have hd:ez ops i=o.dst:=by simp[ez,ho]
   simp only[bF]at hr;unfold stepG at hr;rw[oE ho hg G.hj hp,hc,fu]at hr;simp only[lp,QL,PV,hd,af]at hr;cases hx:eY (iY (gJ cx e ((base+i)*1000) o)) h with
   |fail=>rw[hx]at hr;cases hr
   |pan v hh=>rw[hx]at hr;cases hr
   | ok u hh=>
    rw[hx]at hr;simp only at hr;obtain⟨u0,hu0,rfl⟩:=ll hx;have hsh:=mj (mz cx e ((base+i)*1000) o) hu0;simp only[fS,PO,QU]at hp;have H2:=H.step (u:=iu u0) (d:=o.dst) rfl rfl rfl rfl rfl rfl (hsh.loc hp.1);refine (ih e0 _ e' _ hh h' G.tail ?_ H2 hr).sub fun s=>?_
    ·have:(e.upd o.dst (iu u0)).get t=e.get t:=by rw[dt,if_neg (by rw[<- hd];exact G.ne)];rfl
     simp only[Env.av,this];exact hc
    ·simp only[Qp,jV,RZ,hd];constructor
     ·rintro (h|h|h)
      ·exact .inl (.inr h)
      ·exact .inl (.inl h)
      ·exact .inr h
     ·rintro ((h|h)|h)
      ·exact .inr (.inl h)
      ·exact .inl h
      ·exact .inr (.inr h)
 intro is e e' h h' G hc hr;exact (key is e e e' [] h h' G hc (.refl e) hr).sub (by simp)
def Off(c:AV)(want:Bool):Prop:=c= .tup []\/∃b,c= .bool b/\(b== want)=false
omit [Dr]in
theorem Off.look{c:AV}{want:Bool}(h:Off c want)(m:M Upd):lp c want m=ay (.ofV (.tup [])):=by
 rcases h with rfl|⟨b,rfl,hb⟩
 ·rfl
 ·simp only[lp,hb,P3]
omit [Dr]in
theorem Io{j:Nat}{want:Bool}{t:Nat}:∀(is:List Nat)(e:Env)(h:Hp),GroupOk cx ops j want t is->Off (e.av t) want->∃e',bF cx base ops is e h= .ok e' h/\Turned (dC ops is) e e'/\∀s∈dC ops is,e'.get s=⟨.val (.tup []),none⟩:=by
 have key:∀(is:List Nat)(e0 e:Env)(ds:List Nat)(h:Hp),GroupOk cx ops j want t is->Off (e.av t) want->Turned ds e0 e->(∀s∈ds,e.get s=⟨.val (.tup []),none⟩)->
   ∃e',bF cx base ops is e h= .ok e' h/\Turned (dC ops is++ds) e0 e'/\∀s∈dC ops is++ds,e'.get s=⟨.val (.tup []),none⟩:=by
  intro is
  induction is with
  |nil=>exact fun e0 e ds h _ _ H hds=>⟨e,rfl,H,hds⟩
  | cons i is ih=>
   intro e0 e ds h G hc H hds;obtain⟨o,ho,hg,hp⟩:=G.each i (by simp);have hd:ez ops i=o.dst:=by simp[ez,ho]
   have hget:∀s,(e.upd o.dst (.ofV (.tup []))).get s=if o.dst=some s then⟨.val (.tup []),none⟩else e.get s:=fun s=>by rw[dt];rfl
   have H2:=H.step (u:=.ofV (.tup [])) (d:=o.dst) rfl rfl rfl rfl rfl rfl (fun C off hh=>by cases hh);have hav:(e.upd o.dst (.ofV (.tup []))).av t=e.av t:=by
    have:(e.upd o.dst (.ofV (.tup []))).get t=e.get t:=by rw[hget,if_neg (by rw[<- hd];exact G.ne)]
    simp only[Env.av,this]
   obtain⟨e',h1,h2,h3⟩:=ih e0 (e.upd o.dst (.ofV (.tup []))) (o.dst.toList++ds) h G.tail (by rw[hav];exact hc) H2 (fun s hs=>by
    rw[hget];split
    ·rfl
    ·rename_i hn;simp only[Qp,RZ]at hs;rcases hs with hs|hs
     ·exact absurd hs hn
     ·exact hds s hs)
   have hiff:∀s,s∈dC ops is++(o.dst.toList++ds)↔s∈dC ops (i:: is)++ds:=fun s=>by
    simp only[Qp,jV,RZ,hd];constructor
    ·rintro (h|h|h)
     ·exact .inl (.inr h)
     ·exact .inl (.inl h)
     ·exact .inr h
    ·rintro ((h|h)|h)
     ·exact .inr (.inl h)
     ·exact .inl h
     ·exact .inr (.inr h)
   refine⟨e',?_,h2.sub hiff,fun s hs=>h3 s ((hiff s).2 hs)⟩;simp only[bF];unfold stepG;rw[oE ho hg G.hj hp,hc.look,hd];exact h1
 intro is e h G hc;obtain⟨e',h1,h2,h3⟩:=key is e e [] h G hc (.refl e) (by simp);exact⟨e',h1,h2.sub (by simp),fun s hs=>h3 s (by simp[hs])⟩
end
end Go.Av
