/- The abstract evaluator of the model and plain laws, part 2: its soundness holds for every program whose table of types is the evaluator's. No further condition. -/
import Derived.Test.YteemeakjlfnapaaGreatDoorLa
import Derived.Orders
set_option linter.defProp false
set_option linter.unusedSimpArgs false
set_option linter.unusedVariables false
namespace Go.Av
variable [Dr]
section
variable {P:Program} {cx:Cx} {c:Entry} {N:Nat} {U:Nat->Prop} {e:Env} {h:Hp} {a:Act} {w:World} {S:ap} {β:List a8} {γ:Nat->Value} {lam:Nat->Option Nat} {ω:Nat->Owner} {o:Oper} {gid:Nat}
theorem aJ(H:FR c N U e h a w S β γ lam ω)(x:Operand)(ht:∀t,x= .tmp t->t<1000):VR S β (opnd e x) (a.eval x):=by
 cases x with
 |tmp t=>
  have:=H.slots t (ht t rfl)
  simp only[opnd,Env.av,Ent.av,Act.eval];cases hv:(e.get t).v with
  |val av=>rw[hv]at this;exact this
  |loc B off=>simp[VR]
 |const v=>exact A4 S β v
 |global g=>simp[opnd,VR]
 |func f=>simp only[opnd,VR,Act.eval];exact⟨[],[],rfl,by simp[aG],by simp[aG]⟩
theorem jc(H:FR c N U e h a w S β γ lam ω):(xs:List Operand)->(∀x∈xs,∀t,x= .tmp t->t<1000)->aG S β (xs.map (opnd e)) (xs.map a.eval)
 |[],_=>by simp[aG]
 |x:: xs,ht=>by
  simp only[D8,aG];exact⟨_,_,rfl,aJ H x (ht x (by simp)),jc H xs fun y hy=>ht y (by simp[hy])⟩
theorem f8(H:FR c N U e h a w S β γ lam ω)(x:Option Operand)(ht:∀y,x=some y->∀t,y= .tmp t->t<1000):fR S β (x.map (opnd e)) (x.map a.eval):=by
 cases x with
 |none=>rfl
 |some y=>exact⟨_,rfl,aJ H y (ht y rfl)⟩
theorem Df(H:cX c N U e h a w):cX c N (UG U gid) e h a w:=H.wider fun _ h=>.inl h
theorem cW(H:FR c N U e h a w S β γ lam ω)(hd:∀t,o.dst=some t->t<N){r:Option AV}{m:Sem Value}(hrun:execOp a.eval o=(do pure (.value (<- m))))(hp:∀x,r=some x->mn P w S β m x)(hr:(af (ah r) fun v=>M.pure (e.upd o.dst (.ofV v))) h≠.fail):After P c N (UG U gid) ((af (ah r) fun v=>M.pure (e.upd o.dst (.ofV v))) h) o a w:=by
 cases r with
 |none=>exact absurd rfl hr
 |some x=>
  obtain⟨v,h1,h2⟩:=hp x rfl;exact After.val (v:=v) (w':=w) (by rw[hrun];simp only[Sem.run_bind,h1,Result.andThen_ok,Sem.run_pure]) (Df ⟨S,β,γ,lam,ω,H.setV hd h2⟩)
theorem sc(H:FR c N U e h a w S β γ lam ω)(hd:∀t,o.dst=some t->t<N){t:Nat}(ht:t<1000)(hrun:(execOp a.eval o).run P w= .ok (.value (a.tmps.getD t undef)) w):
  After P c N (UG U gid) (.ok (e.upd o.dst { ent:=e.get t }) h) o a w:=
 After.val hrun (Df ⟨S,β,γ,lam,ω,H.set hd (H.slots t ht) (fun g z hg hz=>H.grps t g z ht hg hz) (fun g hg=>H.used.1 t g hg)⟩)
theorem sC(H:FR c N U e h a w S β γ lam ω)(hd:∀t,o.dst=some t->t<N)(hU:∀g,gid<=g->g<gid+1000->¬U g){x:Operand}(hx:o.op= .move x\/o.op= .assign x)(ht:∀t,x= .tmp t->t<1000):
  After P c N (UG U gid) (aW cx e gid o h) o a w:=by
 have hrun:(execOp a.eval o).run P w= .ok (.value (a.eval x)) w:=by rcases hx with hx|hx<;>simp[execOp,hx]
 have hop:aW cx e gid o=aF e o.dst (ff (bh cx.ann.hb o.dst) e gid x):=by unfold aW dP;rcases hx with hx|hx<;>rw[hx]
 rw[hop];unfold ff;cases x with
 |tmp t=>exact sc H hd (ht t rfl) hrun
 | const v=>
  simp only;cases hn:aM (.const v)with
  | true=>
   have hv:v= .slice none 0 0:=by
    unfold aM at hn;split at hn
    ·rename_i hq;simpa using hq
    ·simp at hn
   subst hv;simp only[Dx];cases htold:bh cx.ann.hb o.dst with
   |true=>exact After.val hrun (Df ⟨S,β,γ,lam,ω,H.setV hd (by simp only[VR];rfl)⟩)
   |false=>
   simp only[DF];obtain⟨ω',F⟩:=H.own (v:=.slice none 0 0) (r:=.sl []) (z:=none) hd (by simp only[VR];exact⟨none,0,rfl,DD _,fun _=>rfl,fun q h=>by cases h⟩) hU (.inl ⟨none,0,rfl,fun _=>rfl⟩);exact After.val hrun ⟨S,β,_,lam,ω',F⟩
  |false=>
   simp only[DF];exact After.val hrun (Df ⟨S,β,γ,lam,ω,H.setV hd (aJ H _ (fun t h=>by cases h))⟩)
 |global g=>
  exact After.val hrun (Df ⟨S,β,γ,lam,ω,H.setV hd (aJ H _ (fun t h=>by cases h))⟩)
 |func f=>
  exact After.val hrun (Df ⟨S,β,γ,lam,ω,H.setV hd (aJ H _ (fun t h=>by cases h))⟩)
omit [Dr]in
theorem aG.allR{S:ap}{β:List a8}{cs:List AV}{vs:List Value}(h:aG S β cs vs):∀i,i<cs.length->∃v,vs[i]? = some v/\VR S β (nth cs i) v:=by
 intro i hi;obtain⟨v,h1,h2⟩:=h.get (DR hi);refine⟨v,h1,?_⟩;unfold nth;rw[Ek,DR hi];exact h2
theorem jN(H:FR c N U e h a w S β γ lam ω):(ps:List (Nat×Operand))->(∀p∈ps,∀t,p.2= .tmp t->t<1000)->eU S β (ps.map fun p=>(p.1,opnd e p.2)) (ps.map fun p=>(p.1,a.eval p.2))
 |[],_=>rfl
 |(i,x):: ps,ht=>by
  simp only[D8,eU];exact⟨_,_,rfl,aJ H x (ht (i,x) (by simp)),jN H ps fun q hq=>ht q (by simp[hq])⟩
theorem mw(hT:TOK P cx.T)(H:FR c N U e h a w S β γ lam ω)(hd:∀t,o.dst=some t->t<N)(hU:∀g,gid<=g->g<gid+1000->¬U g){t n:Nat}{ps:Array (Nat×Operand)}(ho:o.op= .buildSlice t n ps)(ht:∀p∈ps.toList,∀t,p.2= .tmp t->t<1000)(hha:bh cx.ann.ha o.dst=false)(hr:aW cx e gid o h≠.fail):After P c N (UG U gid) (aW cx e gid o h) o a w:=by
 unfold aW dP at hr |-;rw[ho]at hr |-;simp only[hha,DF]at hr |-;cases hb:bp cx.T t n (ps.toList.map fun p=>(p.1,opnd e p.2))with
 |none=>rw[hb]at hr;exact absurd rfl hr
 | some r=>
  obtain⟨es,x,el,sz,rfl,hlen,hrow,hrun⟩:=mu (w:=w) (qs:=ps.map fun p=>(p.1,a.eval p.2)) hT hb (by simpa using jN H ps.toList ht);have H2:=H.allocS x el x.size;have hv:VR (S.withRowTo w.heap.size x.size x) β (.sl es) (.slice (some ⟨w.heap.size,0,none⟩) n n):=by
   simp only[VR];refine⟨_,n,by rw[hlen],by omega,(fun h=>by cases h),fun q hq=>?_⟩;simp only[Dw]at hq;subst hq;refine⟨fun _=>rfl,sz,hrow.at (fun k o v hv=>?_) (fun o y hy=>?_)⟩
   ·unfold ap.withRowTo;split
    ·rename_i hk;subst hk;rw[H.wf.none (DD _)]at hv;simp at hv
    ·exact hv
   ·unfold ap.withRowTo;rw[DG rfl,DG]
    ·exact hy
    ·rcases DU o x.size with h|h
     ·exact h
     ·rw[Ej h]at hy;simp at hy
  have hex:(execOp a.eval o).run P w= .ok (.value (.slice (some ⟨w.heap.size,0,none⟩) n n)) (w.alloc (.cells x el)):=by
   simp only[execOp,ho,Sem.run_bind,hrun,Result.andThen_ok,Sem.run_pure]
  simp only[aF,ah,af,M.pure];cases hno:bh cx.ann.no o.dst with
  |true=>
   simp only[Dx];exact After.val hex (Df ⟨_,_,_,_,_,H2.setV hd hv⟩)
  |false=>
   simp only[DF];obtain⟨ω',F⟩:=H2.own (z:=none) hd hv hU (.inl ⟨_,_,rfl,fun h=>by cases h⟩);exact After.val hex ⟨_,_,_,_,ω',F⟩
theorem oo(hT:TOK P cx.T)(H:FR c N U e h a w S β γ lam ω)(hd:∀t,o.dst=some t->t<N)(hU:∀g,gid<=g->g<gid+1000->¬U g){t:Nat}{l k:Operand}(ho:o.op= .makeSlice t l k)(hl:∀t,l= .tmp t->t<1000)(hk:∀t,k= .tmp t->t<1000)(hr:aW cx e gid o h≠.fail):After P c N (UG U gid) (aW cx e gid o h) o a w:=by
 unfold aW dP at hr |-;rw[ho]at hr |-;simp only at hr |-;cases hb:iy cx.T t (opnd e l) (opnd e k)with
 |none=>rw[hb]at hr;exact absurd rfl hr
 | some r=>
  obtain⟨es,x,el,sz,cap,rfl,hes,hlen,hxs,hrow,hrun⟩:=om (w:=w) hT hb (aJ H l hl) (aJ H k hk);have H2:=H.allocS x el (es.length*sz);have hle:es.length*sz<=cap*sz:=DO _ hlen;have hv:VR (S.withRowTo w.heap.size (es.length*sz) x) β (.sl es) (.slice (some ⟨w.heap.size,0,none⟩) es.length cap):=by
   simp only[VR];refine⟨_,cap,rfl,hlen,(fun h=>by cases h),fun q hq=>?_⟩;simp only[Dw]at hq;subst hq;refine⟨fun _=>rfl,sz,.of_get fun i y hy=>?_⟩;obtain⟨v,v1,v2,v3⟩:=hrow i y hy;have hi:i<es.length:=by
    rcases DU i es.length with h|h
    ·exact h
    ·rw[DI h]at hy;simp at hy
   have hm:(i+1)*sz<=es.length*sz:=DO _ hi;rw[Ei]at hm;refine⟨v,VR.mono (fun k o v hv=>?_) (dT.refl β) _ _ v1,v2,fun j u hu=>?_⟩
   ·unfold ap.withRowTo;split
    ·rename_i hk;subst hk;rw[H.wf.none (DD _)]at hv;simp at hv
    ·exact hv
   ·have hj:j<sz:=by
     rcases DU j v.cells.toList.length with h|h
     ·simp[v2]at h;exact h
     ·rw[DI h]at hu;simp at hu
    unfold ap.withRowTo;rw[DG rfl,DG (Ec (show 0+i*sz+j<i*sz+1*sz by omega) hm),DW];exact v3 j u (by simpa using hu)
  have hωn:ω w.heap.size= .no:=by
   cases hoo:ω w.heap.size with
   |no=>rfl
   |_=>have:=(H.mine w.heap.size (by rw[hoo];simp)).2;omega
  obtain⟨ω',F⟩:=H2.own (z:=bP cx.T t) hd hv hU (.inr ⟨es.length,cap,sz,w.heap.size,0,x,rfl,hlen,hes,Row.new w x el,by omega,hωn,H.size,fun o' ho'=>by
   unfold ap.withRowTo;rw[DG rfl,if_neg (by omega)]⟩)
  refine After.val (v:=.slice (some ⟨w.heap.size,0,none⟩) es.length cap) (w':=w.alloc (.cells x el)) ?_ ⟨_,_,_,_,ω',F⟩;simp only[execOp,ho,Sem.run_bind,hrun,Result.andThen_ok,Sem.run_pure]
theorem wu(hT:TOK P cx.T)(H:FR c N U e h a w S β γ lam ω)(hd:∀t,o.dst=some t->t<N)(hU:∀g,gid<=g->g<gid+1000->¬U g){t:Nat}{x:Operand}{lo hi mx:Option Operand}(ho:o.op= .slice t x lo hi mx)(hx:∀t,x= .tmp t->t<1000)(hlo:∀y,lo=some y->∀t,y= .tmp t->t<1000)(hhi:∀y,hi=some y->∀t,y= .tmp t->t<1000)(hmx:∀y,mx=some y->∀t,y= .tmp t->t<1000)(hso:bh cx.ann.so o.dst=false)(hr:aW cx e gid o h≠.fail):After P c N (UG U gid) (aW cx e gid o h) o a w:=by
 unfold aW dP at hr |-;rw[ho]at hr |-;simp only[hso,DF]at hr |-;cases hb:(bif bh cx.ann.hb o.dst then rQ cx.T t (opnd e x) (lo.map (opnd e)) (hi.map (opnd e)) (mx.map (opnd e))else iC cx.T t (opnd e x) (lo.map (opnd e)) (hi.map (opnd e)) (mx.map (opnd e)))with
 |none=>rw[hb]at hr;exact absurd rfl hr
 | some r=>
  have hboth:∃v,(Instr.sliceAt t (a.eval x) (lo.map a.eval) (hi.map a.eval) (mx.map a.eval)).run P w= .ok v w/\VR S β r v/\((mx.map (opnd e)).isSome=true->(∃a n,v= .slice a n n)/\∃es,r= .sl es):=by
   cases htold:bh cx.ann.hb o.dst with
   |true=>rw[htold]at hb;exact tV (P:=P) (w:=w) hT hb (aJ H x hx) (f8 H lo hlo) (f8 H hi hhi) (f8 H mx hmx)
   |false=>rw[htold]at hb;exact wq (P:=P) (w:=w) hT hb (aJ H x hx) (f8 H lo hlo) (f8 H hi hhi) (f8 H mx hmx)
  obtain⟨v,hrun,hv,hown⟩:=hboth;have hrun':(execOp a.eval o).run P w= .ok (.value v) w:=by simp only[execOp,ho,Sem.run_bind,hrun,Result.andThen_ok,Sem.run_pure]
  cases mx with
  |none=>exact After.val hrun' (Df ⟨S,β,γ,lam,ω,H.setV hd hv⟩)
  | some m=>
   obtain⟨⟨ad,n,rfl⟩,es,rfl⟩:=hown rfl;have hn:ad=none->n=0:=by
    rintro rfl;have hv:=hv;simp only[VR]at hv;obtain⟨_,_,he,_,h2,_⟩:=hv;simp only[Value.slice.injEq]at he;obtain⟨rfl,_,rfl⟩:=he;exact h2 rfl
   obtain⟨ω',F⟩:=H.own (z:=none) hd hv hU (.inl ⟨ad,n,rfl,hn⟩);exact After.val hrun' ⟨_,_,_,_,ω',F⟩
end
end Go.Av
namespace Go.Av
variable [Dr]
section
variable {P:Program} {cx:Cx} {c:Entry} {N:Nat} {U:Nat->Prop} {e:Env} {h:Hp} {a:Act} {w:World} {S:ap} {β:List a8} {γ:Nat->Value} {lam:Nat->Option Nat} {ω:Nat->Owner} {o:Oper} {gid:Nat}
theorem FR.locals(H:FR c N U e h a w S β γ lam ω){B off n:Nat}(hin:hP e B off n=true):∃b x m,aT e.lb B=some m/\off+n<=m/\lam B=some b/\Row w b x/\m<=x.size/\
  ∀i,i<n->∃v a',x[off+i]? = some v/\(e.get (B+off+i)).v= .val a'/\VR S β a' v/\∀g z,(e.get (B+off+i)).g=some g->aA e.al g=some z->v=γ g:=by
 unfold hP at hin;split at hin
 ·rename_i m hm;have hle:off+n<=m:=by simp at hin;exact hin.1
  obtain⟨_,_,_,b,x,h1,h2,h3,h4,h5⟩:=H.lblk B m hm;have hms:m<=x.size:=by
   rcases Eh m with h0|h0
   ·omega
   ·obtain⟨v,_,hv,_⟩:=h5 (m-1) (by omega);rcases DU (m-1) x.size with h|h
    ·omega
    ·rw[Ej h]at hv;simp at hv
  refine⟨b,x,m,hm,hle,h1,h2,hms,fun i hi=>?_⟩
  have:=h5 (off+i) (by omega)
  rw[<- Nat.add_assoc]at this;exact this
 ·simp at hin
omit [Dr]in
theorem lx{S:ap}{β:List a8}{e:Env}{B:Nat}{f:Nat->Value}:(n:Nat)->(∀i,i<n->VR S β (e.av (B+i)) (f i))->aG S β (iR e B n) ((List.range n).map f)
 |0,_=>by simp[iR,aG]
 |n+1,hh=>by
  simp only[iR,List.range_succ,GD,D8,List.map_nil];refine aG.append (lx n fun i hi=>hh i (by omega)) ?_;simp only[aG];exact⟨_,_,rfl,hh n (by omega),rfl⟩
omit [Dr]in
theorem kg(hT:TOK P cx.T){t:Nat}{ti:TI}(ht:cx.T t=some ti){b off:Nat}{x:Array Value}(hr:Row w b x)(f:Nat->Value)(hf:∀i,i<ti.size->x[off+i]? = some (f i)):
  (ti.agg=true->(loadVar t ⟨b,off,none⟩).run P w= .ok (.agg ((List.range ti.size).map f).toArray) w)/\(ti.agg=false->ti.size=1->(loadVar t ⟨b,off,none⟩).run P w= .ok (f 0) w):=by
 obtain⟨ii,d,_,hii,hd,_,_,hsz,_,_,hag,_⟩:=(hT.get ht).ex;refine⟨fun hagg=>?_,fun hagg hone=>?_⟩
 ·have:=run_loadCells (P:=P) w ⟨b,off,none⟩ ti.size f (fun j hj=>by rw[addr_add,hr.cell];exact hf j hj)
  simp[loadVar,ee hd,hag,hagg,run_sizeOf hii,hsz,this]
 ·have h0:=hf 0 (by omega);rw[<- hr.cell]at h0;simp only[EM]at h0;simp[loadVar,ee hd,hag,hagg,h0]
omit [Dr]in
theorem vM{T:TT}{t:Nat}{x:AV}{h:Hp}(hx:∀l off,x≠.hp l off):fu T t x h=match ai T t x with|some v=>.ok v h|none=>.fail:=by
 unfold fu;cases x<;>first|rfl|exact absurd rfl (hx _ _)
theorem sA(hT:TOK P cx.T)(H:FR c N U e h a w S β γ lam ω)(hd:∀t,o.dst=some t->t<N){t p:Nat}(ho:o.op= .load t (.tmp p))(hx:p<1000)(hr:aF e o.dst (cN cx e o.dst t p) h≠.fail):
  After P c N (UG U gid) (aF e o.dst (cN cx e o.dst t p) h) o a w:=by
 have hp:=H.slots p hx;unfold cN at hr |-;cases hv:(e.get p).v with
 | loc B off=>
  rw[hv]at hr hp;simp only at hr |-;simp only[dD]at hp;obtain⟨b,hlam,hpv⟩:=hp;cases ht:cx.T t with
  |none=>rw[ht]at hr;exact absurd rfl hr
  | some ti=>
   rw[ht]at hr;simp only at hr |-;cases hin:hP e B off ti.size with
   |false=>rw[hin]at hr;exact absurd rfl hr
   | true=>
    rw[hin]at hr;simp only[Dx]at hr |-;obtain⟨b',x,m,hm,hle,hlam',hrow,hms,hcells⟩:=H.locals hin;rw[hlam]at hlam';cases hlam';let f:Nat->Value:=fun i=>(x[off+i]?).getD undef;have hf:∀i,i<ti.size->x[off+i]? = some (f i):=fun i hi=>by
     obtain⟨v,_,hv',_⟩:=hcells i hi;show _=some ((x[off+i]?).getD undef);rw[hv'];rfl
    have hload:=kg hT ht hrow f hf;have hexec:∀v,(loadVar t ⟨b,off,none⟩).run P w= .ok v w->(execOp a.eval o).run P w= .ok (.value v) w:=fun v hv'=>by
     simp only[execOp,ho,Act.eval,hpv,Instr.loadAt,Instr.sureAddr,Sem.run_bind,Sem.run_pure,Result.andThen_ok,hv']
    cases hag:ti.agg with
    |true=>
     simp only[Dx];refine After.val (hexec _ (hload.1 hag)) (Df ⟨S,β,γ,lam,ω,H.setV hd ?_⟩);simp only[VR];refine⟨_,rfl,lx ti.size fun i hi=>?_⟩;obtain⟨v,a',g1,g2,g3,_⟩:=hcells i hi;have:f i=v:=by show (x[off+i]?).getD undef=v;rw[g1];rfl
     rw[this];simp only[Env.av,Ent.av,g2];exact g3
    | false=>
     rw[hag]at hr;simp only[DF]at hr |-;cases hone:decide (ti.size=1)with
     |false=>rw[hone]at hr;exact absurd rfl hr
     |true=>
      have hone':ti.size=1:=by simpa using hone
      simp only[Dx];obtain⟨v,a',g1,g2,g3,g4⟩:=hcells 0 (by omega);simp only[EM]at g1 g2 g4;have hfv:f 0=v:=by show (x[off+0]?).getD undef=v;rw[EM,g1];rfl
      refine After.val (hexec _ (hfv▸hload.2 hag hone')) (Df ⟨S,β,γ,lam,ω,H.set hd ?_ (fun g z hg hz=>g4 g z hg hz) (fun g hg=>H.used.1 _ g hg)⟩);rw[g2];exact g3
 | val av =>
  rw[hv]at hr hp;simp only at hr |-;simp only[dD]at hp;have hexec:∀v,(Instr.loadAt t (a.tmps.getD p undef)).run P w= .ok v w->(execOp a.eval o).run P w= .ok (.value v) w:=fun v hv'=>by
   simp only[execOp,ho,Act.eval,Sem.run_bind,hv',Result.andThen_ok,Sem.run_pure]
  have hbyval:∀r,ai cx.T t av=some r->After P c N (UG U gid) (.ok (e.upd o.dst (.ofV r)) h) o a w:=fun r hr'=>by
   obtain⟨v,h1,h2⟩:=sy hT H.wf hr' hp;exact After.val (hexec v h1) (Df ⟨S,β,γ,lam,ω,H.setV hd h2⟩)
  cases hmem:bh cx.ann.hl o.dst with
  |false=>
   rw[hmem]at hr;simp only[DF]at hr |-;cases hl:ai cx.T t av with
   |none=>rw[hl]at hr;exact absurd rfl hr
   |some r=>exact hbyval r hl
  | true =>
   rw[hmem]at hr;simp only[Dx]at hr |-;simp only[aF,af]at hr |-;by_cases hav:∃l off,av= .hp l off
   ·obtain⟨l,off,rfl⟩:=hav;unfold fu at hr |-;simp only at hr |-;simp only[VR]at hp;obtain⟨⟨b,nb⟩,hb,hb0,hpv⟩:=hp;cases ht:cx.T t with
    |none=>rw[ht]at hr;exact absurd rfl hr
    | some ti=>
     cases hcs:h[l]? with
     |none=>rw[ht,hcs]at hr;exact absurd rfl hr
     | some cs=>
      rw[ht,hcs]at hr;simp only at hr |-;obtain⟨ii,d,_,hii,hdd,_,_,hsz,_,_,hagd,_⟩:=(hT.get ht).ex;by_cases hne:cs=[]
      ·subst hne;cases hag:ti.agg with
       | true=>
        rw[hag]at hr;simp only[Dx,D3]at hr |-;by_cases hz:off+ti.size<=0
        ·rw[DG hz]at hr |-;have hz0:ti.size=0:=by omega
         have hl0:(loadVar t ⟨b,off,none⟩).run P w= .ok (.agg #[]) w:=by
          simp[loadVar,ee hdd,hagd,hag,run_sizeOf hii,hsz,hz0,loadCells,loadCellsFrom]
         refine After.val (v:=.agg #[]) (hexec _ (by rw[hpv];simp only[Instr.loadAt,Instr.sureAddr,Sem.run_bind,Sem.run_pure,Result.andThen_ok,hl0])) (Df ⟨S,β,γ,lam,ω,H.setV hd ?_⟩);simp only[VR];exact⟨[],by simp,by simp[aG]⟩
        ·rw[if_neg hz]at hr;exact absurd rfl hr
       |false=>rw[hag,List.getElem?_nil]at hr;exact absurd rfl hr
      ·obtain⟨y,k1,k2,k3,k4,k5⟩:=H.heap.cells hcs hne hb hb0;rw[hb]at k1;cases k1;have hcell:∀j v,(y.toList.take cs.length)[j]? = some v->w.cell? ⟨b,0+j,none⟩=some v:=fun j v hj=>by
        rw[DW,k2.cell];rw[DJ]at hj;split at hj
        ·simpa using hj
        ·simp at hj
       have hvd:=k4.drop off;have hcd:∀j v,((y.toList.take cs.length).drop off)[j]? = some v->w.cell? ⟨b,off+j,none⟩=some v:=fun j v hj=>by
        rw[Es]at hj
        have:=hcell _ _ hj
        rwa [DW]at this
       cases hag:ti.agg with
       | true=>
        rw[hag]at hr;simp only[Dx]at hr |-;by_cases hz:off+ti.size<=cs.length
        ·rw[DG hz]at hr |-;obtain⟨v,h1,h2⟩:=ix hT ht hvd hcd (r:=.agg ((cs.drop off).take ti.size)) (by rw[hag];simp only[Dx];rw[DG (by simp;omega)]);exact After.val (hexec v (by rw[hpv];simp only[Instr.loadAt,Instr.sureAddr,Sem.run_bind,Sem.run_pure,Result.andThen_ok,h1])) (Df ⟨S,β,γ,lam,ω,H.setV hd h2⟩)
        ·rw[if_neg hz]at hr;exact absurd rfl hr
       | false=>
        rw[hag]at hr;simp only[DF]at hr |-;cases hg:cs[off]? with
        |none=>rw[hg]at hr;exact absurd rfl hr
        |some r=>
         simp only;obtain⟨v,h1,h2⟩:=ix hT ht hvd hcd (r:=r) (by rw[hag];simp only[DF,List.head?_drop];exact hg);exact After.val (hexec v (by rw[hpv];simp only[Instr.loadAt,Instr.sureAddr,Sem.run_bind,Sem.run_pure,Result.andThen_ok,h1])) (Df ⟨S,β,γ,lam,ω,H.setV hd h2⟩)
   ·rw[vM (fun l off hh=>hav ⟨l,off,hh⟩)]at hr |-;cases hl:ai cx.T t av with
    |none=>rw[hl]at hr;exact absurd rfl hr
    |some r=>exact hbyval r hl
end
end Go.Av
namespace Go.Av
variable [Dr]
section
variable {P:Program} {cx:Cx} {c:Entry} {N:Nat} {U:Nat->Prop} {e:Env} {h:Hp} {a:Act} {w:World} {S:ap} {β:List a8} {γ:Nat->Value} {lam:Nat->Option Nat} {ω:Nat->Owner} {o:Oper} {gid:Nat}
omit [Dr]in
theorem eR{x:AV}{v:Value}(h:aL x=true)(hv:VR S β x v):v.cells= #[v]/\v.oneCell'=true:=by
 have h1:bS x=some 1:=by cases x<;>simp_all[aL,bS]
 have h2:bH 1 x=true:=by
  unfold bH;rw[h1];cases x<;>simp_all[aL,ab]
 obtain⟨g1,g2,g3⟩:=gX h2 hv;have hc:v.cells= #[v]:=by
  cases x<;>simp[aL]at h<;>simp only[VR]at hv
  case bool=>subst hv;rfl
  case int=>subst hv;rfl
  case nilp=>subst hv;rfl
  case nilf=>subst hv;rfl
  case nili=>subst hv;rfl
  case hn=>subst hv;rfl
  case str=>obtain⟨_,rfl,_⟩:=hv;rfl
  case sl=>obtain⟨_,_,rfl,_⟩:=hv;rfl
  case ip=>obtain⟨_,_,_,rfl,_⟩:=hv;rfl
  case hp=>obtain⟨_,_,_,rfl⟩:=hv;rfl
  case mp=>obtain⟨_,_,_,rfl⟩:=hv;rfl
  case nilm=>subst hv;rfl
  case hs=>rcases hv with⟨_,_,_,_,rfl,_⟩|⟨_,_,rfl⟩<;>rfl
  case fn=>obtain⟨_,_,rfl,_⟩:=hv;rfl
  case iface=>obtain⟨_,rfl,_⟩:=hv;rfl
 exact⟨hc,g3 v (by rw[hc];simp)⟩
omit [Dr]in
theorem ko(hT:TOK P cx.T){t:Nat}{ti:TI}(ht:cx.T t=some ti){b off:Nat}{x:Array Value}{v:Value}(hr:Row w b x)(hs:v.cells.size=ti.size)(hone:∀y∈v.cells.toList,y.oneCell'=true)(hle:off+ti.size<=x.size):
  (Instr.storeAt t (.pointer (some ⟨b,off,none⟩)) v).run P w= .ok () (w.setRow b (x.toList.take off++v.cells.toList++x.toList.drop (off+v.cells.toList.length)).toArray):=by
 obtain⟨ii,d,_,hii,hd,_,_,hsz,_⟩:=(hT.get ht).ex;obtain⟨te,hrow⟩:=hr;have hst:=run_storeCells_at P b off te v.cells.toList 0 x w hrow (by simp[hs];omega) hone;simp only[EM]at hst;have hne:¬(v.cells.size≠ii.size):=by rw[hs,hsz];simp
 simp only[Instr.storeAt,Instr.sureAddr,Sem.run_bind,Sem.run_pure,Result.andThen_ok,storeVar,run_sizeOf hii,hne,EH,hst]
omit [Dr]in
theorem jt{n:Nat}{x:AV}{cs:List AV}{v:Value}(h:fU n x=some cs)(hv:VR S β x v):cs=ab x/\v.cells.size=n/\aG S β cs v.cells.toList/\∀y∈v.cells.toList,y.oneCell'=true:=by
 unfold fU at h;cases hk:bH n x with
 |false=>rw[hk]at h;simp at h
 |true=>
  rw[hk]at h;simp only[Dx,Dw]at h;subst h;obtain⟨h1,h2,h3⟩:=gX hk hv;exact⟨rfl,h1,h2,h3⟩
omit [Dr]in
theorem pQ{x:AV}(h:zM x=true):x= .hn:=by cases x<;>simp_all[zM]
theorem wB(hT:TOK P cx.T)(H:FR c N U e h a w S β γ lam ω)(_hN:∀t,t<1000->True)(hU:∀g,gid<=g->g<gid+1000->¬U g){t:Nat}{x y:Operand}(ho:o.op= .store t x y)(hx:∀t,x= .tmp t->t<1000)(hy:∀t,y= .tmp t->t<1000)(hpN:∀p,x= .tmp p->tD (bq cx.ann.kinds p .L)=true->p<N)(hr:aW cx e gid o h≠.fail):After P c N (UG U gid) (aW cx e gid o h) o a w:=by
 unfold aW dP at hr |-;rw[ho]at hr |-;cases x<;>simp only at hr |- <;> (try exact absurd rfl hr);rename_i p;cases hdst:o.dst with
 |some d=>rw[hdst]at hr;exact absurd rfl hr
 |none=>
 rw[hdst]at hr;simp only at hr |-;cases hlw:dB cx.ann.lw p&&!(fc (e.get p))with
 |true=>rw[hlw]at hr;exact absurd rfl hr
 |false=>
 rw[hlw]at hr;simp only[DF]at hr |-;have hp:=H.slots p (hx p rfl);have hyv:=aJ H y hy;have hexec:∀w',(Instr.storeAt t (a.tmps.getD p undef) (a.eval y)).run P w= .ok () w'->(execOp a.eval o).run P w= .ok .skip w':=fun w' hh=>by
  have he:a.eval (.tmp p)=a.tmps.getD p undef:=rfl;simp only[execOp,ho,he,Sem.run_bind,hh,Result.andThen_ok,Sem.run_pure]
 unfold dQ at hr |-;cases hv:(e.get p).v with
 | loc B off=>
  rw[hv]at hr hp;simp only at hr |-;simp only[dD]at hp;obtain⟨b,hlam,hpv⟩:=hp;cases ht:cx.T t with
  |none=>rw[ht]at hr;exact absurd rfl hr
  | some ti =>
   rw[ht]at hr;simp only at hr |-;cases hin:hP e B off ti.size with
   |false=>rw[hin]at hr;exact absurd rfl hr
   | true =>
    rw[hin]at hr;simp only[Dx]at hr |-;obtain⟨b',z,m,hm,hle,hlam',hrow,hms,hcells⟩:=H.locals hin;rw[hlam]at hlam';cases hlam';have hst:∀v,a.eval y=v->v.cells.size=ti.size->(∀q∈v.cells.toList,q.oneCell'=true)->
      (execOp a.eval o).run P w= .ok .skip (w.setRow b (z.toList.take off++v.cells.toList++z.toList.drop (off+v.cells.toList.length)).toArray):=fun v hv' h1 h2=>
     hexec _ (by rw[hpv,hv'];exact ko hT ht hrow h1 h2 (by omega))
    cases hS:tD (bq cx.ann.kinds p .L)with
    | true=>
     rw[hS]at hr;simp only[Dx]at hr |-;cases hcond:iE e B off p ti.size with
     |false=>rw[hcond]at hr;exact absurd rfl hr
     | true=>
      rw[hcond]at hr;simp only[Dx]at hr |-;unfold iE at hcond;rw[hm]at hcond;simp only[Dy]at hcond;obtain⟨⟨h1,h2⟩,h3⟩:=hcond;have h1:=DC h1;have h3:=DC h3;subst h1 h3;unfold aZ at hr |-;cases hcs:fU ti.size (opnd e y)with
      |none=>rw[hcs]at hr;exact absurd rfl hr
      |some cs=>
       obtain⟨k1,k2,k3,k4⟩:=jt hcs hyv;obtain⟨S',ω',_,F⟩:=H.storeS (u:=⟨.val (.tup []),none⟩) (hpN p rfl hS) hm (by simpa using k2) hlam hrow k3 hpv;refine After.skip hdst (hst _ rfl k2 k4) ?_;have F2:=F.wider (V:=UG U gid) (fun _ h=>.inl h);have hacs:ab (.agg cs)=cs:=rfl;simp only[Eu,Ez,DW]at F2 |-;exact⟨_,_,_,_,_,F2⟩
    | false =>
     rw[hS]at hr;simp only[DF]at hr |-;cases hag:ti.agg with
     | true =>
      rw[hag]at hr;simp only[Dx]at hr |-;unfold ay at hr |-;cases hcs:fU ti.size (opnd e y)with
      |none=>rw[hcs]at hr;exact absurd rfl hr
      | some cs=>
       rw[hcs]at hr;simp only at hr |-;cases hnil:f5 cs (dF cx.ann.nils p) ti.size with
       |false=>rw[hnil]at hr;exact absurd rfl hr
       | true=>
        obtain⟨k1,k2,k3,k4⟩:=jt hcs hyv;have hnb:∀i∈dF cx.ann.nils p,i<ti.size/\nth cs i= .hn:=fun i hi=>by
         unfold f5 at hnil;rw[DL]at hnil
         have:=hnil i hi
         rw[Dy]at this;exact⟨by simpa using this.1,pQ this.2⟩
        have hm1000:m<1000:=(H.lblk B m hm).2.2.1;have hcsl:cs.length=ti.size:=by rw[<- k3.length];simpa using k2
        have F:=H.storeL (u:=⟨.val (.tup []),none⟩) (L:=gJ (B+off) cs (dF cx.ann.nils p) gid ti.size) (A:=kw (dF cx.ann.nils p) gid) (vs:=(a.eval y).cells.toList) (ent:=fl cs (dF cx.ann.nils p) gid)
         hU (gK (fun i hi=>(hnb i hi).1) (by omega)) hm hle (by simpa using k2) hlam hrow (fun t'=>lK _ _ _ _ _ _ _) (fun i hi=>by
          obtain⟨v,v1,v2⟩:=k3.allR i (by omega);unfold fl;cases hmem:dB (dF cx.ann.nils p) i with
          | true=>
           have hn:=(hnb i ((eA _ _).1 hmem)).2;rw[hn]at v2;simp only[VR]at v2;subst v2;refine⟨_,.sl [],v1,rfl,?_,fun g z hg _=>?_,fun g hg=>?_⟩
           ·simp only[VR];exact⟨none,0,rfl,DD _,fun _=>rfl,fun q hq=>by cases hq⟩
           ·simp only[Dx,Dw]at hg;unfold γN;rw[DG (by omega)]
           ·simp only[Dx,Dw]at hg;exact .inr (by omega)
          |false=>exact⟨v,nth cs i,v1,rfl,v2,fun g z hg _=>by simp at hg,fun g hg=>by simp at hg⟩)
        refine After.skip hdst (hst _ rfl k2 k4) ?_;exact⟨_,_,_,_,_,F⟩
     | false=>
      rw[hag]at hr;simp only[DF]at hr |-;cases hone:decide (ti.size=1)with
      |false=>rw[hone]at hr;exact absurd rfl hr
      | true=>
       have hone':ti.size=1:=by simpa using hone
       rw[hone]at hr;simp only[Dx]at hr |-;have hput:∀(v:Value)(u:Ent)(en:Ent)(A:List (Nat×Option Nat))(av:AV),a.eval y=v->v.cells= #[v]->v.oneCell'=true->dC A gid->en.v= .val av->VR S β av v->
         (∀g z,en.g=some g->aA (A++e.al) g=some z->v=γN γ gid g)->(∀g,en.g=some g->U g\/(gid<=g/\g<gid+1000))->
         After P c N (UG U gid) (.ok (e.upd none { ent:=u,ls:=[(B+off,en)],add:=A }) h) o a w:=by
        intro v u en A av hav hc1 hc2 hA hen hr1 hg1 hg2;have F:=H.storeL (u:=u) (L:=[(B+off,en)]) (A:=A) (n:=1) (m:=m) (off:=off) (vs:=v.cells.toList) (ent:=fun _=>en) hU hA hm (by omega) (by rw[hc1];rfl) hlam hrow (fun t'=>by
          simp only[Eg,Ez,bm];by_cases ht':B+off=t'
          ·rw[DG ht',DG (by omega)]
          ·rw[if_neg ht',if_neg (by omega)];rfl) (fun i hi=>by
          have:i=0:=by omega
          subst this;exact⟨v,av,by rw[hc1];rfl,hen,hr1,hg1,hg2⟩)
        refine After.skip hdst (hst v hav (by rw[hc1,hone'];rfl) (by rw[hc1];simpa using hc2)) ?_;exact⟨_,_,_,_,_,F⟩
       rw[hdst]at *;cases y with
       | tmp s=>
        simp only at hr |-;have hs:=H.slots s (hy s rfl);cases hsv:(e.get s).v with
        |loc _ _=>rw[hsv]at hr;exact absurd rfl hr
        | val av=>
         rw[hsv]at hr hs;simp only at hr |-;unfold bj at hr |-;cases hok:aL av with
         |false=>rw[hok]at hr;exact absurd rfl hr
         |true=>
          obtain⟨j1,j2⟩:=eR hok hs;refine hput _ _ (e.get s) [] av rfl j1 j2 (fy gid) hsv hs (fun g z hg hz=>?_) (fun g hg=>.inl (H.used.1 s g hg));unfold γN;rw[if_neg (fun hr=>hU g hr.1 hr.2 (H.used.1 s g hg))];exact H.grps s g z (hy s rfl) hg hz
       | const v=>
        simp only at hr |-;cases hn:aM (.const v)with
        | true=>
         have hv':v= .slice none 0 0:=by
          unfold aM at hn;split at hn
          ·rename_i hq;simpa using hq
          ·simp at hn
         subst hv';refine hput _ _ _ _ (.sl []) rfl rfl rfl (mD gid) rfl ?_ (fun g z hg hz=>?_) (fun g hg=>?_)
         ·simp only[VR];exact⟨none,0,rfl,DD _,fun _=>rfl,fun q hq=>by cases hq⟩
         ·simp only[Dw]at hg;unfold γN;rw[DG (by omega)];rfl
         ·simp only[Dw]at hg;exact .inr (by omega)
        | false=>
         rw[hn]at hr;simp only[DF]at hr |-;unfold bj at hr |-;cases hok:aL (opnd e (.const v))with
         |false=>rw[hok]at hr;exact absurd rfl hr
         |true=>
          obtain⟨j1,j2⟩:=eR hok hyv;exact hput _ _ _ [] _ rfl j1 j2 (fy gid) rfl hyv (fun g z hg _=>by cases hg) (fun g hg=>by cases hg)
       |global g=>simp only[aM,DF,bj,opnd,aL]at hr;exact absurd rfl hr
       | func f=>
        simp only[aM,DF]at hr |-;unfold bj at hr |-;cases hok:aL (opnd e (.func f))with
        |false=>rw[hok]at hr;exact absurd rfl hr
        |true=>
         obtain⟨j1,j2⟩:=eR hok hyv;exact hput _ _ _ [] _ rfl j1 j2 (fy gid) rfl hyv (fun g z hg _=>by cases hg) (fun g hg=>by cases hg)
 | val av=>
  rw[hv]at hr hp;simp only at hr |-;simp only[dD]at hp;simp only[aF,af]at hr |-;cases hav:av with
  | hp l off=>
   subst hav;simp only[VR]at hp;obtain⟨⟨b,nb⟩,hb,hb0,hpv⟩:=hp;unfold fg at hr |-;cases ht:cx.T t with
   |none=>rw[ht]at hr;exact absurd rfl hr
   | some ti=>
    rw[ht]at hr;simp only at hr |-;cases hcs:h[l]? with
    |none=>rw[hcs]at hr;exact absurd rfl hr
    | some cs=>
     rw[hcs]at hr;simp only at hr |-;cases hcond:(bH ti.size (opnd e y)&&decide (off+ti.size<=cs.length)&&decide (0<ti.size))with
     |false=>rw[hcond]at hr;exact absurd rfl hr
     | true=>
      rw[hcond]at hr;simp only[Dx]at hr |-;simp only[Dy,DK]at hcond;obtain⟨⟨h1,h2⟩,h3⟩:=hcond;obtain⟨k2,k3,k4⟩:=gX h1 hyv;have hne:cs≠[]:=by rintro rfl;simp at h2;omega
      obtain⟨z,j1,j2,j3,j4,j5⟩:=H.heap.cells hcs hne hb hb0;rw[hb]at j1;cases j1;have hzs:cs.length<=z.size:=by
       have:=j4.length
       simp at this;omega
      have hacl:(ab (opnd e y)).length=ti.size:=by rw[<- k3.length];simpa using k2
      have F:=H.turnH (cs':=setCells cs off (ab (opnd e y))) (y:=(z.toList.take off++(a.eval y).cells.toList++z.toList.drop (off+(a.eval y).cells.toList.length)).toArray) hcs hne ⟨_,hb⟩ j2 (by simp[k2];omega) (by
       rw[dv _ _ _ (by omega)];have hsp:aG S β (setCells cs off (ab (opnd e y))) (((z.toList.take cs.length).take off++(a.eval y).cells.toList++(z.toList.take cs.length).drop (off+(a.eval y).cells.toList.length))):=by
        unfold setCells;have hl1:(a.eval y).cells.toList.length=(ab (opnd e y)).length:=k3.length;rw[hl1];exact ((j4.take off).append k3).append (j4.drop _)
       have heq:(z.toList.take off++(a.eval y).cells.toList++z.toList.drop (off+(a.eval y).cells.toList.length)).take cs.length=
         (z.toList.take cs.length).take off++(a.eval y).cells.toList++(z.toList.take cs.length).drop (off+(a.eval y).cells.toList.length):=by
        rw[Fg,Fg];have hl:(a.eval y).cells.toList.length=ti.size:=by simpa using k2
        have e1:(z.toList.take off).length=off:=by simp;omega
        rw[E1,E1];have e2:min cs.length off=off:=by omega
        have e3:min off cs.length=off:=by omega
        rw[e2,e3,e1];have e4:(a.eval y).cells.toList.take (cs.length-off)=(a.eval y).cells.toList:=EZ (by omega);rw[e4];congr 1;rw[GI,Eb,e1,hl];congr 2;omega
       show aG S β _ (List.take _ _);rw[show (z.toList.take off++(a.eval y).cells.toList++z.toList.drop (off+(a.eval y).cells.toList.length)).toArray.toList=(z.toList.take off++(a.eval y).cells.toList++z.toList.drop (off+(a.eval y).cells.toList.length))from rfl,heq];exact hsp) (fun t ht=>ht.setCells.resolve_right (qb h1 t))
      refine After.skip hdst (hexec _ (by rw[hpv];exact ko hT ht j2 k2 k4 (by omega))) ?_;have hupd:∀E:Env,E.upd none (.ofV (.tup []))=E:=fun E=>rfl;rw[hupd];exact Df ⟨_,_,_,_,_,F⟩
  |_=>subst hav;unfold fg at hr;exact absurd rfl hr
end
end Go.Av
namespace Go.Av
variable [Dr]
section
variable {P:Program} {cx:Cx} {c:Entry} {N:Nat} {U:Nat->Prop} {e:Env} {h:Hp} {a:Act} {w:World} {S:ap} {β:List a8} {γ:Nat->Value} {lam:Nat->Option Nat} {ω:Nat->Owner} {o:Oper} {gid:Nat}
theorem Bt(H:FR c N U e h a w S β γ lam ω)(hd:∀t,o.dst=some t->t<N){cs:List AV}{x:Array Value}{vs:List Value}{t:TypeId}(hvs:aG S β cs vs)(hx:∀(j:Nat)(v:Value),vs[j]? = some v->x[j]? = some v)(hrun:(execOp a.eval o).run P w= .ok (.value (.pointer (some ⟨w.heap.size,0,none⟩))) (w.alloc (.cells x t))):After P c N (UG U gid) (.ok (e.upd o.dst (.ofV (.ip cs))) h) o a w:=by
 have H2:=H.allocS x t x.size;refine After.val hrun (Df ⟨_,β,γ,lam,ω,H2.setV hd ?_⟩);simp only[VR];refine⟨w.heap.size,0,vs,rfl,hvs.mono (fun k o v hv=>?_) (dT.refl β),fun j v hj=>?_⟩
 ·unfold ap.withRowTo;split
  ·rename_i hk;subst hk;rw[H.wf.none (DD _)]at hv;simp at hv
  ·exact hv
 ·have:=hx j v hj
  unfold ap.withRowTo;rw[DG rfl,DW,DG]
  ·exact this
  ·rcases DU j x.size with h|h
   ·exact h
   ·rw[Ej h]at this;simp at this
theorem sD(H:FR c N U e h a w S β γ lam ω)(hd:∀t,o.dst=some t->t<N){cs:List AV}{x:Array Value}{vs:List Value}{t:TypeId}(hvs:aG S β cs vs)(hx:∀(j:Nat)(v:Value),vs[j]? = some v->x[j]? = some v)(hrun:(execOp a.eval o).run P w= .ok (.value (.pointer (some ⟨w.heap.size,0,none⟩))) (w.alloc (.cells x t)))(hr:aF e o.dst (.dyn (newH cs) .ofV) h≠.fail):After P c N (UG U gid) (aF e o.dst (.dyn (newH cs) .ofV) h) o a w:=by
 have hcs:cs≠[]:=by
  rintro rfl;exact hr rfl
 have hemp:(cs.isEmpty||cs.any gH)=false:=by
  cases hq:(cs.isEmpty||cs.any gH)with
  |false=>rfl
  |true=>
   exfalso;apply hr;simp only[aF,af,newH,hq,Dx]
 have hnb:=sE (FD.1 hemp).2;have htake:aG S β cs (x.toList.take cs.length):=by
  refine .of_get ?_ fun i y v hy hv=>?_
  ·have hl:=hvs.length;rw[EA];have:cs.length<=x.size:=by
    rcases Eh cs.length with h0|h0
    ·omega
    ·obtain⟨v,hv,_⟩:=hvs.allR (cs.length-1) (by omega)
     have:=hx _ _ hv
     rcases DU (cs.length-1) x.size with h|h
     ·omega
     ·rw[Ej h]at this;simp at this
   simp;omega
  ·obtain⟨u,hu,hur⟩:=hvs.get hy
   have:=hx i u hu
   rw[DJ]at hv;split at hv
   ·rw[D1,this]at hv;cases hv;exact hur
   ·simp at hv
 obtain⟨ω',F,hnew,_⟩:=H.newH x t htake (fun t ht=>absurd ht (hnb t));have hx0:x.size≠0:=by
  have h1:=htake.length;have h2:=E7.2 hcs;simp only[EA,En]at h1;omega
 simp only[aF,af,newH,hemp,DF,M.pure];refine After.val hrun (Df ⟨_,_,γ,lam,ω',F.setV hd ?_⟩);simp only[VR];exact⟨_,hnew,hx0,rfl⟩
theorem xM(H:FR c N U e h a w S β γ lam ω)(hd:∀t,o.dst=some t->t<N){cs:List AV}{x:Array Value}{t:TypeId}(hvs:aG S β cs x.toList)(hrun:(execOp a.eval o).run P w= .ok (.value (.pointer (some ⟨w.heap.size,0,none⟩))) (w.alloc (.cells x t)))(hr:aF e o.dst (.dyn (tK t cs) .ofV) h≠.fail):After P c N (UG U gid) (aF e o.dst (.dyn (tK t cs) .ofV) h) o a w:=by
 simp only[aF,af,tK,M.pure]at hr |-;split at hr
 ·rename_i h1 hm;split at hm
  ·rename_i r;cases hq:r.any gH with
   |true=>rw[hq]at hm;cases hm
   | false=>
    rw[hq]at hm;simp only[DF,R.ok.injEq]at hm;obtain⟨rfl,rfl⟩:=hm;have htake:aG S β (.nilb t:: r) (x.toList.take (AV.nilb t:: r).length):=by
     have hl:=hvs.length;rw[show (AV.nilb t:: r).length=x.toList.length by rw[hl];rfl,Gs];simp only[aG,VR]at hvs |-;exact hvs
    obtain⟨ω',F,hnew,_⟩:=H.newH x t htake (fun t' ht'=>by
     rcases ht'.cons with h|h
     ·simpa [jk]using h.symm
     ·exact absurd h (sE hq t'))
    have hx0:x.size≠0:=by
     have hl:=hvs.length;simp at hl;omega
    refine After.val hrun (Df ⟨_,_,γ,lam,ω',F.setV hd ?_⟩);simp only[VR];exact⟨_,hnew,hx0,rfl⟩
  ·cases hm
 ·rename_i hm;split at hm
  ·rename_i r;revert hm;cases r.any gH<;>simp
  ·cases hm
 ·exact absurd rfl hr
omit [Dr]in
theorem sV(hT:TOK P cx.T){t:Nat}{ti:TI}(ht:cx.T t=some ti):∃z:Value,(Instr.alloc t true (.tuple #[])).run P w= .ok (.pointer (some ⟨w.heap.size,0,none⟩)) (w.alloc (.cells z.cells t))/\z.cells.size=ti.size/\
  (∀told,aG S β (cB told ti) z.cells.toList):=by
 obtain⟨i,d,z,hi,hd,hz,hzs,hsz,_⟩:=(hT.get ht).ex;refine⟨z,?_,by omega,fun told=>mm hT ht told hi hz⟩;simp[Instr.alloc,zeroValue,typeInfo,hi,hz,newVar,newRow]
theorem uc(hT:TOK P cx.T)(H:FR c N U e h a w S β γ lam ω)(hd:∀t,o.dst=some t->t<N)(hU:∀g,gid<=g->g<gid+1000->¬U g){t:Nat}(ho:o.op= .alloc t)(hr:aW cx e gid o h≠.fail):
  After P c N (UG U gid) (aW cx e gid o h) o a w:=by
 unfold aW dP at hr |-;rw[ho]at hr |-;simp only at hr |-;cases hdst:o.dst with
 |none=>rw[hdst]at hr;exact absurd rfl hr
 | some s=>
  rw[hdst]at hr;simp only at hr |-;unfold dN at hr |-;cases ht:cx.T t with
  |none=>rw[ht]at hr;exact absurd rfl hr
  | some ti=>
   rw[ht]at hr;simp only at hr |-;obtain⟨z,hrun,hzs,hz⟩:=sV (w:=w) (S:=S) (β:=β) hT ht;have hexec:(execOp a.eval o).run P w= .ok (.value (.pointer (some ⟨w.heap.size,0,none⟩))) (w.alloc (.cells z.cells t)):=by
    simp only[execOp,ho,Sem.run_bind,hrun,Result.andThen_ok,Sem.run_pure]
   have hL:∀A:Act1,A=(bif decide (ti.size<1000)&&aK e.sl (aR s)&&f5 (cB true ti) (dF cx.ann.nils s) ti.size then
     .stat { ent:=⟨.loc (aR s) 0,none⟩,ls:=gJ (aR s) (cB (dB cx.ann.hb s) ti) (dF cx.ann.nils s) gid ti.size,add:=kw (dF cx.ann.nils s) gid,lb:=some (aR s,ti.size) }else .bad)->
     aF e (some s) A h≠.fail->After P c N (UG U gid) (aF e (some s) A h) o a w:=by
    rintro A rfl hr;cases hcond:(decide (ti.size<1000)&&aK e.sl (aR s)&&f5 (cB true ti) (dF cx.ann.nils s) ti.size)with
    |false=>rw[hcond]at hr;exact absurd rfl hr
    |true=>
     simp only[Dx];simp only[Dy,DK]at hcond;obtain⟨⟨h1,h2⟩,h3⟩:=hcond;obtain⟨lam',ω',F⟩:=H.allocL (s:=s) (n:=ti.size) (gid:=gid) (x:=z.cells) (t:=t) (cs:=cB (dB cx.ann.hb s) ti) (offs:=dF cx.ann.nils s) (hd s hdst) hU h1 (fun i hi=>by
       have hzz:=hz (dB cx.ann.hb s);have hl:=hzz.length;obtain⟨v,v1,v2⟩:=hzz.allR i (by rw[<- hl];simpa [hzs]using hi);exact⟨v,by simpa using v1,v2⟩) (fun i hi=>by
       unfold f5 at h3;rw[DL]at h3
       have:=h3 i hi
       rw[Dy]at this;have hn:=pQ this.2;have hlt:i<ti.size:=by simpa using this.1
       have hzz:=hz true;have hl:=hzz.length;obtain⟨v,v1,v2⟩:=hzz.allR i (by rw[<- hl];simpa [hzs]using hlt);rw[hn]at v2;simp only[VR]at v2;subst v2;exact⟨hlt,by simpa using v1⟩) h2
     refine After.val hexec ?_;rw[hdst];exact⟨_,_,_,_,_,F⟩
   cases hk:bq cx.ann.kinds s .L with
   |F=>
    simp only;rw[<- hdst];exact Bt H hd (hz false) (fun j v hj=>by simpa using hj) hexec
   |H=>
    simp only;rw[<- hdst];exact sD H hd (hz _) (fun j v hj=>by simpa using hj) hexec (by rw[hdst];simpa only[hk]using hr)
   |B=>
    simp only;rw[hk]at hr;rw[<- hdst]at hr |-;exact xM H hd (hz _) hexec hr
   |L=>rw[hk]at hr;exact hL _ rfl hr
   |S=>rw[hk]at hr;exact hL _ rfl hr
theorem zk(H:FR c N U e h a w S β γ lam ω)(hd:∀t,o.dst=some t->t<N)(hU:∀g,gid<=g->g<gid+1000->¬U g){t:Nat}{x:Operand}(ho:o.op= .box t x)(hx:∀t,x= .tmp t->t<1000)(hr:aW cx e gid o h≠.fail):
  After P c N (UG U gid) (aW cx e gid o h) o a w:=by
 unfold aW dP at hr |-;rw[ho]at hr |-;simp only at hr |-;cases hdst:o.dst with
 |none=>rw[hdst]at hr;exact absurd rfl hr
 | some s=>
  rw[hdst]at hr;simp only at hr |-;have hv:=aJ H x hx;have hexec:(execOp a.eval o).run P w= .ok (.value (.pointer (some ⟨w.heap.size,0,none⟩))) (w.alloc (.cells (a.eval x).cells t)):=by
   simp[execOp,ho,Instr.box,newVar,newRow]
  obtain⟨vs,hvs,hvx⟩:=hv.acells
  have hL:∀A:Act1,A=(match cx.T t with
    |none=>.bad
    | some ti=>bif decide (ti.size<1000)&&aK e.sl (aR s)then
      .dyn (aZ ti.size (opnd e x)) fun v=>{ ent:=⟨.loc (aR s) 0,none⟩,ls:=gJ (aR s) (ab v) [] 0 ti.size,lb:=some (aR s,ti.size) }
     else .bad)->aF e (some s) A h≠.fail->After P c N (UG U gid) (aF e (some s) A h) o a w:=by
   rintro A rfl hr;cases ht:cx.T t with
   |none=>rw[ht]at hr;exact absurd rfl hr
   | some ti=>
    rw[ht]at hr;simp only at hr |-;cases hcond:(decide (ti.size<1000)&&aK e.sl (aR s))with
    |false=>rw[hcond]at hr;exact absurd rfl hr
    | true=>
     rw[hcond]at hr;simp only[Dx]at hr |-;simp only[Dy,DK]at hcond;obtain⟨h1,h2⟩:=hcond;unfold aZ at hr |-;cases hcs:fU ti.size (opnd e x)with
     |none=>rw[hcs]at hr;exact absurd rfl hr
     | some cs=>
      obtain⟨_,k2,k3,_⟩:=jt hcs hv;obtain⟨lam',ω',F⟩:=H.allocL (s:=s) (n:=ti.size) (gid:=gid) (x:=(a.eval x).cells) (t:=t) (cs:=cs) (offs:=[]) (hd s hdst) hU h1 (fun i hi=>by
       obtain⟨v,v1,v2⟩:=k3.allR i (by rw[<- k3.length];simpa [k2]using hi);exact⟨v,by simpa using v1,v2⟩) (fun i hi=>by simp at hi) h2
      refine After.val hexec ?_;rw[hdst];have hls:gJ (aR s) cs [] 0 ti.size=gJ (aR s) cs [] gid ti.size:=by simp[gJ,dB]
      have hac:ab (.agg cs)=cs:=rfl;simp only[hac,hls];exact⟨_,_,_,_,_,F⟩
  unfold gP at hr |-;cases hk:bq cx.ann.kinds s .F with
  |F=>
   simp only;rw[<- hdst];exact Bt H hd hvs (fun j v hj=>by simpa using hvx j v hj) hexec
  |H=>
   simp only;rw[<- hdst];exact sD H hd hvs (fun j v hj=>by simpa using hvx j v hj) hexec (by rw[hdst];simpa only[hk]using hr)
  |B=>rw[hk]at hr;exact absurd rfl hr
  |L=>rw[hk]at hr;exact hL _ rfl hr
  |S=>rw[hk]at hr;exact hL _ rfl hr
theorem wn(H:FR c N U e h a w S β γ lam ω)(hd:∀t,o.dst=some t->t<N){B b off:Nat}(hlam:lam B=some b)(hrun:(execOp a.eval o).run P w= .ok (.value (.pointer (some ⟨b,off,none⟩))) w):
  After P c N (UG U gid) (.ok (e.upd o.dst { ent:=⟨.loc B off,none⟩ }) h) o a w:=
 After.val hrun (Df ⟨S,β,γ,lam,ω,H.set hd (by simp only[dD];exact⟨b,hlam,rfl⟩) (fun _ _ h=>by cases h) (fun _ h=>by cases h)⟩)
theorem nZ(hT:TOK P cx.T)(H:FR c N U e h a w S β γ lam ω)(hd:∀t,o.dst=some t->t<N){t f:Nat}{x:Operand}(ho:o.op= .fieldAddr t x f)(hx:∀t,x= .tmp t->t<1000)(hr:aW cx e gid o h≠.fail):
  After P c N (UG U gid) (aW cx e gid o h) o a w:=by
 unfold aW dP at hr |-;rw[ho]at hr |-;cases x<;>simp only at hr |- <;> (try exact absurd rfl hr);rename_i p;have hp:=H.slots p (hx p rfl);unfold eO at hr |-;cases hv:(e.get p).v with
 | loc B off=>
  rw[hv]at hr hp;simp only at hr |-;simp only[dD]at hp;obtain⟨b,hlam,hpv⟩:=hp;cases ht:cx.T t with
  |none=>rw[ht]at hr;exact absurd rfl hr
  | some ti=>
   rw[ht]at hr;simp only at hr |-;cases hf:ti.offs[f]? with
   |none=>rw[hf]at hr;exact absurd rfl hr
   | some q=>
    obtain⟨o',ft,nm⟩:=q;rw[hf]at hr;simp only at hr |-;cases hft:cx.T ft with
    |none=>rw[hft]at hr;exact absurd rfl hr
    | some fi=>
     rw[hft]at hr;simp only at hr |-;cases hz:decide (fi.size=0)with
     |true=>rw[hz]at hr;exact absurd rfl hr
     | false=>
      simp only[DF];have hfa:aa cx.T t (.hp 0 off) f=some (.hp 0 (off+o')):=by
       unfold aa;rw[ht];simp only;rw[hf];simp only;rw[hft];simp only;rw[if_neg (by simpa using hz)]
      obtain⟨v,h1,h2⟩:=iO (P:=P) (w:=w) (S:=S) (β:=[(b,1)]) hT hfa (vx:=.pointer (some ⟨b,off,none⟩)) (by simp[VR]);simp only[VR]at h2;obtain⟨b',hb',_,rfl⟩:=h2;simp only[D9,Dw]at hb';subst hb';refine wn H hd hlam ?_;have he:a.eval (.tmp p)= .pointer (some ⟨b,off,none⟩):=hpv;simp only[execOp,ho,he,Sem.run_bind,h1,Result.andThen_ok,Sem.run_pure]
 |val av=>
  rw[hv]at hr hp;simp only at hr |-;refine cW H hd (m:=Instr.fieldAt t (a.eval (.tmp p)) f) (by simp[execOp,ho]) (fun r hr'=>iO hT hr' hp) hr
theorem og(hT:TOK P cx.T)(H:FR c N U e h a w S β γ lam ω)(hd:∀t,o.dst=some t->t<N){t:Nat}{x i:Operand}(ho:o.op= .indexAddr t x i)(hx:∀t,x= .tmp t->t<1000)(hi:∀t,i= .tmp t->t<1000)(hr:aW cx e gid o h≠.fail):
  After P c N (UG U gid) (aW cx e gid o h) o a w:=by
 unfold aW dP at hr |-;rw[ho]at hr |-;cases x<;>simp only at hr |- <;> (try exact absurd rfl hr);rename_i p;have hp:=H.slots p (hx p rfl);unfold cq at hr |-;cases hv:(e.get p).v with
 | loc B off=>
  rw[hv]at hr hp;simp only at hr |-;simp only[dD]at hp;obtain⟨b,hlam,hpv⟩:=hp;cases ht:cx.T t with
  |none=>rw[ht]at hr;exact absurd rfl hr
  | some ti=>
   rw[ht]at hr;cases hci:lc i with
   |none=>rw[hci]at hr;exact absurd rfl hr
   |some n=>
   rw[hci]at hr;simp only at hr |-;obtain⟨ik,rfl⟩:∃ik,i= .const (.int ik n):=by
    unfold lc at hci;split at hci
    ·simp only[Dw]at hci;subst hci;exact⟨_,rfl⟩
    ·simp at hci
   cases hk:ti.kind<;>rw[hk]at hr<;>simp only at hr |- <;> (try exact absurd rfl hr);rename_i m el;cases hel:cx.T el with
   |none=>rw[hel]at hr;exact absurd rfl hr
   | some ei=>
    rw[hel]at hr;simp only at hr |-;cases hc:decide (0<=n/\n<m)with
    |false=>rw[hc]at hr;exact absurd rfl hr
    | true=>
     simp only[Dx];have hia:ao cx.T t (.hp 0 off) (.int ik n)=some (.hp 0 (off+n.toNat*ei.size)):=by
      unfold ao;rw[ht];simp only;rw[hk];simp only;rw[hel];simp only;rw[DG (by simpa using hc)]
     obtain⟨v,h1,h2⟩:=iT (P:=P) (w:=w) (S:=S) (β:=[(b,1)]) hT hia (vx:=.pointer (some ⟨b,off,none⟩)) (vi:=.int ik n) (by simp[VR]) (by simp[VR]);simp only[VR]at h2;obtain⟨b',hb',_,rfl⟩:=h2;simp only[D9,Dw]at hb';subst hb';refine wn H hd hlam ?_;have he:a.eval (.tmp p)= .pointer (some ⟨b,off,none⟩):=hpv;have hei:a.eval (.const (.int ik n))= .int ik n:=rfl;simp only[execOp,ho,he,hei,Sem.run_bind,h1,Result.andThen_ok,Sem.run_pure]
 |val av=>
  rw[hv]at hr hp;simp only at hr |-;refine cW H hd (m:=Instr.indexAt t (a.eval (.tmp p)) (a.eval i)) (by simp[execOp,ho]) (fun r hr'=>iT hT hr' hp (aJ H i hi)) hr
theorem qa(H:FR c N U e h a w S β γ lam ω)(hd:∀t,o.dst=some t->t<N){x:Operand}(ho:o.op= .nilCheck x)(hx:∀t,x= .tmp t->t<1000)(hr:aW cx e gid o h≠.fail):
  After P c N (UG U gid) (aW cx e gid o h) o a w:=by
 unfold aW dP at hr |-;rw[ho]at hr |-;cases x<;>simp only at hr |- <;> (try exact absurd rfl hr);rename_i p;have hp:=H.slots p (hx p rfl);cases hv:(e.get p).v with
 |loc B off=>
  have hp2:=hp;rw[hv]at hr hp;simp only at hr |-;simp only[dD]at hp;obtain⟨b,hlam,hpv⟩:=hp;have he:a.eval (.tmp p)= .pointer (some ⟨b,off,none⟩):=hpv;exact sc H hd (hx p rfl) (by simp[execOp,ho,he,hpv])
 | val av=>
  rw[hv]at hr hp;simp only at hr |-;have he:a.eval (.tmp p)=a.tmps.getD p undef:=rfl;cases hn:iY av with
  |none=>rw[hn]at hr;exact absurd rfl hr
  | some r=>
   have hrun:(execOp a.eval o).run P w= .ok (.value (a.tmps.getD p undef)) w/\r=av:=by
    simp only[dD]at hp;unfold iY at hn;split at hn<;>simp only[Dw,reduceCtorEq]at hn<;>subst hn<;>simp only[VR]at hp
    ·obtain⟨b,off,vs,hpv,_⟩:=hp;exact⟨by simp[execOp,ho,he,hpv],rfl⟩
    ·obtain⟨b,hb,hpv⟩:=hp;exact⟨by simp[execOp,ho,he,hpv],rfl⟩
    ·obtain⟨y,hpv,_⟩:=hp;exact⟨by simp[execOp,ho,he,hpv],rfl⟩
    ·obtain⟨y,z,hpv,_⟩:=hp;exact⟨by simp[execOp,ho,he,hpv],rfl⟩
   obtain⟨hrun,rfl⟩:=hrun;exact After.val hrun (Df ⟨S,β,γ,lam,ω,H.setV hd hp⟩)
end
end Go.Av
namespace Go.Av
variable [Dr]
section
variable {P:Program} {cx:Cx} {c:Entry} {N:Nat} {U:Nat->Prop} {e:Env} {h:Hp} {a:Act} {w:World} {S:ap} {β:List a8} {γ:Nat->Value} {lam:Nat->Option Nat} {ω:Nat->Owner} {o:Oper} {gid:Nat}
theorem FR.out'(H:FR c N U e h a w S β γ lam ω){S':ap}{β':List a8}{w':World}{h':Hp}(L:Left (bn β h) S β w S' β' w' h'):Out c h' w' S' β':=by
 obtain⟨ω',F,_⟩:=H.left L;exact F.out
theorem iq(hC:bI P cx.own cx.call)(H:FR c N U e h a w S β γ lam ω)(hd:∀t,o.dst=some t->t<N)(hU:∀g,gid<=g->g<gid+1000->¬U g){f:FuncId}{args:List AV}{vs:List Value}(hargs:aG S β args vs)(hrun:(P.funcs[f]?).any (fun fn=>fn.body.isSome&&!(fn.name== "runtime.NumGoroutine"))=true->(execOp a.eval o).run P w= .ok (.enter f vs.toArray) w){sh:AV->Upd}(hsh:(∀v,sh v= .ofV v)\/∃sz,cx.own f=some sz/\∀v,sh v= .own v gid (some sz))(hr:(af (cx.call f args) fun v=>M.pure (e.upd o.dst (sh v))) h≠.fail):After P c N (UG U gid) ((af (cx.call f args) fun v=>M.pure (e.upd o.dst (sh v))) h) o a w:=by
 have hne:cx.call f args h≠.fail:=by
  intro hf;unfold af at hr;rw[hf]at hr;exact hr rfl
 obtain⟨hcalls,hfn⟩:=hC f args h S β w vs hne H.gok H.wf H.heapX hargs;have hrun:=hrun hfn;intro next Q hn hp
 unfold Oper.wp;rw[hrun];simp only[Oper.upon];refine hcalls.mono fun en w' hpost=>?_;unfold af at hn hp;cases hres:cx.call f args h with
 |fail=>exact absurd hres hne
 |pan pv h'=>
  rw[hres]at hpost hp;obtain⟨S',β',v,rfl,hv,hleft⟩:=hpost;exact hp pv h' v w' rfl ⟨S',β',H.out' hleft,hv⟩
 | ok rv h'=>
  rw[hres]at hpost hn;obtain⟨S',β',v,rfl,hv,hleft,hown⟩:=hpost;obtain⟨ω',F,hno⟩:=H.left hleft;refine hn (e.upd o.dst (sh rv)) h' _ _ rfl ?_ (put_defers a o.dst v);rcases hsh with hsh|⟨sz,hof,hsh⟩
  ·rw[hsh];exact Df ⟨_,_,_,_,_,F.setV hd hv⟩
  ·rw[hsh];obtain⟨ad,len,cap,rfl,h1,h2,h3⟩:=hown sz hof;obtain⟨ω2,F2⟩:=F.own (z:=some sz) hd hv hU (by
    rcases h3 with h3|⟨b,off,x,rfl,g1,g2,g3,g4,g5⟩
    ·subst h3;exact .inl ⟨ad,len,rfl,h2⟩
    ·exact .inr ⟨len,cap,sz,b,off,x,rfl,h1,rfl,g1,g2,hno b g3 g4,EY H.size g3,g5⟩)
   exact⟨_,_,_,_,ω2,F2⟩
omit [Dr]in
theorem fT{f:FuncId}{args:Array Value}(hf:(P.funcs[f]?).any (fun fn=>fn.body.isSome&&!(fn.name== "runtime.NumGoroutine"))=true):(callFunc f args).run P w= .ok (.enter f args) w:=by
 cases hfn:P.funcs[f]? with
 |none=>rw[hfn]at hf;simp at hf
 |some fn=>
  rw[hfn]at hf;simp only[Option.any_some,Dy,Er]at hf;obtain⟨h1,h2⟩:=hf;have h3:fn.body.isNone=false:=by cases hb:fn.body<;>simp_all
  simp only[callFunc,Sem.run_bind,run_program,Result.andThen_ok,hfn,h2,Ee,EH,h3,Sem.run_pure]
omit [Dr]in
theorem nf{z:Option Nat}{g sz:Nat}{v:Value}(hf:jR S w ω g z v)(hz:oM z (some sz)=true):jp w sz v/\(z=none\/z=some sz):=by
 have hz':z=none\/z=some sz:=by
  unfold oM at hz;cases z with
  |none=>exact .inl rfl
  |some n=>simp only at hz;exact .inr (by rw[DC hz])
 refine⟨?_,hz'⟩;obtain⟨ad,len,cap,h1,h2,h3,h4⟩:=hf;refine⟨ad,len,cap,h1,h2,h3,h4.imp id ?_⟩;rintro⟨sz',b,off,x,g1,g2,g3,g4,_⟩;rcases hz' with rfl|rfl
 ·cases g1
 ·cases g1;exact⟨b,off,x,g2,g3,g4⟩
omit [Dr]in
theorem uD{T:TT}{t:Nat}{as:List AV}{y r:AV}(h:eE T t (.sl as) y=some r):∃ti e ei bs,T t=some ti/\ti.kind= .slice e/\T e=some ei/\eJ y=some bs/\bV ei.size as=true/\bV ei.size bs=true/\
  (as.length+bs.length)*ei.bytes<=140737488355328/\0<ei.bytes/\r= .sl (as++bs)/\bP T t=some ei.size/\gR y ei.size=true:=by
 unfold eE at h;cases ht:T t with
 |none=>rw[ht]at h;simp at h
 | some ti=>
  rw[ht]at h;simp only at h;split at h
  ·rename_i e hk;cases he:T e with
   |none=>rw[he]at h;simp at h
   | some ei=>
    rw[he]at h;simp only at h;cases hb:eJ y with
    |none=>rw[hb]at h;simp at h
    | some bs=>
     rw[hb]at h;simp only at h;cases hc:(bV ei.size as&&bV ei.size bs&&decide ((as.length+bs.length)*ei.bytes<=140737488355328)&&decide (0<ei.bytes)&&gR y ei.size)with
     |false=>rw[hc]at h;simp at h
     |true=>
      rw[hc]at h;simp only[Dx,Dw]at h;simp only[Dy,DK]at hc;obtain⟨⟨⟨⟨h1,h2⟩,h3⟩,h4⟩,h5⟩:=hc;exact⟨ti,e,ei,bs,rfl,hk,he,rfl,h1,h2,h3,h4,h.symm,by simp[bP,ht,hk,he],h5⟩
  ·simp at h
omit [Dr]in
theorem wT{T:TT}{t:Nat}{x y r:AV}(h:eE T t x y=some r):∃as,x= .sl as:=by
 unfold eE at h;split at h
 ·simp at h
 ·split at h
  ·split at h
   ·simp at h
   ·split at h
    ·exact⟨_,rfl⟩
    ·simp at h
  ·simp at h
omit [Dr]in
theorem nF{y:AV}{n:Nat}(h:gR y n=true):∀s,y= .str s->n=1:=by
 rintro s rfl;exact DC h
omit [Dr]in
theorem bR{t u:TypeId}{x y:Operand}{cc:Call}(ho:o.op= .call cc)(hb:cc.callee= .builtin .append)(ht:cc.argTypes.toList=[t,u])(hx:cc.args.toList=[x,y]){v:Value}{w':World}(hrun:(Builtin.append_ #[t,u] o.type #[a.eval x,a.eval y]).run P w= .ok v w'):(execOp a.eval o).run P w= .ok (.value v) w':=by
 have h1:cc.argTypes= #[t,u]:=by apply E8;simpa using ht
 have h2:cc.args= #[x,y]:=by apply E8;simpa using hx
 have h3:cc.args.map a.eval= #[a.eval x,a.eval y]:=by rw[h2];simp
 simp only[execOp,ho,resolve,hb,Sem.run_bind,Sem.run_pure,Result.andThen_ok,invoke,builtin,h1,h3,hrun]
omit [Dr]in
theorem ka{ag:Bool}{sz:Nat}(hs:ag=true\/sz=1):∀(n:Nat)(cs:List AV)(vs:List Value),aG S β cs vs->n*sz<=cs.length->(cs.take (n*sz)).all aL=true->ck S β (fm ag sz n cs) (vs.take (n*sz)) sz
 |0,cs,vs,_,_,_=>by rw[Fz,Eu];exact .nil sz
 | n + 1,cs,vs,hv,hl,hok=>by
  have hm:(n+1)*sz=sz+n*sz:=by rw[Ei,Nat.one_mul,Nat.add_comm]
  have hle:sz<=cs.length:=by omega
  have hvl:=hv.length
  have h1:ck S β [bif ag then .agg (cs.take sz)else nth cs 0] (vs.take sz) sz:=by
   have hcl:(vs.take sz).length=sz:=by simp;omega
   have hone:∀(c:AV)(x:Value)(j:Nat),j<sz->cs[j]? = some c->vs[j]? = some x->x.cells= #[x]/\x.oneCell'=true:=fun c x j hj hc hx=>by
    obtain⟨y,hy,hr⟩:=hv.get hc;rw[hx]at hy;cases hy;refine eR (DL.1 hok c (ET (i:=j) ?_)) hr;rw[DJ,DG (by omega)];exact hc
   have hex:∀(j:Nat)(x:Value),j<sz->vs[j]? = some x->∃c,cs[j]? = some c:=fun j x hj hx=>⟨_,DR (by omega)⟩;refine⟨by rw[hcl];simp,fun i e he=>?_,fun x hx=>?_⟩
   ·cases i with
    |succ i=>simp at he
    | zero=>
     simp only[D9,Dw]at he;subst he;cases ag with
     |true=>
      refine⟨.agg (vs.take sz).toArray,by simp only[Dx,VR];exact⟨_,rfl,hv.take sz⟩,by simp[Value.cells];omega,fun j x hx=>?_⟩;simpa [Value.cells]using hx
     | false=>
      rcases hs with hs|hs
      ·cases hs
      ·subst hs;have hc0:cs[0]? = some (nth cs 0):=by
        unfold nth;rw[DR (by omega),Ek,DR (by omega)];rfl
       obtain⟨y,hy,hr⟩:=hv.get hc0;have ho:=hone _ y 0 (by omega) hc0 hy;refine⟨y,hr,by rw[ho.1];rfl,fun j x hx=>?_⟩;rw[ho.1]at hx;cases j with
       |succ j=>simp at hx
       |zero=>
        simp only[Ex,D9,Dw]at hx;subst hx;simp only[Fz,DW,Ex];rw[DJ,DG (by omega)];exact hy
   ·obtain⟨j,hj⟩:=F6 hx;rw[DJ]at hj;split at hj
    ·rename_i hlt;obtain⟨c,hc⟩:=hex j x hlt hj;exact (hone c x j hlt hc hj).2
    ·simp at hj
  have h2:=ka hs n (cs.drop sz) (vs.drop sz) (hv.drop sz) (by simp;omega) (by
   rw[DL]at hok |-;intro x hx;obtain⟨j,hj⟩:=F6 hx;rw[DJ]at hj;split at hj
   ·rename_i hlt;rw[Es]at hj;refine hok x (ET (i:=sz+j) ?_);rw[DJ,DG (by omega)];exact hj
   ·simp at hj)
  have:=h1.append h2
  rw[hm,List.take_add];exact this
def oU(P:Program)(S:ap)(β:List a8)(w:World)(v:Value)(Y:AV):Prop:=
 ∀(sz:Nat)(bs:List AV),eJ Y=some bs->bV sz bs=true->(∀s,Y= .str s->sz=1)->(Builtin.lenOf v).run P w= .ok bs.length w/\∃cs:List Value,ck S β bs cs sz/\
  ∀w':World,(∀a:Addr,w'.cell? a=w.cell? a)->(Builtin.firstCells sz bs.length v).run P w'= .ok cs.toArray w'
omit [Dr]in
theorem ji{Y:AV}{v:Value}(hw:Wf S w)(hv:VR S β Y v):oU P S β w v Y:=fun sz bs he hok hs=>by
 obtain⟨h1,cs,h2,h3⟩:=src_ok (P:=P) hw he hv hok hs;exact⟨h1,cs,h2,fun w' hw'=>h3 w' fun b o x hx=>by rw[hw'];exact hw b o x hx⟩
omit [Dr]in
theorem kT(ag:Bool)(sz:Nat):∀(n:Nat)(cs:List AV),(fm ag sz n cs).length=n
 |0,_=>rfl
 |n+1,cs=>by simp[fm,kT ag sz n]
theorem mf(H:FR c N U e h a w S β γ lam ω){Y:AV}{v:Value}{es:List AV}(hv:VR S β Y v)(hsrc:mI h Y=some es):oU P S β w v (.sl es):=fun sz' bs he hok _=>by
 simp only[eJ,Dw]at he;subst he;unfold mI at hsrc;split at hsrc
 ·rename_i l off len sz ag;cases hcs:h[l]? with
  |none=>rw[hcs]at hsrc;cases hsrc
  | some cs=>
   rw[hcs]at hsrc;simp only at hsrc;cases hb:((ag||Nat.beq sz 1)&&decide (off+len*sz<=cs.length)&&((cs.drop off).take (len*sz)).all aL)with
   |false=>rw[hb]at hsrc;cases hsrc
   | true =>
    rw[hb]at hsrc;simp only[Dx,Dw]at hsrc;subst hsrc;simp only[Dy,DK,EG]at hb;obtain⟨⟨h1,h2⟩,h3⟩:=hb;have hag:ag=true\/sz=1:=h1.imp id DC;rw[kT];rcases Eh len with rfl|h0
    ·obtain⟨q,cap,rfl,_⟩:=hv.hs_some;exact⟨rfl,[],by simp only[fm];exact .nil sz',fun w' _=>run_firstCells_some w' sz' 0 q 0 cap [] (by simp) fun j x hx=>by simp at hx⟩
    ·obtain⟨⟨b',nb⟩,cap,hβ,hb0,rfl,hlc,hcn⟩:=hv.hs_pos h0;have hne:cs≠[]\/sz=0:=by
      rcases Eh sz with hz|hz
      ·exact .inr hz
      ·refine .inl ?_;rintro rfl
       have:=Fp h0 hz
       simp at h2;omega
     -- the size of an element is that of the slice
     have hsz:sz'=sz:=by
      have hall:=DL.1 hok (bif ag then .agg ((cs.drop off).take sz)else nth (cs.drop off) 0) (by
       cases len with
       |zero=>omega
       |succ n=>simp[fm])
      simp only[bH,Dy,EU]at hall;have hsa:=hall.1;have hle:sz<=(cs.drop off).length:=by
       have:1*sz<=len*sz:=DO _ h0;simp;omega
      cases ag with
      |true=>
       simp only[Dx,bS,Dw,EA]at hsa;omega
      | false=>
       rcases hag with hag|hag
       ·cases hag
       ·subst hag;simp only[DF]at hsa;have hc0:(cs.drop off)[0]? = some (nth (cs.drop off) 0):=by
         unfold nth;rw[DR (by omega),Ek,DR (by omega)];rfl
        have hoc:=DL.1 h3 (nth (cs.drop off) 0) (ET (i:=0) (by rw[DJ,DG (by omega)];exact hc0));generalize nth (cs.drop off) 0=q at hsa hoc;cases q<;>simp[aL,bS]at hsa hoc<;>omega
     subst hsz;rcases hne with hne|hz
     ·obtain⟨z,j1,j2,j3,j4,j5⟩:=H.heap.cells hcs hne hβ hb0;rw[hβ]at j1;cases j1;have hzl:cs.length<=z.size:=by have:=j4.length;simp at this;omega
      have j6:aG S β (cs.drop off) ((z.toList.take cs.length).drop off):=j4.drop off;have hF:=ka hag len (cs.drop off) _ j6 (by simp;omega) h3;refine⟨rfl,_,hF,fun w' hw'=>?_⟩;refine run_firstCells_some w' sz' len ⟨b',off,none⟩ len cap _ (by simp;omega) fun j q hq=>?_;rw[addr_add,hw',j2.cell];rw[DJ]at hq;split at hq
      ·rw[Es,DJ]at hq;split at hq
       ·simpa using hq
       ·simp at hq
      ·simp at hq
     ·subst hz;rcases hag with rfl|hag
      ·have hall:∀n cs,ck S β (fm true 0 n cs) [] 0:=by
        intro n
        induction n with
        |zero=>intro cs;exact .nil 0
        | succ n ih=>
         intro cs;have:ck S β [AV.agg (cs.take 0)] [] 0:=⟨by simp,fun i e he=>by
          cases i with
          |zero=>
           simp only[D9,Dw]at he;subst he;exact⟨.agg #[],by simp only[VR,Eu];exact⟨[],rfl,by simp[aG]⟩,rfl,fun j x hx=>by simp[Value.cells]at hx⟩
          |succ i=>simp at he,fun x hx=>by simp at hx⟩
         exact this.append (ih _)
       exact⟨rfl,[],hall _ _,fun w' _=>run_firstCells_some w' 0 len _ len cap [] (by simp) fun j x hx=>by simp at hx⟩
      ·omega
 ·cases hsrc;exact ji (P:=P) H.wf hv sz' [] rfl hok (fun s h=>by cases h)
 ·cases hsrc;exact ji (P:=P) H.wf hv sz' _ rfl hok (fun s h=>by cases h)
 ·cases hsrc
theorem mO(hT:TOK P cx.T)(H:FR c N U e h a w S β γ lam ω)(hd:∀t,o.dst=some t->t<N)(hU:∀g,gid<=g->g<gid+1000->¬U g){t u:TypeId}{x y:Operand}{cc:Call}(ho:o.op= .call cc)(hb:cc.callee= .builtin .append)(hts:cc.argTypes.toList=[t,u])(hxs:cc.args.toList=[x,y])(hu:eH cx.T u=true){as:List AV}{vx:Value}{g0:Option Nat}{r Y:AV}(hav:a.eval x=vx)(hx:VR S β (.sl as) vx)(hfree:(g0=none/\vx= .slice none 0 0)\/∃g z,g0=some g/\jR S w ω g z vx/\oM z (bP cx.T t)=true)(happ:eE cx.T t (.sl as) Y=some r)(hsrc:oU P S β w (a.eval y) Y):
  After P c N (UG U gid) (.ok (e.upd o.dst { Upd.own r gid (bP cx.T t)with drop:=g0 }) h) o a w:=by
 obtain⟨ti,el,ei,bs,ht,hk,hei,hels,hoa,hob,hby,hb0,rfl,hes,hstr⟩:=uD happ;rw[hes]at hfree |-;have hroom:jp w ei.size vx:=by
  rcases hfree with⟨_,rfl⟩|⟨g,z,_,hf,hz⟩
  ·exact⟨none,0,0,rfl,DD _,fun _=>rfl,.inl rfl⟩
  ·exact (nf hf hz).1
 obtain⟨hlen,cs,hflat,hfirst⟩:=hsrc ei.size bs hels hob (nF hstr);obtain⟨v,w',hrun,hA⟩:=qM (ty:=o.type) hT H.wf ht hk hei hu hx hlen hflat hfirst hoa hby hb0 hroom;have hfr2:∃z,((g0=none/\vx= .slice none 0 0)\/∃g,g0=some g/\jR S w ω g z vx)/\(z=none\/z=some ei.size):=by
  rcases hfree with h1|⟨g,z,h1,hf,hz⟩
  ·exact⟨none,.inl h1,.inl rfl⟩
  ·exact⟨z,.inr ⟨g,h1,hf⟩,(nf hf hz).2⟩
 obtain⟨z,hf2,hz2⟩:=hfr2;obtain⟨S',ω',F⟩:=H.app hd hU hx hoa hf2 hz2 hA;exact After.val (bR ho hb hts hxs (by rw[hav];exact hrun)) ⟨_,_,_,_,_,F⟩
end
end Go.Av
namespace Go.Av
variable [Dr]
section
variable {P:Program} {cx:Cx} {c:Entry} {N:Nat} {U:Nat->Prop} {e:Env} {h:Hp} {a:Act} {w:World} {S:ap} {β:List a8} {γ:Nat->Value} {lam:Nat->Option Nat} {ω:Nat->Owner} {o:Oper} {gid:Nat}
omit [Dr]in
theorem ln{sz:Nat}{x:Array Value}:(es:List AV)->(off:Nat)->(∀(i:Nat)(e:AV),es[i]? = some e->∃v,VR S β e v/\v.cells.size=sz/\∀(j:Nat)(y:Value),v.cells[j]? = some y->x[off+i*sz+j]? = some y)->
  bV sz es=true->(es.flatMap ab).length=es.length*sz/\aG S β (es.flatMap ab) ((x.toList.drop off).take (es.length*sz))
 |[],off,_,_=>by simp[aG]
 | e:: es,off,hh,hok=>by
  simp only[bV,ES,Dy]at hok;obtain⟨v,v1,v2,v3⟩:=hh 0 e (by simp);obtain⟨k1,k2,k3⟩:=gX hok.1 v1;obtain⟨h1,h2⟩:=ln es (off+sz) (fun i e' he=>by
   obtain⟨u,u1,u2,u3⟩:=hh (i+1) e' (by simpa using he);exact⟨u,u1,u2,fun j y hy=>by
    have:=u3 j y hy
    rwa [show off+(i+1)*sz+j=off+sz+i*sz+j by rw[Ei];omega]at this⟩) hok.2
  have hacl:(ab e).length=sz:=by rw[<- k2.length];simpa using k1
  refine⟨by simp[h1,hacl,Ei];omega,?_⟩;have hfirst:(x.toList.drop off).take sz=v.cells.toList:=by
   apply FP;intro j;rw[DJ];split
   ·rename_i hj;rw[Es,D1,D1];have:j<v.cells.size:=by omega
    have hv:=v3 j v.cells[j] (D6 this);simp only[Fz,EM]at hv;rw[hv,D6 this]
   ·rename_i hj;rw[DI];simp;omega
  have hsplit:(x.toList.drop off).take ((e:: es).length*sz)=v.cells.toList++(x.toList.drop (off+sz)).take (es.length*sz):=by
   rw[<- hfirst,D4,Ei,Nat.one_mul,Nat.add_comm (es.length*sz) sz,List.take_add,FO]
  rw[hsplit,Ft];exact k2.append h2
inductive AppRaw (w:World) (el sz n0 n:Nat) (olds news:List Value) (vx:Value):Value->World->Prop where
 |same (h:n=0):AppRaw w el sz n0 n olds news vx vx w
 | place (b off cap:Nat) (x:Array Value) (hv:vx= .slice (some ⟨b,off,none⟩) n0 cap) (hr:Row w b x) (hlt:n0+n<=cap) (hc:off+cap*sz<=x.size) (hn:n≠0):
   AppRaw w el sz n0 n olds news vx (.slice (some ⟨b,off,none⟩) (n0+n) cap)
    (w.setRow b (x.toList.take (off+n0*sz)++news++x.toList.drop (off+n0*sz+news.length)).toArray)
 | fresh (x:Array Value) (e cap:Nat) (hlt:n0+n<=cap) (hc:x.size=cap*sz) (hr:∀(i:Nat)(y:Value),(olds++news)[i]? = some y->x[i]? = some y) (hn:n≠0) (he:e=el):
   AppRaw w el sz n0 n olds news vx (.slice (some ⟨w.heap.size,0,none⟩) (n0+n) cap) (w.drew.alloc (.cells x e))
omit [Dr]in
theorem cK{T:TT}(hT:TOK P T){t u e ty:Nat}{ti ei:TI}{n0 n:Nat}{olds news:List Value}{vx vy:Value}(ht:T t=some ti)(hk:ti.kind= .slice e)(hei:T e=some ei)(hu:eH T u=true)(hvx:∃a cap,vx= .slice a n0 cap)(hlen:(Builtin.lenOf vy).run P w= .ok n w)(hfirst:∀w':World,(∀a:Addr,w'.cell? a=w.cell? a)->(Builtin.firstCells ei.size n vy).run P w'= .ok news.toArray w')(hold:∀w':World,(∀a:Addr,w'.cell? a=w.cell? a)->(Builtin.firstCells ei.size n0 vx).run P w'= .ok olds.toArray w')(hol:olds.length=n0*ei.size)(hnl:news.length=n*ei.size)(hone:∀x∈news,x.oneCell'=true)(hby:(n0+n)*ei.bytes<=140737488355328)(hb0:0<ei.bytes)(hroom:jp w ei.size vx):
  ∃v w',(Builtin.append_ #[t,u] ty #[vx,vy]).run P w= .ok v w'/\AppRaw w e ei.size n0 n olds news vx v w':=by
 obtain⟨_,d,_,_,hd,_,_,_,_,hkd,_⟩:=(hT.get ht).ex;have hd':d= .slice e:=by cases d<;>simp_all[kindOf]
 subst hd';obtain⟨ii,_,zz,hii,_,hzz,hzs,hsz,hbb,_⟩:=(hT.get hei).ex;have hz:∃du,P.underlying u=some du/\((∃e',du= .slice e')\/du= .string):=by
  unfold eH at hu;split at hu
  ·rename_i tu htu;obtain⟨_,du,_,_,hdu,_,_,_,_,hku,_⟩:=(hT.get htu).ex;refine⟨du,hdu,?_⟩;split at hu
   ·rename_i e' hk';exact .inl ⟨e',by cases du<;>simp_all[kindOf]⟩
   ·exact .inr (by cases du<;>simp_all[kindOf])
   ·simp at hu
  ·simp at hu
 obtain⟨du,hdu,hduk⟩:=hz;obtain⟨a,len,cap,rfl,hlc,hnone,hspare⟩:=hroom;obtain⟨a',cap',he⟩:=hvx;simp only[Value.slice.injEq]at he;obtain⟨rfl,rfl,rfl⟩:=he;by_cases hfit:len+n<=cap
 ·by_cases hn0:n=0
  ·subst hn0;refine⟨.slice a len cap,w,?_,.same rfl⟩;have hns:news=[]:=DZ (by simpa using hnl);subst hns;have hf:(Builtin.firstCells ei.size 0 vy).run P w= .ok #[] w:=by simpa using hfirst w (fun _=>rfl)
   rcases hduk with⟨e',rfl⟩|rfl<;>cases a <;>
    simp[Builtin.append_,run_underlying hd,run_underlying hdu,sizeOf,typeInfo,hii,hsz,hlen,hlc,hf,storeCells]
  ·rcases hspare with hsp|⟨b,off,x,rfl,⟨ce,hrow⟩,hcap⟩
   ·omega
   ·refine⟨_,_,?_,.place b off cap x rfl ⟨ce,hrow⟩ hfit hcap hn0⟩;have hf:=hfirst w (fun _=>rfl);have hle:(len+n)*ei.size<=cap*ei.size:=DO _ hfit;rw[Ei]at hle;have hst:=run_storeCells_at P b (off+len*ei.size) ce news 0 x w hrow (by omega) hone;simp only[EM]at hst;rcases hduk with⟨e',rfl⟩|rfl <;>
     simp[Builtin.append_,run_underlying hd,run_underlying hdu,sizeOf,typeInfo,hii,hsz,hlen,hfit,hf,addr_add,hst]
 ·have hne:n≠0:=by rintro rfl;omega
  have hgt:cap<len+n:=by omega
  have h63:¬(9223372036854775807<((len:Int)+(n:Int))):=by
   have:=EY (GA (len+n) hb0) hby
   omega
  have hfit48:=growslice_fits hgt hby;have h48:¬(281474976710656<Builtin.nextslicecap (len+n) cap*ei.bytes):=by omega
  have hb0':ei.bytes≠0:=by omega
  have hof:=hold w.drew (fun a=>World.cell?_drew ..);have hf:=hfirst w.drew (fun a=>World.cell?_drew ..);have hcapn:len+n<=grownCap w (len+n) cap e:=Nat.le_add_right _ _;have hzcs:(Builtin.zeroCells zz.cells (grownCap w (len+n) cap e-(len+n))).size=(grownCap w (len+n) cap e-(len+n))*ei.size:=by
   rw[size_zeroCells,hzs,hsz]
  refine⟨_,_,?_,.fresh ((olds++news).toArray++Builtin.zeroCells zz.cells (grownCap w (len+n) cap e-(len+n))) e (grownCap w (len+n) cap e) hcapn ?_ ?_ hne rfl⟩
  ·rcases hduk with⟨e',rfl⟩|rfl <;>
    (simp[Builtin.append_,run_underlying hd,run_underlying hdu,sizeOf,typeInfo,zeroValue,hii,hsz,hzz,hlen,hfit,hbb,h48,hb0',Question.forced,hf,hof,newRow,grownCap]
     congr 2;apply E8;simp)
  ·rw[Array.size_append,hzcs];simp only[E3,Eb,hol,hnl];rw[<- Ei,<- Ei];congr 1;omega
  ·intro i y hy;rw[Array.getElem?_append];split
   ·simpa using hy
   ·rename_i hlt;rw[DI (by simpa using hlt)]at hy;simp at hy
end
end Go.Av
namespace Go.Av
variable [Dr]
section
variable {P:Program} {cx:Cx} {c:Entry} {N:Nat} {U:Nat->Prop} {e:Env} {h:Hp} {a:Act} {w:World} {S:ap} {β:List a8} {γ:Nat->Value} {lam:Nat->Option Nat} {ω:Nat->Owner} {o:Oper} {gid:Nat}
omit [Dr]in
theorem gl{es:List AV}{cs:List Value}{sz:Nat}(hf:ck S β es cs sz)(hok:bV sz es=true):(es.flatMap ab).length=es.length*sz/\aG S β (es.flatMap ab) cs:=by
 obtain⟨h1,h2,_⟩:=hf;obtain⟨g1,g2⟩:=ln (x:=cs.toArray) es 0 (fun i e he=>by
  obtain⟨v,v1,v2,v3⟩:=h2 i e he;exact⟨v,v1,v2,fun j y hy=>by rw[DW];exact v3 j y hy⟩) hok
 refine⟨g1,?_⟩;have:(cs.toArray.toList.drop 0).take (es.length*sz)=cs:=by simp[<- h1]
 rw[this]at g2;exact g2
theorem s8(hT:TOK P cx.T)(H:FR c N U e h a w S β γ lam ω)(hd:∀t,o.dst=some t->t<N){t n:Nat}{ps:Array (Nat×Operand)}(ho:o.op= .buildSlice t n ps)(ht:∀p∈ps.toList,∀t,p.2= .tmp t->t<1000)(hr:aF e o.dst (.dyn (nT cx.T t n (ps.toList.map fun p=>(p.1,opnd e p.2))) .ofV) h≠.fail):
  After P c N (UG U gid) (aF e o.dst (.dyn (nT cx.T t n (ps.toList.map fun p=>(p.1,opnd e p.2))) .ofV) h) o a w:=absurd rfl hr
theorem wV(hT:TOK P cx.T)(H:FR c N U e h a w S β γ lam ω)(hd:∀t,o.dst=some t->t<N){t u:TypeId}{x y:Operand}{cc:Call}(ho:o.op= .call cc)(hb:cc.callee= .builtin .append)(hts:cc.argTypes.toList=[t,u])(hxs:cc.args.toList=[x,y])(hx:∀t,x= .tmp t->t<1000)(hy:∀t,y= .tmp t->t<1000)(hu:eH cx.T u=true)(hr:aF e o.dst (.dyn (appH cx.T t (eN e x) (opnd e x) (opnd e y)) .ofV) h≠.fail):After P c N (UG U gid) (aF e o.dst (.dyn (appH cx.T t (eN e x) (opnd e x) (opnd e y)) .ofV) h) o a w:=by
 have hvx:=aJ H x hx;have hvy:=aJ H y hy;simp only[aF,af,M.pure]at hr |-
 have hz:eN e x=true->opnd e x= .sl []->∃a0,a.eval x= .slice a0 0 0:=by
  intro hz hX;unfold eN at hz;split at hz
  ·rename_i s;have hs1:=hx s rfl;have hs2:=H.slots s hs1;split at hz
   ·rename_i g hg;split at hz
    ·rename_i hal;obtain⟨a0,len,cap,e1,e2,e3,e4⟩:=H.free g none hal;have e5:=H.grps s g none hs1 hg hal;have e6:a.eval (.tmp s)=γ g:=e5;rw[hX]at hvx;simp only[VR]at hvx;obtain⟨a1,cap1,f1,f2,f3,_⟩:=hvx;rw[e6,e1]at f1;cases f1;rcases e4 with e4|⟨sz,_,_,_,e4,_⟩
     ·simp only[D3]at e4;subst e4;exact⟨a0,by rw[e6,e1];rfl⟩
     ·cases e4
    ·cases hz
   ·cases hz
  ·cases hz
 generalize eN e x=zz at hr hz |-;generalize hX:opnd e x=X at hr hvx hz |-;unfold appH at hr |-;cases ht:cx.T t with
 |none=>rw[ht]at hr;exact absurd rfl hr
 | some ti =>
  rw[ht]at hr;simp only at hr |-;cases hk:ti.kind<;>rw[hk]at hr<;>simp only at hr |- <;> (try exact absurd rfl hr);rename_i el;cases hei:cx.T el with
  |none=>rw[hei]at hr;exact absurd rfl hr
  | some ei =>
   rw[hei]at hr;simp only at hr |-;cases hels:eJ (opnd e y)with
   |none=>rw[hels]at hr;exact absurd rfl hr
   | some bs =>
    rw[hels]at hr;simp only at hr |-;cases hc:(bV ei.size bs&&decide (0<ei.bytes)&&decide (0<ei.size)&&gR (opnd e y) ei.size)with
    |false=>rw[hc]at hr;exact absurd rfl hr
    | true =>
     rw[hc]at hr;simp only[Dx]at hr |-;simp only[Dy,DK]at hc;obtain⟨⟨⟨h1,h2⟩,h3⟩,h4⟩:=hc;obtain⟨hlen,news,hflat,hfirst⟩:=src_ok (P:=P) H.wf hels hvy h1 (nF h4);obtain⟨hfl,hfv⟩:=gl hflat h1;have hfirst':∀w':World,(∀a:Addr,w'.cell? a=w.cell? a)->(Builtin.firstCells ei.size bs.length (a.eval y)).run P w'= .ok news.toArray w':=fun w' hw'=>
      hfirst w' (fun b o x hx=>by rw[hw'];exact H.wf b o x hx)
     have hna:ei.agg=false->ei.size=1:=by
      intro hag;obtain⟨ii,_,zz,_,_,_,hzs,hsz,_,_,_,_,_,_,_,hnn⟩:=(hT.get hei).ex;have hz1:zz.cells.size=1:=by cases zz<;>first|rfl|exact absurd rfl (hnn hag _)
      omega
     by_cases hXs:X= .sl []/\zz=true
     ·obtain⟨rfl,hzz⟩:=hXs;subst hzz;simp only[Dx]at hr |-;obtain⟨a0,hvx0⟩:=hz rfl rfl;have hvr:=hvx
      replace hvx:=hvx0
      cases hbe:bs.isEmpty with
      | true=>
       have hbs:bs=[]:=by simpa using hbe
       subst hbs;simp only[Dx];obtain⟨v,w',hrun,hA⟩:=cK (ty:=o.type) hT ht hk hei hu (n0:=0) (olds:=[]) ⟨a0,0,hvx⟩ hlen hfirst' (fun w' _=>by rw[hvx];cases a0 with|none=>simp[Builtin.firstCells]|some q=>exact run_firstCells_some w' _ 0 q 0 0 [] (by simp) (fun j x hx=>by simp at hx)) (by simp) hflat.1 hflat.2.2 (by simp) h2
        (by rw[hvx];exact⟨a0,0,0,rfl,DD _,fun _=>rfl,.inl rfl⟩)
       cases hA with
       |same _=>
        exact After.val (bR ho hb hts hxs hrun) (Df ⟨S,β,γ,lam,ω,H.setV hd hvr⟩)
       |place _ _ _ _ _ _ _ _ hn=>exact absurd rfl hn
       |fresh _ _ _ _ _ _ hn=>exact absurd rfl hn
      | false=>
       rw[hbe]at hr;simp only[DF]at hr |-;cases hby:decide (bs.length*ei.bytes<=140737488355328)with
       |false=>rw[hby]at hr;exact absurd rfl hr
       | true=>
        simp only[Dx];have hne:bs.length≠0:=by
         intro h0
         have:=DZ h0
         subst this;simp at hbe
        obtain⟨v,w',hrun,hA⟩:=cK (ty:=o.type) hT ht hk hei hu (n0:=0) (olds:=[]) ⟨a0,0,hvx⟩ hlen hfirst' (fun w' _=>by rw[hvx];cases a0 with|none=>simp[Builtin.firstCells]|some q=>exact run_firstCells_some w' _ 0 q 0 0 [] (by simp) (fun j x hx=>by simp at hx)) (by simp) hflat.1 hflat.2.2 (by simpa using hby) h2
         (by rw[hvx];exact⟨a0,0,0,rfl,DD _,fun _=>rfl,.inl rfl⟩)
        cases hA with
        |same h0=>exact absurd h0 hne
        |place b off cap z hv _ hlt _ _=>rw[hvx]at hv;cases hv;omega
        | fresh z te cap hlt hzc hzr hn=>
         obtain⟨ω',F,hnew,hext⟩:=(H.drew).newH z te (cs:=bs.flatMap ab) (by
          refine .of_get ?_ fun i q v hq hv=>?_
          ·have:bs.length*ei.size<=cap*ei.size:=DO _ (by omega);rw[EA];apply EV;have hz':z.toList.length=cap*ei.size:=by simpa using hzc
           have hfl':(bs.flatMap ab).length=bs.length*ei.size:=hfl;rw[hz',hfl'];exact this
          ·obtain⟨v',h1',h2'⟩:=hfv.get hq
           have:=hzr i v' (by simpa using h1')
           rw[DJ]at hv;split at hv
           ·rw[D1,this]at hv;cases hv;exact h2'
           ·simp at hv) (fun t ht=>absurd ht (gL h1 t))
         have hnew':(β++[(w.drew.heap.size,z.size)])[h.length]? = some (w.heap.size,z.size):=hnew;refine After.val (bR ho hb hts hxs hrun) (Df ⟨_,_,γ,lam,ω',F.setV hd ?_⟩);simp only[VR];have hz0:z.size≠0:=by
          have:0<cap*ei.size:=Fp (by omega) h3;omega
         exact .inl ⟨(w.heap.size,z.size),cap,hnew',hz0,by simp,by omega,by simp[hzc]⟩
     by_cases hXn:X= .hn
     ·subst hXn;simp only at hr |-;simp only[VR]at hvx;cases hbe:bs.isEmpty with
      | true=>
       have hbs:bs=[]:=by simpa using hbe
       subst hbs;simp only[Dx];obtain⟨v,w',hrun,hA⟩:=cK (ty:=o.type) hT ht hk hei hu (n0:=0) (olds:=[]) ⟨none,0,hvx⟩ hlen hfirst' (fun w' _=>by rw[hvx];simp[Builtin.firstCells]) (by simp) hflat.1 hflat.2.2 (by simp) h2
        (by rw[hvx];exact⟨none,0,0,rfl,DD _,fun _=>rfl,.inl rfl⟩)
       cases hA with
       |same _=>
        exact After.val (bR ho hb hts hxs hrun) (Df ⟨S,β,γ,lam,ω,H.setV hd (by simp only[VR];exact hvx)⟩)
       |place _ _ _ _ _ _ _ _ hn=>exact absurd rfl hn
       |fresh _ _ _ _ _ _ hn=>exact absurd rfl hn
      | false=>
       rw[hbe]at hr;simp only[DF]at hr |-;cases hby:decide (bs.length*ei.bytes<=140737488355328)with
       |false=>rw[hby]at hr;exact absurd rfl hr
       | true=>
        simp only[Dx];have hne:bs.length≠0:=by
         intro h0
         have:=DZ h0
         subst this;simp at hbe
        obtain⟨v,w',hrun,hA⟩:=cK (ty:=o.type) hT ht hk hei hu (n0:=0) (olds:=[]) ⟨none,0,hvx⟩ hlen hfirst' (fun w' _=>by rw[hvx];simp[Builtin.firstCells]) (by simp) hflat.1 hflat.2.2 (by simpa using hby) h2
         (by rw[hvx];exact⟨none,0,0,rfl,DD _,fun _=>rfl,.inl rfl⟩)
        cases hA with
        |same h0=>exact absurd h0 hne
        |place b off cap z hv _ _ _ _=>rw[hvx]at hv;cases hv
        | fresh z te cap hlt hzc hzr hn=>
         obtain⟨ω',F,hnew,hext⟩:=(H.drew).newH z te (cs:=bs.flatMap ab) (by
          refine .of_get ?_ fun i q v hq hv=>?_
          ·have:bs.length*ei.size<=cap*ei.size:=DO _ (by omega);rw[EA];apply EV;have hz':z.toList.length=cap*ei.size:=by simpa using hzc
           have hfl':(bs.flatMap ab).length=bs.length*ei.size:=hfl;rw[hz',hfl'];exact this
          ·obtain⟨v',h1',h2'⟩:=hfv.get hq
           have:=hzr i v' (by simpa using h1')
           rw[DJ]at hv;split at hv
           ·rw[D1,this]at hv;cases hv;exact h2'
           ·simp at hv) (fun t ht=>absurd ht (gL h1 t))
         have hnew':(β++[(w.drew.heap.size,z.size)])[h.length]? = some (w.heap.size,z.size):=hnew;refine After.val (bR ho hb hts hxs hrun) (Df ⟨_,_,γ,lam,ω',F.setV hd ?_⟩);simp only[VR];have hz0:z.size≠0:=by
          have:0<cap*ei.size:=Fp (by omega) h3;omega
         exact .inl ⟨(w.heap.size,z.size),cap,hnew',hz0,by simp,by omega,by simp[hzc]⟩
     ·-- a row of the heap
      cases X with
      | hs l off len sz ag=>
       cases off with
       |succ k=>exact absurd rfl hr
       | zero =>
        simp only at hr |-;cases hcs:h[l]? with
        |none=>rw[hcs]at hr;exact absurd rfl hr
        | some cs=>
         rw[hcs]at hr;simp only at hr |-;cases hc2:(sz== ei.size&&ag== ei.agg&&cs.all aL&&decide (len*sz<=cs.length)&&decide (0<cs.length)&&decide ((len+bs.length)*ei.bytes<=140737488355328))with
         |false=>rw[hc2]at hr;exact absurd rfl hr
         | true=>
          simp only[Dx];simp only[Dy,DK,EU]at hc2;obtain⟨⟨⟨⟨⟨rfl,rfl⟩,k3⟩,k4⟩,k5⟩,k6⟩:=hc2;have hvx0:=hvx;have hne:cs≠[]:=by
           rintro rfl;simp at k5
          have hl:l<h.length:=by
           rcases DU l h.length with h'|h'
           ·exact h'
           ·rw[DI h']at hcs;simp at hcs
          simp only[VR]at hvx;rcases hvx with⟨⟨b,nb⟩,cap,hβ,hb0,hvx,hlc,hcn⟩|⟨h00,q,hvx⟩
          ·obtain⟨z,j1,j2,j3,j4,j5⟩:=H.heap.cells hcs hne hβ hb0;rw[hβ]at j1;simp only[Dw,Em,true_and]at j1;subst j1;have hzs:cs.length<=z.size:=by have:=j4.length;simp at this;omega
           have hol:(z.toList.take (len*ei.size)).length=len*ei.size:=by simp;omega
           have j6:aG S β (cs.take (len*ei.size)) (z.toList.take (len*ei.size)):=by
            have:=j4.take (len*ei.size)
            rw[E1,EV k4]at this;exact this
           have hcl:(cs.take (len*ei.size)).length=len*ei.size:=by simp;omega
           have hold:∀w':World,(∀a:Addr,w'.cell? a=w.cell? a)->(Builtin.firstCells ei.size len (a.eval x)).run P w'= .ok (z.toList.take (len*ei.size)).toArray w':=fun w' hw'=>by
            rw[hvx];refine run_firstCells_some w' ei.size len ⟨b,0,none⟩ len cap _ hol fun j q hq=>?_;rw[addr_add,DW,hw',j2.cell];rw[DJ]at hq;split at hq
            ·simpa using hq
            ·simp at hq
           have hroom:jp w ei.size (a.eval x):=⟨_,len,cap,hvx,hlc,(fun h=>by cases h),.inr ⟨b,0,z,rfl,j2,hcn⟩⟩;obtain⟨v,w',hrun,hA⟩:=cK (ty:=o.type) hT ht hk hei hu (n0:=len) (olds:=z.toList.take (len*ei.size)) ⟨_,cap,hvx⟩ hlen hfirst' hold hol hflat.1 hflat.2.2 k6 h2 hroom;have hexec:=bR ho hb hts hxs hrun;cases hA with
           |same h0=>
            have hbs:bs=[]:=DZ h0;subst hbs;simp only[List.isEmpty_nil,Dx];exact After.val hexec (Df ⟨S,β,γ,lam,ω,H.setV hd hvx0⟩)
           | place b2 off2 cap2 z2 hv2 hr2 hlt2 hc2' hn2=>
            have hbe:bs.isEmpty=false:=by cases bs<;>simp_all
            rw[hbe];simp only[DF];rw[hvx]at hv2;simp only[Value.slice.injEq,Dw,Addr.mk.injEq]at hv2;obtain⟨⟨rfl,rfl,_⟩,_,rfl⟩:=hv2;cases j2.inj hr2;have hnl:=hflat.1;have hle:(len+bs.length)*ei.size<=cap*ei.size:=DO _ hlt2;rw[Ei]at hle;have hysz:(z.toList.take (0+len*ei.size)++news++z.toList.drop (0+len*ei.size+news.length)).toArray.size=z.size:=by simp;omega
            have hyv:aG S β (cs.take (len*ei.size)++bs.flatMap ab) ((z.toList.take (0+len*ei.size)++news++z.toList.drop (0+len*ei.size+news.length)).toArray.toList.take (cs.take (len*ei.size)++bs.flatMap ab).length):=by
             have hl1:(z.toList.take (0+len*ei.size)++news).length=(cs.take (len*ei.size)++bs.flatMap ab).length:=by
              rw[Eb,Eb,DW,hol,hcl,hfl,hnl]
             show aG S β _ (List.take _ (z.toList.take (0+len*ei.size)++news++z.toList.drop (0+len*ei.size+news.length)));rw[GE hl1,DW];exact j6.append hfv
            have hne2:cs.take (len*ei.size)++bs.flatMap ab≠[]:=by
             intro h0;have h1':=(List.append_eq_nil_iff.1 h0).2;rw[h1']at hfl;have:0<bs.length*ei.size:=Fp (Nat.pos_of_ne_zero fun h=>by rw[DZ h]at hbe;cases hbe) h3;rw[D3]at hfl;omega
            have hnb:∀t,¬bD t (cs.take (len*ei.size)++bs.flatMap ab):=fun t ht=>by
             rcases ht.append with ht|ht
             ·exact fK k3 t (ht.mono fun a=>E2)
             ·exact gL h1 t ht
            have F1:=H.turnH hcs hne ⟨_,hβ⟩ j2 hysz hyv (fun t ht=>absurd ht (hnb t));have hcs1:(h.set l (cs.take (len*ei.size)++bs.flatMap ab))[l]? = some (cs.take (len*ei.size)++bs.flatMap ab):=by simp[hl]
            obtain⟨ω',F2,hnew,hext⟩:=F1.moveH hcs1 hne2 ⟨_,hβ⟩ j2.setRow hyv (fun t ht=>ht);have hset:(h.set l (cs.take (len*ei.size)++bs.flatMap ab)).set l []=h.set l []:=by simp
            rw[hset]at F2;rw[Fo]at hnew;refine After.val hexec (Df ⟨_,_,γ,lam,ω',F2.setV hd ?_⟩);simp only[VR];exact .inl ⟨_,cap,hnew,by simp only;rw[hysz];exact hb0,rfl,hlt2,by simp only;rw[hysz];exact hcn⟩
           | fresh z2 te cap2 hlt2 hzc hzr hn2=>
            have hbe:bs.isEmpty=false:=by cases bs<;>simp_all
            rw[hbe];simp only[DF];have F1:=(H.drew).killH l;obtain⟨ω',F2,hnew,hext⟩:=F1.newH z2 te (cs:=cs.take (len*ei.size)++bs.flatMap ab) (by
             refine .of_get ?_ fun i q v hq hv=>?_
             ·have:(len+bs.length)*ei.size<=cap2*ei.size:=DO _ hlt2;rw[Ei]at this;rw[EA,Eb,hcl,hfl];apply EV;have hz':z2.toList.length=cap2*ei.size:=by simpa using hzc
              omega
             ·obtain⟨v',h1',h2'⟩:=(j6.append hfv).get hq
              have:=hzr i v' h1'
              rw[DJ]at hv;split at hv
              ·rw[D1,this]at hv;cases hv;exact h2'
              ·simp at hv) (fun t ht=>absurd ht (fun ht=>by
             rcases ht.append with ht|ht
             ·exact fK k3 t (ht.mono fun a=>E2)
             ·exact gL h1 t ht))
            rw[Fo]at hnew;have hnew':(β++[(w.drew.heap.size,z2.size)])[h.length]? = some (w.heap.size,z2.size):=hnew;refine After.val hexec (Df ⟨_,_,γ,lam,ω',F2.setV hd ?_⟩);simp only[VR];have hz0:z2.size≠0:=by
             have:0<cap2*ei.size:=Fp (by omega) h3;omega
            exact .inl ⟨(w.heap.size,z2.size),cap2,hnew',hz0,rfl,hlt2,by simp[hzc]⟩
          ·subst h00;obtain⟨v,w',hrun,hA⟩:=cK (ty:=o.type) hT ht hk hei hu (n0:=0) (olds:=[]) ⟨some q,0,hvx⟩ hlen hfirst' (fun w' _=>by rw[hvx];exact run_firstCells_some w' _ 0 q 0 0 [] (by simp) (fun j x hx=>by simp at hx)) (by simp) hflat.1 hflat.2.2 k6 h2
            (by rw[hvx];exact⟨some q,0,0,rfl,DD _,fun _=>rfl,.inl rfl⟩)
           have hexec:=bR ho hb hts hxs hrun;cases hA with
           |same h0=>
            have hbs:bs=[]:=DZ h0;subst hbs;simp only[List.isEmpty_nil,Dx];exact After.val hexec (Df ⟨S,β,γ,lam,ω,H.setV hd hvx0⟩)
           |place b off cap z hv _ hlt _ hn=>
            rw[hvx]at hv;cases hv;have:bs.length≠0:=hn;omega
           | fresh z2 te cap2 hlt2 hzc hzr hn2=>
            have hbe:bs.isEmpty=false:=by cases bs<;>simp_all
            rw[hbe];simp only[DF,Fz,Eu,Ez];have F1:=(H.drew).killH l;obtain⟨ω',F2,hnew,hext⟩:=F1.newH z2 te (cs:=bs.flatMap ab) (by
             refine .of_get ?_ fun i q v hq hv=>?_
             ·have:bs.length*ei.size<=cap2*ei.size:=DO _ (by omega);rw[EA,hfl];apply EV;have hz':z2.toList.length=cap2*ei.size:=by simpa using hzc
              omega
             ·obtain⟨v',h1',h2'⟩:=hfv.get hq
              have:=hzr i v' (by simpa using h1')
              rw[DJ]at hv;split at hv
              ·rw[D1,this]at hv;cases hv;exact h2'
              ·simp at hv) (fun t ht=>absurd ht (gL h1 t))
            rw[Fo]at hnew;have hnew':(β++[(w.drew.heap.size,z2.size)])[h.length]? = some (w.heap.size,z2.size):=hnew;refine After.val hexec (Df ⟨_,_,γ,lam,ω',F2.setV hd ?_⟩);simp only[VR];have hz0:z2.size≠0:=by
             have:0<cap2*ei.size:=Fp (by omega) h3;omega
            exact .inl ⟨(w.heap.size,z2.size),cap2,hnew',hz0,by simp,by omega,by simp[hzc]⟩
      | sl es=>
       cases es with
       |nil=>
        cases zz with
        |true=>exact absurd ⟨rfl,rfl⟩ hXs
        |false=>exact absurd rfl hr
       |cons _ _=>exact absurd rfl hr
      |_=>first|exact absurd rfl hXn|exact absurd rfl hr
end
end Go.Av
namespace Go.Av
variable [Dr]
section
variable {P:Program} {cx:Cx} {c:Entry} {N:Nat} {U:Nat->Prop} {e:Env} {h:Hp} {a:Act} {w:World} {S:ap} {β:List a8} {γ:Nat->Value} {lam:Nat->Option Nat} {ω:Nat->Owner} {o:Oper} {gid:Nat}
omit [Dr]in
theorem pj{el:Nat}:∀ {bs cs:List AV},qS el bs=some cs->∃ns:List Int,bs=ns.map (.int .u8)/\cs=ns.map (.byt el)
 |[],cs,h=>by simp only[qS,Dw]at h;subst h;exact⟨[],rfl,rfl⟩
 | x:: r,cs,h=>by
  unfold qS at h;split at h
  ·rename_i heq;cases heq
  ·rename_i n r' heq;obtain⟨rfl,rfl⟩:=List.cons.inj heq;cases hr:qS el r with
   |none=>rw[hr]at h;cases h
   |some cs'=>
    rw[hr]at h;simp only[EC,Dw]at h;subst h;obtain⟨ns,h1,h2⟩:=pj hr;exact⟨n:: ns,by rw[h1];rfl,by rw[h2];rfl⟩
  ·cases h
omit [Dr]in
theorem pk{el t:Nat}{ns:List Int}(h:bD t (ns.map (.byt el))):t=el:=by
 obtain⟨x,h1,h2⟩:=h;obtain⟨n,_,rfl⟩:=Ey.1 h1;simpa [jk]using h2.symm
omit [Dr]in
theorem tC{el t:Nat}{cs:List AV}(h:cs.all (nh el)=true)(ht:bD t cs):t=el:=by
 obtain⟨x,h1,h2⟩:=ht
 have:=DL.1 h x h1
 cases x<;>simp[nh]at this;simp[jk]at h2;omega
omit [Dr]in
theorem vB{el:Nat}{cs:List AV}(h:cs.all (nh el)=true)(hn:0<cs.length):bD el cs:=by
 cases cs with
 |nil=>simp at hn
 |cons x cs=>
  have:=DL.1 h x (by simp)
  cases x<;>simp[nh]at this;subst this;exact⟨_,Ew,rfl⟩
omit [Dr]in
theorem wX(ns:List Int):bV 1 (ns.map (.int .u8))=true:=by
 unfold bV;rw[DL];intro x hx;obtain⟨n,_,rfl⟩:=Ey.1 hx;rfl
omit [Dr]in
theorem mS:∀(ns:List Int),(ns.map (AV.int .u8)).flatMap ab=ns.map (.int .u8)
 |[]=>rfl
 |n:: ns=>by simp only[D8,Ft,mS ns];rfl
omit [Dr]in
theorem sa{el:Nat}:∀ {ns:List Int} {vs:List Value},aG S β (ns.map (.int .u8)) vs->aG S β (ns.map (.byt el)) vs
 |[],vs,h=>by simpa [aG]using h
 |n:: ns,vs,h=>by
  simp only[D8,aG,VR]at h|-;obtain⟨y,ys,rfl,hy,h⟩:=h;exact⟨y,ys,rfl,hy,sa h⟩
theorem wU(hT:TOK P cx.T)(H:FR c N U e h a w S β γ lam ω)(hd:∀t,o.dst=some t->t<N){t u:TypeId}{x y:Operand}{cc:Call}(ho:o.op= .call cc)(hb:cc.callee= .builtin .append)(hts:cc.argTypes.toList=[t,u])(hxs:cc.args.toList=[x,y])(hx:∀t,x= .tmp t->t<1000)(hy:∀t,y= .tmp t->t<1000)(hu:eH cx.T u=true)(hr:aF e o.dst (.dyn (sW cx.T t (opnd e x) (opnd e y)) .ofV) h≠.fail):After P c N (UG U gid) (aF e o.dst (.dyn (sW cx.T t (opnd e x) (opnd e y)) .ofV) h) o a w:=by
 have hvx:=aJ H x hx;have hvy:=aJ H y hy;simp only[aF,af,M.pure]at hr |-;generalize hX:opnd e x=X at hr hvx |-;unfold sW at hr |-;cases ht:cx.T t with
 |none=>rw[ht]at hr;exact absurd rfl hr
 | some ti =>
  rw[ht]at hr;simp only at hr |-;cases hk:ti.kind<;>rw[hk]at hr<;>simp only at hr |- <;> (try exact absurd rfl hr);rename_i el;cases hei:cx.T el with
  |none=>rw[hei]at hr;exact absurd rfl hr
  | some ei =>
   rw[hei]at hr;simp only at hr |-;cases hc:(Nat.beq ei.size 1&&Nat.beq ei.bytes 1&&!ei.agg)with
   |false=>rw[hc]at hr;exact absurd rfl hr
   | true =>
    rw[hc]at hr;simp only[Dx]at hr |-;simp only[Dy,Er]at hc;obtain⟨⟨h1,h2⟩,hag⟩:=hc;have h1:=DC h1;have h2:=DC h2;cases hels:eJ (opnd e y)with
    |none=>rw[hels]at hr;exact absurd rfl hr
    | some bs =>
     rw[hels]at hr;simp only at hr |-;cases hbm:qS el bs with
     |none=>rw[hbm]at hr;exact absurd rfl hr
     | some cs'=>
      rw[hbm]at hr;simp only at hr |-;obtain⟨ns,rfl,rfl⟩:=pj hbm;have hok:bV ei.size (ns.map (AV.int .u8))=true:=by rw[h1];exact wX ns
      obtain⟨hlen,news,hflat,hfirst⟩:=src_ok (P:=P) H.wf hels hvy hok (fun _ _=>h1);obtain⟨hfl,hfv⟩:=gl hflat hok;rw[mS]at hfl hfv;have hfb:aG S β (ns.map (.byt el)) news:=sa hfv;have hnl:news.length=ns.length:=by have:=hfb.length;simpa using this
      have hfirst':∀w':World,(∀a:Addr,w'.cell? a=w.cell? a)->(Builtin.firstCells ei.size (ns.map (AV.int .u8)).length (a.eval y)).run P w'= .ok news.toArray w':=fun w' hw'=>
       hfirst w' (fun b o x hx=>by rw[hw'];exact H.wf b o x hx)
      have hb0:0<ei.bytes:=by omega
      by_cases hXn:X= .hn
      ·subst hXn;simp only at hr |-;simp only[VR]at hvx;cases hbe:(ns.map (AV.int .u8)).isEmpty with
       | true=>
        have hbs:ns=[]:=by simpa using hbe
        subst hbs;simp only[Dx];obtain⟨v,w',hrun,hA⟩:=cK (ty:=o.type) hT ht hk hei hu (n0:=0) (olds:=[]) ⟨none,0,hvx⟩ hlen hfirst' (fun w' _=>by rw[hvx];simp[Builtin.firstCells]) (by simp) hflat.1 hflat.2.2 (by simp) hb0
         (by rw[hvx];exact⟨none,0,0,rfl,DD _,fun _=>rfl,.inl rfl⟩)
        cases hA with
        |same _=>exact After.val (bR ho hb hts hxs hrun) (Df ⟨S,β,γ,lam,ω,H.setV hd (by simp only[VR];exact hvx)⟩)
        |place _ _ _ _ _ _ _ _ hn=>exact absurd rfl hn
        |fresh _ _ _ _ _ _ hn=>exact absurd rfl hn
       | false=>
        rw[hbe]at hr;simp only[DF]at hr |-;cases hby:decide ((ns.map (AV.int .u8)).length<=140737488355328)with
        |false=>rw[hby]at hr;exact absurd rfl hr
        | true=>
         simp only[Dx];have hne:(ns.map (AV.int .u8)).length≠0:=by
          intro h0;rw[DZ h0]at hbe;cases hbe
         obtain⟨v,w',hrun,hA⟩:=cK (ty:=o.type) hT ht hk hei hu (n0:=0) (olds:=[]) ⟨none,0,hvx⟩ hlen hfirst' (fun w' _=>by rw[hvx];simp[Builtin.firstCells]) (by simp) hflat.1 hflat.2.2 (by rw[h2];simpa using Fu hby) hb0
          (by rw[hvx];exact⟨none,0,0,rfl,DD _,fun _=>rfl,.inl rfl⟩)
         cases hA with
         |same h0=>exact absurd h0 hne
         |place b off cap z hv _ _ _ _=>rw[hvx]at hv;cases hv
         | fresh z te cap hlt hzc hzr hn hte=>
          subst hte;rw[h1,Fq]at hzc;obtain⟨ω',F,hnew,hext⟩:=(H.drew).newH z te (cs:=ns.map (.byt te)) (by
           refine .of_get ?_ fun i q v hq hv=>?_
           ·rw[EA];apply EV;have hz':z.toList.length=cap:=by simpa using hzc
            simp only[D7]at hlt |-;omega
           ·obtain⟨v',h1',h2'⟩:=hfb.get hq
            have:=hzr i v' (by simpa using h1')
            rw[DJ]at hv;split at hv
            ·rw[D1,this]at hv;cases hv;exact h2'
            ·simp at hv) (fun t ht=>pk ht)
          have hnew':(β++[(w.drew.heap.size,z.size)])[h.length]? = some (w.heap.size,z.size):=hnew;refine After.val (bR ho hb hts hxs hrun) (Df ⟨_,_,γ,lam,ω',F.setV hd ?_⟩);simp only[VR];have hz0:z.size≠0:=by omega
          exact .inl ⟨(w.heap.size,z.size),cap,hnew',hz0,by simp,by omega,by simp[hzc]⟩
      ·-- a row of the heap
       cases X with
       | hs l off len sz ag=>
        cases off with
        |succ k=>exact absurd rfl hr
        | zero =>
         by_cases hsa:sz=1/\ag=false
         case neg=>
          refine absurd ?_ hr;rcases sz with _|_|sz
          ·rfl
          ·cases ag
           ·exact absurd ⟨rfl,rfl⟩ hsa
           ·rfl
          ·rfl
         obtain⟨rfl,rfl⟩:=hsa;simp only at hr |-;cases hcs:h[l]? with
         |none=>rw[hcs]at hr;exact absurd rfl hr
         | some cs=>
          rw[hcs]at hr;simp only at hr |-;cases hc2:(cs.all (nh el)&&decide (len<=cs.length)&&decide (0<len)&&decide (len+(ns.map (AV.int .u8)).length<=140737488355328))with
          |false=>rw[hc2]at hr;exact absurd rfl hr
          | true=>
           simp only[Dx];simp only[Dy,DK]at hc2;obtain⟨⟨⟨k3,k4⟩,k5⟩,k6⟩:=hc2;have hvx0:=hvx;have hne:cs≠[]:=by
            rintro rfl;simp at k4;omega
           have hl:l<h.length:=by
            rcases DU l h.length with h'|h'
            ·exact h'
            ·rw[DI h']at hcs;simp at hcs
           simp only[VR]at hvx;rcases hvx with⟨⟨b,nb⟩,cap,hβ,hb0',hvx,hlc,hcn⟩|⟨h00,q,hvx⟩
           ·obtain⟨z,j1,j2,j3,j4,j5⟩:=H.heap.cells hcs hne hβ hb0';rw[hβ]at j1;simp only[Dw,Em,true_and]at j1;subst j1;have hzs:cs.length<=z.size:=by have:=j4.length;simp at this;omega
            have hol:(z.toList.take len).length=len:=by simp;omega
            have j6:aG S β (cs.take len) (z.toList.take len):=by
             have:=j4.take len
             rw[E1,EV k4]at this;exact this
            have hcl:(cs.take len).length=len:=by simp;omega
            have hold:∀w':World,(∀a:Addr,w'.cell? a=w.cell? a)->(Builtin.firstCells ei.size len (a.eval x)).run P w'= .ok (z.toList.take len).toArray w':=fun w' hw'=>by
             rw[hvx,h1];refine run_firstCells_some w' 1 len ⟨b,0,none⟩ len cap _ (by rw[hol,Fq]) fun j q hq=>?_;rw[addr_add,DW,hw',j2.cell];rw[DJ]at hq;split at hq
             ·simpa using hq
             ·simp at hq
            have hroom:jp w ei.size (a.eval x):=⟨_,len,cap,hvx,hlc,(fun h=>by cases h),.inr ⟨b,0,z,rfl,j2,by rw[h1];exact hcn⟩⟩;obtain⟨v,w',hrun,hA⟩:=cK (ty:=o.type) hT ht hk hei hu (n0:=len) (olds:=z.toList.take len) ⟨_,cap,hvx⟩ hlen hfirst' hold (by rw[h1,Fq];exact hol) hflat.1 hflat.2.2 (by rw[h2,Fq];exact k6) hb0 hroom;have hexec:=bR ho hb hts hxs hrun;have hnb:∀t,bD t (cs.take len++ns.map (.byt el))->t=el:=fun t ht=>by
             rcases ht.append with ht|ht
             ·exact tC k3 (ht.mono fun a=>E2)
             ·exact pk ht
            cases hA with
            |same h0=>
             have hbs:ns=[]:=by simpa using h0
             subst hbs;exact After.val hexec (Df ⟨S,β,γ,lam,ω,H.setV hd hvx0⟩)
            | place b2 off2 cap2 z2 hv2 hr2 hlt2 hc2' hn2=>
             have hbe:(ns.map (AV.int .u8)).isEmpty=false:=by cases ns<;>simp_all
             rw[hbe];simp only[DF];rw[hvx]at hv2;simp only[Value.slice.injEq,Dw,Addr.mk.injEq]at hv2;obtain⟨⟨rfl,rfl,_⟩,_,rfl⟩:=hv2;cases j2.inj hr2;rw[h1,Fq]at hexec;rw[Fq]at hcn;have hlt3:len+ns.length<=cap:=by simpa using hlt2
             have hysz:(z.toList.take (0+len)++news++z.toList.drop (0+len+news.length)).toArray.size=z.size:=by simp;omega
             have hyv:aG S β (cs.take len++ns.map (.byt el)) ((z.toList.take (0+len)++news++z.toList.drop (0+len+news.length)).toArray.toList.take (cs.take len++ns.map (AV.byt el)).length):=by
              have hl1:(z.toList.take (0+len)++news).length=(cs.take len++ns.map (AV.byt el)).length:=by
               rw[Eb,Eb,DW,hol,hcl,hnl,D7]
              show aG S β _ (List.take _ (z.toList.take (0+len)++news++z.toList.drop (0+len+news.length)));rw[GE hl1,DW];exact j6.append hfb
             have hne2:cs.take len++ns.map (AV.byt el)≠[]:=by
              intro h0
              have:=Dz List.length h0
              rw[Eb,hcl]at this;simp at this;omega
             have F1:=H.turnH hcs hne ⟨_,hβ⟩ j2 hysz hyv (fun t ht=>by rw[hnb t ht];exact vB k3 (by omega));have hcs1:(h.set l (cs.take len++ns.map (.byt el)))[l]? = some (cs.take len++ns.map (.byt el)):=by simp[hl]
             obtain⟨ω',F2,hnew,hext⟩:=F1.moveH hcs1 hne2 ⟨_,hβ⟩ j2.setRow hyv (fun t ht=>ht);have hset:(h.set l (cs.take len++ns.map (.byt el))).set l []=h.set l []:=by simp
             rw[hset]at F2;rw[Fo]at hnew;refine After.val hexec (Df ⟨_,_,γ,lam,ω',F2.setV hd ?_⟩);simp only[VR];exact .inl ⟨_,cap,hnew,by simp only;rw[hysz];exact hb0',rfl,hlt2,by simp only;rw[hysz,Fq];exact hcn⟩
            | fresh z2 te cap2 hlt2 hzc hzr hn2 hte=>
             subst hte;have hbe:(ns.map (AV.int .u8)).isEmpty=false:=by cases ns<;>simp_all
             rw[hbe];simp only[DF];rw[h1,Fq]at hzc;have F1:=(H.drew).killH l;obtain⟨ω',F2,hnew,hext⟩:=F1.newH z2 te (cs:=cs.take len++ns.map (.byt te)) (by
              refine .of_get ?_ fun i q v hq hv=>?_
              ·rw[EA,Eb,hcl];apply EV;have hz':z2.toList.length=cap2:=by simpa using hzc
               simp only[D7]at hlt2 |-;omega
              ·obtain⟨v',h1',h2'⟩:=(j6.append hfb).get hq
               have:=hzr i v' h1'
               rw[DJ]at hv;split at hv
               ·rw[D1,this]at hv;cases hv;exact h2'
               ·simp at hv) (fun t ht=>hnb t ht)
             rw[Fo]at hnew;have hnew':(β++[(w.drew.heap.size,z2.size)])[h.length]? = some (w.heap.size,z2.size):=hnew;refine After.val hexec (Df ⟨_,_,γ,lam,ω',F2.setV hd ?_⟩);simp only[VR];have hz0:z2.size≠0:=by simp only[D7]at hlt2;omega
             exact .inl ⟨(w.heap.size,z2.size),cap2,hnew',hz0,rfl,hlt2,by simp[hzc]⟩
           ·omega
       |hn=>exact absurd rfl hXn
       |_=>exact absurd rfl hr
end
end Go.Av
namespace Go.Av
variable [Dr]
section
variable {P:Program} {cx:Cx} {c:Entry} {N:Nat} {U:Nat->Prop} {e:Env} {h:Hp} {a:Act} {w:World} {S:ap} {β:List a8} {γ:Nat->Value} {lam:Nat->Option Nat} {ω:Nat->Owner} {o:Oper} {gid:Nat}
omit [Dr]in
theorem wa{cs:List AV}{vs:List Value}(h:aG S β cs vs)(ho:cs.all aL=true):∀y∈vs,y.oneCell'=true:=by
 induction cs generalizing vs with
 |nil=>simp[aG]at h;subst h;intro y hy;simp at hy
 |cons x cs ih=>
  simp only[aG]at h;obtain⟨v,r,rfl,h1,h2⟩:=h;simp only[ES,Dy]at ho;intro y hy;rcases DX.1 hy with rfl|hy
  ·exact (eR ho.1 h1).2
  ·exact ih h2 ho.2 y hy
theorem FR.putH(H:FR c N U e h a w S β γ lam ω){l off b nb:Nat}{cs acs:List AV}{vs:List Value}(hcs:h[l]? = some cs)(hne:cs≠[])(hb:β[l]? = some (b,nb))(hb0:nb≠0)(hvs:aG S β acs vs)(hle:off+acs.length<=cs.length)(htag:∀t,¬bD t acs):
  ∃z,Row w b z/\cs.length<=z.size/\FR c N U e (h.set l (setCells cs off acs)) a (w.setRow b (z.toList.take off++vs++z.toList.drop (off+vs.length)).toArray) S β γ lam ω:=by
 obtain⟨z,j1,j2,j3,j4,j5⟩:=H.heap.cells hcs hne hb hb0;rw[hb]at j1;cases j1;have hvl:=hvs.length;have hzs:cs.length<=z.size:=by
  have:=j4.length
  simp at this;omega
 refine⟨z,j2,hzs,H.turnH hcs hne ⟨_,hb⟩ j2 (by simp;omega) ?_ (fun t ht=>ht.setCells.resolve_right (htag t))⟩;rw[dv _ _ _ (by omega)];have hsp:aG S β (setCells cs off acs) (((z.toList.take cs.length).take off++vs++(z.toList.take cs.length).drop (off+vs.length))):=by
  unfold setCells;rw[hvl];exact ((j4.take off).append hvs).append (j4.drop _)
 have heq:(z.toList.take off++vs++z.toList.drop (off+vs.length)).take cs.length=
   (z.toList.take cs.length).take off++vs++(z.toList.take cs.length).drop (off+vs.length):=by
  rw[Fg,Fg];have e1:(z.toList.take off).length=off:=by simp;omega
  rw[E1,E1];have e2:min cs.length off=off:=by omega
  have e3:min off cs.length=off:=by omega
  rw[e2,e3,e1];have e4:vs.take (cs.length-off)=vs:=EZ (by omega);rw[e4];congr 1;rw[GI,Eb,e1];congr 2;omega
 show aG S β _ (List.take _ _);rw[show (z.toList.take off++vs++z.toList.drop (off+vs.length)).toArray.toList=(z.toList.take off++vs++z.toList.drop (off+vs.length))from rfl,heq];exact hsp
theorem uR(hT:TOK P cx.T)(H:FR c N U e h a w S β γ lam ω)(hd:∀t,o.dst=some t->t<N){cc:Call}(ho:o.op= .call cc)(hcal:cc.callee= .builtin .clear){t:TypeId}{ts:List TypeId}{x:Operand}{xs:List Operand}(hts:cc.argTypes.toList=t:: ts)(hxs:cc.args.toList=x:: xs)(hx:∀t,x= .tmp t->t<1000)(hr:aF e o.dst (.dyn (nU cx.T t (opnd e x)) .ofV) h≠.fail):After P c N (UG U gid) (aF e o.dst (.dyn (nU cx.T t (opnd e x)) .ofV) h) o a w:=absurd rfl hr
end
end Go.Av
namespace Go.Av
variable [Dr]
def bu(p:Upd->Prop):Act1->Prop
 |.bad=>True
 |.stat u=>p u
 |.dyn _ sh=>∀v,p (sh v)
 |.thr _=>True
omit [Dr]in
theorem bu.cond{p:Upd->Prop}{b:Bool}{x y:Act1}(h1:b=true->bu p x)(h2:b=false->bu p y):bu p (bif b then x else y):=by
 cases b with
 |true=>exact h1 rfl
 |false=>exact h2 rfl
structure Shape (e:Env) (gid:Nat) (f:Foot) (ss:Option Nat) (u:Upd):Prop where
 ls:f.wl=false->u.ls=[]
 lb:f.wl=false->u.lb=none
 unlb:f.wl=false->u.unlb=none
 add:f.wl=false->∀x∈u.add,x.1=gid
 noad:f.ad=false->u.add=[]
 nodr:f.dr=false->u.drop=none
 loc:f.wl=false->∀C off,u.ent.v= .loc C off->∃t off',(e.get t).v= .loc C off'
 keys:∀x∈u.ls,1000<=x.1\/ss=some x.1
omit [Dr]in
theorem Shape.ofV(e:Env)(gid:Nat)(f:Foot)(ss:Option Nat)(a:AV):Shape e gid f ss (.ofV a):=
 ⟨fun _=>rfl,fun _=>rfl,fun _=>rfl,fun _ x h=>by simp[Upd.ofV]at h,fun _=>rfl,fun _=>rfl,fun _ C off h=>by simp[Upd.ofV]at h,fun x h=>by simp[Upd.ofV]at h⟩
omit [Dr]in
theorem Shape.own(e:Env)(gid:Nat)(f:Foot)(ss:Option Nat)(a:AV)(z:Option Nat)(h:f.ad=true):Shape e gid f ss (.own a gid z):=
 ⟨fun _=>rfl,fun _=>rfl,fun _=>rfl,fun _ x h=>by simp[Upd.own]at h;rw[h],fun h'=>by(rw[h]at h';cases h'),fun _=>rfl,fun _ C off h=>by simp[Upd.own]at h,fun x h=>by simp[Upd.own]at h⟩
omit [Dr]in
theorem Shape.ent(e:Env)(gid:Nat)(f:Foot)(ss:Option Nat)(x:Ent)(h:∀C off,x.v= .loc C off->∃t off',(e.get t).v= .loc C off'):Shape e gid f ss { ent:=x } :=
 ⟨fun _=>rfl,fun _=>rfl,fun _=>rfl,fun _ x h=>by simp at h,fun _=>rfl,fun _=>rfl,fun _ C off h'=>h C off h',fun x h=>by simp at h⟩
omit [Dr]in
theorem Shape.get(e:Env)(gid:Nat)(f:Foot)(ss:Option Nat)(t:Nat):Shape e gid f ss { ent:=e.get t }:=.ent _ _ _ _ _ fun _ off h=>⟨t,off,h⟩
omit [Dr]in
theorem jH{B n gid:Nat}{cs:List AV}{offs:List Nat}(hB:1000<=B):∀x∈gJ B cs offs gid n,1000<=x.1:=by
 intro x hx;unfold gJ at hx;simp only[Ey]at hx;obtain⟨i,_,rfl⟩:=hx;simp only;omega
omit [Dr]in
theorem pJ{offs:List Nat}{gid:Nat}(h:offs.isEmpty=true):kw offs gid=[]:=by
 have:offs=[]:=by simpa using h
 subst this;rfl
variable {cx:Cx} {e:Env} {gid:Nat} {o:Oper}
omit [Dr]in
theorem lQ(told:Bool)(x:Operand)(f:Foot)(hf:f.ad=aM x):bu (Shape e gid f none) (ff told e gid x):=by
 unfold ff;split
 ·exact Shape.get ..
 ·cases h:aM x with
  |true=>
   cases told with
   |true=>exact Shape.ofV ..
   |false=>exact Shape.own _ _ _ _ _ _ (by rw[hf,h])
  |false=>exact Shape.ofV ..
omit [Dr]in
theorem pM{e:Env}{B off n:Nat}(h:hP e B off n=true):∃m,aT e.lb B=some m/\off+n<=m/\1000<=B:=by
 unfold hP at h;split at h
 ·rename_i m hm;simp at h;exact⟨m,hm,h.1,h.2⟩
 ·simp at h
omit [Dr]in
theorem lG(d:Option Tmp)(t:TypeId)(p:Nat)(f:Foot):bu (Shape e gid f none) (cN cx e d t p):=by
 unfold cN;split
 ·split
  ·trivial
  ·cases hP e _ _ _ with
   |false=>trivial
   | true=>
    simp only[Dx];rename_i ti _;cases ti.agg with
    |true=>exact Shape.ofV ..
    |false=>
     simp only[DF];cases decide (ti.size=1)with
     |true=>exact Shape.get ..
     |false=>trivial
 ·cases bh cx.ann.hl d with
  |true=>exact fun v=>Shape.ofV ..
  |false=>exact fun v=>Shape.ofV ..
omit [Dr]in
theorem Shape.wl{e:Env}{gid:Nat}{f:Foot}{ss:Option Nat}{u:Upd}(hw:f.wl=true)(h1:f.ad=false->u.add=[])(h2:u.drop=none)(h3:∀x∈u.ls,1000<=x.1\/ss=some x.1):Shape e gid f ss u:=
 ⟨fun h=>by(rw[hw]at h;cases h),fun h=>by(rw[hw]at h;cases h),fun h=>by(rw[hw]at h;cases h),fun h=>by(rw[hw]at h;cases h),h1,fun _=>h2,fun h=>by(rw[hw]at h;cases h),h3⟩
omit [Dr]in
theorem qC(t p:Nat)(y:Operand)(f:Foot)(hw:f.wl=true)(ha:f.ad=(!(dF cx.ann.nils p).isEmpty||aM y)):bu (Shape e gid f (some p)) (dQ cx e gid t p y):=by
 unfold dQ;split
 ·rename_i B off _;split
  ·trivial
  ·rename_i ti _;cases hlb:hP e B off ti.size with
   |false=>trivial
   | true=>
    obtain⟨m,_,_,hB⟩:=pM hlb;simp only[Dx];cases tD (bq cx.ann.kinds p .L)with
    | true=>
     simp only[Dx];cases iE e B off p ti.size with
     |false=>trivial
     |true=>
      simp only[Dx];exact fun v=>Shape.wl hw (fun _=>rfl) rfl (fun x hx=>by simp at hx;exact .inr (by rw[hx]))
    | false=>
     simp only[DF];cases ti.agg with
     |true=>
      simp only[Dx];refine fun v=>Shape.wl hw (fun h=>?_) rfl (fun x hx=>.inl (jH (by omega) x hx));rw[ha]at h;simp only[FD,Bool.not_eq_false']at h;exact pJ h.1
     | false=>
      simp only[DF];cases decide (ti.size=1)with
      |false=>trivial
      | true=>
       simp only[Dx];split
       ·split
        ·exact fun v=>Shape.wl hw (fun _=>rfl) rfl (fun x hx=>by simp at hx;rw[hx];exact .inl (by simp only;omega))
        ·trivial
       ·cases hn:aM y with
        |true=>
         refine Shape.wl hw (fun h=>?_) rfl (fun x hx=>by simp at hx;rw[hx];exact .inl (by simp only;omega));rw[ha,hn]at h;simp at h
        |false=>exact fun v=>Shape.wl hw (fun _=>rfl) rfl (fun x hx=>by simp at hx;rw[hx];exact .inl (by simp only;omega))
 ·exact fun v=>Shape.ofV ..
omit [Dr]in
theorem py(t p i:Nat)(f:Foot):bu (Shape e gid f none) (eO cx e t p i):=by
 unfold eO;split
 ·rename_i B off hv;split
  ·trivial
  ·split
   ·trivial
   ·split
    ·trivial
    ·rename_i fi _;cases decide (fi.size=0)with
     |true=>trivial
     |false=>exact Shape.ent _ _ _ _ _ fun C o' h=>⟨p,off,by simp at h;rw[hv,h.1]⟩
 ·exact fun v=>Shape.ofV ..
omit [Dr]in
theorem pP(t p:Nat)(i:Operand)(f:Foot):bu (Shape e gid f none) (cq cx e t p i):=by
 unfold cq;split
 ·rename_i B off hv;split
  ·split
   ·split
    ·trivial
    ·refine bu.cond (p:=Shape e gid f none) (y:=.bad) (fun _=>?_) (fun _=>trivial);exact Shape.ent _ _ _ _ _ fun C o' h=>⟨p,off,by simp at h;rw[hv,h.1]⟩
   ·trivial
  ·trivial
 ·exact fun v=>Shape.ofV ..
omit [Dr]in
theorem oX(s t:Nat)(f:Foot)(hf:f=(match bq cx.ann.kinds s .L with|.F=>{}|.H=>{ wh:=true }|.B=>{ wh:=true }|_=>{ wl:=true,ad:=!(dF cx.ann.nils s).isEmpty })):bu (Shape e gid f none) (dN cx e gid s t):=by
 unfold dN;split
 ·trivial
 ·rename_i ti _;have key:f.wl=true->(f.ad= !(dF cx.ann.nils s).isEmpty)->bu (Shape e gid f none) (match dF cx.ann.nils s with
   | offs=>bif decide (ti.size<1000)&&aK e.sl (aR s)&&f5 (cB true ti) offs ti.size then
     .stat { ent:=⟨.loc (aR s) 0,none⟩,ls:=gJ (aR s) (cB (dB cx.ann.hb s) ti) offs gid ti.size,add:=kw offs gid,lb:=some (aR s,ti.size) }else .bad):=by
   intro hw ha;simp only;cases decide (ti.size<1000)&&aK e.sl (aR s)&&f5 (cB true ti) (dF cx.ann.nils s) ti.size with
   |false=>trivial
   |true=>exact Shape.wl hw (fun h=>pJ (by rw[ha]at h;simpa using h)) rfl (fun x hx=>.inl (jH (by unfold aR;omega) x hx))
  cases hk:bq cx.ann.kinds s .L with
  |F=>exact Shape.ofV ..
  |H=>exact fun v=>Shape.ofV ..
  |B=>exact fun v=>Shape.ofV ..
  |L=>rw[hk]at hf;exact key (by rw[hf]) (by rw[hf])
  |S=>rw[hk]at hf;exact key (by rw[hf]) (by rw[hf])
omit [Dr]in
theorem s7(s t:Nat)(x:Operand)(f:Foot)(hf:f=(match bq cx.ann.kinds s .F with|.F=>{}|.H=>{ wh:=true }|.B=>{ wh:=true }|_=>{ wl:=true })):bu (Shape e gid f none) (gP cx e s t x):=by
 unfold gP;have key:f.wl=true->bu (Shape e gid f none) (match cx.T t with
  |none=>.bad
  | some ti=>bif decide (ti.size<1000)&&aK e.sl (aR s)then
    .dyn (aZ ti.size (opnd e x)) fun v=>{ ent:=⟨.loc (aR s) 0,none⟩,ls:=gJ (aR s) (ab v) [] 0 ti.size,lb:=some (aR s,ti.size) }
   else .bad):=by
  intro hw;split
  ·trivial
  ·rename_i ti _;cases decide (ti.size<1000)&&aK e.sl (aR s)with
   |false=>trivial
   |true=>exact fun v=>Shape.wl hw (fun _=>rfl) rfl (fun x hx=>.inl (jH (by unfold aR;omega) x hx))
 cases hk:bq cx.ann.kinds s .F with
 |F=>exact Shape.ofV ..
 |H=>exact fun v=>Shape.ofV ..
 |B=>trivial
 |L=>rw[hk]at hf;exact key (by rw[hf])
 |S=>rw[hk]at hf;exact key (by rw[hf])
omit [Dr]in
theorem qV(c:Call)(f:Foot)(ho:o.op= .call c)(hf:f=am cx o):bu (Shape e gid f none) (dO cx e gid o c):=by
 unfold dO;cases hc:c.callee with
 |invoke r m=>trivial
 | value x=>
  cases x with
  | func g=>
   simp only;refine bu.cond (fun _=>bu.cond (fun _ v=>Shape.ofV ..) (fun _=>trivial)) fun _=>?_;intro v;cases ho':cx.own g with
   |none=>exact Shape.ofV ..
   |some z=>
    refine Shape.own _ _ _ _ _ _ ?_;rw[hf];unfold am;rw[ho];simp only[hc,ho'];cases cx.iso g<;>rfl
  |tmp t=>exact fun v=>Shape.ofV ..
  |const t=>exact fun v=>Shape.ofV ..
  |global t=>exact fun v=>Shape.ofV ..
 | builtin b=>
  cases b<;>simp only<;>(try trivial)
  case clear=>
   split
   ·exact fun v=>Shape.ofV ..
   ·trivial
  case append=>
   split
   ·rename_i t u x y hts hxs;cases eH cx.T u with
    |false=>trivial
    | true =>
     simp only[E4,DF];cases hha:bh cx.ann.ha o.dst with
     |true=>exact fun v=>Shape.ofV ..
     | false=>
      have hfa:f.ad=true/\f.wl=false/\f.dr= !aM x:=by
       rw[hf];unfold am;rw[ho];simp only[hc,hha,DF,hxs];exact⟨trivial,trivial,trivial⟩
      cases hn:aM x with
      |true=>exact fun v=>Shape.own _ _ _ _ _ _ hfa.1
      | false=>
       simp only[DF];split
       ·split
        ·trivial
        ·split
         ·trivial
         ·rename_i z _;cases oM z (bP cx.T t)with
          |false=>trivial
          |true=>
           simp only[Dx];intro v;have hdr:f.dr=true:=by rw[hfa.2.2,hn];rfl
           exact⟨fun _=>rfl,fun _=>rfl,fun _=>rfl,fun _ x h=>by simp[Upd.own]at h;rw[h],fun h'=>by(rw[hfa.1]at h';cases h'),fun h'=>by(rw[hdr]at h';cases h'),fun _ C off h=>by simp[Upd.own]at h,fun x h=>by simp[Upd.own]at h⟩
       ·trivial
   ·trivial
  case len=>
   split
   ·exact fun v=>Shape.ofV ..
   ·trivial
  case min=>exact fun v=>Shape.ofV ..
  case max=>exact fun v=>Shape.ofV ..
omit [Dr]in
theorem tr(f:Foot)(ss:Option Nat)(A:Act1):bu (Shape e gid f ss) (Ar A):=by
 cases A with
 |bad=>trivial
 |stat u=>exact fun v=>Shape.ofV ..
 |dyn m sh=>exact fun v=>Shape.ofV ..
 |thr v=>trivial
omit [Dr]in
theorem gY(cx:Cx)(e:Env)(gid:Nat)(o:Oper):bu (Shape e gid (am cx o) (br o)) (dP cx e gid o):=by
 have hss:(∀t p y,o.op≠.store t (.tmp p) y)->br o=none:=by
  intro h;unfold br;split
  ·rename_i t p y hq;exact absurd hq (h t p y)
  ·rfl
 unfold dP;cases ho:o.op
 case store t x y=>
  simp only;cases x<;>(try trivial);rename_i p;cases hd:o.dst with
  |some d=>trivial
  |none=>
   have h1:br o=some p:=by unfold br;rw[ho]
   rw[h1];exact bu.cond (fun _=>trivial) fun _=>qC t p y _ (by unfold am;rw[ho]) (by unfold am;rw[ho])
 all_goals
  have hs0:=hss (by rw[ho];intros;simp);rw[hs0];simp only
 case move x=>exact lQ _ x _ (by unfold am;rw[ho])
 case assign x=>exact lQ _ x _ (by unfold am;rw[ho])
 case box t x=>
  cases hd:o.dst with
  |none=>trivial
  |some s=>exact s7 s t x _ (by unfold am;rw[ho];simp only[hd];cases bq cx.ann.kinds s .F<;>rfl)
 case alloc t=>
  cases hd:o.dst with
  |none=>trivial
  |some s=>exact oX s t _ (by unfold am;rw[ho];simp only[hd];cases bq cx.ann.kinds s .L<;>rfl)
 case load t x=>cases x<;>first|exact bu.cond (fun _=>trivial) (fun _=>bu.cond (fun _=>tr _ _ _) (fun _=>lG ..))|trivial
 case buildSlice=>
  cases hha:bh cx.ann.ha o.dst with
  |true=>exact fun v=>Shape.ofV ..
  |false=>
   intro v;cases hno:bh cx.ann.no o.dst with
   |true=>exact Shape.ofV ..
   |false=>exact Shape.own _ _ _ _ _ _ (by unfold am;rw[ho];simp[hno,hha])
 case makeSlice=>exact fun v=>Shape.own _ _ _ _ _ _ (by unfold am;rw[ho])
 case slice t x lo hi mx=>
  cases hso:bh cx.ann.so o.dst with
  | true=>
   simp only[Dx];unfold i8;have hf:am cx o= { ad:=true,dr:=true }:=by unfold am;rw[ho];simp only[hso,Dx]
   rw[hf];split
   ·split
    ·trivial
    ·split
     ·exact bu.cond (fun _ v=>⟨fun _=>rfl,fun _=>rfl,fun _=>rfl,fun _ x h=>by simp[Upd.own]at h;rw[h],fun h'=>(by cases h'),fun h'=>(by cases h'),fun _ C off h=>by simp[Upd.own]at h,fun x h=>by simp[Upd.own]at h⟩) fun _=>trivial
     ·trivial
   ·trivial
  |false=>
  simp only[DF];cases mx with
  |none=>exact fun v=>Shape.ofV ..
  |some m=>exact fun v=>Shape.own _ _ _ _ _ _ (by unfold am;rw[ho];simp only[hso,DF];rfl)
 case nilCheck x=>
  cases x<;>(try trivial);simp only;split
  ·exact Shape.get ..
  ·exact fun v=>Shape.ofV ..
 case fieldAddr t x i=>cases x<;>first|exact py ..|trivial
 case indexAddr t x i=>cases x<;>first|exact pP ..|trivial
 case call c=>exact qV c _ ho rfl
 case panic x=>exact fun v=>Shape.ofV ..
 case makeFunc=>exact Shape.ofV ..
 case makeMap=>exact bu.cond (fun _=>trivial) fun _ v=>Shape.ofV ..
 case mapUpdate=>unfold gQ;split;exact fun v=>Shape.ofV ..;trivial
 case insert=>unfold gQ;split;exact fun v=>Shape.ofV ..;trivial
 case binOp=>exact bu.cond (fun _=>trivial) fun _ v=>Shape.ofV ..
 all_goals first|trivial|exact fun v=>Shape.ofV ..
end Go.Av
namespace Go.Av
mutual
theorem pn{S S':ap}{β β':List a8}{g:Nat->Nat->Nat->Nat->Bool->AV}(hS:S.le S')(hg:∀l off len sz ag v,VR S β (.hs l off len sz ag) v->VR S' β' (g l off len sz ag) v):(a:AV)->(v:Value)->VR S β a v->VR S' β' (cl g a) v
 |.any,_,_=>by simp[cl,VR]
 |.bool _,_,x=>by simpa [cl,VR]using x
 |.int _ _,_,x=>by simpa [cl,VR]using x
 |.str _,_,x=>by simpa [cl,VR]using x
 |.nilp,_,x=>by simpa [cl,VR]using x
 |.nilf,_,x=>by simpa [cl,VR]using x
 |.nili,_,x=>by simpa [cl,VR]using x
 |.mp _,_,_=>by simp[cl,VR]
 |.it _,_,_=>by simp[cl,VR]
 |.nilm,_,x=>by simpa [cl,VR]using x
 |.nilb _,_,x=>by simpa [cl,VR]using x
 |.byt _ _,_,x=>by simpa [cl,VR]using x
 |.agg cs,v,x=>by
  simp only[cl,VR]at x |-;obtain⟨vs,rfl,y⟩:=x;exact⟨vs,rfl,ir hS hg cs vs y⟩
 |.tup cs,v,x=>by
  simp only[cl,VR]at x |-;obtain⟨vs,rfl,y⟩:=x;exact⟨vs,rfl,ir hS hg cs vs y⟩
 |.sl es,v,x=>by
  simp only[cl,VR]at x |-;obtain⟨a,cap,rfl,hc,hn,hq⟩:=x;have hl:(dz g es).length=es.length:=kZ g es;refine⟨a,cap,by rw[hl],by rw[hl];exact hc,hn,fun q e=>?_⟩;obtain⟨hs,sz,he⟩:=hq q e;exact⟨hs,sz,uW hS hg es _ _ _ he⟩
 |.ip cs,v,x=>by
  simp only[cl,VR]at x |-;obtain⟨b,off,vs,rfl,y,z⟩:=x;exact⟨b,off,vs,rfl,ir hS hg cs vs y,z.mono hS⟩
 |.hp l off,v,x=>by simp[cl,VR]
 |.hn,v,x=>by
  simp only[cl,VR]at x |-;exact⟨none,0,x,DD _,fun _=>rfl,fun q hq=>by cases hq⟩
 |.hs l off len sz ag,v,x=>by
  simp only[cl];exact hg l off len sz ag v x
 |.fn f a c,v,x=>by
  simp only[cl,VR]at x |-;obtain⟨x,y,rfl,hx,hy⟩:=x;exact⟨x,y,rfl,ir hS hg a x hx,ir hS hg c y hy⟩
 |.iface t a,v,x=>by
  simp only[cl,VR]at x |-;obtain⟨y,rfl,hy⟩:=x;exact⟨y,rfl,pn hS hg a y hy⟩
theorem kZ(g:Nat->Nat->Nat->Nat->Bool->AV):(cs:List AV)->(dz g cs).length=cs.length
 |[]=>rfl
 |c:: cs=>by simp[dz,kZ g cs]
theorem ir{S S':ap}{β β':List a8}{g:Nat->Nat->Nat->Nat->Bool->AV}(hS:S.le S')(hg:∀l off len sz ag v,VR S β (.hs l off len sz ag) v->VR S' β' (g l off len sz ag) v):(cs:List AV)->(vs:List Value)->aG S β cs vs->aG S' β' (dz g cs) vs
 |[],_,x=>by simpa [dz,aG]using x
 |c:: cs,vs,x=>by
  simp only[dz,aG]at x |-;obtain⟨y,ys,rfl,hy,hys⟩:=x;exact⟨y,ys,rfl,pn hS hg c y hy,ir hS hg cs ys hys⟩
theorem uW{S S':ap}{β β':List a8}{g:Nat->Nat->Nat->Nat->Bool->AV}(hS:S.le S')(hg:∀l off len sz ag v,VR S β (.hs l off len sz ag) v->VR S' β' (g l off len sz ag) v):(es:List AV)->(b off sz:Nat)->bc S β es b off sz->bc S' β' (dz g es) b off sz
 |[],_,_,_,_=>by simp[dz,bc]
 |e:: es,b,off,sz,x=>by
  simp only[dz,bc]at x |-;obtain⟨⟨v,hv,hs,hc⟩,hes⟩:=x;exact⟨⟨v,pn hS hg e v hv,hs,hc.mono hS⟩,uW hS hg es b (off+sz) sz hes⟩
end
variable [Dr]
omit [Dr]in
theorem uQ{S:ap}{β:List a8}{args:List AV}{vs:List Value}(h:aG S β args vs):aG S [] (dz ax args) vs:=
 ir (ap.le_refl S) (fun _ _ _ _ _ _ _=>by simp[ax,VR]) args vs h
omit [Dr]in
theorem ow{S:ap}{β:List a8}{a:AV}{v:Value}(h:aL a=true)(hv:VR S β a v):v.cells= #[v]:=by
 cases a<;>simp only[aL,Ee]at h<;>simp only[VR]at hv
 case bool=>subst hv;rfl
 case int=>subst hv;rfl
 case str=>obtain⟨x,rfl,_⟩:=hv;rfl
 case nilp=>subst hv;rfl
 case nilf=>subst hv;rfl
 case nili=>subst hv;rfl
 case sl=>obtain⟨x,c,rfl,_⟩:=hv;rfl
 case ip=>obtain⟨b,o,vs,rfl,_⟩:=hv;rfl
 case hp=>obtain⟨b,_,_,rfl⟩:=hv;rfl
 case mp=>obtain⟨b,_,_,rfl⟩:=hv;rfl
 case nilm=>subst hv;rfl
 case hs=>rcases hv with⟨b,c,_,_,rfl,_⟩|⟨_,_,rfl⟩<;>rfl
 case hn=>subst hv;rfl
 case fn=>obtain⟨x,y,rfl,_⟩:=hv;rfl
 case iface=>obtain⟨x,rfl,_⟩:=hv;rfl
omit [Dr]in
theorem oe{S S2:ap}{β β2:List a8}{w:World}{ω:Nat->Owner}{h:Hp}(hH:dl S β w ω h)(hS:S.le S2)(h2:∀(b o:Nat)(x:Array Value),bn β h b->Row w b x->S2 b o=x[o]?):∀(d:Nat)(a:AV)(v:Value),VR S β a v->VR S2 β2 (gx d h a) v
 |0,a,v,hv=>pn hS (fun _ _ _ _ _ _ _=>by simp[ax,VR]) a v hv
 | d + 1,a,v,hv=>by
  refine pn hS (fun l off len sz ag u hu=>?_) a v hv;cases hl:h[l]? with
  |none=>simp[VR]
  | some cs=>
   simp only;cases hc:(decide (off+len*sz<=cs.length)&&decide (0<sz)&&(ag||(Nat.beq sz 1&&cs.all aL)))with
   |false=>simp[VR]
   | true=>
    simp only[Dy,DK,EG]at hc;obtain⟨⟨hc1,hc2⟩,hc3⟩:=hc;simp only[Dx];simp only[VR]at hu |-;rcases hu with⟨⟨b,nb⟩,cap,hβ,hb0,rfl,hlc,hcn⟩|⟨h00,q0,rfl⟩
    rotate_left
    ·subst h00;exact⟨some q0,0,rfl,DD _,fun _=>rfl,fun q hq=>⟨fun h=>absurd h (by omega),sz,trivial⟩⟩
    refine⟨some ⟨b,off,none⟩,cap,by simp,by simpa using hlc,(fun hh=>by cases hh),fun q hq=>?_⟩;simp only[Dw]at hq;subst hq;refine⟨fun _=>rfl,sz,.of_get fun i e he=>?_⟩;have hi:i<len:=by
     rcases DU i len with h'|h'
     ·exact h'
     ·rw[DI (by simpa using h')]at he;cases he
    rw[ED,List.getElem?_range hi]at he;simp only[EC,Dw]at he;have hile:off+i*sz+sz<=cs.length:=by
     have:(i+1)*sz<=len*sz:=DO _ hi;rw[Ei]at this;omega
    have hne:cs≠[]:=by rintro rfl;simp at hile;omega
    obtain⟨x,k1,k2,k3,k4,k5⟩:=hH.cells hl hne hβ hb0;rw[hβ]at k1;simp only[Dw,Em,true_and]at k1;subst k1;have hx:=k4.length;simp only[EA,En]at hx;have hS2:∀o,S2 b o=x[o]?:=fun o=>h2 b o x ⟨l,cs,_,hl,hne,hβ⟩ k2;subst he;cases ag with
    | true=>
     simp only[Dx];have hsub:=(k4.drop (off+i*sz)).take sz;refine⟨.agg (((x.toList.take cs.length).drop (off+i*sz)).take sz).toArray,oe hH hS h2 d _ _ (by simp only[VR];exact⟨_,rfl,hsub⟩),?_,fun j y hy=>?_⟩
     ·simp[Value.cells];omega
     ·simp only[Value.cells]at hy;rw[DJ]at hy;split at hy
      ·rw[Es,DJ]at hy;split at hy
       ·rw[hS2];simpa using hy
       ·cases hy
      ·cases hy
    | false=>
     simp only[DF];simp only[Ee,false_or]at hc3;have hsz:sz=1:=DC hc3.1;subst hsz;have hlt:off+i*1<cs.length:=by omega
     have hcs:cs[off+i*1]? = some (nth cs (off+i*1)):=by unfold nth;rw[Ek,DR hlt];rfl
     obtain⟨y,hy1,hy2⟩:=k4.get hcs;have hok:=DL.1 hc3.2 _ (ET hcs);have hcells:=ow hok hy2;refine⟨y,oe hH hS h2 d _ _ hy2,by rw[hcells];rfl,fun j z hz=>?_⟩;rw[hcells]at hz;cases j with
     |zero=>
      simp only[D9,Dw]at hz;subst hz;rw[hS2,EM];rw[DJ,DG hlt]at hy1;rw[<- hy1];simp
     |succ j=>simp at hz
theorem FR.weak{c:Entry}{N:Nat}{U:Nat->Prop}{e e2:Env}{h:Hp}{a:Act}{w:World}{S:ap}{β:List a8}{γ:Nat->Value}{lam:Nat->Option Nat}{ω:Nat->Owner}(H:FR c N U e h a w S β γ lam ω)(hv:∀t,(e2.get t).v=(e.get t).v\/(e2.get t).v= .val .any/\t<1000)(hg:∀t g,(e2.get t).g=some g->(e.get t).g=some g)(hal:∀g z,aA e2.al g=some z->aA e.al g=some z)(hlb:∀B n,aT e2.lb B=some n->aT e.lb B=some n):FR c N U e2 h a w S β γ lam ω:=by
 refine⟨H.wf,H.gro,H.keep,H.le,H.ext,H.hlen,H.heap,H.tsz,fun t ht=>?_,fun t g z ht hgg hz=>H.grps t g z ht (hg t g hgg) (hal g z hz),fun B n hB=>?_,fun g z hz=>H.free g z (hal g z hz),H.mine,⟨fun t g hgg=>H.used.1 t g (hg t g hgg),fun g z hz=>H.used.2 g z (hal g z hz)⟩⟩
 ·rcases hv t with h1|⟨h1,_⟩
  ·rw[h1];exact H.slots t ht
  ·rw[h1];simp[dD,VR]
 ·obtain⟨h1,h2,h3,b,x,h4,h5,h6,h7,h8⟩:=H.lblk B n (hlb B n hB);refine⟨h1,h2,h3,b,x,h4,h5,h6,h7,fun i hi=>?_⟩;obtain⟨v,a',g1,g2,g3,g4⟩:=h8 i hi;refine⟨v,a',g1,?_,g3,fun g z hgg hz=>g4 g z (hg _ g hgg) (hal g z hz)⟩;rcases hv (B+i)with k1|⟨_,k1⟩
  ·rw[k1];exact g2
  ·omega
theorem FR.acts{c:Entry}{N:Nat}{U:Nat->Prop}{e:Env}{h:Hp}{a a2:Act}{w:World}{S:ap}{β:List a8}{γ:Nat->Value}{lam:Nat->Option Nat}{ω:Nat->Owner}(H:FR c N U e h a w S β γ lam ω)(ht:a2.tmps=a.tmps):FR c N U e h a2 w S β γ lam ω:=
 ⟨H.wf,H.gro,H.keep,H.le,H.ext,H.hlen,H.heap,by rw[ht];exact H.tsz,fun t h=>by rw[ht];exact H.slots t h,fun t g z h=>by rw[ht];exact H.grps t g z h,H.lblk,H.free,H.mine,H.used⟩
open Classical in
theorem FR.freeze{c:Entry}{N:Nat}{U:Nat->Prop}{e:Env}{h:Hp}{a:Act}{w:World}{S:ap}{β:List a8}{γ:Nat->Value}{lam:Nat->Option Nat}{ω:Nat->Owner}(H:FR c N U e h a w S β γ lam ω):
  ∃S2 ω2,FR c N U e (h.map fun _=>[]) a w S2 β γ lam ω2/\∀v u,VR S β v u->VR S2 β (gx 6 h v) u:=by
 let S2:ap:=fun b o=>if bn β h b then w.cell? ⟨b,o,none⟩else S b o;let ω2:Nat->Owner:=fun b=>if bn β h b then .no else ω b;have hn:∀b,¬bn β h b->∀o,S2 b o=S b o:=fun b hb o=>if_neg hb;have hy:∀b,bn β h b->∀o,S2 b o=w.cell? ⟨b,o,none⟩:=fun b hb o=>DG hb;have hωn:∀b,¬bn β h b->ω2 b=ω b:=fun b hb=>if_neg hb;have hωy:∀b,bn β h b->ω2 b= .no:=fun b hb=>DG hb;have hho:∀b,bn β h b->∃l,ω b= .heap l:=fun b hb=>by obtain⟨l,_,h1,_⟩:=H.hown hb;exact⟨l,h1⟩
 have hno:∀b,(∀l,ω b≠.heap l)->¬bn β h b:=fun b hb ho=>by obtain⟨l,hl⟩:=hho b ho;exact hb l hl
 have hle:S.le S2:=by
  intro b o v hv;by_cases hb:bn β h b
  ·obtain⟨l,x,_,_,_,h5⟩:=H.hown hb;rw[h5]at hv;cases hv
  ·rw[hn b hb];exact hv
 have hwf:Wf S2 w:=by
  intro b o v hv;by_cases hb:bn β h b
  ·rw[hy b hb]at hv;exact hv
  ·rw[hn b hb]at hv;exact H.wf b o v hv
 refine⟨S2,ω2,⟨hwf,H.gro,fun b hb hE=>⟨(H.keep b hb hE).1,fun o=>?_⟩,ap.le_trans H.le hle,H.ext,by simp[H.hlen],fun l cs hl hcs=>?_,H.tsz,fun t ht=>?_,H.grps,fun B n hB=>?_,fun g z hg=>?_,fun b hb=>?_,H.used⟩,fun v u hv=>?_⟩
 ·have:¬bn β h b:=fun ho=>by
   obtain⟨l,hl⟩:=hho b ho;rcases (H.mine b (by rw[hl];simp)).1.low with h1|h1
   ·exact hE h1
   ·omega
  rw[hn b this];exact (H.keep b hb hE).2 o
 ·rw[ED]at hl;cases hq:h[l]? with
  |none=>rw[hq]at hl;cases hl
  |some x=>rw[hq]at hl;simp at hl;exact absurd hl (fun hh=>hcs hh)
 ·have:=H.slots t ht
  cases hv:(e.get t).v with
  |val av=>rw[hv]at this;exact VR.mono hle (dT.refl β) _ _ this
  |loc B off=>rw[hv]at this;exact this
 ·obtain⟨h1,h2,h3,b,x,h4,h5,h6,h7,h8⟩:=H.lblk B n hB;have hb:=hno b (fun l hl=>by rw[h6]at hl;cases hl);refine⟨h1,h2,h3,b,x,h4,h5,by rw[hωn b hb];exact h6,fun o=>by rw[hn b hb];exact h7 o,fun i hi=>?_⟩;obtain⟨v,a',g1,g2,g3,g4⟩:=h8 i hi;exact⟨v,a',g1,g2,VR.mono hle (dT.refl β) _ _ g3,g4⟩
 ·obtain⟨a',len,cap,h1,h2,h3,h4⟩:=H.free g z hg;refine⟨a',len,cap,h1,h2,h3,h4.imp id ?_⟩;rintro⟨sz,b,off,x,g1,g2,g3,g4,g5,g6⟩;have hb:=hno b (fun l hl=>by rw[g5]at hl;cases hl);exact⟨sz,b,off,x,g1,g2,g3,g4,by rw[hωn b hb];exact g5,fun o ho=>by rw[hn b hb];exact g6 o ho⟩
 ·by_cases ho:bn β h b
  ·exact absurd (hωy b ho) hb
  ·have hb':ω b≠.no:=by rw[<- hωn b ho];exact hb
   exact⟨(H.mine b hb').1.of_eq (hωn b ho),(H.mine b hb').2⟩
 ·exact oe H.heap hle (fun b o x hb hr=>by rw[hy b hb,hr.cell]) 6 v u hv
theorem iv{c:Entry}{N:Nat}{U:Nat->Prop}{e:Env}{h:Hp}{a:Act}{w:World}{gid:Nat}{d:Option Tmp}{u:Upd}(hd:∀t,d=some t->t<N)(hs:Shape e gid {} none u)(H:cX c N U (e.upd d u) h a w):cX c N U (e.upd d (.ofV (gx 6 h u.ent.av))) (h.map fun _=>[]) a w:=by
 obtain⟨S,β,γ,lam,ω,F⟩:=H;obtain⟨S2,ω2,F2,hf⟩:=F.freeze;have h1:=hs.ls rfl;have h2:=hs.lb rfl;have h3:=hs.unlb rfl;have h4:=hs.noad rfl;have h5:=hs.nodr rfl;have hget:∀t,(e.upd d u).get t=if d=some t then u.ent else e.get t:=fun t=>by rw[bA,h1];rfl
 have hget':∀x t,(e.upd d (.ofV x)).get t=if d=some t then⟨.val x,none⟩else e.get t:=fun x t=>by rw[bA];rfl
 have hal:(e.upd d u).al=e.al:=by show u.add++cV e.al u.drop=e.al;rw[h4,h5];rfl
 have hlb:(e.upd d u).lb=e.lb:=by show im (cL e.lb u.unlb) u.lb=e.lb;rw[h2,h3];rfl
 -- first forget the slot, then tell it anew
 have F3:FR c N U (e.upd d (.ofV .any)) (h.map fun _=>[]) a w S2 β γ lam ω2:=by
  refine F2.weak (fun t=>?_) (fun t g hg=>?_) (fun g z hz=>by rw[hal];exact hz) (fun B n hB=>by rw[hlb];exact hB)
  ·rw[hget,hget'];split
   ·rename_i hdt;exact .inr ⟨rfl,by have h1:=hd t hdt;have h2:=F.tsz.2;exact Ec h1 h2⟩
   ·exact .inl rfl
  ·rw[hget']at hg;rw[hget];split at hg
   ·cases hg
   ·rename_i hdt;rw[if_neg hdt];exact hg
 cases d with
 |none=>exact⟨S2,β,γ,lam,ω2,F3⟩
 | some s=>
  have hsl:=F.slots s (Ec (hd s rfl) F.tsz.2);rw[hget,DG rfl]at hsl;generalize hv0:a.tmps.getD s undef=v0 at hsl;have hvr:VR S β u.ent.av v0:=by
   unfold Ent.av;cases hv:u.ent.v with
   |val x=>rw[hv]at hsl;exact hsl
   |loc B off=>simp[VR]
  have F4:=F3.setV (d:=some s) hd (hf _ _ hvr);refine⟨S2,β,γ,lam,ω2,(F4.weak (e2:=e.upd (some s) (.ofV (gx 6 h u.ent.av))) (fun t=>.inl ?_) (fun t g hg=>?_) (fun g z hz=>hz) (fun B n hB=>hB)).acts ?_⟩
  ·rw[hget',bA];split
   ·rfl
   ·rename_i hdt;show (e.get t).v=(bd ((s,⟨.val .any,none⟩):: e.sl) t).v;rw[bm,if_neg (fun hh=>hdt (by rw[hh]))];rfl
  ·rw[hget']at hg;rw[bA];split at hg
   ·cases hg
   ·rename_i hdt;rw[if_neg hdt];show (bd ((s,⟨.val .any,none⟩):: e.sl) t).g=some g;rw[bm,if_neg (fun hh=>hdt (by rw[hh]))];exact hg
  ·have hlt:s<a.tmps.size:=Ec (hd s rfl) F.tsz.1;simp only[Act.put];rw[<- hv0,D5,D6 hlt];apply Gg;intro i;rw[Fx];split
   ·rename_i hi;subst hi;rw[D6 hlt];rfl
   ·rfl
end Go.Av
namespace Go.Av
section
variable {P:Program} {T:TT} {w:World} {S:ap} {β:List a8}
theorem pG{α:Type}{g:α->PUnit->Sem (ForInStep PUnit)}:∀(l:List α),(∀x∈l,(g x ⟨⟩).run P w= .ok (.yield ⟨⟩) w)->(forIn l PUnit.unit g).run P w= .ok ⟨⟩ w
 |[],_=>by simp
 |x:: l,h=>by
  rw[List.forIn_cons];simp only[Sem.run_bind,h x (by simp),Result.andThen_ok];exact pG l fun y hy=>h y (by simp[hy])
theorem gE(hT:TOK P T):(d n:Nat)->d<=n->(t:TypeId)->(x:AV)->(v:Value)->(em:Bool)->ta T d t x=true->VR S β x v->(Instr.checkKey em n t v).run P w= .ok () w
 |0,_,_,t,x,v,em,h,_=>by simp[ta]at h
 |d+1,0,hn,_,_,_,_,_,_=>by omega
 | d + 1,n+1,hn,t,x,v,em,h,hx=>by
  unfold ta at h;cases ht:T t with
  |none=>rw[ht]at h;cases h
  | some ti=>
   rw[ht]at h;simp only at h;obtain⟨i,dd,z,hi,hd,_,_,hsz,_,hk,hag,hof,_⟩:=(hT.get ht).ex;unfold Instr.checkKey;simp only[Sem.run_bind,run_underlying hd,Result.andThen_ok];split at h
   case h_1 hkk=>cases dd<;>simp only[kindOf,hkk,reduceCtorEq]at hk;simp
   case h_2 hkk=>cases dd<;>simp only[kindOf,hkk,reduceCtorEq]at hk;simp
   case h_3 hkk=>cases dd<;>simp only[kindOf,hkk,reduceCtorEq]at hk;simp
   case h_4 hkk=>cases dd<;>simp only[kindOf,hkk,reduceCtorEq]at hk;simp
   case h_5 cs hkk=>
    obtain⟨fs,rfl⟩:∃fs,dd= .struct fs:=by cases dd<;>simp only[kindOf,hkk,reduceCtorEq]at hk;exact⟨_,rfl⟩
    simp only[VR]at hx;obtain⟨vs,rfl,hvs⟩:=hx;simp only;rw[<- hof,DL]at h
    have hall:∀f∈fs.toList,((if f.name≠ "_" then(do
       let y <- part f.type vs.toArray f.offset
       Instr.checkKey em n f.type y
       pure (ForInStep.yield PUnit.unit))else pure (ForInStep.yield PUnit.unit)):Sem (ForInStep PUnit)).run P w= .ok (.yield ⟨⟩) w:=by
     intro f hf
     have:=h (f.offset,f.type,decide (f.name≠ "_")) (by simp only[iz,Ey];exact⟨f,hf,rfl⟩)
     simp only at this;split
     ·cases htf:T f.type with
      |none=>rw[htf]at this;cases this
      | some fi=>
       rw[htf]at this;simp only at this;cases hp:kk fi cs f.offset with
       |none=>rw[hp]at this;cases this
       |some y=>
        rw[hp]at this;obtain⟨u,hu,hur⟩:=jd (P:=P) (w:=w) (S:=S) (β:=β) hT htf hvs hp;simp only[Sem.run_bind,hu,Result.andThen_ok];rw[gE hT d n (by omega) f.type y u em this hur];simp
     ·simp
    have:=pG (P:=P) (w:=w) (g:=fun(f:Field) (_:PUnit)=>(if f.name≠ "_" then(do
       let y <- part f.type vs.toArray f.offset
       Instr.checkKey em n f.type y
       pure (ForInStep.yield PUnit.unit))else pure (ForInStep.yield PUnit.unit):Sem (ForInStep PUnit))) fs.toList hall
    simp only[Array.forIn_toList]at this;simp only[Sem.run_bind,this,Result.andThen_ok,Sem.run_pure]
   ·cases h
theorem qu(w:World)(hT:TOK P T){d:Nat}{t:Nat}{dd:TypeDesc}(hd:P.underlying t=some dd){x y:AV}{vx vy:Value}{b b':Bool}(h:tZ T (d+1) t x y=some b)(hx:VR S β x vx)(hy:VR S β y vy)(hs:Instr.sameNow dd vx vy=some b'):b'=b:=by
 have h0:=lh (P:=P) (w:=w) hT (d+1) (d+1) (DD _) t x y vx vy b h hx hy;unfold Instr.sameNow at hs;split at hs
 ·split at hs
  ·rename_i hkk;simp only[Dw]at hs;subst hs;simp[Op.equalIn,run_underlying hd,hkk]at h0;exact h0
  ·cases hs
 ·simp only[Dw]at hs;subst hs;simp[Op.equalIn,run_underlying hd]at h0;exact h0
 ·simp only[Dw]at hs;subst hs;simp[Op.equalIn,run_underlying hd]at h0;exact h0
 ·cases hs
def nI(S:ap)(β:List a8)(ents:List MapEntry)(i0:Nat):Option (Nat×AV×AV)->Option (Nat×Value)->Prop
 |none,r=>r=none
 |some (i,k,v),r=>∃u x,r=some (i,u)/\i0<=i/\ents[i-i0]? = some x/\VR S β k x.key/\VR S β v x.val/\u=x.val
theorem fj.cons{e:AV}{es:List AV}{ents:List MapEntry}(h:fj S β (e:: es) ents):∃k v x ents',e= .tup [k,v]/\ents=x:: ents'/\VR S β k x.key/\VR S β v x.val/\fj S β es ents':=by
 obtain⟨h1,h2⟩:=h;cases ents with
 |nil=>simp at h1
 |cons x ents'=>
  obtain⟨k,v,g1,g2,g3⟩:=h2 0 e x rfl rfl;exact⟨k,v,x,ents',g1,rfl,g2,g3,by simpa using h1,fun i a b ha hb=>h2 (i+1) a b (by simpa using ha) (by simpa using hb)⟩
theorem pz(hT:TOK P T){kt:Nat}{dd:TypeDesc}(hd:P.underlying kt=some dd){k:AV}{vk:Value}(hk:VR S β k vk):∀(es:List AV)(ents:List MapEntry)(i:Nat)(r:Option (Nat×AV×AV)),eY T kt k es i=some r->fj S β es ents->
  ∃r',nI S β ents i r r'/\(∀r2,Instr.findNow dd vk ents i=some r2->r2=r')/\(Instr.findAsking kt vk ents i).run P w= .ok r' w
 |[],ents,i,r,h,he=>by
  have:ents=[]:=by simpa using he.1.symm
  subst this;simp only[eY,Dw]at h;subst h;exact⟨none,rfl,fun r2 h2=>by simp[Instr.findNow]at h2;exact h2.symm,by simp[Instr.findAsking]⟩
 | e :: es,ents,i,r,h,he=>by
  obtain⟨k',v,x,ents',rfl,rfl,hk',hv,he'⟩:=he.cons;simp only[eY]at h;cases hq:tZ T 20 kt k k' with
  |none=>rw[hq]at h;cases h
  | some b=>
   have heq:=lh (P:=P) (w:=w) hT 20 Op.maxDepth (by decide) kt k k' vk x.key b hq hk hk';have hsn:=fun b'=>qu (P:=P) (b':=b') w hT hd hq hk hk';rw[hq]at h;cases b with
   | true=>
    simp only[Dw]at h;subst h;refine⟨some (i,x.val),⟨x.val,x,rfl,DD _,by simp,hk',hv,rfl⟩,fun r2 h2=>?_,?_⟩
    ·unfold Instr.findNow at h2;split at h2
     ·simpa using h2.symm
     ·rename_i hs;have:=hsn false hs;cases this
     ·cases h2
    ·unfold Instr.findAsking;simp[Op.equal,heq]
   | false=>
    simp only at h;obtain⟨r',h1,h2,h3⟩:=pz hT hd hk es ents' (i+1) r h he';refine⟨r',?_,fun r2 hr2=>?_,?_⟩
    ·cases r with
     |none=>exact h1
     |some q=>
      obtain⟨j,k2,v2⟩:=q;obtain⟨u,y,g1,g2,g3,g4⟩:=h1;refine⟨u,y,g1,by omega,?_,g4⟩;rw[show j-i=(j-(i+1))+1 by omega];simpa using g3
    ·unfold Instr.findNow at hr2;split at hr2
     ·rename_i hs;have:=hsn true hs;cases this
     ·exact h2 r2 hr2
     ·cases hr2
    ·unfold Instr.findAsking;simp only[Op.equal,Sem.run_bind,heq,Result.andThen_ok,Ee,EH];exact h3
theorem lj(hT:TOK P T){kt:Nat}{dd:TypeDesc}(hd:P.underlying kt=some dd){k:AV}{vk:Value}(hk:VR S β k vk){es:List AV}{ents:List MapEntry}{r:Option (Nat×AV×AV)}(h:eY T kt k es 0=some r)(he:fj S β es ents):
  ∃r',nI S β ents 0 r r'/\(Instr.findKey kt vk ents).run P w= .ok r' w:=by
 obtain⟨r',h1,h2,h3⟩:=pz (P:=P) (w:=w) hT hd hk es ents 0 r h he;refine⟨r',h1,?_⟩;unfold Instr.findKey;simp only[Sem.run_bind,run_underlying hd,Result.andThen_ok];cases hn:Instr.findNow dd vk ents 0 with
 |none=>exact h3
 |some r2=>
  have:=h2 r2 hn
  subst this;simp
theorem qt{x y:AV}(h:sL x y=true){v u:Value}(hx:VR S β x v)(hy:VR S β y u):v=u/\x=y/\∀n,Instr.sameBits n v u=true:=by
 unfold sL at h;split at h
 ·simp only[VR]at hx hy
  have:=eq_of_beq h
  subst this hx hy;exact⟨rfl,rfl,fun n=>by cases n<;>simp[Instr.sameBits]⟩
 ·simp only[VR]at hx hy;simp only[Dy,DK,EU]at h;obtain⟨rfl,rfl⟩:=h;subst hx hy;exact⟨rfl,rfl,fun n=>by cases n<;>simp[Instr.sameBits]⟩
 ·simp only[VR]at hx hy
  have:=eq_of_beq h
  subst this;obtain⟨x,rfl,hx⟩:=hx;obtain⟨y,rfl,hy⟩:=hy;have:x=y:=pp.1 (hx.trans hy.symm);subst this;exact⟨rfl,rfl,fun n=>by cases n<;>simp[Instr.sameBits,beq_toListBytes]⟩
 ·cases h
theorem nD:∀ {xs ys:List AV},oH xs ys=true->∀ {vs us:List Value},aG S β xs vs->aG S β ys us->vs=us/\xs=ys/\∀n,(vs.zip us).all (fun(x,y)=>Instr.sameBits n x y)=true
 |[],[],_,vs,us,hx,hy=>by
  simp only[aG]at hx hy;subst hx hy;exact⟨rfl,rfl,fun n=>rfl⟩
 |x:: xs,y:: ys,h,vs,us,hx,hy=>by
  simp only[oH,Dy]at h;simp only[aG]at hx hy;obtain⟨v,vs,rfl,h1,h2⟩:=hx;obtain⟨u,us,rfl,g1,g2⟩:=hy;obtain⟨rfl,rfl,k1⟩:=qt h.1 h1 g1;obtain⟨rfl,rfl,k2⟩:=nD h.2 h2 g2;exact⟨rfl,rfl,fun n=>by simp only[List.zip_cons_cons,ES,k1,E5];exact k2 n⟩
 |[],_:: _,h,_,_,_,_=>by cases h
 |_:: _,[],h,_,_,_,_=>by cases h
theorem wk{x y:AV}(h:sM x y=true){v u:Value}(hx:VR S β x v)(hy:VR S β y u):v=u/\x=y/\∀n,Instr.sameBits (n+1) v u=true:=by
 unfold sM at h;split at h
 ·simp only[VR]at hx hy;obtain⟨vs,rfl,h1⟩:=hx;obtain⟨us,rfl,h2⟩:=hy;obtain⟨rfl,rfl,k⟩:=nD h h1 h2;exact⟨rfl,rfl,fun n=>by simp only[Instr.sameBits,FE,E5];exact k n⟩
 ·obtain⟨h1,h2,h3⟩:=qt h hx hy;exact⟨h1,h2,fun n=>h3 _⟩
theorem sB(hT:TOK P T){t kt et:Nat}(h:lN T t=some (kt,et)):P.underlying t=some (.map kt et):=by
 unfold lN at h;cases ht:T t with
 |none=>rw[ht]at h;cases h
 | some ti=>
  rw[ht]at h;obtain⟨i,dd,z,hi,hd,_,_,hsz,_,hk,_⟩:=(hT.get ht).ex;simp only at h;split at h
  ·rename_i hkk;simp only[Dw,Em]at h;obtain⟨rfl,rfl⟩:=h;cases dd<;>simp only[kindOf,hkk,reduceCtorEq,TK.map.injEq]at hk;obtain⟨rfl,rfl⟩:=hk;exact hd
  ·cases h
theorem mX(hT:TOK P T){d t:Nat}{x:AV}(h:ta T d t x=true):∃dd,P.underlying t=some dd:=by
 cases d with
 |zero=>simp[ta]at h
 | succ d=>
  unfold ta at h;cases ht:T t with
  |none=>rw[ht]at h;cases h
  |some ti=>
   obtain⟨i,dd,z,hi,hd,_⟩:=(hT.get ht).ex;exact⟨dd,hd⟩
theorem wI(hT:TOK P T){t:Nat}{ti:TI}(ht:T t=some ti):∃z,(zeroValue t).run P w= .ok z w/\VR S β (gT ti) z:=by
 obtain⟨i,d,z,hi,hd,hz,_⟩:=(hT.get ht).ex;exact⟨z,by simp[zeroValue,typeInfo,hi,hz],(mJ hT ht hi hz).1⟩
theorem mc{r clock:Nat}{es:Array MapEntry}(hb:w.heap[r]? = some (.map es clock)):(getObj r).run P w= .ok (.map es clock) w:=by
 simp[getObj,Sem.run,hb]
def ef(w:World)(b:Nat)(o:Obj):World:={ w with heap:=w.heap.setIfInBounds b o }
theorem qq{r clock:Nat}{es:Array MapEntry}(o:Obj)(hb:w.heap[r]? = some (.map es clock)):(setObj r o).run P w= .ok () (ef w r o):=by
 simp[setObj,Sem.run,hb,ef]
theorem look_ok(hT:TOK P T){t:Nat}{es:List AV}{k r:AV}{ok:Bool}(h:lJ T t es k ok=some r){vm vk:Value}(hk:VR S β k vk){ents:Array MapEntry}(he:fj S β es ents.toList)(hm:(vm= .map none/\ents= #[])\/∃b clock,vm= .map (some b)/\w.heap[b]? = some (.map ents clock)):mn P w S β (Instr.lookup t vm vk ok) r:=by
 unfold lJ at h;cases hmt:lN T t with
 |none=>rw[hmt]at h;cases h
 | some q=>
  obtain⟨kt,et⟩:=q;rw[hmt]at h;simp only at h;cases hck:ta T 20 kt k with
  |false=>rw[hck]at h;cases h
  | true=>
   rw[hck]at h;simp only[Dx]at h;cases hte:T et with
   |none=>rw[hte]at h;cases h
   | some ei=>
    rw[hte]at h;simp only at h;obtain⟨dd,hd⟩:=mX hT hck;have hu:=sB hT hmt;have hc:=fun em=>gE (P:=P) (w:=w) hT 20 10000 (by decide) kt k vk em hck hk;have hgo:∀(r:AV)(r':Option (Nat×Value)),(Instr.findKey kt vk ents.toList).run P w= .ok r' w->
      (∃v b,(r'=none->b=false/\(zeroValue et).run P w= .ok v w)/\(∀q,r'=some q->b=true/\v=q.2)/\VR S β r (if ok then .tuple #[v,.bool b]else v))->mn P w S β (Instr.lookup t vm vk ok) r:=by
     rintro r r' hf ⟨v,b0,h1,h2,h3⟩;refine⟨_,?_,h3⟩;unfold Instr.lookup;rcases hm with⟨rfl,rfl⟩|⟨b,clock,rfl,hb⟩
     ·simp only[Sem.run_bind,run_underlying hu,Result.andThen_ok,Sem.run_pure,hc,hf];cases r' with
      |none=>obtain⟨rfl,h1⟩:=h1 rfl;simp only[Sem.run_bind,h1,Result.andThen_ok,Sem.run_pure]
      |some q=>obtain⟨rfl,rfl⟩:=h2 q rfl;simp only[Sem.run_bind,Result.andThen_ok,Sem.run_pure]
     ·simp only[Sem.run_bind,run_underlying hu,Result.andThen_ok,mc hb,Sem.run_pure,hc,hf];cases r' with
      |none=>obtain⟨rfl,h1⟩:=h1 rfl;simp only[Sem.run_bind,h1,Result.andThen_ok,Sem.run_pure]
      |some q=>obtain⟨rfl,rfl⟩:=h2 q rfl;simp only[Sem.run_bind,Result.andThen_ok,Sem.run_pure]
    cases hf:eY T kt k es 0 with
    |none=>rw[hf]at h;cases h
    | some q=>
     rw[hf]at h;obtain⟨r',h1,h2⟩:=lj (P:=P) (w:=w) hT hd hk hf he;cases q with
     |none=>
      simp only[Dw]at h;subst h;simp only[nI]at h1;subst h1;obtain⟨z,hz,hzr⟩:=wI (w:=w) (S:=S) (β:=β) hT hte;refine hgo _ none h2 ⟨z,false,fun _=>⟨rfl,hz⟩,(fun _ h=>by cases h),?_⟩;cases ok with
      |true=>simp only[Dx,Ep,VR];exact⟨[z,.bool false],rfl,by simp only[aG,VR];exact⟨_,_,rfl,hzr,_,_,rfl,rfl,rfl⟩⟩
      |false=>simpa using hzr
     |some q=>
      obtain⟨i,k',v⟩:=q;simp only[Dw]at h;subst h;obtain⟨u,x,rfl,_,g2,g3,g4,rfl⟩:=h1;refine hgo _ _ h2 ⟨x.val,true,(fun h=>by cases h),(fun q h=>by cases h;exact⟨rfl,rfl⟩),?_⟩;cases ok with
      |true=>simp only[Dx,Ep,VR];exact⟨[x.val,.bool true],rfl,by simp only[aG,VR];exact⟨_,_,rfl,g4,_,_,rfl,rfl,rfl⟩⟩
      |false=>simpa using g4
theorem Ae(hT:TOK P T){t kt et:Nat}(hmt:lN T t=some (kt,et)){es es':List AV}{k v:AV}(hck:ta T 20 kt k=true)(h:tR T kt es k v=some es'){vk vv:Value}(hk:VR S β k vk)(hv:VR S β v vv){ents:Array MapEntry}{clock b:Nat}(he:fj S β es ents.toList)(hst:kL ents.toList clock)(hb:w.heap[b]? = some (.map ents clock)):
  ∃ents' clock',(Instr.mapUpdate t (.map (some b)) vk vv).run P w= .ok () (ef w b (.map ents' clock'))/\fj S β es' ents'.toList/\kL ents'.toList clock'/\
   es.length<=es'.length/\(es'.length=es.length->clock'=clock/\ents'.toList.map (·.born)=ents.toList.map (·.born)):=by
 obtain⟨dd,hd⟩:=mX hT hck;have hu:=sB hT hmt;have hc:=gE (P:=P) (w:=w) hT 20 10000 (by decide) kt k vk false hck hk;unfold tR at h;cases hf:eY T kt k es 0 with
 |none=>rw[hf]at h;cases h
 | some q=>
  rw[hf]at h;obtain⟨r',h1,h2⟩:=lj (P:=P) (w:=w) hT hd hk hf he;cases q with
  | none=>
   simp only[Dw]at h;subst h;simp only[nI]at h1;subst h1;refine⟨ents.push { key:=vk,val:=vv,born:=clock },clock+1,?_,?_,?_,by simp,by simp⟩
   ·unfold Instr.mapUpdate;simp only[Sem.run_bind,run_underlying hu,Result.andThen_ok,mc hb,hc,h2,qq _ hb]
   ·refine⟨by simpa using he.1,fun i a x ha hx=>?_⟩;have hl:=he.1;simp only[Gl]at hx;rw[Fe]at ha hx;split at ha
    ·rename_i hlt;rw[DG (by omega)]at hx;exact he.2 i a x ha hx
    ·rename_i hlt;rw[if_neg (by omega)]at hx;rw[<- hl]at hx;cases hi:i-es.length with
     |zero=>
      rw[hi]at ha hx;simp at ha hx;subst ha hx;exact⟨k,v,rfl,hk,hv⟩
     |succ n=>rw[hi]at ha;simp at ha
   ·refine⟨fun x hx=>?_,?_⟩
    ·simp only[Gl,Ed,FL]at hx;rcases hx with hx|rfl
     ·exact Nat.lt_succ_of_lt (hst.1 x hx)
     ·exact Gt _
    ·simp only[Gl];rw[List.pairwise_append];refine⟨hst.2,by simp,fun x hx y hy=>?_⟩;simp only[FL]at hy;subst hy;exact Nat.ne_of_lt (hst.1 x hx)
  | some q=>
   obtain⟨i,k',v0⟩:=q;simp only at h;cases hs:sM k' k with
   |false=>rw[hs]at h;cases h
   | true=>
    rw[hs]at h;simp only[Dx,Dw]at h;subst h;obtain⟨u,x,rfl,_,g2,g3,g4,rfl⟩:=h1;rw[F8]at g2;obtain⟨hkk,_,hbits⟩:=wk hs g3 hk;have g2':ents[i]? = some x:=by simpa using g2
    have hmod:(ents.modify i fun e=>{ e with key:=vk,val:=vv }).toList=ents.toList.set i { x with key:=vk,val:=vv }:=by
     apply FP;intro j;rw[D1,FA,EK];by_cases hij:i=j
     ·subst hij;obtain⟨hlt,hgx⟩:=Ea.1 g2';simp[hgx,hlt]
     ·simp[hij]
    have hmap:(ents.toList.set i { x with key:=vk,val:=vv }).map (·.born)=ents.toList.map (·.born):=by
     rw[List.map_set];apply FP;intro j;rw[EK];by_cases hij:i=j
     ·subst hij;obtain⟨hlt,hgx⟩:=Ea.1 g2';simp[hlt,hgx]
     ·simp[hij]
    refine⟨ents.modify i fun e=>{ e with key:=vk,val:=vv },clock,?_,?_,?_,by simp,fun _=>?_⟩
    ·unfold Instr.mapUpdate;simp only[Sem.run_bind,run_underlying hu,Result.andThen_ok,mc hb,hc,h2];simp only[g2',EC,Option.getD_some,Instr.keyThatStays,hbits 9999,Ep,Sem.run_pure,Result.andThen_ok,qq _ hb]
    ·rw [hmod];refine⟨by simpa using he.1,fun j a y ha hy=>?_⟩;rw[EK]at ha hy;by_cases hij:i=j
     ·subst hij;simp only[Ep]at ha hy;split at ha
      ·split at hy
       ·simp only[Dw]at ha hy;subst ha hy;exact⟨k,v,rfl,hk,hv⟩
       ·cases hy
      ·cases ha
     ·simp only[hij,EH]at ha hy;exact he.2 j a y ha hy
    ·rw[hmod];have hxm:x∈ents.toList:=ET g2;refine⟨fun y hy=>?_,?_⟩
     ·have:y.born∈(ents.toList.set i { x with key:=vk,val:=vv }).map (·.born):=Fi hy;rw[hmap,Ey]at this;obtain⟨z,hz,hzb⟩:=this;rw[<- hzb];exact hst.1 z hz
     ·have h3:(ents.toList.map (·.born)).Pairwise (· ≠·):=FQ.2 hst.2;rw[<- hmap]at h3;exact FQ.1 h3
    ·exact⟨rfl,by rw[hmod,hmap]⟩
end
end Go.Av
namespace Go.Av
variable [Dr]
omit [Dr]in
theorem oi{a b:List MapEntry}(h:a.map (·.born)=b.map (·.born))(seen:Array Nat):kD a seen=kD b seen:=by
 have hl:a.length=b.length:=by simpa using Dz List.length h
 unfold kD;rw[hl];refine List.filter_congr fun i _=>?_
 have:=Dz (·[i]?) h
 simp only[ED]at this;cases ha:a[i]? <;> cases hb:b[i]? <;> rw[ha,hb]at this<;>simp at this<;>simp[this]
omit [Dr]in
theorem nK.keepM{S S':ap}{β β':List a8}{w w':World}{h h':Hp}{b:Nat}{cs:List AV}(H:nK S β w h b cs)(hS:S.le S')(hβ:dT β β')(hb:w'.heap[b]? = w.heap[b]?)
  (hm:∀(l b':Nat)(es:List AV),β[l]? = some (b',0)->h'[l]? = some [.tup es]->∃es0,h[l]? = some [.tup es0]/\es0.length<=es.length/\
   (es.length=es0.length->∀ents clock,w.heap[b']? = some (.map ents clock)->∃ents',w'.heap[b']? = some (.map ents' clock)/\ents'.toList.map (·.born)=ents.toList.map (·.born))):nK S' β' w' h' b cs:=by
 rcases H with⟨es,h1,ents,clock,h2,h3,h4⟩|⟨l,n,ps,b',since,seen,last,cur,h1,h2,h3,h4,hcu,h5⟩|⟨h1,since,seen,last,h2⟩
 ·exact .inl ⟨es,h1,ents,clock,hb.trans h2,h3.mono hS hβ,h4⟩
 ·refine .inr (.inl ⟨l,n,ps,b',since,seen,last,cur,h1,hβ _ _ h2,h3,hb.trans h4,hcu,fun es he=>?_⟩);obtain⟨es0,g1,g2,g3⟩:=hm l b' es h2 he;obtain⟨k1,k2⟩:=h5 es0 g1;refine⟨by omega,fun hn=>?_⟩;obtain⟨ents,clock,j1,j2,j3,j4,j5⟩:=k2 (by omega);obtain⟨ents',i1,i2⟩:=g3 (by omega) ents clock j1;refine⟨ents',clock,i1,fun x hx=>?_,by rw[j3,oi i2],j4,fun c hc=>?_⟩
  ·have:x.born∈ents'.toList.map (·.born):=Fi hx;rw[i2,Ey]at this;obtain⟨z,hz,hzb⟩:=this;rw[<- hzb];exact j2 z hz
  ·obtain⟨x,hx,hs⟩:=j5 c hc;have h1:(ents'.toList.map (·.born))[c]? = some x.born:=by rw[i2,ED,hx];rfl
   rw[ED]at h1;cases hy:ents'.toList[c]? with
   |none=>rw[hy]at h1;cases h1
   |some y=>
    rw[hy]at h1;simp only[EC,Dw]at h1;exact⟨y,rfl,by rw[hs,h1]⟩
 ·exact .inr (.inr ⟨h1,since,seen,last,hb.trans h2⟩)
omit [Dr]in
theorem dl.mapRow{S:ap}{β:List a8}{w:World}{ω:Nat->Owner}{h:Hp}(H:dl S β w ω h){l b:Nat}{es:List AV}(hl:h[l]? = some [.tup es])(hb:β[l]? = some (b,0)):
  ∃ents clock,w.heap[b]? = some (.map ents clock)/\fj S β es ents.toList/\kL ents.toList clock/\ω b= .heap l/\∀o,S b o=none:=by
 rcases H l _ hl (by simp)with⟨b',x,k1,k2,k3,k4,k5,_⟩|⟨b',k1,k2,k3,k4⟩
 ·rw[hb]at k1;simp only[Dw,Em]at k1;have h2:=k4.length;simp at h2;omega
 ·rw[hb]at k1;simp only[Dw,Em,Gu]at k1;subst k1;rcases k4 with⟨es',h1,ents,clock,h2,h3,h4⟩|⟨l',n,ps,b',since,seen,last,cur,h1,_⟩|⟨h1,_⟩
  ·simp only[FJ,AV.tup.injEq,Gu]at h1;subst h1;exact⟨ents,clock,h2,h3,h4,k2,k3⟩
  ·simp at h1
  ·simp at h1
section
variable {P:Program} {cx:Cx} {c:Entry} {N:Nat} {U:Nat->Prop} {e:Env} {h:Hp} {a:Act} {w:World} {S:ap} {β:List a8} {γ:Nat->Value} {lam:Nat->Option Nat} {ω:Nat->Owner} {o:Oper} {gid:Nat}
theorem Gro.allocO(w:World)(o:Obj):Gro w (w.alloc o):=⟨by simp,rfl,rfl,rfl,fun _=>by simp⟩
theorem FR.allocO(H:FR c N U e h a w S β γ lam ω)(o:Obj):FR c N U e h a (w.alloc o) S β γ lam ω:=
 H.world (fun b o' v hv=>by rw[cell_of_heap (alloc_old w _ (H.wf.lt hv))];exact H.wf b o' v hv) (Gro.allocO w o) (fun b hb=>⟨alloc_old w _ hb,fun _=>rfl⟩) (ap.le_refl S)
theorem FR.newM(H:FR c N U e h a w S β γ lam ω):
  ∃ω',FR c N U e (h++[[.tup []]]) a (w.alloc (.map #[] 0)) S (β++[(w.heap.size,0)]) γ lam ω'/\(β++[(w.heap.size,0)])[h.length]? = some (w.heap.size,0):=by
 have H2:=H.allocO (.map #[] 0);have hext:dT β (β++[(w.heap.size,0)]):=fun l b hb=>by
  have:l<β.length:=by
   rcases DU l β.length with h|h
   ·exact h
   ·rw[DI h]at hb;simp at hb
  rw[DN this];exact hb
 have hnew:(β++[(w.heap.size,0)])[h.length]? = some (w.heap.size,0):=by rw[<- H.hlen];simp
 have hωn:ω w.heap.size= .no:=by
  cases ho:ω w.heap.size with
  |no=>rfl
  |_=>have:=(H.mine w.heap.size (by rw[ho];simp)).2;omega
 have hω:∀b,ω b≠.no->ci ω w.heap.size (.heap h.length) b=ω b:=fun b hb=>by
  unfold ci;rw[if_neg];rintro rfl;exact hb hωn
 refine⟨ci ω w.heap.size (.heap h.length),⟨H2.wf,H2.gro,H2.keep,H2.le,dT.trans H2.ext hext,by simp[H.hlen],?_,H2.tsz,?_,H2.grps,?_,?_,?_,H2.used⟩,hnew⟩
 ·intro l cs' hl hne;rcases DU l h.length with hlt|hge
  ·rw[DN hlt]at hl;rcases H2.heap l cs' hl hne with⟨b,x,k1,k2,k3,k4,k5⟩|⟨b,k1,k2,k3,k4⟩
   ·exact .inl ⟨b,x,hext _ _ k1,k2,by rw[hω b (by rw[k3];simp)];exact k3,k4.mono (ap.le_refl S) hext,k5⟩
   ·refine .inr ⟨b,hext _ _ k1,by rw[hω b (by rw[k2];simp)];exact k2,k3,k4.keepM (ap.le_refl S) hext rfl fun j b' es hj he=>?_⟩;have hjl:j<h.length:=by
     rw[<- H.hlen];exact (El.1 hj).1
    rw[DN hjl]at he;exact⟨es,he,DD _,fun _ ents clock hh=>⟨ents,hh,rfl⟩⟩
  ·rw[DY hge]at hl;have hlz:l=h.length:=by
    rcases Eh (l-h.length)with h0|h0
    ·omega
    ·rw[DI (by simp;omega)]at hl;simp at hl
   subst hlz;simp only[F5,D9,Dw]at hl;subst hl;exact .inr ⟨w.heap.size,hnew,by simp[ci],fun o=>H.wf.none (DD _) o,.inl ⟨[],rfl,#[],0,heap_alloc_new w _,⟨rfl,fun i e x he=>by simp at he⟩,fun x hx=>by simp at hx,by simp⟩⟩
 ·intro t' ht'
  have:=H2.slots t' ht'
  cases hv:(e.get t').v with
  |val av=>rw[hv]at this;exact VR.mono (ap.le_refl S) hext _ _ this
  |loc B off=>rw[hv]at this;exact this
 ·intro B n hB;obtain⟨h1,h2,h3,b,y,h4,h5,h6,h7,h8⟩:=H2.lblk B n hB;refine⟨h1,h2,h3,b,y,h4,h5,by rw[hω b (by rw[h6];simp)];exact h6,h7,fun i hi=>?_⟩;obtain⟨v,a',g1,g2,g3,g4⟩:=h8 i hi;exact⟨v,a',g1,g2,VR.mono (ap.le_refl S) hext _ _ g3,g4⟩
 ·intro g z hg;obtain⟨a',len,cap,g1,g2,g3,g4⟩:=H2.free g z hg;refine⟨a',len,cap,g1,g2,g3,g4.imp id ?_⟩;rintro⟨sz,k,off,y,k1,k2,k3,k4,k5,k6⟩;exact⟨sz,k,off,y,k1,k2,k3,k4,by rw[hω k (by rw[k5];simp)];exact k5,k6⟩
 ·intro b hb;unfold ci at hb;split at hb
  ·rename_i hbb;subst hbb;exact⟨.inr H.size,by simp⟩
  ·rename_i hbb;exact⟨(H2.mine b hb).1.of_eq (by unfold ci;rw[if_neg hbb]),(H2.mine b hb).2⟩
omit [Dr]in
theorem iB(w:World)(b:Nat)(o:Obj){k:Nat}(h:k≠b):(ef w b o).heap[k]? = w.heap[k]?:=by
 simp[ef,GH h]
omit [Dr]in
theorem md{w:World}{b:Nat}(o:Obj)(h:b<w.heap.size):(ef w b o).heap[b]? = some o:=by
 simp[ef,h]
theorem FR.turnM(H:FR c N U e h a w S β γ lam ω){l b clock clock':Nat}{es es':List AV}{ents ents':Array MapEntry}(hl:h[l]? = some [.tup es])(hb:β[l]? = some (b,0))(hw:w.heap[b]? = some (.map ents clock))(he:fj S β es' ents'.toList)(hst:kL ents'.toList clock')(hle:es.length<=es'.length)(hborn:es'.length=es.length->clock'=clock/\ents'.toList.map (·.born)=ents.toList.map (·.born)):
  FR c N U e (h.set l [.tup es']) a (ef w b (.map ents' clock')) S β γ lam ω:=by
 obtain⟨ents0,clock0,h1,_,_,h3,h5⟩:=H.heap.mapRow hl hb;rw[hw]at h1;simp only[Dw,Obj.map.injEq]at h1;obtain⟨rfl,rfl⟩:=h1;have hbw:b<w.heap.size:=(Ea.1 hw).1;have hlt:l<h.length:=by
  rcases DU l h.length with h'|h'
  ·exact h'
  ·rw[DI h']at hl;simp at hl
 have hωb:∀k,ω k≠.heap l->k≠b:=fun k hk=>by rintro rfl;exact hk h3
 have hother:∀k,ω k≠.heap l->(ef w b (.map ents' clock')).heap[k]? = w.heap[k]?:=fun k hk=>iB w b _ (hωb k hk);have hg:Gro w (ef w b (.map ents' clock')):=⟨by simp[ef],rfl,rfl,rfl,fun _=>DD _⟩;refine⟨fun k o v hv=>?_,H.gro.trans hg,fun k hk hE=>?_,H.le,H.ext,by simp[H.hlen],?_,H.tsz,H.slots,H.grps,?_,?_,fun k hk=>⟨(H.mine k hk).1,by simpa [ef]using(H.mine k hk).2⟩,H.used⟩
 ·have hkb:k≠b:=by rintro rfl;rw[h5]at hv;cases hv
  rw[cell_of_heap (iB w b _ hkb)];exact H.wf k o v hv
 ·have hkb:k≠b:=by
   rintro rfl
   have:=(H.mine k (by rw[h3];simp)).1.low
   rcases this with h|h
   ·exact hE h
   ·omega
  have:=H.keep k hk hE
  exact⟨by rw[iB w b _ hkb];exact this.1,this.2⟩
 ·intro j ds hj hd;rw[EK]at hj;split at hj
  ·rename_i hlj;subst hlj;simp only[Dw]at hj;subst hj;exact .inr ⟨b,hb,h3,h5,.inl ⟨es',rfl,ents',clock',md _ hbw,he,hst⟩⟩
  ·rename_i hlj;rcases H.heap j ds hj hd with⟨k,x,k1,k2,k3,k4,k5⟩|⟨k,k1,k2,k3,k4⟩
   ·have hk:=hother k (by rw[k3];simp only[F0,Owner.heap.injEq];exact fun h=>hlj h.symm);exact .inl ⟨k,x,k1,k2.of_eq hk,k3,k4,k5.1,fun t ht=>by obtain⟨z,hz⟩:=k5.2 t ht;exact⟨z,hk.trans hz⟩⟩
   ·have hk:=hother k (by rw[k2];simp only[F0,Owner.heap.injEq];exact fun h=>hlj h.symm);refine .inr ⟨k,k1,k2,k3,k4.keepM (ap.le_refl S) (dT.refl β) hk fun i b' es2 hi he2=>?_⟩;rw[EK]at he2;split at he2
    ·rename_i hli;subst hli;simp only[Dw,FJ,AV.tup.injEq,Gu]at he2;subst he2;rw[hb]at hi;simp only[Dw,Em,Gu]at hi;subst hi;refine⟨es,hl,hle,fun hh ents2 clock2 h2=>?_⟩;rw[hw]at h2;simp only[Dw,Obj.map.injEq]at h2;obtain⟨rfl,rfl⟩:=h2;exact⟨ents',by rw[md _ hbw,(hborn hh).1],(hborn hh).2⟩
    ·rename_i hli;refine⟨es2,he2,DD _,fun _ ents2 clock2 h2=>⟨ents2,?_,rfl⟩⟩;obtain⟨_,_,_,_,_,g,_⟩:=H.heap.mapRow he2 hi;rw[hother b' (by rw[g];simp only[F0,Owner.heap.injEq];exact fun h=>hli h.symm)];exact h2
 ·intro B n hB;obtain⟨k1,k2,k3,k,z,k4,k5,k6,k7,k8⟩:=H.lblk B n hB;exact⟨k1,k2,k3,k,z,k4,k5.of_eq (hother k (by rw[k6];simp)),k6,k7,k8⟩
 ·intro g z hg;obtain⟨a',len,cap,g1,g2,g3,g4⟩:=H.free g z hg;refine⟨a',len,cap,g1,g2,g3,g4.imp id ?_⟩;rintro⟨sz,k,off,z',k1,k2,k3,k4,k5,k6⟩;exact⟨sz,k,off,z',k1,k2,k3.of_eq (hother k (by rw[k5];simp)),k4,k5,k6⟩
theorem rD(H:FR c N U e h a w S β γ lam ω)(hd:∀t,o.dst=some t->t<N){t:TypeId}(ho:o.op= .makeMap t none):After P c N (UG U gid) (aF e o.dst (.dyn eM .ofV) h) o a w:=by
 obtain⟨ω',F,hnew⟩:=H.newM;have hrun:(execOp a.eval o).run P w= .ok (.value (.map (some w.heap.size))) (w.alloc (.map #[] 0)):=by
  simp[execOp,ho,Instr.makeMap]
 refine After.val hrun (Df ⟨_,_,γ,lam,ω',F.setV hd ?_⟩);simp only[VR];exact⟨_,hnew,rfl,rfl⟩
theorem tJ(hT:TOK P cx.T)(H:FR c N U e h a w S β γ lam ω)(hd:∀t,o.dst=some t->t<N){t:TypeId}{x i:Operand}{ok:Bool}(ho:o.op= .lookup t x i ok)(hx:∀t,x= .tmp t->t<1000)(hi:∀t,i= .tmp t->t<1000)(hr:aF e o.dst (.dyn (fJ cx.T t (opnd e x) (opnd e i) ok) .ofV) h≠.fail):After P c N (UG U gid) (aF e o.dst (.dyn (fJ cx.T t (opnd e x) (opnd e i) ok) .ofV) h) o a w:=by
 have hvx:=aJ H x hx;have hvi:=aJ H i hi;simp only[aF,af,M.pure]at hr |-;unfold fJ at hr |-;cases hes:iL h (opnd e x)with
 |none=>rw[hes]at hr;exact absurd rfl hr
 | some es=>
  rw[hes]at hr;simp only at hr |-;cases hl:lJ cx.T t es (opnd e i) ok with
  |none=>rw[hl]at hr;exact absurd rfl hr
  | some r=>
   have key:mn P w S β (Instr.lookup t (a.eval x) (a.eval i) ok) r:=by
    unfold iL at hes;split at hes
    ·rename_i l hq;split at hes
     ·rename_i es' hh;simp only[Dw]at hes;subst hes;rw[hq]at hvx;simp only[VR]at hvx;obtain⟨⟨b,n⟩,hb,h0,hv⟩:=hvx;simp only at h0;subst h0;obtain⟨ents,clock,g1,g2,_⟩:=H.heap.mapRow hh hb;exact look_ok hT hl hvi g2 (.inr ⟨b,clock,hv,g1⟩)
     ·cases hes
    ·rename_i hq;simp only[Dw]at hes;subst hes;rw[hq]at hvx;simp only[VR]at hvx;exact look_ok hT hl hvi (ents:=#[]) ⟨rfl,fun i e x he=>by simp at he⟩ (.inl ⟨hvx,rfl⟩)
    ·cases hes
   obtain⟨v,h1,h2⟩:=key;exact After.val (v:=v) (w':=w) (by simp only[execOp,ho,Sem.run_bind,h1,Result.andThen_ok,Sem.run_pure]) (Df ⟨S,β,γ,lam,ω,H.setV hd h2⟩)
theorem we(hT:TOK P cx.T)(H:FR c N U e h a w S β γ lam ω){t:TypeId}{m k x:Operand}(ho:o.op= .mapUpdate t m k x\/o.op= .insert t m k x)(hm:∀t,m= .tmp t->t<1000)(hk:∀t,k= .tmp t->t<1000)(hx:∀t,x= .tmp t->t<1000)(hr:aF e o.dst (gQ cx e o.dst t m k x) h≠.fail):After P c N (UG U gid) (aF e o.dst (gQ cx e o.dst t m k x) h) o a w:=by
 have hvm:=aJ H m hm;have hvk:=aJ H k hk;have hvx:=aJ H x hx;unfold gQ at hr |-;cases hdst:o.dst with
 |some d=>rw[hdst]at hr;exact absurd rfl hr
 | none =>
  rw[hdst]at hr;simp only[aF,af,M.pure]at hr |-;unfold mG at hr |-;cases hmt:lN cx.T t with
  |none=>rw[hmt]at hr;exact absurd rfl hr
  | some q=>
   obtain⟨kt,et⟩:=q;rw[hmt]at hr;simp only at hr |-;cases hck:ta cx.T 20 kt (opnd e k)with
   |false=>rw[hck]at hr;exact absurd rfl hr
   | true=>
    rw[hck]at hr;simp only[Dx]at hr |-;cases hq:opnd e m with
    | mp l=>
     rw[hq]at hr hvm;simp only at hr |-;cases hh:h[l]? with
     |none=>rw[hh]at hr;exact absurd rfl hr
     | some cs=>
      rw[hh]at hr
      match cs,hh,hr with
      | [.tup es],hh,hr=>
       simp only at hr |-;cases hp:tR cx.T kt es (opnd e k) (opnd e x)with
       |none=>rw[hp]at hr;exact absurd rfl hr
       |some es'=>
        simp only[VR]at hvm;obtain⟨⟨b,n⟩,hb,h0,hv⟩:=hvm;simp only at h0;subst h0;obtain⟨ents,clock,g1,g2,g3,_⟩:=H.heap.mapRow hh hb;obtain⟨ents',clock',k1,k2,k3,k4,k5⟩:=Ae hT hmt hck hp hvk hvx g2 g3 g1;refine After.skip (w':=ef w b (.map ents' clock')) hdst ?_ ?_
        ·rcases ho with ho|ho<;>simp only[execOp,ho,hv,Sem.run_bind,k1,Result.andThen_ok,Sem.run_pure]
        ·exact Df ⟨_,_,_,_,_,H.turnM hh hb g1 k2 k3 k4 k5⟩
    |_=>rw[hq]at hr;exact absurd rfl hr
end
end Go.Av
namespace Go.Av
variable [Dr]
section
variable {c:Entry} {N:Nat} {U:Nat->Prop} {e:Env} {h:Hp} {a:Act} {w:World} {S:ap} {β:List a8} {γ:Nat->Value} {lam:Nat->Option Nat} {ω:Nat->Owner} {P:Program} {cx:Cx} {gid:Nat} {o:Oper}
theorem wg(hT:TOK P cx.T)(H:FR c N U e h a w S β γ lam ω)(hd:∀t,o.dst=some t->t<N){t:TypeId}{x:Operand}(ho:o.op= .range t x)(hx:∀t,x= .tmp t->t<1000)(hr:aF e o.dst (.dyn (oD cx.T t (opnd e x)) .ofV) h≠.fail):After P c N (UG U gid) (aF e o.dst (.dyn (oD cx.T t (opnd e x)) .ofV) h) o a w:=absurd rfl hr
theorem uY(H:FR c N U e h a w S β γ lam ω)(hd:∀t,o.dst=some t->t<N){x:Operand}(ho:o.op= .entry x)(hx:∀t,x= .tmp t->t<1000)(hr:aF e o.dst (.dyn (lg (opnd e x)) .ofV) h≠.fail):After P c N (UG U gid) (aF e o.dst (.dyn (lg (opnd e x)) .ofV) h) o a w:=absurd rfl hr
end
end Go.Av
namespace Go.Av
variable [Dr]
section
variable {P:Program} {cx:Cx} {c:Entry} {N:Nat} {U:Nat->Prop} {e:Env} {h:Hp} {a:Act} {w:World} {S:ap} {β:List a8} {γ:Nat->Value} {lam:Nat->Option Nat} {ω:Nat->Owner} {o:Oper} {gid:Nat}
open Classical in
theorem zC(hT:TOK P cx.T)(H:FR c N U e h a w S β γ lam ω)(hd:∀t,o.dst=some t->t<N)(hU:∀g,gid<=g->g<gid+1000->¬U g){t:Nat}{x:Operand}{lo hi mx:Option Operand}(ho:o.op= .slice t x lo hi mx)(hx:∀t,x= .tmp t->t<1000)(hlo:∀y,lo=some y->∀t,y= .tmp t->t<1000)(hr:aF e o.dst (i8 cx e gid t x lo hi mx) h≠.fail):After P c N (UG U gid) (aF e o.dst (i8 cx e gid t x lo hi mx) h) o a w:=by
 unfold i8 at hr |-;cases x with
 | tmp s =>
  have hs:=hx s rfl;simp only at hr |-;cases hg:(e.get s).g with
  |none=>rw[hg]at hr;exact absurd rfl hr
  | some g =>
   rw[hg]at hr;simp only at hr |-;cases hal:aA e.al g with
   |none=>rw[hal]at hr;exact absurd rfl hr
   | some z0 =>
    rw[hal]at hr;cases z0 with
    |none=>exact absurd rfl hr
    | some z =>
     simp only at hr |-;cases hck:q9 cx.T t z&&hi.isNone&&mx.isNone with
     |false=>rw[hck]at hr;exact absurd rfl hr
     | true =>
      rw[hck]at hr;simp only[Dx]at hr |-;simp only[Dy,Option.isNone_iff_eq_none]at hck;obtain⟨⟨hz,rfl⟩,rfl⟩:=hck;have hvx:=aJ H (.tmp s) (fun t ht=>by cases ht;exact hs);cases hc:zA cx.T t (opnd e (.tmp s)) (lo.map (opnd e))with
      |none=>rw[hc]at hr;exact absurd rfl hr
      | some r=>
       unfold zA at hc;split at hc
       ·rename_i es hq;rw[hq]at hvx;have hvx0:=hvx;simp only[VR]at hvx;obtain⟨ad,cap,hv,hle,hnn,hqq⟩:=hvx;rw[hv]at hvx0;obtain⟨l,ei,ti,el,ht,hk,hei,hl,hrun,hvr⟩:=zB (P:=P) (w:=w) hT hc hvx0 (f8 H lo hlo);have hzz:z=ei.size:=by
         unfold q9 bP at hz;rw[ht]at hz;simp only[hk,hei,EC]at hz;exact DC hz
        subst hzz;have hrun':(execOp a.eval o).run P w= .ok (.value (.slice (if cap=l then ad else ad.map (·.add (l*ei.size))) (es.length-l) (cap-l))) w:=by
         simp only[execOp,ho,Option.map_none,Sem.run_bind];rw[hv,hrun];simp only[Result.andThen_ok,Sem.run_pure]
        have hval:a.tmps.getD s undef=γ g:=H.grps s g (some ei.size) hs hg hal;have hfree:=H.free g (some ei.size) hal;have hav:a.eval (.tmp s)=a.tmps.getD s undef:=rfl;rw[<- hval,<- hav,hv]at hfree;obtain⟨a',len,cap',he,f1,f2,f3⟩:=hfree;simp only[Value.slice.injEq]at he;obtain⟨rfl,rfl,rfl⟩:=he;let ω':Nat->Owner:=fun k=>if ω k= .grp g then .grp gid else ω k
        have F:=H.regrp (r:=r) (v:=.slice (if cap=l then ad else ad.map (·.add (l*ei.size))) (es.length-l) (cap-l)) (gid:=gid) (z:=some ei.size) (g0:=some g) (w':=w) (S':=S) (ω':=ω') hd hU H.wf (Gro.refl w) (ap.le_refl S)
         (fun k _ _=>⟨rfl,fun _=>rfl⟩) (fun k _ hk=>if_neg (hk g rfl)) (fun b hb=>by
          by_cases hbg:ω b= .grp g
          ·have:=H.mine b (by rw[hbg];simp)
           exact⟨.inr (this.1.grp hbg),this.2⟩
          ·have hb':ω b≠.no:=by
            have e1:ω' b=ω b:=if_neg hbg;rw[<- e1];exact hb
           have:=H.mine b hb'
           exact⟨this.1.of_eq (if_neg hbg),this.2⟩) hvr (by
          refine⟨_,_,_,rfl,by omega,fun hn=>?_,?_⟩
          ·split at hn
           ·omega
           ·simp only[Option.map_eq_none_iff]at hn
            have:=f2 hn
            omega
          ·rcases f3 with f3|⟨sz,b,off,x,g1,g2,g3,g4,g5,g6⟩
           ·left;omega
           ·by_cases hcl:cap=l
            ·left;omega
            ·right;simp only[Dw]at g1;subst g1 g2;refine⟨ei.size,b,off+l*ei.size,x,rfl,by rw[if_neg hcl,EC,addr_add],g3,?_,by show (if ω b= .grp g then Owner.grp gid else ω b)=_;rw[DG g5],fun o ho=>g6 o ?_⟩
             ·rw[Ge];have:l*ei.size<=cap*ei.size:=DO _ (by omega);omega
             ·rw[Ge]at ho;have:l*ei.size<=es.length*ei.size:=DO _ hl;omega)
        simp only[aF,af,ah,M.pure];exact After.val hrun' ⟨_,_,_,_,ω',F⟩
       ·cases hc
 |_=>exact absurd rfl hr
end
end Go.Av
namespace Go.Av
variable [Dr]
section
variable {P:Program} {cx:Cx} {c:Entry} {N:Nat} {U:Nat->Prop} {e:Env} {h:Hp} {a:Act} {w:World} {S:ap} {β:List a8} {γ:Nat->Value} {lam:Nat->Option Nat} {ω:Nat->Owner} {o:Oper} {gid:Nat}
omit [Dr]in
theorem lC{x:Operand}(h:aM x=true):x= .const (.slice none 0 0):=by
 unfold aM at h;split at h
 ·rfl
 ·simp at h
theorem vu{m:M AV}(hd:∀t,o.dst=some t->t<N)(hl:aF e o.dst (.dyn m .ofV) h≠.fail->After P c N (UG U gid) (aF e o.dst (.dyn m .ofV) h) o a w)(hr:aF e o.dst (.dyn (af m sn) .ofV) h≠.fail):After P c N (UG U gid) (aF e o.dst (.dyn (af m sn) .ofV) h) o a w:=by
 intro next Q hn hp
 simp only[aF,af,sn,M.pure]at hr hn hp hl;cases hm:m h with
 |fail=>rw[hm]at hr;exact absurd rfl hr
 |pan pv h1=>
  rw[hm]at hp hl;exact hl (by simp) next Q (fun e' h' a' w' h1=>by cases h1) hp
 |ok v h1=>
  rw[hm]at hn hl;refine hl (by simp) next Q (fun e' h' a' w' k1 k2 k3=>?_) (fun pv h' v w' k1=>by cases k1)
  cases k1;exact hn _ _ a' w' rfl (iv (gid:=gid) hd (Shape.ofV ..) k2) k3
omit [Dr]in
theorem lT{x:Operand}(h:VR S β (opnd e x) (a.eval x)):VR S β (jb e x) (a.eval x):=by
 unfold jb;cases hn:aM x with
 |false=>exact h
 |true=>
  unfold aM at hn;split at hn
  ·simp[Act.eval,VR]
  ·cases hn
omit [Dr]in
theorem CX{f g:Operand->AV}{v:Operand->Value}{l:List Operand}(_:aG S β (l.map f) (l.map v))(h:∀x∈l,VR S β (g x) (v x)):aG S β (l.map g) (l.map v):=by
 induction l with
 |nil=>simp[aG]
 |cons x l ih=>
  rename_i hh;simp only[D8,aG]at hh |-;obtain⟨y,ys,hy,_,h2⟩:=hh;cases hy;exact⟨_,_,rfl,h x (by simp),ih h2 fun y hy=>h y (by simp[hy])⟩
theorem wY(hT:TOK P cx.T)(hC:bI P cx.own cx.call)(H:FR c N U e h a w S β γ lam ω)(hd:∀t,o.dst=some t->t<N)(hU:∀g,gid<=g->g<gid+1000->¬U g){cc:Call}(ho:o.op= .call cc)(ht:∀x∈o.op.operands.toList,∀t,x= .tmp t->t<1000)(hr:aF e o.dst (dO cx e gid o cc) h≠.fail):After P c N (UG U gid) (aF e o.dst (dO cx e gid o cc) h) o a w:=by
 have hargs:∀x∈cc.args.toList,∀t,x= .tmp t->t<1000:=fun x hx t hxt=>ht x (by rw[ho];simp[Op.operands,Call.operands];exact .inr (by simpa using hx)) t hxt;have hvs:=jc H cc.args.toList hargs;have hmap:cc.args.map a.eval=(cc.args.toList.map a.eval).toArray:=by apply E8;simp
 unfold dO at hr |-;cases hcal:cc.callee with
 |invoke r m=>rw[hcal]at hr;exact absurd rfl hr
 | value f=>
  rw[hcal]at hr;have hfv:∀t,f= .tmp t->t<1000:=fun t hft=>ht f (by rw[ho];simp[Op.operands,Call.operands,hcal]) t hft;have hclos:∀(hr:aF e o.dst (.dyn (dU cx.call (opnd e f) (cc.args.toList.map (opnd e))) .ofV) h≠.fail),After P c N (UG U gid) (aF e o.dst (.dyn (dU cx.call (opnd e f) (cc.args.toList.map (opnd e))) .ofV) h) o a w:=by
   intro hr;have hf:=aJ H f hfv;simp only[aF]at hr |-;generalize hq:opnd e f=q at hr hf |-;unfold dU at hr |-;split at hr
   ·rename_i g fi cap;simp only[VR]at hf;obtain⟨xs,ys,hav,hx,hy⟩:=hf;refine iq hC H hd hU ((hx.append hvs).append hy) (fun hfn=>?_) (.inl fun v=>rfl) hr;have hargs':(xs++cc.args.toList.map a.eval++ys).toArray=xs.toArray++cc.args.map a.eval++ys.toArray:=by rw[hmap];simp
    simp only[execOp,ho,resolve,hcal,hav,Deferred.ofValue,Sem.run_bind,Sem.run_pure,Result.andThen_ok,invoke];rw[hargs'];exact fT (w:=w) hfn
   ·exact absurd rfl hr
  cases f with
  | func f=>
   simp only at hr |-;have hrunc:∀hfn,(execOp a.eval o).run P w= .ok (.enter f (cc.args.toList.map a.eval).toArray) w:=fun hfn=>by
    simp only[execOp,ho,resolve,hcal,Act.eval,Deferred.ofValue,Sem.run_bind,Sem.run_pure,Result.andThen_ok,invoke];rw[hmap];simpa using fT (w:=w) (args:=(cc.args.toList.map a.eval).toArray) hfn
   cases hfz:bh cx.ann.fz o.dst with
   | true=>
    rw[hfz]at hr;simp only[Dx]at hr |-;cases hq:!(cx.iso f)&&!(cx.nw f)&&(cx.own f).isNone with
    |false=>rw[hq]at hr;exact absurd rfl hr
    |true=>
     rw[hq]at hr;simp only[Dx]at hr |-;exact vu (m:=cx.call f (cc.args.toList.map (opnd e))) hd (fun hr=>iq hC H hd hU hvs hrunc (.inl fun v=>rfl) hr) hr
   |false=>
   rw[hfz]at hr;simp only[DF]at hr |-;have hvt:aG S β (cc.args.toList.map (ki (bh cx.ann.hb o.dst) e)) (cc.args.toList.map a.eval):=by
    refine CX hvs fun x hx=>?_;unfold ki;cases bh cx.ann.hb o.dst with
    |false=>exact aJ H x (hargs x hx)
    |true=>exact lT (aJ H x (hargs x hx))
   refine iq hC H hd hU hvt (fun hfn=>?_) ?_ hr
   rotate_left
   ·cases hof:cx.own f with
    |none=>exact .inl fun v=>rfl
    |some sz=>exact .inr ⟨sz,rfl,fun v=>rfl⟩
   simp only[execOp,ho,resolve,hcal,Act.eval,Deferred.ofValue,Sem.run_bind,Sem.run_pure,Result.andThen_ok,invoke];rw[hmap];simpa using fT (w:=w) (args:=(cc.args.toList.map a.eval).toArray) hfn
  |tmp t=>exact hclos hr
  |const v=>exact hclos hr
  |global g=>exact hclos hr
 | builtin b=>
  rw[hcal]at hr;cases b<;>simp only at hr |- <;> (try exact absurd rfl hr)
  case append=>
   split at hr
   ·rename_i t u x y hts hxs;cases hu:eH cx.T u with
    |false=>rw[hu]at hr;exact absurd rfl hr
    | true =>
     rw[hu]at hr;simp only[E4,DF]at hr |-;have hx:∀t,x= .tmp t->t<1000:=hargs x (by rw[hxs];simp);have hy:∀t,y= .tmp t->t<1000:=hargs y (by rw[hxs];simp);cases hha:bh cx.ann.ha o.dst with
     | true=>
      rw[hha]at hr;simp only[Dx]at hr |-;cases hhb:bh cx.ann.hb o.dst with
      |true=>
       rw[hhb]at hr;exact wU hT H hd ho hcal hts hxs hx hy hu hr
      |false=>
       rw[hhb]at hr;exact wV hT H hd ho hcal hts hxs hx hy hu hr
     | false=>
      rw[hha]at hr;simp only[DF]at hr |-;cases hnc:aM x with
      | true=>
       rw[hnc]at hr;simp only[Dx]at hr |-;have hxc:=lC hnc;subst hxc;have key:∀Y r,eE cx.T t (.sl []) Y=some r->oU P S β w (a.eval y) Y->After P c N (UG U gid) (.ok (e.upd o.dst (Upd.own r gid (bP cx.T t))) h) o a w:=fun Y r happ hsrc=>
        mO hT H hd hU ho hcal hts hxs hu (as:=[]) (g0:=none) rfl (by simp only[VR];exact⟨none,0,rfl,DD _,fun _=>rfl,fun q hq=>by cases hq⟩) (.inl ⟨rfl,rfl⟩) happ hsrc
       cases hhl:bh cx.ann.hl o.dst with
       | true=>
        rw[hhl]at hr;simp only[Dx,aF,Av.af,oZ]at hr |-;cases hsa:mI h (opnd e y)with
        |none=>rw[hsa]at hr;exact absurd rfl hr
        |some es=>
         rw[hsa]at hr;simp only at hr |-;cases happ:eE cx.T t (.sl []) (.sl es)with
         |none=>rw[happ]at hr;exact absurd rfl hr
         |some r=>exact key _ r happ (mf H (aJ H y hy) hsa)
       |false=>
        rw[hhl]at hr;simp only[DF]at hr |-;cases happ:eE cx.T t (.sl []) (opnd e y)with
        |none=>rw[happ]at hr;exact absurd rfl hr
        |some r=>exact key _ r happ (ji H.wf (aJ H y hy))
      | false=>
       rw[hnc]at hr;simp only[DF]at hr |-;cases x<;>simp only at hr |- <;> (try exact absurd rfl hr);rename_i s;cases hg:(e.get s).g with
       |none=>rw[hg]at hr;exact absurd rfl hr
       | some g=>
        rw[hg]at hr;simp only at hr |-;cases hal:aA e.al g with
        |none=>rw[hal]at hr;exact absurd rfl hr
        | some z=>
         rw[hal]at hr;simp only at hr |-;cases hz:oM z (bP cx.T t)with
         |false=>rw[hz]at hr;exact absurd rfl hr
         | true=>
          rw[hz]at hr;simp only[Dx]at hr |-;have key:∀Y r,eE cx.T t (opnd e (.tmp s)) Y=some r->oU P S β w (a.eval y) Y->After P c N (UG U gid) (.ok (e.upd o.dst { Upd.own r gid (bP cx.T t)with drop:=some g }) h) o a w:=fun Y r happ hsrc=>by
           obtain⟨as,has⟩:=wT happ;have hvx:=aJ H (.tmp s) hx;rw[has]at hvx happ;have hγ:=H.grps s g z (hx s rfl) hg hal;exact mO hT H hd hU ho hcal hts hxs hu (as:=as) (g0:=some g) rfl hvx (.inr ⟨g,z,rfl,by
            have:a.eval (.tmp s)=γ g:=hγ;rw[this];exact H.free g z hal,hz⟩) happ hsrc
          cases hhl:bh cx.ann.hl o.dst with
          | true=>
           rw[hhl]at hr;simp only[Dx,aF,Av.af,oZ]at hr |-;cases hsa:mI h (opnd e y)with
           |none=>rw[hsa]at hr;exact absurd rfl hr
           |some es=>
            rw[hsa]at hr;simp only at hr |-;cases happ:eE cx.T t (opnd e (.tmp s)) (.sl es)with
            |none=>rw[happ]at hr;exact absurd rfl hr
            |some r=>exact key _ r happ (mf H (aJ H y hy) hsa)
          |false=>
           rw[hhl]at hr;simp only[DF]at hr |-;cases happ:eE cx.T t (opnd e (.tmp s)) (opnd e y)with
           |none=>rw[happ]at hr;exact absurd rfl hr
           |some r=>exact key _ r happ (ji H.wf (aJ H y hy))
   ·exact absurd rfl hr
  case clear=>
   split at hr
   ·rename_i t ts x xs hts hxs;exact uR hT H hd ho hcal hts hxs (hargs x (by rw[hxs];simp)) hr
   ·exact absurd rfl hr
  case len=>
   split at hr
   ·rename_i t ts x xs hts hxs;refine cW H hd (m:=Builtin.len_ cc.argTypes o.type (cc.args.map a.eval)) ?_ (fun r hr'=>?_) hr
    ·simp only[execOp,ho,resolve,hcal,invoke,builtin,pure_bind]
    ·have h1:cc.argTypes=(t:: ts).toArray:=by apply E8;simpa using hts
     have h2:cc.args.map a.eval=(a.eval x:: xs.map a.eval).toArray:=by rw[hmap,hxs];simp
     rw[h1,h2];exact zO hT ts (xs.map a.eval) hr' (aJ H x (hargs x (by rw[hxs];simp)))
   ·exact absurd rfl hr
  case min=>
   refine cW H hd (m:=Builtin.min_ cc.argTypes o.type (cc.args.map a.eval)) ?_ (fun r hr'=>?_) hr
   ·simp only[execOp,ho,resolve,hcal,invoke,builtin,pure_bind]
   ·obtain⟨v,rest,he,hp⟩:=ou (P:=P) (w:=w) _ _ (DD _) r _ hr' hvs;obtain⟨u,hu,hur⟩:=hp;exact⟨u,by rw[hmap];simp only[Builtin.min_];rw[he];simpa using hu,hur⟩
  case max=>
   refine cW H hd (m:=Builtin.max_ cc.argTypes o.type (cc.args.map a.eval)) ?_ (fun r hr'=>?_) hr
   ·simp only[execOp,ho,resolve,hcal,invoke,builtin,pure_bind]
   ·obtain⟨v,rest,he,hp⟩:=ou (P:=P) (w:=w) _ _ (DD _) r _ hr' hvs;obtain⟨u,hu,hur⟩:=hp;exact⟨u,by rw[hmap];simp only[Builtin.max_];rw[he];simpa using hu,hur⟩
theorem BL(hT:TOK P cx.T)(H:FR c N U e h a w S β γ lam ω)(hd:∀t,o.dst=some t->t<N){t p:Nat}(ho:o.op= .load t (.tmp p))(hx:p<1000)(hr:aF e o.dst (Ar (cN cx e o.dst t p)) h≠.fail):
  After P c N (UG U gid) (aF e o.dst (Ar (cN cx e o.dst t p)) h) o a w:=by
 have hsh:bu (Shape e gid {} none) (cN cx e o.dst t p):=lG o.dst t p {};have hl:=fun hr=>sA (gid:=gid) hT H hd ho hx hr;revert hr;generalize cN cx e o.dst t p=A at hsh hl;intro hr;cases A with
 |bad=>exact absurd rfl hr
 | stat u=>
  intro next Q hn hp
  exact hl (by simp[aF,M.pure]) next Q (fun e' h' a' w' h1 h2 h3=>by
   cases h1;exact hn _ _ a' w' rfl (iv hd hsh h2) h3) (fun pv h' v w' h1=>by cases h1)
 |thr v=>exact hl hr
 | dyn m sh=>
  intro next Q hn hp
  simp only[aF,Ar,af,sn,M.pure]at hr hn hp hl;cases hm:m h with
  |fail=>rw[hm]at hr;exact absurd rfl hr
  |pan pv h1=>
   rw[hm]at hp hl;exact hl (by simp) next Q (fun e' h' a' w' h1=>by cases h1) hp
  |ok v h1=>
   rw[hm]at hn hl;refine hl (by simp) next Q (fun e' h' a' w' k1 k2 k3=>?_) (fun pv h' v w' k1=>by cases k1)
   cases k1;exact hn _ _ a' w' rfl (iv hd (hsh v) k2) k3
theorem wb(hT:TOK P cx.T)(hC:bI P cx.own cx.call)(H:FR c N U e h a w S β γ lam ω)(hd:∀t,o.dst=some t->t<N)(hU:∀g,gid<=g->g<gid+1000->¬U g)(ht:∀x∈o.op.operands.toList,∀t,x= .tmp t->t<1000)(hpN:∀p,tD (bq cx.ann.kinds p .L)=true->p<N)(hr:aW cx e gid o h≠.fail):After P c N (UG U gid) (aW cx e gid o h) o a w:=by
 cases ho:o.op with
 |move x=>exact sC H hd hU (.inl ho) (fun t hx=>ht x (by rw[ho];simp[Op.operands]) t hx)
 |assign x=>exact sC H hd hU (.inr ho) (fun t hx=>ht x (by rw[ho];simp[Op.operands]) t hx)
 |pick k x y=>
  have h1:=fun t hx=>ht k (by rw[ho];simp[Op.operands]) t hx;have h2:=fun t hx=>ht x (by rw[ho];simp[Op.operands]) t hx;have h3:=fun t hx=>ht y (by rw[ho];simp[Op.operands]) t hx;unfold aW dP at hr |-;rw[ho]at hr |-;simp only at hr |-;refine cW H hd (m:=do pure (if <- asBool (a.eval k)then a.eval x else a.eval y)) ?_ (fun r hr'=>xT hr' (aJ H k h1) (aJ H x h2) (aJ H y h3)) hr;simp only[execOp,ho,bind_assoc,pure_bind]
 |alloc t=>exact uc hT H hd hU ho hr
 |box t x=>exact zk H hd hU ho (fun t hx=>ht x (by rw[ho];simp[Op.operands]) t hx) hr
 |build t ps=>
  have hps:∀p∈ps.toList,∀t,p.2= .tmp t->t<1000:=fun p hp t hx=>ht p.2 (by rw[ho];simp[Op.operands];exact⟨p.1,by simpa using hp⟩) t hx;unfold aW dP at hr |-;rw[ho]at hr |-;simp only at hr |-;exact cW H hd (m:=Instr.build t (ps.map fun p=>(p.1,a.eval p.2))) (by simp only[execOp,ho]) (fun r hr'=>uI hT hr' (by simpa using jN H ps.toList hps)) hr
 | buildSlice t n ps=>
  have hps:∀p∈ps.toList,∀t,p.2= .tmp t->t<1000:=fun p hp t hx=>ht p.2 (by rw[ho];simp[Op.operands];exact⟨p.1,by simpa using hp⟩) t hx;cases hha:bh cx.ann.ha o.dst with
  |false=>exact mw hT H hd hU ho hps hha hr
  |true=>
   unfold aW dP at hr |-;rw[ho]at hr |-;simp only[hha,Dx]at hr |-;exact s8 hT H hd ho hps hr
 | load t x=>
  unfold aW dP at hr |-;rw[ho]at hr |-;cases x with
  | tmp p=>
   have hp:=ht (.tmp p) (by rw[ho];simp[Op.operands]) p rfl;simp only at hr |-;cases hnl:bh cx.ann.nl o.dst&&fc (e.get p)with
   |true=>rw[hnl]at hr;exact absurd rfl hr
   |false=>
   rw[hnl]at hr;simp only[DF]at hr |-;cases hz:bh cx.ann.fz o.dst with
   |false=>rw[hz]at hr;exact sA hT H hd ho hp hr
   |true=>
    rw[hz]at hr;simp only[Dx]at hr |-;exact BL hT H hd ho hp hr
  |_=>exact absurd rfl hr
 |store t x y=>
  exact wB hT H (fun _ _=>trivial) hU ho (fun t hx=>ht x (by rw[ho];simp[Op.operands]) t hx) (fun t hx=>ht y (by rw[ho];simp[Op.operands]) t hx) (fun p _ hp=>hpN p hp) hr
 |nilCheck x=>exact qa H hd ho (fun t hx=>ht x (by rw[ho];simp[Op.operands]) t hx) hr
 |binOp op t x y u=>
  have h1:=fun t hx=>ht x (by rw[ho];simp[Op.operands]) t hx;have h2:=fun t hx=>ht y (by rw[ho];simp[Op.operands]) t hx;unfold aW dP at hr |-;rw[ho]at hr |-;simp only at hr |-;cases hlit:lz cx.T op t x y with
  |true=>rw[hlit]at hr;exact absurd rfl hr
  |false=>
  rw[hlit]at hr;simp only[DF]at hr |-;exact cW H hd (m:=do eqGuard op t x y (a.eval x) (a.eval y);Go.binOp op t (a.eval x) (a.eval y)) (by simp only[execOp,ho]) (fun r hr'=>zj hT x y hlit hr' (lT (aJ H x h1)) (lT (aJ H y h2))) hr
 |unOp op t x=>
  have h1:=fun t hx=>ht x (by rw[ho];simp[Op.operands]) t hx;unfold aW dP at hr |-;rw[ho]at hr |-;simp only at hr |-;exact cW H hd (m:=Op.unary op (a.eval x)) (by simp only[execOp,ho]) (fun r hr'=>Ch hr' (aJ H x h1)) hr
 |convert s t x=>
  have h1:=fun t hx=>ht x (by rw[ho];simp[Op.operands]) t hx;unfold aW dP at hr |-;rw[ho]at hr |-;simp only at hr |-;exact cW H hd (m:=convert s t (a.eval x)) (by simp only[execOp,ho]) (fun r hr'=>xt hT hr' (aJ H x h1)) hr
 |makeInterface t x=>
  have h1:=fun t hx=>ht x (by rw[ho];simp[Op.operands]) t hx;unfold aW dP at hr |-;rw[ho]at hr |-;simp only at hr |-;exact cW H hd (m:=Instr.makeInterface t (a.eval x)) (by simp only[execOp,ho]) (fun r hr'=>rE hT hr' (aJ H x h1)) hr
 |makeFunc f x y=>
  have h1:=jc H x.toList (fun z hz t hx=>ht z (by rw[ho];simp[Op.operands];exact .inl (by simpa using hz)) t hx);have h2:=jc H y.toList (fun z hz t hx=>ht z (by rw[ho];simp[Op.operands];exact .inr (by simpa using hz)) t hx);unfold aW dP at hr |-;rw[ho]at hr |-;simp only at hr |-;refine After.val (v:=.func f (x.map a.eval) (y.map a.eval)) (w':=w) (by simp[execOp,ho,Instr.makeFunc]) (Df ⟨S,β,γ,lam,ω,H.setV hd ?_⟩);simp only[VR];have hm:∀z:Array Operand,z.map a.eval=(z.toList.map a.eval).toArray:=fun z=>by apply E8;simp
  exact⟨_,_,by rw[hm x,hm y],h1,h2⟩
 |makeSlice t x y=>exact oo hT H hd hU ho (fun t hx=>ht x (by rw[ho];simp[Op.operands]) t hx) (fun t hx=>ht y (by rw[ho];simp[Op.operands]) t hx) hr
 | slice t x lo hi mx=>
  cases hso:bh cx.ann.so o.dst with
  |true=>
   unfold aW dP at hr |-;rw[ho]at hr |-;simp only[hso,Dx]at hr |-;exact zC hT H hd hU ho (fun t hx=>ht x (by rw[ho];simp[Op.operands]) t hx) (fun y hy t hx=>ht y (by rw[ho];simp[Op.operands,hy]) t hx) hr
  |false=>
   exact wu hT H hd hU ho (fun t hx=>ht x (by rw[ho];simp[Op.operands]) t hx) (fun y hy t hx=>ht y (by rw[ho];simp[Op.operands,hy]) t hx) (fun y hy t hx=>ht y (by rw[ho];simp[Op.operands,hy]) t hx) (fun y hy t hx=>ht y (by rw[ho];simp[Op.operands,hy]) t hx) hso hr
 |fieldAddr t x f=>exact nZ hT H hd ho (fun t hx=>ht x (by rw[ho];simp[Op.operands]) t hx) hr
 |field t x f=>
  have h1:=fun t hx=>ht x (by rw[ho];simp[Op.operands]) t hx;unfold aW dP at hr |-;rw[ho]at hr |-;simp only at hr |-;exact cW H hd (m:=Instr.field t (a.eval x) f) (by simp only[execOp,ho]) (fun r hr'=>vj hT hr' (aJ H x h1)) hr
 |indexAddr t x i=>exact og hT H hd ho (fun t hx=>ht x (by rw[ho];simp[Op.operands]) t hx) (fun t hx=>ht i (by rw[ho];simp[Op.operands]) t hx) hr
 |index t x i=>
  have h1:=fun t hx=>ht x (by rw[ho];simp[Op.operands]) t hx;have h2:=fun t hx=>ht i (by rw[ho];simp[Op.operands]) t hx;unfold aW dP at hr |-;rw[ho]at hr |-;simp only at hr |-;exact cW H hd (m:=Instr.index t (a.eval x) (a.eval i)) (by simp only[execOp,ho]) (fun r hr'=>pN hT hr' (aJ H x h1) (aJ H i h2)) hr
 |extract x i=>
  have h1:=fun t hx=>ht x (by rw[ho];simp[Op.operands]) t hx;unfold aW dP at hr |-;rw[ho]at hr |-;simp only at hr |-;exact cW H hd (m:=Instr.extract (a.eval x) i) (by simp only[execOp,ho]) (fun r hr'=>ri hr' (aJ H x h1)) hr
 |panic x=>
  have h1:=fun t hx=>ht x (by rw[ho];simp[Op.operands]) t hx;have hv:=aJ H x h1;unfold aW dP at hr |-;rw[ho]at hr |-;simp only at hr |-;cases hq:opnd e x<;>rw[hq]at hr hv<;>(try exact absurd rfl hr);rename_i t v;intro next Q hn hp
  simp only[VR]at hv;obtain⟨y,hav,hy⟩:=hv;unfold Oper.wp;have hrun:(execOp a.eval o).run P w= .halt (.panic (.iface t y)) w:=by simp[execOp,ho,hav,Instr.panic]
  rw[hrun];exact hp (.iface t v) h (.iface t y) w rfl ⟨S,β,H.out,by simp only[VR];exact⟨y,rfl,hy⟩⟩
 |call cc=>
  unfold aW dP at hr |-;rw[ho]at hr |-;simp only at hr |-;exact wY hT hC H hd hU ho ht hr
 | makeMap t r=>
  unfold aW dP at hr |-;rw[ho]at hr |-;simp only at hr |-;cases r with
  |some r=>exact absurd rfl hr
  |none=>
   simp only[Option.isSome_none,DF];exact rD H hd ho
 |lookup t x i ok=>
  have h1:=fun t hx=>ht x (by rw[ho];simp[Op.operands]) t hx;have h2:=fun t hx=>ht i (by rw[ho];simp[Op.operands]) t hx;unfold aW dP at hr |-;rw[ho]at hr |-;simp only at hr |-;exact tJ hT H hd ho h1 h2 hr
 |range t x=>
  have h1:=fun t hx=>ht x (by rw[ho];simp[Op.operands]) t hx;unfold aW dP at hr |-;rw[ho]at hr |-;simp only at hr |-;exact wg hT H hd ho h1 hr
 |entry x=>
  have h1:=fun t hx=>ht x (by rw[ho];simp[Op.operands]) t hx;unfold aW dP at hr |-;rw[ho]at hr |-;simp only at hr |-;exact uY H hd ho h1 hr
 |mapUpdate t m k x=>
  have h1:=fun t hx=>ht m (by rw[ho];simp[Op.operands]) t hx;have h2:=fun t hx=>ht k (by rw[ho];simp[Op.operands]) t hx;have h3:=fun t hx=>ht x (by rw[ho];simp[Op.operands]) t hx;unfold aW dP at hr |-;rw[ho]at hr |-;simp only at hr |-;exact we hT H (.inl ho) h1 h2 h3 hr
 |insert t m k x=>
  have h1:=fun t hx=>ht m (by rw[ho];simp[Op.operands]) t hx;have h2:=fun t hx=>ht k (by rw[ho];simp[Op.operands]) t hx;have h3:=fun t hx=>ht x (by rw[ho];simp[Op.operands]) t hx;unfold aW dP at hr |-;rw[ho]at hr |-;simp only at hr |-;exact we hT H (.inr ho) h1 h2 h3 hr
 |_=>unfold aW dP at hr;rw[ho]at hr;exact absurd rfl hr
end
end Go.Av
namespace Go.Av
variable [Dr]
structure Agree (cx:Cx) (o:Oper) (e e':Env):Prop where
 ops:∀t∈fA o,e'.get t=e.get t
 loc:((am cx o).rl||(am cx o).wl)=true->(∀t,1000<=t->e'.get t=e.get t)/\∀B,aT e'.lb B=aT e.lb B
 al:(am cx o).dr=true->∀g,aA e'.al g=aA e.al g
 lf:(am cx o).wl=true->∀s,o.dst=some s->aK e.sl (aR s)=true->aK e'.sl (aR s)=true
section
variable {cx:Cx} {e e':Env} {gid:Nat} {o:Oper}
omit [Dr]in
theorem Agree.get(A:Agree cx o e e'){t:Nat}(h:Operand.tmp t∈o.op.operands.toList):e'.get t=e.get t:=
 A.ops t (FM.2 ⟨.tmp t,h,rfl⟩)
omit [Dr]in
theorem Agree.opnd(A:Agree cx o e e'){x:Operand}(h:x∈o.op.operands.toList):opnd e' x=opnd e x:=by
 cases x with
 |tmp t=>simp only[Av.opnd,Env.av];rw[A.get h]
 |const v=>rfl
 |func f=>rfl
 |global g=>rfl
omit [Dr]in
theorem Agree.opnds(A:Agree cx o e e'){l:List Operand}(h:∀x∈l,x∈o.op.operands.toList):l.map (Av.opnd e')=l.map (Av.opnd e):=
 Fj fun x hx=>A.opnd (h x hx)
omit [Dr]in
theorem Agree.parts(A:Agree cx o e e'){l:List (Nat×Operand)}(h:∀x∈l,x.2∈o.op.operands.toList):l.map (fun p=>(p.1,Av.opnd e' p.2))=l.map (fun p=>(p.1,Av.opnd e p.2)):=
 Fj fun x hx=>by rw[A.opnd (h x hx)]
omit [Dr]in
theorem kf(h:∀t,1000<=t->e'.get t=e.get t){B:Nat}(hB:1000<=B):∀n,iR e' B n=iR e B n
 |0=>rfl
 |n+1=>by
  simp only[iR,Env.av];rw[kf h hB n,h (B+n) (by omega)]
omit [Dr]in
theorem lA(h:∀B,aT e'.lb B=aT e.lb B)(B off n:Nat):hP e' B off n=hP e B off n:=by
 unfold hP;rw[h]
omit [Dr]in
theorem oS(h:∀B,aT e'.lb B=aT e.lb B)(B off p n:Nat):iE e' B off p n=iE e B off p n:=by
 unfold iE;rw[h]
omit [Dr]in
theorem lP{told:Bool}{x:Operand}(A:Agree cx o e e')(h:x∈o.op.operands.toList):ff told e' gid x=ff told e gid x:=by
 unfold ff;cases x with
 |tmp t=>simp only;rw[A.get h]
 |_=>rfl
omit [Dr]in
theorem rA{d:Option Tmp}{t:TypeId}{p:Nat}(A:Agree cx o e e')(hp:Operand.tmp p∈o.op.operands.toList)(hf:(am cx o).rl=true\/fc (e.get p)=false):cN cx e' d t p=cN cx e d t p:=by
 unfold cN;rw[A.get hp];cases hv:(e.get p).v with
 |val a=>rfl
 | loc B off=>
  replace hf:(am cx o).rl=true:=hf.elim id fun h=>by simp[fc,hv]at h
  simp only;cases cx.T t with
  |none=>rfl
  | some ti=>
   obtain⟨h1,h2⟩:=A.loc (by rw[hf];rfl);simp only;rw[lA h2];cases hlb:hP e B off ti.size with
   |false=>rfl
   |true=>
    obtain⟨m,_,_,hB⟩:=pM hlb;rw[kf h1 (by omega),h1 (B+off) (by omega)]
omit [Dr]in
theorem qB{t:TypeId}{p:Nat}{y:Operand}(A:Agree cx o e e')(hp:Operand.tmp p∈o.op.operands.toList)(hy:y∈o.op.operands.toList)(hf:(am cx o).wl=true):dQ cx e' gid t p y=dQ cx e gid t p y:=by
 unfold dQ;rw[A.get hp,A.opnd hy];obtain⟨h1,h2⟩:=A.loc (by rw[hf];simp);cases hv:(e.get p).v with
 |val a=>rfl
 | loc B off=>
  simp only;cases cx.T t with
  |none=>rfl
  |some ti=>
   simp only;rw[lA h2,oS h2];cases y with
   |tmp s=>simp only;rw[A.get hy]
   |_=>rfl
omit [Dr]in
theorem px{t:TypeId}{p i:Nat}(A:Agree cx o e e')(hp:Operand.tmp p∈o.op.operands.toList):eO cx e' t p i=eO cx e t p i:=by
 unfold eO;rw[A.get hp]
omit [Dr]in
theorem pO{t:TypeId}{p:Nat}{i:Operand}(A:Agree cx o e e')(hp:Operand.tmp p∈o.op.operands.toList)(hi:i∈o.op.operands.toList):cq cx e' t p i=cq cx e t p i:=by
 unfold cq;rw[A.get hp,A.opnd hi]
omit [Dr]in
theorem oW{s:Nat}{t:TypeId}(A:Agree cx o e e')(hs:o.dst=some s)(hf:bq cx.ann.kinds s .L≠.F->bq cx.ann.kinds s .L≠.H->bq cx.ann.kinds s .L≠.B->(am cx o).wl=true)(hb:dN cx e gid s t≠.bad):dN cx e' gid s t=dN cx e gid s t:=by
 unfold dN at hb |-;cases ht:cx.T t with
 |none=>rfl
 | some ti=>
  rw[ht]at hb;simp only at hb |-;cases hk:bq cx.ann.kinds s .L<;>rw[hk]at hb hf<;>simp only at hb |-
  all_goals
   have hw:=hf (by simp) (by simp) (by simp);cases hl:aK e.sl (aR s)with
   |false=>exact absurd (by rw[hl];simp) hb
   |true=>rw[A.lf hw s hs hl]
omit [Dr]in
theorem s6{s:Nat}{t:TypeId}{x:Operand}(A:Agree cx o e e')(hs:o.dst=some s)(hx:x∈o.op.operands.toList)(hf:bq cx.ann.kinds s .F≠.F->bq cx.ann.kinds s .F≠.H->bq cx.ann.kinds s .F≠.B->(am cx o).wl=true)(hb:gP cx e s t x≠.bad):gP cx e' s t x=gP cx e s t x:=by
 unfold gP at hb |-;rw[A.opnd hx];cases hk:bq cx.ann.kinds s .F<;>rw[hk]at hb hf<;>simp only at hb |-
 all_goals
  cases ht:cx.T t with
  |none=>rfl
  |some ti=>
   rw[ht]at hb;simp only at hb |-;have hw:=hf (by simp) (by simp) (by simp);cases hl:aK e.sl (aR s)with
   |false=>exact absurd (by rw[hl];simp) hb
   |true=>rw[A.lf hw s hs hl]
omit [Dr]in
theorem qT{c:Call}(A:Agree cx o e e')(ho:o.op= .call c):dO cx e' gid o c=dO cx e gid o c:=by
 have hargs:∀x∈c.args.toList,x∈o.op.operands.toList:=fun x hx=>by
  rw[ho];simp[Op.operands,Call.operands];exact .inr (by simpa using hx)
 have hT:∀b:Bool,c.args.toList.map (ki b e')=c.args.toList.map (ki b e):=fun b=>by
  refine Fj fun x hx=>?_;unfold ki jb;rw[A.opnd (hargs x hx)]
 unfold dO;rw[A.opnds hargs,hT];cases hc:c.callee with
 |invoke r m=>rfl
 |value f=>
  have hf:f∈o.op.operands.toList:=by rw[ho];simp[Op.operands,Call.operands,hc]
  cases f with
  |func g=>rfl
  |_=>simp only;rw[A.opnd hf]
 | builtin b=>
  cases b<;>simp only
  case clear=>
   split
   ·rename_i t ts x xs hts hxs;rw[A.opnd (hargs x (by rw[hxs];simp))]
   ·rfl
  case len=>
   split
   ·rename_i t ts x xs hts hxs;rw[A.opnd (hargs x (by rw[hxs];simp))]
   ·rfl
  case append=>
   split
   ·rename_i t u x y hts hxs;have hx:=hargs x (by rw[hxs];simp);rw[A.opnd hx,A.opnd (hargs y (by rw[hxs];simp))];cases eH cx.T u with
    |false=>rfl
    | true=>
     simp only[E4,DF];cases hha:bh cx.ann.ha o.dst with
     | true=>
      have hns:eN e' x=eN e x:=by
       cases x with
       | tmp s=>
        have hdr:(am cx o).dr=true:=by
         unfold am;rw[ho];simp only[hc,hha,Dx]
        unfold eN;simp only;rw[A.get hx];cases (e.get s).g with
        |none=>rfl
        |some g=>simp only;rw[A.al hdr]
       |_=>rfl
      rw[hns];rfl
     | false=>
      simp only[DF];cases hn:aM x with
      |true=>rfl
      | false=>
       simp only[DF];cases x with
       | tmp s=>
        simp only;rw[A.get hx];have hdr:(am cx o).dr=true:=by
         unfold am;rw[ho];simp only[hc,hha,DF,hxs,hn];rfl
        cases (e.get s).g with
        |none=>rfl
        |some g=>simp only;rw[A.al hdr]
       |_=>rfl
   ·rfl
omit [Dr]in
theorem sw{k:Kind}{f g b h:Foot}(hh:h.wl=true)(h1:k≠.F)(h2:k≠.H)(h3:k≠.B):(match k with|.F=>f|.H=>g|.B=>b|_=>h).wl=true:=by
 cases k<;>first|exact absurd rfl h1|exact absurd rfl h2|exact absurd rfl h3|exact hh
omit [Dr]in
theorem tP(A:Agree cx o e e')(hb:dP cx e gid o≠.bad):dP cx e' gid o=dP cx e gid o:=by
 have hm:∀ {x:Operand},x∈o.op.operands.toList->opnd e' x=opnd e x:=fun h=>A.opnd h;unfold dP at hb |-;cases ho:o.op<;>rw[ho]at hb hm<;>simp only[Op.operands]at hm hb |-
 case move x=>exact lP A (by rw[ho];simp[Op.operands])
 case assign x=>exact lP A (by rw[ho];simp[Op.operands])
 case pick k x y=>rw[hm (x:=k) (by simp),hm (x:=x) (by simp),hm (x:=y) (by simp)]
 case box t x=>
  cases hd:o.dst with
  |none=>rfl
  |some s=>
   rw[hd]at hb;exact s6 A hd (by rw[ho];simp[Op.operands]) (fun h1 h2 h3=>by unfold am;rw[ho,hd];exact sw rfl h1 h2 h3) hb
 case alloc t=>
  cases hd:o.dst with
  |none=>rfl
  |some s=>
   rw[hd]at hb;exact oW A hd (fun h1 h2 h3=>by unfold am;rw[ho,hd];exact sw rfl h1 h2 h3) hb
 case load t x=>
  cases x with
  | tmp p=>
   simp only;rw[A.get (t:=p) (by rw[ho];simp[Op.operands])];cases hnl:bh cx.ann.nl o.dst&&fc (e.get p)with
   |true=>rfl
   | false=>
    rw[rA A (by rw[ho];simp[Op.operands]) (by
     rw[FX]at hnl;rcases hnl with h|h
     ·exact .inl (by unfold am;rw[ho];simp[h])
     ·exact .inr h)]
  |_=>rfl
 case store t x y=>
  cases x with
  | tmp p=>
   cases hd:o.dst with
   |some d=>rfl
   |none=>
    simp only;rw[A.get (t:=p) (by rw[ho];simp[Op.operands]),qB A (by rw[ho];simp[Op.operands]) (by rw[ho];simp[Op.operands]) (by unfold am;rw[ho])]
  |_=>rfl
 case build t ps=>rw[A.parts (l:=ps.toList) (fun p hp=>by rw[ho];simp[Op.operands];exact⟨p.1,by simpa using hp⟩)]
 case buildSlice t n ps=>rw[A.parts (l:=ps.toList) (fun p hp=>by rw[ho];simp[Op.operands];exact⟨p.1,by simpa using hp⟩)]
 case nilCheck x=>
  cases x with
  |tmp p=>simp only;rw[A.get (by rw[ho];simp[Op.operands])]
  |_=>rfl
 case binOp op t x y u=>
  have hn:∀ {x:Operand},x∈o.op.operands.toList->jb e' x=jb e x:=fun h=>by unfold jb;rw[A.opnd h]
  rw[hn (x:=x) (by rw[ho];simp[Op.operands]),hn (x:=y) (by rw[ho];simp[Op.operands])]
 case unOp op t x=>rw[hm (x:=x) (by simp)]
 case convert s t x=>rw[hm (x:=x) (by simp)]
 case makeInterface t x=>rw[hm (x:=x) (by simp)]
 case makeFunc f x y=>
  rw[A.opnds (l:=x.toList) (fun z hz=>by rw[ho];simp[Op.operands];exact .inl (by simpa using hz)),A.opnds (l:=y.toList) (fun z hz=>by rw[ho];simp[Op.operands];exact .inr (by simpa using hz))]
 case makeSlice t x y=>rw[hm (x:=x) (by simp),hm (x:=y) (by simp)]
 case slice t x lo hi mx=>
  have h1:∀z:Option Operand,(∀y,z=some y->y∈o.op.operands.toList)->z.map (opnd e')=z.map (opnd e):=by
   intro z hz;cases z with
   |none=>rfl
   |some y=>simp only[EC];rw[A.opnd (hz y rfl)]
  have hcut:i8 cx e' gid t x lo hi mx=i8 cx e gid t x lo hi mx\/bh cx.ann.so o.dst=false:=by
   cases hso:bh cx.ann.so o.dst with
   |false=>exact .inr rfl
   | true=>
    refine .inl ?_;unfold i8;cases x with
    |tmp s=>
     have hdr:(am cx o).dr=true:=by unfold am;rw[ho];simp only[hso,Dx]
     simp only[A.get (t:=s) (by rw[ho];simp[Op.operands]),A.al hdr,hm (x:=.tmp s) (by simp),h1 lo (fun y hy=>by rw[ho];simp[Op.operands,hy])]
    |_=>rfl
  rcases hcut with hcut|hcut
  ·rw[hcut,hm (x:=x) (by simp),h1 lo (fun y hy=>by rw[ho];simp[Op.operands,hy]),h1 hi (fun y hy=>by rw[ho];simp[Op.operands,hy]),h1 mx (fun y hy=>by rw[ho];simp[Op.operands,hy])]
  rw[hcut];simp only[DF];rw[hm (x:=x) (by simp),h1 lo (fun y hy=>by rw[ho];simp[Op.operands,hy]),h1 hi (fun y hy=>by rw[ho];simp[Op.operands,hy]),h1 mx (fun y hy=>by rw[ho];simp[Op.operands,hy])]
 case fieldAddr t x i=>
  cases x with
  |tmp p=>exact px A (by rw[ho];simp[Op.operands])
  |_=>rfl
 case indexAddr t x i=>
  cases x with
  |tmp p=>exact pO A (by rw[ho];simp[Op.operands]) (by rw[ho];simp[Op.operands])
  |_=>rfl
 case field t x f=>rw[hm (x:=x) (by simp)]
 case index t x i=>rw[hm (x:=x) (by simp),hm (x:=i) (by simp)]
 case extract x i=>rw[hm (x:=x) (by simp)]
 case lookup t x i ok=>rw[hm (x:=x) (by simp),hm (x:=i) (by simp)]
 case mapUpdate t m k x=>unfold gQ;rw[hm (x:=m) (by simp),hm (x:=k) (by simp),hm (x:=x) (by simp)]
 case insert t m k x=>unfold gQ;rw[hm (x:=m) (by simp),hm (x:=k) (by simp),hm (x:=x) (by simp)]
 case panic x=>rw[hm (x:=x) (by simp)]
 case range t x=>rw[hm (x:=x) (by simp)]
 case entry x=>rw[hm (x:=x) (by simp)]
 case call c=>exact qT A ho
end
end Go.Av
namespace Go.Av
variable [Dr]
def cG:Act1->M Upd
 |.bad=>M.fail
 |.stat u=>M.pure u
 |.dyn m sh=>af m fun v=>M.pure (sh v)
 |.thr v=>jQ v
def gm(c:AV)(want:Bool)(m:M Upd):M Upd:=match c with
 |.bool b=>bif b== want then m else M.pure (.ofV (.tup []))
 |.tup []=>M.pure (.ofV (.tup []))
 |_=>M.fail
def dn(cx:Cx)(base:Nat)(ops:Array Oper)(i:Nat)(e:Env):M Upd:=match ops[i]? with
 |none=>M.fail
 | some o=>match o.guard with
  |none=>cG (dP cx e ((base+i)*1000) o)
  |some (j,want)=>match cm ops j with
   |none=>M.fail
   |some t=>bif di cx o then gm (e.av t) want (cG (eI (dP cx e ((base+i)*1000) o)))else M.fail
def stepG(cx:Cx)(base:Nat)(ops:Array Oper)(i:Nat)(e:Env):M Env:=af (dn cx base ops i e) fun u=>M.pure (e.upd (cm ops i) u)
def aI(cx:Cx)(base:Nat)(ops:Array Oper):List Nat->Env->M Env
 |[],e=>M.pure e
 |i:: is,e=>af (stepG cx base ops i e) (aI cx base ops is)
omit [Dr]in
theorem g8(e:Env)(d:Option Tmp)(A:Act1):aF e d A=af (cG A) fun u=>M.pure (e.upd d u):=by
 cases A with
 |bad=>rfl
 |stat u=>rfl
 |dyn m sh=>simp only[aF,cG,ek,aX]
 |thr v=>rfl
omit [Dr]in
theorem gU{p:Upd->Prop}{A:Act1}(h:bu p A){x y:Hp}{u:Upd}(hr:cG A x= .ok u y):p u:=by
 cases A with
 |bad=>cases hr
 |stat v=>cases hr;exact h
 |dyn m sh=>
  simp only[cG,af,M.pure]at hr;cases hm:m x<;>rw[hm]at hr<;>simp at hr;rw[<- hr.1];exact h _
 |thr v=>cases hr
omit [Dr]in
theorem jV(A:Act1)(x:Hp):cG (eI A) x=(match cG A x with|.ok u y=>.ok (eg u) y|.pan v y=>.pan v y|.fail=>.fail):=by
 cases A with
 |bad=>rfl
 |stat v=>rfl
 |dyn m sh=>
  simp only[cG,eI,af,M.pure];cases m x<;>rfl
 |thr v=>rfl
section
variable {P:Program} {cx:Cx} {c:Entry} {N:Nat} {e:Env} {h:Hp} {a:Act} {w:World} {ops:Array Oper} {base:Nat}
def UD(base:Nat)(D:List Nat):Nat->Prop:=fun g=>g<base*1000\/∃i∈D,(base+i)*1000<=g/\g<(base+i)*1000+1000
omit [Dr]in
theorem oV{D:List Nat}{i:Nat}(hi:i ∉ D):∀g,(base+i)*1000<=g->g<(base+i)*1000+1000->¬UD base D g:=by
 rintro g h1 h2 (h3|⟨j,hj,h4,h5⟩)
 ·have:base*1000<=(base+i)*1000:=DO _ (by omega);omega
 ·have:i=j:=by omega
  exact hi (this▸hj)
omit [Dr]in
theorem nM{D:List Nat}{i:Nat}:∀g,UG (UD base D) ((base+i)*1000) g->UD base (i:: D) g:=by
 rintro g ((h1|⟨j,hj,h2⟩)|h1)
 ·exact .inl h1
 ·exact .inr ⟨j,by simp[hj],h2⟩
 ·exact .inr ⟨i,by simp,h1⟩
structure OpsOk (N:Nat) (cx:Cx) (ops:Array Oper):Prop where
 dst:∀(i:Nat)(o:Oper),ops[i]? = some o->∀t,o.dst=some t->t<N
 src:∀(i:Nat)(o:Oper),ops[i]? = some o->∀x∈o.op.operands.toList,∀t,x= .tmp t->t<1000
 kin:∀p,tD (bq cx.ann.kinds p .L)=true->p<N
omit [Dr]in
theorem tt{x:Array Value}{t:Nat}{b:Bool}(h:x.getD t undef= .bool b):x[t]? = some (.bool b):=by
 rw[D5]at h;cases hx:x[t]? with
 |none=>rw[hx]at h;cases h
 |some v=>rw[hx]at h;simp at h;rw[h]
theorem tX{U:Nat->Prop}{gid:Nat}{f:Foot}{ss:Option Nat}{d:Option Tmp}{u:Upd}(hs:Shape e gid f ss u)(hw:f.wl=false)(hdr:f.dr=false)(hU:∀g z,aA e.al g=some z->g≠gid){a':Act}{w':World}{h':Hp}(H:cX c N U (e.upd d u) h' a' w'):cX c N U (e.upd d (eg u)) h' a' w':=by
 obtain⟨S,β,γ,lam,ω,F⟩:=H;have h1:=hs.ls hw;have h2:=hs.lb hw;have h3:=hs.unlb hw;have h4:=hs.nodr hdr;have hget:∀t,(e.upd d (eg u)).get t=if d=some t then⟨u.ent.v,none⟩else e.get t:=fun t=>by rw[bA];rfl
 have hget':∀t,(e.upd d u).get t=if d=some t then u.ent else e.get t:=fun t=>by rw[bA,h1];rfl
 refine⟨S,β,γ,lam,ω,F.weak (fun t=>.inl ?_) (fun t g hg=>?_) (fun g z hz=>?_) (fun B n hB=>?_)⟩
 ·rw[hget,hget'];split<;>rfl
 ·rw[hget]at hg;rw[hget'];split at hg
  ·cases hg
  ·rename_i hd;rw[if_neg hd];exact hg
 ·have hz':aA e.al g=some z:=hz;show aA (u.add++cV e.al u.drop) g=some z;rw[h4];have hne:=hU g z hz';have:∀l:List (Nat×Option Nat),(∀x∈l,x.1=gid)->aA (l++cV e.al none) g=some z:=by
   intro l
   induction l with
   |nil=>intro _;exact hz'
   | cons x l ih=>
    intro hl;obtain⟨k,y⟩:=x;rw[Eg,bg,if_neg]
    ·exact ih fun x hx=>hl x (by simp[hx])
    ·have:=hl (k,y) (by simp)
     simp at this;omega
  exact this u.add (hs.add hw)
 ·show aT (im (cL e.lb u.unlb) u.lb) B=some n;rw[h2,h3];exact hB
theorem mg(hT:TOK P cx.T)(hC:bI P cx.own cx.call)(hO:OpsOk N cx ops){D:List Nat}{i:Nat}(hi:i ∉ D)(H:cX c N (UD base D) e h a w)(hr:stepG cx base ops i e h≠.fail){K:Act->World->Prop}{Q:Exit->Act->World->Prop}(hn:∀e' h' a' w',stepG cx base ops i e h= .ok e' h'->cX c N (UD base (i:: D)) e' h' a' w'->a'.defers=a.defers->K a' w')(hp:∀pv h' v w',stepG cx base ops i e h= .pan pv h'->ij c pv h' v w'->Q (.panic [{ v,recovered:=false }]) a w'):wpOp P ops Q i K a w:=by
 obtain⟨S,β,γ,lam,ω,F⟩:=H;unfold stepG dn at hr hn hp;simp only[wpOp];cases ho:ops[i]? with
 |none=>rw[ho]at hr;exact absurd rfl hr
 | some o=>
  have hdst:cm ops i=o.dst:=by simp[cm,ho]
  rw[hdst,ho]at hr hn hp;simp only at hr hn hp |-;have hop:=fun(hr:aW cx e ((base+i)*1000) o h≠.fail)=>wb hT hC F (hO.dst i o ho) (oV hi) (hO.src i o ho) hO.kin hr;cases hg:o.guard with
  |none=>
   rw[hg]at hr hn hp;simp only at hr hn hp;rw[<- g8]at hr hn hp;have hw:Region.wanted o (yielded ops a.tmps)=true:=by unfold Region.wanted;rw[hg]
   rw[DG hw];exact .inl (hop hr K Q (fun e' h' a' w' h1 h2 h3=>hn e' h' a' w' h1 (h2.wider nM) h3) hp)
  | some g=>
   obtain⟨j,want⟩:=g;rw[hg]at hr hn hp;simp only at hr hn hp;have hwant:Region.wanted o (yielded ops a.tmps)=(yielded ops a.tmps j== some want):=by unfold Region.wanted;rw[hg]
   cases hdj:cm ops j with
   |none=>rw[hdj]at hr;exact absurd rfl hr
   | some t=>
    rw[hdj]at hr hn hp;simp only at hr hn hp;cases hpl:di cx o with
    |false=>rw[hpl]at hr;exact absurd rfl hr
    |true=>
    rw[hpl]at hr hn hp;simp only[Dx]at hr hn hp;have hdj':(ops[j]?).bind (·.dst)=some t:=hdj;have htN:t<N:=by
     cases hoj:ops[j]? with
     |none=>rw[hoj]at hdj';simp at hdj'
     |some oj=>rw[hoj]at hdj';exact hO.dst j oj hoj t hdj'
    have hs:=F.slots t (by have:=F.tsz.2;omega);have hav:VR S β (e.av t) (a.tmps.getD t undef):=by
     simp only[Env.av,Ent.av];cases hv:(e.get t).v with
     |val av=>rw[hv]at hs;exact hs
     |loc B off=>simp[VR]
    have hskip:(∀e' h' a' w',(R.ok (e.upd o.dst (.ofV (.tup []))) h:R Env)= .ok e' h'->cX c N (UD base (i:: D)) e' h' a' w'->a'.defers=a.defers->K a' w')->K (a.put o.dst undef) w:=by
     intro hn;exact hn _ _ _ _ rfl ⟨S,β,γ,lam,ω,(F.setV (v:=undef) (hO.dst i o ho) (by simp only[VR];exact⟨[],rfl,by simp[aG]⟩)).wider (fun g hg=>nM g (.inl hg))⟩ (put_defers a o.dst undef)
    cases hq:e.av t with
    | bool b=>
     rw[hq]at hr hn hp hav;simp only[VR]at hav;have hy:yielded ops a.tmps j=some b:=by
      unfold yielded;rw[hdj'];simp only[Fh,tt hav]
     rw[hwant,hy];cases hbw:(b== want)with
     | true=>
      simp only[gm,hbw,Dx]at hr hn hp;have:b=want:=by simpa using hbw
      subst this;rw[DG (by simp)];simp only[di,Dy,Er]at hpl;simp only[af,jV,M.pure]at hr hn hp;have hact:cG (dP cx e ((base+i)*1000) o) h≠.fail:=by
       intro hf;rw[hf]at hr;exact hr rfl
      refine .inl (hop ?_ K Q (fun e' h' a' w' h1 h2 h3=>?_) (fun pv h' v w' h1 h2=>?_))
      ·unfold aW;rw[g8];simp only[af,M.pure];cases hx:cG (dP cx e ((base+i)*1000) o) h with
       |fail=>exact absurd hx hact
       |_=>simp
      ·unfold aW at h1;rw[g8]at h1;simp only[af,M.pure]at h1;cases hx:cG (dP cx e ((base+i)*1000) o) h with
       |fail=>exact absurd hx hact
       |pan pv hh=>rw[hx]at h1;cases h1
       |ok u hh=>
        rw[hx]at h1 hn;simp only[R.ok.injEq]at h1;obtain⟨rfl,rfl⟩:=h1;have hsh:=gU (gY cx e ((base+i)*1000) o) hx;exact hn _ _ a' w' rfl ((tX hsh hpl.1 hpl.2 (fun g z hz hgg=>oV hi g (by omega) (by omega) (F.used.2 g z hz)) h2).wider nM) h3
      ·unfold aW at h1;rw[g8]at h1;simp only[af,M.pure]at h1;cases hx:cG (dP cx e ((base+i)*1000) o) h with
       |fail=>exact absurd hx hact
       |ok u hh=>rw[hx]at h1;cases h1
       |pan pv2 hh=>
        rw[hx]at h1 hp;simp only[R.pan.injEq]at h1;obtain⟨rfl,rfl⟩:=h1;exact hp _ _ v w' rfl h2
     |false=>
      simp only[gm,hbw,DF,aX]at hn;have:(some b== some want)=false:=by simpa using hbw
      rw[if_neg (by rw[this];simp)];exact hskip hn
    | tup vs=>
     rw[hq]at hr hn hp hav;cases vs with
     | nil=>
      simp only[gm,aX]at hn;simp only[VR,aG]at hav;obtain⟨vs,hav,rfl⟩:=hav;have hy:yielded ops a.tmps j=none:=by
       unfold yielded;rw[hdj'];simp only[Fh];rw[D5]at hav;cases hx:a.tmps[t]? with
       |none=>rfl
       |some v=>rw[hx]at hav;simp at hav;rw[hav]
      rw[hwant,hy,if_neg (by simp)];exact hskip hn
     |cons v vs=>exact absurd rfl hr
    |_=>rw[hq]at hr;exact absurd rfl hr
def UR(base n:Nat):Nat->Prop:=fun g=>g<(base+n)*1000
omit [Dr]in
theorem xZ{D:List Nat}{n:Nat}(h:∀i∈D,i<n):∀g,UD base D g->UR base n g:=by
 rintro g (h1|⟨i,hi,h2,h3⟩)
 ·exact Ec h1 (DO _ (by omega))
 ·have h4:(base+i)*1000+1000<=(base+n)*1000:=by
   have:=h i hi
   rw[show (base+i)*1000+1000=(base+i+1)*1000 by rw[Ei _ 1]];exact DO _ (by omega)
  exact Ec h3 h4
theorem nE(hT:TOK P cx.T)(hC:bI P cx.own cx.call)(hO:OpsOk N cx ops){Q:Exit->Act->World->Prop}:∀(l:List Nat)(D:List Nat)(e:Env)(h:Hp)(a:Act)(w:World),l.Nodup->(∀i∈l,i ∉ D)->
  cX c N (UD base D) e h a w->aI cx base ops l e h≠.fail->
  (∀e' h' a' w',aI cx base ops l e h= .ok e' h'->cX c N (UD base (l.reverse++D)) e' h' a' w'->a'.defers=a.defers->Q .normal a' w')->
  (∀pv h' v w' a',aI cx base ops l e h= .pan pv h'->ij c pv h' v w'->a'.defers=a.defers->Q (.panic [{ v,recovered:=false }]) a' w')->wpOps P ops Q l a w
 |[],D,e,h,a,w,_,_,H,_,hn,_=>by
  simp only[wpOps];exact hn e h a w rfl (by simpa using H) rfl
 | i:: l,D,e,h,a,w,hnd,hdis,H,hr,hn,hp=>by
  simp only[aI,af]at hr hn hp;have hnd':=Fb.1 hnd;rw[wpOps_cons];refine mg hT hC hO (hdis i (by simp)) H (fun hf=>by rw[hf]at hr;exact hr rfl) (fun e' h' a' w' hst hs hdf=>?_) (fun pv h' v w' hst hps=>?_)
  ·rw[hst]at hr hn hp;simp only at hr hn hp;refine nE hT hC hO l (i:: D) e' h' a' w' hnd'.2 (fun j hj=>?_) hs hr (fun e2 h2 a2 w2 h1 h3 h4=>hn e2 h2 a2 w2 h1 (by simpa using h3) (h4.trans hdf)) (fun pv h2 v w2 a2 h1 h3 h4=>hp pv h2 v w2 a2 h1 h3 (h4.trans hdf));simp only[DX,not_or];exact⟨fun hji=>hnd'.1 (hji▸hj),hdis j (by simp[hj])⟩
  ·rw[hst]at hp;exact hp pv h' v w' a rfl hps rfl
end
end Go.Av
