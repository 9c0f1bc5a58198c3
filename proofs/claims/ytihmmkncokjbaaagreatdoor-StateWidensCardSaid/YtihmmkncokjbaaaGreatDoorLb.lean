/- The abstract evaluator and plain laws, part 2. Condition: the table of types is the program's. -/
import Derived.Test.YtihmmkncokjbaaaGreatDoorLa
import Derived.Orders
set_option linter.defProp false
set_option linter.unusedSimpArgs false
set_option linter.unusedVariables false
namespace Go.Av
variable [Dr]
section
variable {P:Program} {cx:Cx} {c:Entry} {N:Nat} {U:Nat->Prop} {e:Env} {h:Hp} {a:Act} {w:World} {S:ap} {β:List aZ} {γ:Nat->Value} {lam:Nat->Option Nat} {ω:Nat->Owner} {o:Oper} {gid:Nat}
theorem aU(H:FR c N U e h a w S β γ lam ω)(x:Operand)(ht:∀t,x= .tmp t->t<1000):VR S β (opnd e x) (a.eval x):=by
 cases x with
 |tmp t=>
  have:=H.slots t (ht t rfl)
  simp only[opnd,Env.av,Ent.av,Act.eval];cases hv:(e.get t).v with
  |val av=>rw[hv]at this;exact this
  |loc B off=>simp[VR]
 |const v=>exact CE S β v
 | global g=>
  simp only[opnd,Act.eval];cases hg:sV g with
  |none=>simp only[VR]
  |some cs=>
   obtain⟨vs,h1,h2⟩:=c.gok.2.2 g cs hg;simp only[VR];exact⟨g,0,vs,rfl,aP.mono H.le (cq.nil β) _ _ h1,h2.mono H.le⟩
 |func f=>simp only[opnd,VR,Act.eval];exact⟨[],[],rfl,by simp[aP],by simp[aP]⟩
theorem jf(H:FR c N U e h a w S β γ lam ω):(xs:List Operand)->(∀x∈xs,∀t,x= .tmp t->t<1000)->aP S β (xs.map (opnd e)) (xs.map a.eval)
 |[],_=>by simp[aP]
 |x:: xs,ht=>by
  simp only[GY,aP];exact⟨_,_,rfl,aU H x (ht x (by simp)),jf H xs fun y hy=>ht y (by simp[hy])⟩
theorem gV(H:FR c N U e h a w S β γ lam ω)(x:Option Operand)(ht:∀y,x=some y->∀t,y= .tmp t->t<1000):fC S β (x.map (opnd e)) (x.map a.eval):=by
 cases x with
 |none=>rfl
 |some y=>exact⟨_,rfl,aU H y (ht y rfl)⟩
theorem dj.up(H:dj c N U e h a w):dj c N (UG U gid) e h a w:=H.wider fun _ h=>.inl h
theorem cI(H:FR c N U e h a w S β γ lam ω)(hd:∀t,o.dst=some t->t<N){r:Option AV}{m:Sem Value}(hrun:execOp a.eval o=(do pure (.value (<- m))))(hp:∀x,r=some x->nP P w S β m x)(hr:(af (aj r) fun v=>aw (e.upd o.dst (.ofV v))) h≠.fail):After P c N (UG U gid) ((af (aj r) fun v=>aw (e.upd o.dst (.ofV v))) h) o a w:=by
 cases r with
 |none=>exact absurd rfl hr
 |some x=>
  obtain⟨v,h1,h2⟩:=hp x rfl;exact After.val (v:=v) (w':=w) (by rw[hrun];simp only[Sem.run_bind,h1,Result.andThen_ok,Sem.run_pure]) (dj.up ⟨S,β,γ,lam,ω,H.setV hd h2⟩)
theorem sN(H:FR c N U e h a w S β γ lam ω)(hd:∀t,o.dst=some t->t<N){t:Nat}(ht:t<1000)(hrun:(execOp a.eval o).run P w= .ok (.value (a.tmps.getD t undef)) w):
  After P c N (UG U gid) (.ok (e.upd o.dst { ent:=e.get t }) h) o a w:=
 After.val hrun (dj.up ⟨S,β,γ,lam,ω,H.set hd (H.slots t ht) (fun g z hg hz=>H.grps t g z ht hg hz) (fun g hg=>H.used.1 t g hg)⟩)
theorem tg(H:FR c N U e h a w S β γ lam ω)(hd:∀t,o.dst=some t->t<N)(hU:∀g,gid<=g->g<gid+1000->¬U g){x:Operand}(hx:o.op= .move x\/o.op= .assign x)(ht:∀t,x= .tmp t->t<1000):
  After P c N (UG U gid) (aY cx e gid o h) o a w:=by
 have hrun:(execOp a.eval o).run P w= .ok (.value (a.eval x)) w:=by rcases hx with hx|hx<;>simp[execOp,hx]
 have hop:aY cx e gid o=aJ e o.dst (eO (bb cx.ann.hb o.dst) e gid x):=by unfold aY dq;rcases hx with hx|hx<;>rw[hx]
 rw[hop];unfold eO;cases x with
 |tmp t=>exact sN H hd (ht t rfl) hrun
 | const v=>
  simp only;cases hn:aQ (.const v)with
  | true=>
   have hv:v= .slice none 0 0:=by
    unfold aQ at hn;split at hn
    ·rename_i hq;simpa using hq
    ·simp at hn
   subst hv;simp only[F9];cases htold:bb cx.ann.hb o.dst with
   |true=>exact After.val hrun (dj.up ⟨S,β,γ,lam,ω,H.setV hd (by simp only[VR];rfl)⟩)
   |false=>
   simp only[Gd];obtain⟨ω',F⟩:=H.own (v:=.slice none 0 0) (r:=.sl []) (z:=none) hd (by simp only[VR];exact⟨none,0,rfl,Ga _,fun _=>rfl,fun q h=>by cases h⟩) hU (.inl ⟨none,0,rfl,fun _=>rfl⟩);exact After.val hrun ⟨S,β,_,lam,ω',F⟩
  |false=>
   simp only[Gd];exact After.val hrun (dj.up ⟨S,β,γ,lam,ω,H.setV hd (aU H _ (fun t h=>by cases h))⟩)
 |global g=>
  exact After.val hrun (dj.up ⟨S,β,γ,lam,ω,H.setV hd (aU H _ (fun t h=>by cases h))⟩)
 |func f=>
  exact After.val hrun (dj.up ⟨S,β,γ,lam,ω,H.setV hd (aU H _ (fun t h=>by cases h))⟩)
omit [Dr]in
theorem aP.allR{S:ap}{β:List aZ}{cs:List AV}{vs:List Value}(h:aP S β cs vs):∀i,i<cs.length->∃v,vs[i]? = some v/\VR S β (ah cs i) v:=by
 intro i hi;obtain⟨v,h1,h2⟩:=h.get (Gm hi);refine⟨v,h1,?_⟩;unfold ah;rw[GG,Gm hi];exact h2
theorem gW(H:FR c N U e h a w S β γ lam ω):(ps:List (Nat×Operand))->(∀p∈ps,∀t,p.2= .tmp t->t<1000)->eF S β (ps.map fun p=>(p.1,opnd e p.2)) (ps.map fun p=>(p.1,a.eval p.2))
 |[],_=>rfl
 |(i,x):: ps,ht=>by
  simp only[GY,eF];exact⟨_,_,rfl,aU H x (ht (i,x) (by simp)),gW H ps fun q hq=>ht q (by simp[hq])⟩
theorem mA(hT:TOK P cx.T)(H:FR c N U e h a w S β γ lam ω)(hd:∀t,o.dst=some t->t<N)(hU:∀g,gid<=g->g<gid+1000->¬U g){t n:Nat}{ps:Array (Nat×Operand)}(ho:o.op= .buildSlice t n ps)(ht:∀p∈ps.toList,∀t,p.2= .tmp t->t<1000)(hha:bb cx.ann.ha o.dst=false)(hr:aY cx e gid o h≠.fail):After P c N (UG U gid) (aY cx e gid o h) o a w:=by
 unfold aY dq at hr |-;rw[ho]at hr |-;simp only[hha,Gd]at hr |-;cases hb:bm cx.T t n (ps.toList.map fun p=>(p.1,opnd e p.2))with
 |none=>rw[hb]at hr;exact absurd rfl hr
 | some r=>
  obtain⟨es,x,el,sz,rfl,hlen,hrow,hrun⟩:=ic (w:=w) (qs:=ps.map fun p=>(p.1,a.eval p.2)) hT hb (by simpa using gW H ps.toList ht);have H2:=H.allocS x el x.size;have hv:VR (S.withRowTo w.heap.size x.size x) β (.sl es) (.slice (some ⟨w.heap.size,0,none⟩) n n):=by
   simp only[VR];refine⟨_,n,by rw[hlen],by omega,(fun h=>by cases h),fun q hq=>?_⟩;simp only[F7]at hq;subst hq;refine⟨fun _=>rfl,sz,hrow.at (fun k o v hv=>?_) (fun o y hy=>?_)⟩
   ·unfold ap.withRowTo;split
    ·rename_i hk;subst hk;rw[H.wf.none (Ga _)]at hv;simp at hv
    ·exact hv
   ·unfold ap.withRowTo;rw[Gg rfl,Gg]
    ·exact hy
    ·rcases Gp o x.size with h|h
     ·exact h
     ·rw[GL h]at hy;simp at hy
  have hex:(execOp a.eval o).run P w= .ok (.value (.slice (some ⟨w.heap.size,0,none⟩) n n)) (w.alloc (.cells x el)):=by
   simp only[execOp,ho,Sem.run_bind,hrun,Result.andThen_ok,Sem.run_pure]
  simp only[aJ,aj,af,aw];cases hno:bb cx.ann.no o.dst with
  |true=>
   simp only[F9];exact After.val hex (dj.up ⟨_,_,_,_,_,H2.setV hd hv⟩)
  |false=>
   simp only[Gd];obtain⟨ω',F⟩:=H2.own (z:=none) hd hv hU (.inl ⟨_,_,rfl,fun h=>by cases h⟩);exact After.val hex ⟨_,_,_,_,ω',F⟩
theorem ov(hT:TOK P cx.T)(H:FR c N U e h a w S β γ lam ω)(hd:∀t,o.dst=some t->t<N)(hU:∀g,gid<=g->g<gid+1000->¬U g){t:Nat}{l k:Operand}(ho:o.op= .makeSlice t l k)(hl:∀t,l= .tmp t->t<1000)(hk:∀t,k= .tmp t->t<1000)(hha:bb cx.ann.ha o.dst=false)(hr:aY cx e gid o h≠.fail):After P c N (UG U gid) (aY cx e gid o h) o a w:=by
 unfold aY dq at hr |-;rw[ho]at hr |-;simp only[hha,Gd]at hr |-;cases hb:iI cx.T t (opnd e l) (opnd e k)with
 |none=>rw[hb]at hr;exact absurd rfl hr
 | some r=>
  obtain⟨es,x,el,sz,cap,rfl,hes,hlen,hxs,hrow,hrun⟩:=ou (w:=w) hT hb (aU H l hl) (aU H k hk);have H2:=H.allocS x el (es.length*sz);have hle:es.length*sz<=cap*sz:=Gr _ hlen;have hv:VR (S.withRowTo w.heap.size (es.length*sz) x) β (.sl es) (.slice (some ⟨w.heap.size,0,none⟩) es.length cap):=by
   simp only[VR];refine⟨_,cap,rfl,hlen,(fun h=>by cases h),fun q hq=>?_⟩;simp only[F7]at hq;subst hq;refine⟨fun _=>rfl,sz,.of_get fun i y hy=>?_⟩;obtain⟨v,v1,v2,v3⟩:=hrow i y hy;have hi:i<es.length:=by
    rcases Gp i es.length with h|h
    ·exact h
    ·rw[Gi h]at hy;simp at hy
   have hm:(i+1)*sz<=es.length*sz:=Gr _ hi;rw[GK]at hm;refine⟨v,VR.mono (fun k o v hv=>?_) (cq.refl β) _ _ v1,v2,fun j u hu=>?_⟩
   ·unfold ap.withRowTo;split
    ·rename_i hk;subst hk;rw[H.wf.none (Ga _)]at hv;simp at hv
    ·exact hv
   ·have hj:j<sz:=by
     rcases Gp j v.cells.toList.length with h|h
     ·simp[v2]at h;exact h
     ·rw[Gi h]at hu;simp at hu
    unfold ap.withRowTo;rw[Gg rfl,Gg (GD (show 0+i*sz+j<i*sz+1*sz by omega) hm),GE];exact v3 j u (by simpa using hu)
  have hωn:ω w.heap.size= .no:=by
   cases hoo:ω w.heap.size with
   |no=>rfl
   |_=>have:=(H.mine w.heap.size (by rw[hoo];simp)).2;omega
  obtain⟨ω',F⟩:=H2.own (z:=bW cx.T t) hd hv hU (.inr ⟨es.length,cap,sz,w.heap.size,0,x,rfl,hlen,hes,Row.new w x el,by omega,hωn,H.size,fun o' ho'=>by
   unfold ap.withRowTo;rw[Gg rfl,if_neg (by omega)]⟩)
  refine After.val (v:=.slice (some ⟨w.heap.size,0,none⟩) es.length cap) (w':=w.alloc (.cells x el)) ?_ ⟨_,_,_,_,ω',F⟩;simp only[execOp,ho,Sem.run_bind,hrun,Result.andThen_ok,Sem.run_pure]
theorem xi(hT:TOK P cx.T)(H:FR c N U e h a w S β γ lam ω)(hd:∀t,o.dst=some t->t<N)(hU:∀g,gid<=g->g<gid+1000->¬U g){t:Nat}{x:Operand}{lo hi mx:Option Operand}(ho:o.op= .slice t x lo hi mx)(hx:∀t,x= .tmp t->t<1000)(hlo:∀y,lo=some y->∀t,y= .tmp t->t<1000)(hhi:∀y,hi=some y->∀t,y= .tmp t->t<1000)(hmx:∀y,mx=some y->∀t,y= .tmp t->t<1000)(hso:bb cx.ann.so o.dst=false)(hr:aY cx e gid o h≠.fail):After P c N (UG U gid) (aY cx e gid o h) o a w:=by
 unfold aY dq at hr |-;rw[ho]at hr |-;simp only[hso,Gd]at hr |-;cases hb:(bif bb cx.ann.hb o.dst then sf cx.T t (opnd e x) (lo.map (opnd e)) (hi.map (opnd e)) (mx.map (opnd e))else oL cx.T t (opnd e x) (lo.map (opnd e)) (hi.map (opnd e)) (mx.map (opnd e)))with
 |none=>rw[hb]at hr;exact absurd rfl hr
 | some r=>
  have hboth:∃v,(Instr.sliceAt t (a.eval x) (lo.map a.eval) (hi.map a.eval) (mx.map a.eval)).run P w= .ok v w/\VR S β r v/\((mx.map (opnd e)).isSome=true->(∃a n,v= .slice a n n)/\∃es,r= .sl es):=by
   cases htold:bb cx.ann.hb o.dst with
   |true=>rw[htold]at hb;exact uG (P:=P) (w:=w) hT hb (aU H x hx) (gV H lo hlo) (gV H hi hhi) (gV H mx hmx)
   |false=>rw[htold]at hb;exact xg (P:=P) (w:=w) hT hb (aU H x hx) (gV H lo hlo) (gV H hi hhi) (gV H mx hmx)
  obtain⟨v,hrun,hv,hown⟩:=hboth;have hrun':(execOp a.eval o).run P w= .ok (.value v) w:=by simp only[execOp,ho,Sem.run_bind,hrun,Result.andThen_ok,Sem.run_pure]
  cases mx with
  |none=>exact After.val hrun' (dj.up ⟨S,β,γ,lam,ω,H.setV hd hv⟩)
  | some m=>
   obtain⟨⟨ad,n,rfl⟩,es,rfl⟩:=hown rfl;have hn:ad=none->n=0:=by
    rintro rfl;have hv:=hv;simp only[VR]at hv;obtain⟨_,_,he,_,h2,_⟩:=hv;simp only[Value.slice.injEq]at he;obtain⟨rfl,_,rfl⟩:=he;exact h2 rfl
   obtain⟨ω',F⟩:=H.own (z:=none) hd hv hU (.inl ⟨ad,n,rfl,hn⟩);exact After.val hrun' ⟨_,_,_,_,ω',F⟩
end
end Go.Av
namespace Go.Av
variable [Dr]
section
variable {P:Program} {cx:Cx} {c:Entry} {N:Nat} {U:Nat->Prop} {e:Env} {h:Hp} {a:Act} {w:World} {S:ap} {β:List aZ} {γ:Nat->Value} {lam:Nat->Option Nat} {ω:Nat->Owner} {o:Oper} {gid:Nat}
theorem FR.locals(H:FR c N U e h a w S β γ lam ω){B off n:Nat}(hin:eT e B off n=true):∃b x m,aI e.lb B=some m/\off+n<=m/\lam B=some b/\Row w b x/\m<=x.size/\
  ∀i,i<n->∃v a',x[off+i]? = some v/\(e.get (B+off+i)).v= .val a'/\VR S β a' v/\∀g z,(e.get (B+off+i)).g=some g->aA e.al g=some z->v=γ g:=by
 unfold eT at hin;split at hin
 ·rename_i m hm;have hle:off+n<=m:=by simp at hin;exact hin.1.1.1
  obtain⟨_,_,_,b,x,h1,h2,h3,h4,h5⟩:=H.lblk B m hm;have hms:m<=x.size:=by
   rcases GN m with h0|h0
   ·omega
   ·obtain⟨v,_,hv,_⟩:=h5 (m-1) (by omega);rcases Gp (m-1) x.size with h|h
    ·omega
    ·rw[GL h]at hv;simp at hv
  refine⟨b,x,m,hm,hle,h1,h2,hms,fun i hi=>?_⟩
  have:=h5 (off+i) (by omega)
  rw[<- Nat.add_assoc]at this;exact this
 ·simp at hin
omit [Dr]in
theorem ly{S:ap}{β:List aZ}{e:Env}{B:Nat}{f:Nat->Value}:(n:Nat)->(∀i,i<n->VR S β (e.av (B+i)) (f i))->aP S β (fY e B n) ((List.range n).map f)
 |0,_=>by simp[fY,aP]
 |n+1,hh=>by
  simp only[fY,List.range_succ,Im,GY,List.map_nil];refine aP.append (ly n fun i hi=>hh i (by omega)) ?_;simp only[aP];exact⟨_,_,rfl,hh n (by omega),rfl⟩
omit [Dr]in
theorem ko(hT:TOK P cx.T){t:Nat}{ti:TI}(ht:cx.T t=some ti){b off:Nat}{x:Array Value}(hr:Row w b x)(f:Nat->Value)(hf:∀i,i<ti.size->x[off+i]? = some (f i)):
  (ti.agg=true->(loadVar t ⟨b,off,none⟩).run P w= .ok (.agg ((List.range ti.size).map f).toArray) w)/\(ti.agg=false->ti.size=1->(loadVar t ⟨b,off,none⟩).run P w= .ok (f 0) w):=by
 obtain⟨ii,d,_,hii,hd,_,_,hsz,_,_,hag,_⟩:=(hT.get ht).ex;refine⟨fun hagg=>?_,fun hagg hone=>?_⟩
 ·have:=run_loadCells (P:=P) w ⟨b,off,none⟩ ti.size f (fun j hj=>by rw[addr_add,hr.cell];exact hf j hj)
  simp[loadVar,dS hd,hag,hagg,run_sizeOf hii,hsz,this]
 ·have h0:=hf 0 (by omega);rw[<- hr.cell]at h0;simp only[G4]at h0;simp[loadVar,dS hd,hag,hagg,h0]
omit [Dr]in
theorem wI{T:TT}{t:Nat}{x:AV}{h:Hp}(hx:∀l off,x≠.hp l off):dH T t x h=match am T t x with|some v=>.ok v h|none=>.fail:=by
 unfold dH;cases x<;>first|rfl|exact absurd rfl (hx _ _)
theorem s8(hT:TOK P cx.T)(H:FR c N U e h a w S β γ lam ω)(hd:∀t,o.dst=some t->t<N){t p:Nat}(ho:o.op= .load t (.tmp p))(hx:p<1000)(hr:aJ e o.dst (cH cx e o.dst t p) h≠.fail):
  After P c N (UG U gid) (aJ e o.dst (cH cx e o.dst t p) h) o a w:=by
 have hp:=H.slots p hx;unfold cH at hr |-;cases hv:(e.get p).v with
 | loc B off=>
  rw[hv]at hr hp;simp only at hr |-;simp only[dw]at hp;obtain⟨b,hlam,hpv⟩:=hp;cases ht:cx.T t with
  |none=>rw[ht]at hr;exact absurd rfl hr
  | some ti=>
   rw[ht]at hr;simp only at hr |-;cases hin:eT e B off ti.size with
   |false=>rw[hin]at hr;exact absurd rfl hr
   | true=>
    rw[hin]at hr;simp only[F9]at hr |-;obtain⟨b',x,m,hm,hle,hlam',hrow,hms,hcells⟩:=H.locals hin;rw[hlam]at hlam';cases hlam';let f:Nat->Value:=fun i=>(x[off+i]?).getD undef;have hf:∀i,i<ti.size->x[off+i]? = some (f i):=fun i hi=>by
     obtain⟨v,_,hv',_⟩:=hcells i hi;show _=some ((x[off+i]?).getD undef);rw[hv'];rfl
    have hload:=ko hT ht hrow f hf;have hexec:∀v,(loadVar t ⟨b,off,none⟩).run P w= .ok v w->(execOp a.eval o).run P w= .ok (.value v) w:=fun v hv'=>by
     simp only[execOp,ho,Act.eval,hpv,Instr.loadAt,Instr.sureAddr,Sem.run_bind,Sem.run_pure,Result.andThen_ok,hv']
    cases hag:ti.agg with
    |true=>
     simp only[F9];refine After.val (hexec _ (hload.1 hag)) (dj.up ⟨S,β,γ,lam,ω,H.setV hd ?_⟩);simp only[VR];refine⟨_,rfl,ly ti.size fun i hi=>?_⟩;obtain⟨v,a',g1,g2,g3,_⟩:=hcells i hi;have:f i=v:=by show (x[off+i]?).getD undef=v;rw[g1];rfl
     rw[this];simp only[Env.av,Ent.av,g2];exact g3
    | false=>
     rw[hag]at hr;simp only[Gd]at hr |-;cases hone:decide (ti.size=1)with
     |false=>rw[hone]at hr;exact absurd rfl hr
     |true=>
      have hone':ti.size=1:=by simpa using hone
      simp only[F9];obtain⟨v,a',g1,g2,g3,g4⟩:=hcells 0 (by omega);simp only[G4]at g1 g2 g4;have hfv:f 0=v:=by show (x[off+0]?).getD undef=v;rw[G4,g1];rfl
      refine After.val (hexec _ (hfv▸hload.2 hag hone')) (dj.up ⟨S,β,γ,lam,ω,H.set hd ?_ (fun g z hg hz=>g4 g z hg hz) (fun g hg=>H.used.1 _ g hg)⟩);rw[g2];exact g3
 | val av =>
  rw[hv]at hr hp;simp only at hr |-;simp only[dw]at hp;have hexec:∀v,(Instr.loadAt t (a.tmps.getD p undef)).run P w= .ok v w->(execOp a.eval o).run P w= .ok (.value v) w:=fun v hv'=>by
   simp only[execOp,ho,Act.eval,Sem.run_bind,hv',Result.andThen_ok,Sem.run_pure]
  have hbyval:∀r,am cx.T t av=some r->After P c N (UG U gid) (.ok (e.upd o.dst (.ofV r)) h) o a w:=fun r hr'=>by
   obtain⟨v,h1,h2⟩:=s7 hT H.wf hr' hp;exact After.val (hexec v h1) (dj.up ⟨S,β,γ,lam,ω,H.setV hd h2⟩)
  cases hmem:bb cx.ann.hl o.dst with
  |false=>
   rw[hmem]at hr;simp only[Gd]at hr |-;cases hl:am cx.T t av with
   |none=>rw[hl]at hr;exact absurd rfl hr
   |some r=>exact hbyval r hl
  | true =>
   rw[hmem]at hr;simp only[F9]at hr |-;simp only[aJ,af]at hr |-;by_cases hav:∃l off,av= .hp l off
   ·obtain⟨l,off,rfl⟩:=hav;unfold dH at hr |-;simp only at hr |-;simp only[VR]at hp;obtain⟨⟨b,nb⟩,hb,hb0,hpv⟩:=hp;cases ht:cx.T t with
    |none=>rw[ht]at hr;exact absurd rfl hr
    | some ti=>
     cases hcs:h[l]? with
     |none=>rw[ht,hcs]at hr;exact absurd rfl hr
     | some cs=>
      rw[ht,hcs]at hr;simp only at hr |-;obtain⟨ii,d,_,hii,hdd,_,_,hsz,_,_,hagd,_⟩:=(hT.get ht).ex;by_cases hne:cs=[]
      ·subst hne;cases hag:ti.agg with
       | true=>
        rw[hag]at hr;simp only[F9,GM]at hr |-;by_cases hz:off+ti.size<=0
        ·rw[Gg hz]at hr |-;have hz0:ti.size=0:=by omega
         have hl0:(loadVar t ⟨b,off,none⟩).run P w= .ok (.agg #[]) w:=by
          simp[loadVar,dS hdd,hagd,hag,run_sizeOf hii,hsz,hz0,loadCells,loadCellsFrom]
         refine After.val (v:=.agg #[]) (hexec _ (by rw[hpv];simp only[Instr.loadAt,Instr.sureAddr,Sem.run_bind,Sem.run_pure,Result.andThen_ok,hl0])) (dj.up ⟨S,β,γ,lam,ω,H.setV hd ?_⟩);simp only[VR];exact⟨[],by simp,by simp[aP]⟩
        ·rw[if_neg hz]at hr;exact absurd rfl hr
       |false=>rw[hag,List.getElem?_nil]at hr;exact absurd rfl hr
      ·obtain⟨y,k1,k2,k3,k4,k5⟩:=H.heap.cells hcs hne hb hb0;rw[hb]at k1;cases k1;have hcell:∀j v,(y.toList.take cs.length)[j]? = some v->w.cell? ⟨b,0+j,none⟩=some v:=fun j v hj=>by
        rw[GE,k2.cell];rw[Gj]at hj;split at hj
        ·simpa using hj
        ·simp at hj
       have hvd:=k4.drop off;have hcd:∀j v,((y.toList.take cs.length).drop off)[j]? = some v->w.cell? ⟨b,off+j,none⟩=some v:=fun j v hj=>by
        rw[GR]at hj
        have:=hcell _ _ hj
        rwa [GE]at this
       cases hag:ti.agg with
       | true=>
        rw[hag]at hr;simp only[F9]at hr |-;by_cases hz:off+ti.size<=cs.length
        ·rw[Gg hz]at hr |-;obtain⟨v,h1,h2⟩:=iG hT ht hvd hcd (r:=.agg ((cs.drop off).take ti.size)) (by rw[hag];simp only[F9];rw[Gg (by simp;omega)]);exact After.val (hexec v (by rw[hpv];simp only[Instr.loadAt,Instr.sureAddr,Sem.run_bind,Sem.run_pure,Result.andThen_ok,h1])) (dj.up ⟨S,β,γ,lam,ω,H.setV hd h2⟩)
        ·rw[if_neg hz]at hr;exact absurd rfl hr
       | false=>
        rw[hag]at hr;simp only[Gd]at hr |-;cases hg:cs[off]? with
        |none=>rw[hg]at hr;exact absurd rfl hr
        |some r=>
         simp only;obtain⟨v,h1,h2⟩:=iG hT ht hvd hcd (r:=r) (by rw[hag];simp only[Gd,List.head?_drop];exact hg);exact After.val (hexec v (by rw[hpv];simp only[Instr.loadAt,Instr.sureAddr,Sem.run_bind,Sem.run_pure,Result.andThen_ok,h1])) (dj.up ⟨S,β,γ,lam,ω,H.setV hd h2⟩)
   ·rw[wI (fun l off hh=>hav ⟨l,off,hh⟩)]at hr |-;cases hl:am cx.T t av with
    |none=>rw[hl]at hr;exact absurd rfl hr
    |some r=>exact hbyval r hl
end
end Go.Av
namespace Go.Av
variable [Dr]
section
variable {P:Program} {cx:Cx} {c:Entry} {N:Nat} {U:Nat->Prop} {e:Env} {h:Hp} {a:Act} {w:World} {S:ap} {β:List aZ} {γ:Nat->Value} {lam:Nat->Option Nat} {ω:Nat->Owner} {o:Oper} {gid:Nat}
omit [Dr]in
theorem dN{x:AV}{v:Value}(h:aE x=true)(hv:VR S β x v):v.cells= #[v]/\v.oneCell'=true:=by
 have h1:bP x=some 1:=by cases x<;>simp_all[aE,bP]
 have h2:bo 1 x=true:=by
  unfold bo;rw[h1];cases x<;>simp_all[aE,ae]
 obtain⟨g1,g2,g3⟩:=dC h2 hv;have hc:v.cells= #[v]:=by
  cases x<;>simp[aE]at h<;>simp only[VR]at hv
  case bool=>subst hv;rfl
  case int=>subst hv;rfl
  case nilp=>subst hv;rfl
  case nilf=>subst hv;rfl
  case nili=>subst hv;rfl
  case hn=>subst hv;rfl
  case str=>obtain⟨_,rfl,_⟩:=hv;rfl
  case sl=>obtain⟨_,_,rfl,_⟩:=hv;rfl
  case ip=>obtain⟨_,_,_,rfl,_⟩:=hv;rfl
  case hp=>obtain⟨_,_,_,rfl⟩:=hv;rfl
  case mp=>obtain⟨_,_,_,rfl⟩:=hv;rfl
  case nilm=>subst hv;rfl
  case hs=>rcases hv with⟨_,_,_,_,rfl,_⟩|⟨_,_,rfl⟩<;>rfl
  case fn=>obtain⟨_,_,rfl,_⟩:=hv;rfl
  case iface=>obtain⟨_,rfl,_⟩:=hv;rfl
 exact⟨hc,g3 v (by rw[hc];simp)⟩
omit [Dr]in
theorem kv(hT:TOK P cx.T){t:Nat}{ti:TI}(ht:cx.T t=some ti){b off:Nat}{x:Array Value}{v:Value}(hr:Row w b x)(hs:v.cells.size=ti.size)(hone:∀y∈v.cells.toList,y.oneCell'=true)(hle:off+ti.size<=x.size):
  (Instr.storeAt t (.pointer (some ⟨b,off,none⟩)) v).run P w= .ok () (w.setRow b (x.toList.take off++v.cells.toList++x.toList.drop (off+v.cells.toList.length)).toArray):=by
 obtain⟨ii,d,_,hii,hd,_,_,hsz,_⟩:=(hT.get ht).ex;obtain⟨te,hrow⟩:=hr;have hst:=run_storeCells_at P b off te v.cells.toList 0 x w hrow (by simp[hs];omega) hone;simp only[G4]at hst;have hne:¬(v.cells.size≠ii.size):=by rw[hs,hsz];simp
 simp only[Instr.storeAt,Instr.sureAddr,Sem.run_bind,Sem.run_pure,Result.andThen_ok,storeVar,run_sizeOf hii,hne,GH,hst]
omit [Dr]in
theorem jt{n:Nat}{x:AV}{cs:List AV}{v:Value}(h:fG n x=some cs)(hv:VR S β x v):cs=ae x/\v.cells.size=n/\aP S β cs v.cells.toList/\∀y∈v.cells.toList,y.oneCell'=true:=by
 unfold fG at h;cases hk:bo n x with
 |false=>rw[hk]at h;simp at h
 |true=>
  rw[hk]at h;simp only[F9,F7]at h;subst h;obtain⟨h1,h2,h3⟩:=dC hk hv;exact⟨rfl,h1,h2,h3⟩
omit [Dr]in
theorem p8{x:AV}(h:Be x=true):x= .hn:=by cases x<;>simp_all[Be]
theorem xl(hT:TOK P cx.T)(H:FR c N U e h a w S β γ lam ω)(_hN:∀t,t<1000->True)(hU:∀g,gid<=g->g<gid+1000->¬U g){t:Nat}{x y:Operand}(ho:o.op= .store t x y)(hx:∀t,x= .tmp t->t<1000)(hy:∀t,y= .tmp t->t<1000)(hpN:∀p,x= .tmp p->ul (bA cx.ann.kinds p .L)=true->p<N)(hr:aY cx e gid o h≠.fail):After P c N (UG U gid) (aY cx e gid o h) o a w:=by
 unfold aY dq at hr |-;rw[ho]at hr |-;cases x<;>simp only at hr |- <;> (try exact absurd rfl hr);rename_i p;cases hdst:o.dst with
 |some d=>rw[hdst]at hr;exact absurd rfl hr
 |none=>
 rw[hdst]at hr;simp only at hr |-;cases hlw:dp cx.ann.lw p&&!(eL (e.get p))with
 |true=>rw[hlw]at hr;exact absurd rfl hr
 |false=>
 rw[hlw]at hr;simp only[Gd]at hr |-;have hp:=H.slots p (hx p rfl);have hyv:=aU H y hy;have hexec:∀w',(Instr.storeAt t (a.tmps.getD p undef) (a.eval y)).run P w= .ok () w'->(execOp a.eval o).run P w= .ok .skip w':=fun w' hh=>by
  have he:a.eval (.tmp p)=a.tmps.getD p undef:=rfl;simp only[execOp,ho,he,Sem.run_bind,hh,Result.andThen_ok,Sem.run_pure]
 unfold dE at hr |-;cases hv:(e.get p).v with
 | loc B off=>
  rw[hv]at hr hp;simp only at hr |-;simp only[dw]at hp;obtain⟨b,hlam,hpv⟩:=hp;cases ht:cx.T t with
  |none=>rw[ht]at hr;exact absurd rfl hr
  | some ti =>
   rw[ht]at hr;simp only at hr |-;cases hin:eT e B off ti.size with
   |false=>rw[hin]at hr;exact absurd rfl hr
   | true =>
    rw[hin]at hr;simp only[F9]at hr |-;obtain⟨b',z,m,hm,hle,hlam',hrow,hms,hcells⟩:=H.locals hin;rw[hlam]at hlam';cases hlam';have hst:∀v,a.eval y=v->v.cells.size=ti.size->(∀q∈v.cells.toList,q.oneCell'=true)->
      (execOp a.eval o).run P w= .ok .skip (w.setRow b (z.toList.take off++v.cells.toList++z.toList.drop (off+v.cells.toList.length)).toArray):=fun v hv' h1 h2=>
     hexec _ (by rw[hpv,hv'];exact kv hT ht hrow h1 h2 (by omega))
    cases hS:ul (bA cx.ann.kinds p .L)with
    | true=>
     rw[hS]at hr;simp only[F9]at hr |-;cases hcond:iJ e B off p ti.size with
     |false=>rw[hcond]at hr;exact absurd rfl hr
     | true=>
      rw[hcond]at hr;simp only[F9]at hr |-;unfold iJ at hcond;rw[hm]at hcond;simp only[F8]at hcond;obtain⟨⟨h1,h2⟩,h3⟩:=hcond;have h1:=Gh h1;have h3:=Gh h3;subst h1 h3;unfold bn at hr |-;cases hcs:fG ti.size (opnd e y)with
      |none=>rw[hcs]at hr;exact absurd rfl hr
      |some cs=>
       obtain⟨k1,k2,k3,k4⟩:=jt hcs hyv;obtain⟨S',ω',_,F⟩:=H.storeS (u:=⟨.val (.tup []),none⟩) (hpN p rfl hS) hm (by simpa using k2) hlam hrow k3 hpv;refine After.skip hdst (hst _ rfl k2 k4) ?_;have F2:=F.wider (V:=UG U gid) (fun _ h=>.inl h);have hacs:ae (.agg cs)=cs:=rfl;simp only[Is,GQ,GE]at F2 |-;exact⟨_,_,_,_,_,F2⟩
    | false =>
     rw[hS]at hr;simp only[Gd]at hr |-;cases hag:ti.agg with
     | true =>
      rw[hag]at hr;simp only[F9]at hr |-;unfold aK at hr |-;cases hcs:fG ti.size (opnd e y)with
      |none=>rw[hcs]at hr;exact absurd rfl hr
      | some cs=>
       rw[hcs]at hr;simp only at hr |-;cases hnil:fc cs (dh cx.ann.nils p) ti.size with
       |false=>rw[hnil]at hr;exact absurd rfl hr
       | true=>
        obtain⟨k1,k2,k3,k4⟩:=jt hcs hyv;have hnb:∀i∈dh cx.ann.nils p,i<ti.size/\ah cs i= .hn:=fun i hi=>by
         unfold fc at hnil;rw[Gk]at hnil
         have:=hnil i hi
         rw[F8]at this;exact⟨by simpa using this.1,p8 this.2⟩
        have hm1000:m<1000:=(H.lblk B m hm).2.2.1;have hcsl:cs.length=ti.size:=by rw[<- k3.length];simpa using k2
        have F:=H.storeL (u:=⟨.val (.tup []),none⟩) (L:=fM (B+off) cs (dh cx.ann.nils p) gid ti.size) (A:=kC (dh cx.ann.nils p) gid) (vs:=(a.eval y).cells.toList) (ent:=eU cs (dh cx.ann.nils p) gid)
         hU (gC (fun i hi=>(hnb i hi).1) (by omega)) hm hle (by simpa using k2) hlam hrow (fun t'=>lO _ _ _ _ _ _ _) (fun i hi=>by
          obtain⟨v,v1,v2⟩:=k3.allR i (by omega);unfold eU;cases hmem:dp (dh cx.ann.nils p) i with
          | true=>
           have hn:=(hnb i ((eb _ _).1 hmem)).2;rw[hn]at v2;simp only[VR]at v2;subst v2;refine⟨_,.sl [],v1,rfl,?_,fun g z hg _=>?_,fun g hg=>?_⟩
           ·simp only[VR];exact⟨none,0,rfl,Ga _,fun _=>rfl,fun q hq=>by cases hq⟩
           ·simp only[F9,F7]at hg;unfold γN;rw[Gg (by omega)]
           ·simp only[F9,F7]at hg;exact .inr (by omega)
          |false=>exact⟨v,ah cs i,v1,rfl,v2,fun g z hg _=>by simp at hg,fun g hg=>by simp at hg⟩)
        refine After.skip hdst (hst _ rfl k2 k4) ?_;exact⟨_,_,_,_,_,F⟩
     | false=>
      rw[hag]at hr;simp only[Gd]at hr |-;cases hone:decide (ti.size=1)with
      |false=>rw[hone]at hr;exact absurd rfl hr
      | true=>
       have hone':ti.size=1:=by simpa using hone
       rw[hone]at hr;simp only[F9]at hr |-;have hput:∀(v:Value)(u:Ent)(en:Ent)(A:List (Nat×Option Nat))(av:AV),a.eval y=v->v.cells= #[v]->v.oneCell'=true->dv A gid->en.v= .val av->VR S β av v->
         (∀g z,en.g=some g->aA (A++e.al) g=some z->v=γN γ gid g)->(∀g,en.g=some g->U g\/(gid<=g/\g<gid+1000))->
         After P c N (UG U gid) (.ok (e.upd none { ent:=u,ls:=[(B+off,en)],add:=A }) h) o a w:=by
        intro v u en A av hav hc1 hc2 hA hen hr1 hg1 hg2;have F:=H.storeL (u:=u) (L:=[(B+off,en)]) (A:=A) (n:=1) (m:=m) (off:=off) (vs:=v.cells.toList) (ent:=fun _=>en) hU hA hm (by omega) (by rw[hc1];rfl) hlam hrow (fun t'=>by
          simp only[GJ,GQ,bw];by_cases ht':B+off=t'
          ·rw[Gg ht',Gg (by omega)]
          ·rw[if_neg ht',if_neg (by omega)];rfl) (fun i hi=>by
          have:i=0:=by omega
          subst this;exact⟨v,av,by rw[hc1];rfl,hen,hr1,hg1,hg2⟩)
        refine After.skip hdst (hst v hav (by rw[hc1,hone'];rfl) (by rw[hc1];simpa using hc2)) ?_;exact⟨_,_,_,_,_,F⟩
       rw[hdst]at *;cases y with
       | tmp s=>
        simp only at hr |-;have hs:=H.slots s (hy s rfl);cases hsv:(e.get s).v with
        |loc _ _=>rw[hsv]at hr;exact absurd rfl hr
        | val av=>
         rw[hsv]at hr hs;simp only at hr |-;unfold ek at hr |-;cases hok:aE av with
         |false=>rw[hok]at hr;exact absurd rfl hr
         |true=>
          obtain⟨j1,j2⟩:=dN hok hs;refine hput _ _ (e.get s) [] av rfl j1 j2 (dW gid) hsv hs (fun g z hg hz=>?_) (fun g hg=>.inl (H.used.1 s g hg));unfold γN;rw[if_neg (fun hr=>hU g hr.1 hr.2 (H.used.1 s g hg))];exact H.grps s g z (hy s rfl) hg hz
       | const v=>
        simp only at hr |-;cases hn:aQ (.const v)with
        | true=>
         have hv':v= .slice none 0 0:=by
          unfold aQ at hn;split at hn
          ·rename_i hq;simpa using hq
          ·simp at hn
         subst hv';refine hput _ _ _ _ (.sl []) rfl rfl rfl (mG gid) rfl ?_ (fun g z hg hz=>?_) (fun g hg=>?_)
         ·simp only[VR];exact⟨none,0,rfl,Ga _,fun _=>rfl,fun q hq=>by cases hq⟩
         ·simp only[F7]at hg;unfold γN;rw[Gg (by omega)];rfl
         ·simp only[F7]at hg;exact .inr (by omega)
        | false=>
         rw[hn]at hr;simp only[Gd]at hr |-;unfold ek at hr |-;cases hok:aE (opnd e (.const v))with
         |false=>rw[hok]at hr;exact absurd rfl hr
         |true=>
          obtain⟨j1,j2⟩:=dN hok hyv;exact hput _ _ _ [] _ rfl j1 j2 (dW gid) rfl hyv (fun g z hg _=>by cases hg) (fun g hg=>by cases hg)
       | global g=>
        simp only[aQ,Gd]at hr |-;unfold ek at hr |-;cases hok:aE (opnd e (.global g))with
        |false=>rw[hok]at hr;exact absurd rfl hr
        |true=>
         obtain⟨j1,j2⟩:=dN hok hyv;exact hput _ _ _ [] _ rfl j1 j2 (dW gid) rfl hyv (fun g z hg _=>by cases hg) (fun g hg=>by cases hg)
       | func f=>
        simp only[aQ,Gd]at hr |-;unfold ek at hr |-;cases hok:aE (opnd e (.func f))with
        |false=>rw[hok]at hr;exact absurd rfl hr
        |true=>
         obtain⟨j1,j2⟩:=dN hok hyv;exact hput _ _ _ [] _ rfl j1 j2 (dW gid) rfl hyv (fun g z hg _=>by cases hg) (fun g hg=>by cases hg)
 | val av=>
  rw[hv]at hr hp;simp only at hr |-;simp only[dw]at hp;simp only[aJ,af]at hr |-;cases hav:av with
  | hp l off=>
   subst hav;simp only[VR]at hp;obtain⟨⟨b,nb⟩,hb,hb0,hpv⟩:=hp;unfold fS at hr |-;cases ht:cx.T t with
   |none=>rw[ht]at hr;exact absurd rfl hr
   | some ti=>
    rw[ht]at hr;simp only at hr |-;cases hcs:h[l]? with
    |none=>rw[hcs]at hr;exact absurd rfl hr
    | some cs=>
     rw[hcs]at hr;simp only at hr |-;cases hcond:(bo ti.size (opnd e y)&&decide (off+ti.size<=cs.length)&&decide (0<ti.size))with
     |false=>rw[hcond]at hr;exact absurd rfl hr
     | true=>
      rw[hcond]at hr;simp only[F9]at hr |-;simp only[F8,Ge]at hcond;obtain⟨⟨h1,h2⟩,h3⟩:=hcond;obtain⟨k2,k3,k4⟩:=dC h1 hyv;have hne:cs≠[]:=by rintro rfl;simp at h2;omega
      obtain⟨z,j1,j2,j3,j4,j5⟩:=H.heap.cells hcs hne hb hb0;rw[hb]at j1;cases j1;have hzs:cs.length<=z.size:=by
       have:=j4.length
       simp at this;omega
      have hacl:(ae (opnd e y)).length=ti.size:=by rw[<- k3.length];simpa using k2
      have F:=H.turnH (cs':=setCells cs off (ae (opnd e y))) (y:=(z.toList.take off++(a.eval y).cells.toList++z.toList.drop (off+(a.eval y).cells.toList.length)).toArray) hcs hne ⟨_,hb⟩ j2 (by simp[k2];omega) (by
       rw[eq _ _ _ (by omega)];have hsp:aP S β (setCells cs off (ae (opnd e y))) (((z.toList.take cs.length).take off++(a.eval y).cells.toList++(z.toList.take cs.length).drop (off+(a.eval y).cells.toList.length))):=by
        unfold setCells;have hl1:(a.eval y).cells.toList.length=(ae (opnd e y)).length:=k3.length;rw[hl1];exact ((j4.take off).append k3).append (j4.drop _)
       have heq:(z.toList.take off++(a.eval y).cells.toList++z.toList.drop (off+(a.eval y).cells.toList.length)).take cs.length=
         (z.toList.take cs.length).take off++(a.eval y).cells.toList++(z.toList.take cs.length).drop (off+(a.eval y).cells.toList.length):=by
        rw[Ie,Ie];have hl:(a.eval y).cells.toList.length=ti.size:=by simpa using k2
        have e1:(z.toList.take off).length=off:=by simp;omega
        rw[HF,HF];have e2:min cs.length off=off:=by omega
        have e3:min off cs.length=off:=by omega
        rw[e2,e3,e1];have e4:(a.eval y).cells.toList.take (cs.length-off)=(a.eval y).cells.toList:=Ia (by omega);rw[e4];congr 1;rw[List.take_drop,Gf,e1,hl];congr 2;omega
       show aP S β _ (List.take _ _);rw[show (z.toList.take off++(a.eval y).cells.toList++z.toList.drop (off+(a.eval y).cells.toList.length)).toArray.toList=(z.toList.take off++(a.eval y).cells.toList++z.toList.drop (off+(a.eval y).cells.toList.length))from rfl,heq];exact hsp) (fun t ht=>ht.setCells.resolve_right (ql h1 t))
      refine After.skip hdst (hexec _ (by rw[hpv];exact kv hT ht j2 k2 k4 (by omega))) ?_;have hupd:∀E:Env,E.upd none (.ofV (.tup []))=E:=fun E=>rfl;rw[hupd];exact dj.up ⟨_,_,_,_,_,F⟩
  |_=>subst hav;unfold fS at hr;exact absurd rfl hr
end
end Go.Av
namespace Go.Av
variable [Dr]
section
variable {P:Program} {cx:Cx} {c:Entry} {N:Nat} {U:Nat->Prop} {e:Env} {h:Hp} {a:Act} {w:World} {S:ap} {β:List aZ} {γ:Nat->Value} {lam:Nat->Option Nat} {ω:Nat->Owner} {o:Oper} {gid:Nat}
theorem Dc(H:FR c N U e h a w S β γ lam ω)(hd:∀t,o.dst=some t->t<N){cs:List AV}{x:Array Value}{vs:List Value}{t:TypeId}(hvs:aP S β cs vs)(hx:∀(j:Nat)(v:Value),vs[j]? = some v->x[j]? = some v)(hrun:(execOp a.eval o).run P w= .ok (.value (.pointer (some ⟨w.heap.size,0,none⟩))) (w.alloc (.cells x t))):After P c N (UG U gid) (.ok (e.upd o.dst (.ofV (.ip cs))) h) o a w:=by
 have H2:=H.allocS x t x.size;refine After.val hrun (dj.up ⟨_,β,γ,lam,ω,H2.setV hd ?_⟩);simp only[VR];refine⟨w.heap.size,0,vs,rfl,hvs.mono (fun k o v hv=>?_) (cq.refl β),fun j v hj=>?_⟩
 ·unfold ap.withRowTo;split
  ·rename_i hk;subst hk;rw[H.wf.none (Ga _)]at hv;simp at hv
  ·exact hv
 ·have:=hx j v hj
  unfold ap.withRowTo;rw[Gg rfl,GE,Gg]
  ·exact this
  ·rcases Gp j x.size with h|h
   ·exact h
   ·rw[GL h]at this;simp at this
theorem tj(H:FR c N U e h a w S β γ lam ω)(hd:∀t,o.dst=some t->t<N){cs:List AV}{x:Array Value}{vs:List Value}{t:TypeId}(hvs:aP S β cs vs)(hx:∀(j:Nat)(v:Value),vs[j]? = some v->x[j]? = some v)(hrun:(execOp a.eval o).run P w= .ok (.value (.pointer (some ⟨w.heap.size,0,none⟩))) (w.alloc (.cells x t)))(hr:aJ e o.dst (.dyn (newH cs) .ofV) h≠.fail):After P c N (UG U gid) (aJ e o.dst (.dyn (newH cs) .ofV) h) o a w:=by
 have hcs:cs≠[]:=by
  rintro rfl;exact hr rfl
 have hemp:(cs.isEmpty||cs.any lG)=false:=by
  cases hq:(cs.isEmpty||cs.any lG)with
  |false=>rfl
  |true=>
   exfalso;apply hr;simp only[aJ,af,newH,hq,F9]
 have hnb:=yV (Ht.1 hemp).2;have htake:aP S β cs (x.toList.take cs.length):=by
  refine .of_get ?_ fun i y v hy hv=>?_
  ·have hl:=hvs.length;rw[Gl];have:cs.length<=x.size:=by
    rcases GN cs.length with h0|h0
    ·omega
    ·obtain⟨v,hv,_⟩:=hvs.allR (cs.length-1) (by omega)
     have:=hx _ _ hv
     rcases Gp (cs.length-1) x.size with h|h
     ·omega
     ·rw[GL h]at this;simp at this
   simp;omega
  ·obtain⟨u,hu,hur⟩:=hvs.get hy
   have:=hx i u hu
   rw[Gj]at hv;split at hv
   ·rw[Gv,this]at hv;cases hv;exact hur
   ·simp at hv
 obtain⟨ω',F,hnew,_⟩:=H.newH x t htake (fun t ht=>absurd ht (hnb t));have hx0:x.size≠0:=by
  have h1:=htake.length;have h2:=Hw.2 hcs;simp only[Gl,Gs]at h1;omega
 simp only[aJ,af,newH,hemp,Gd,aw];refine After.val hrun (dj.up ⟨_,_,γ,lam,ω',F.setV hd ?_⟩);simp only[VR];exact⟨_,hnew,hx0,rfl⟩
theorem yU(H:FR c N U e h a w S β γ lam ω)(hd:∀t,o.dst=some t->t<N){cs:List AV}{x:Array Value}{t:TypeId}(hvs:aP S β cs x.toList)(hrun:(execOp a.eval o).run P w= .ok (.value (.pointer (some ⟨w.heap.size,0,none⟩))) (w.alloc (.cells x t)))(hr:aJ e o.dst (.dyn (yT t cs) .ofV) h≠.fail):After P c N (UG U gid) (aJ e o.dst (.dyn (yT t cs) .ofV) h) o a w:=absurd rfl hr
omit [Dr]in
theorem tM(hT:TOK P cx.T){t:Nat}{ti:TI}(ht:cx.T t=some ti):∃z:Value,(Instr.alloc t true (.tuple #[])).run P w= .ok (.pointer (some ⟨w.heap.size,0,none⟩)) (w.alloc (.cells z.cells t))/\z.cells.size=ti.size/\
  (∀told,aP S β (cp told ti) z.cells.toList):=by
 obtain⟨i,d,z,hi,hd,hz,hzs,hsz,_⟩:=(hT.get ht).ex;refine⟨z,?_,by omega,fun told=>mr hT ht told hi hz⟩;simp[Instr.alloc,zeroValue,typeInfo,hi,hz,newVar,newRow]
theorem uW(hT:TOK P cx.T)(H:FR c N U e h a w S β γ lam ω)(hd:∀t,o.dst=some t->t<N)(hU:∀g,gid<=g->g<gid+1000->¬U g){t:Nat}(ho:o.op= .alloc t)(hr:aY cx e gid o h≠.fail):
  After P c N (UG U gid) (aY cx e gid o h) o a w:=by
 unfold aY dq at hr |-;rw[ho]at hr |-;simp only at hr |-;cases hdst:o.dst with
 |none=>rw[hdst]at hr;exact absurd rfl hr
 | some s=>
  rw[hdst]at hr;simp only at hr |-;unfold dk at hr |-;cases ht:cx.T t with
  |none=>rw[ht]at hr;exact absurd rfl hr
  | some ti=>
   rw[ht]at hr;simp only at hr |-;obtain⟨z,hrun,hzs,hz⟩:=tM (w:=w) (S:=S) (β:=β) hT ht;have hexec:(execOp a.eval o).run P w= .ok (.value (.pointer (some ⟨w.heap.size,0,none⟩))) (w.alloc (.cells z.cells t)):=by
    simp only[execOp,ho,Sem.run_bind,hrun,Result.andThen_ok,Sem.run_pure]
   have hL:∀A:Act1,A=(bif decide (ti.size<1000)&&aM e.sl (aS s)&&fc (cp true ti) (dh cx.ann.nils s) ti.size then
     .stat { ent:=⟨.loc (aS s) 0,none⟩,ls:=fM (aS s) (cp (dp cx.ann.hb s) ti) (dh cx.ann.nils s) gid ti.size,add:=kC (dh cx.ann.nils s) gid,lb:=some (aS s,ti.size) }else .bad)->
     aJ e (some s) A h≠.fail->After P c N (UG U gid) (aJ e (some s) A h) o a w:=by
    rintro A rfl hr;cases hcond:(decide (ti.size<1000)&&aM e.sl (aS s)&&fc (cp true ti) (dh cx.ann.nils s) ti.size)with
    |false=>rw[hcond]at hr;exact absurd rfl hr
    |true=>
     simp only[F9];simp only[F8,Ge]at hcond;obtain⟨⟨h1,h2⟩,h3⟩:=hcond;obtain⟨lam',ω',F⟩:=H.allocL (s:=s) (n:=ti.size) (gid:=gid) (x:=z.cells) (t:=t) (cs:=cp (dp cx.ann.hb s) ti) (offs:=dh cx.ann.nils s) (hd s hdst) hU h1 (fun i hi=>by
       have hzz:=hz (dp cx.ann.hb s);have hl:=hzz.length;obtain⟨v,v1,v2⟩:=hzz.allR i (by rw[<- hl];simpa [hzs]using hi);exact⟨v,by simpa using v1,v2⟩) (fun i hi=>by
       unfold fc at h3;rw[Gk]at h3
       have:=h3 i hi
       rw[F8]at this;have hn:=p8 this.2;have hlt:i<ti.size:=by simpa using this.1
       have hzz:=hz true;have hl:=hzz.length;obtain⟨v,v1,v2⟩:=hzz.allR i (by rw[<- hl];simpa [hzs]using hlt);rw[hn]at v2;simp only[VR]at v2;subst v2;exact⟨hlt,by simpa using v1⟩) h2
     refine After.val hexec ?_;rw[hdst];exact⟨_,_,_,_,_,F⟩
   cases hk:bA cx.ann.kinds s .L with
   |F=>
    simp only;rw[<- hdst];exact Dc H hd (hz false) (fun j v hj=>by simpa using hj) hexec
   |H=>
    simp only;rw[<- hdst];exact tj H hd (hz _) (fun j v hj=>by simpa using hj) hexec (by rw[hdst];simpa only[hk]using hr)
   |B=>
    simp only;rw[hk]at hr;rw[<- hdst]at hr |-;exact yU H hd (hz _) hexec hr
   |L=>rw[hk]at hr;exact hL _ rfl hr
   |S=>rw[hk]at hr;exact hL _ rfl hr
theorem AR(H:FR c N U e h a w S β γ lam ω)(hd:∀t,o.dst=some t->t<N)(hU:∀g,gid<=g->g<gid+1000->¬U g){t:Nat}{x:Operand}(ho:o.op= .box t x)(hx:∀t,x= .tmp t->t<1000)(hr:aY cx e gid o h≠.fail):
  After P c N (UG U gid) (aY cx e gid o h) o a w:=by
 unfold aY dq at hr |-;rw[ho]at hr |-;simp only at hr |-;cases hdst:o.dst with
 |none=>rw[hdst]at hr;exact absurd rfl hr
 | some s=>
  rw[hdst]at hr;simp only at hr |-;have hv:=aU H x hx;have hexec:(execOp a.eval o).run P w= .ok (.value (.pointer (some ⟨w.heap.size,0,none⟩))) (w.alloc (.cells (a.eval x).cells t)):=by
   simp[execOp,ho,Instr.box,newVar,newRow]
  obtain⟨vs,hvs,hvx⟩:=hv.acells
  have hL:∀A:Act1,A=(match cx.T t with
    |none=>.bad
    | some ti=>bif decide (ti.size<1000)&&aM e.sl (aS s)then
      .dyn (bn ti.size (opnd e x)) fun v=>{ ent:=⟨.loc (aS s) 0,none⟩,ls:=fM (aS s) (ae v) [] 0 ti.size,lb:=some (aS s,ti.size) }
     else .bad)->aJ e (some s) A h≠.fail->After P c N (UG U gid) (aJ e (some s) A h) o a w:=by
   rintro A rfl hr;cases ht:cx.T t with
   |none=>rw[ht]at hr;exact absurd rfl hr
   | some ti=>
    rw[ht]at hr;simp only at hr |-;cases hcond:(decide (ti.size<1000)&&aM e.sl (aS s))with
    |false=>rw[hcond]at hr;exact absurd rfl hr
    | true=>
     rw[hcond]at hr;simp only[F9]at hr |-;simp only[F8,Ge]at hcond;obtain⟨h1,h2⟩:=hcond;unfold bn at hr |-;cases hcs:fG ti.size (opnd e x)with
     |none=>rw[hcs]at hr;exact absurd rfl hr
     | some cs=>
      obtain⟨_,k2,k3,_⟩:=jt hcs hv;obtain⟨lam',ω',F⟩:=H.allocL (s:=s) (n:=ti.size) (gid:=gid) (x:=(a.eval x).cells) (t:=t) (cs:=cs) (offs:=[]) (hd s hdst) hU h1 (fun i hi=>by
       obtain⟨v,v1,v2⟩:=k3.allR i (by rw[<- k3.length];simpa [k2]using hi);exact⟨v,by simpa using v1,v2⟩) (fun i hi=>by simp at hi) h2
      refine After.val hexec ?_;rw[hdst];have hls:fM (aS s) cs [] 0 ti.size=fM (aS s) cs [] gid ti.size:=by simp[fM,dp]
      have hac:ae (.agg cs)=cs:=rfl;simp only[hac,hls];exact⟨_,_,_,_,_,F⟩
  unfold gD at hr |-;cases hk:bA cx.ann.kinds s .F with
  |F=>
   simp only;rw[<- hdst];exact Dc H hd hvs (fun j v hj=>by simpa using hvx j v hj) hexec
  |H=>
   simp only;rw[<- hdst];exact tj H hd hvs (fun j v hj=>by simpa using hvx j v hj) hexec (by rw[hdst];simpa only[hk]using hr)
  |B=>rw[hk]at hr;exact absurd rfl hr
  |L=>rw[hk]at hr;exact hL _ rfl hr
  |S=>rw[hk]at hr;exact hL _ rfl hr
theorem xf(H:FR c N U e h a w S β γ lam ω)(hd:∀t,o.dst=some t->t<N){B b off:Nat}(hlam:lam B=some b)(hrun:(execOp a.eval o).run P w= .ok (.value (.pointer (some ⟨b,off,none⟩))) w):
  After P c N (UG U gid) (.ok (e.upd o.dst { ent:=⟨.loc B off,none⟩ }) h) o a w:=
 After.val hrun (dj.up ⟨S,β,γ,lam,ω,H.set hd (by simp only[dw];exact⟨b,hlam,rfl⟩) (fun _ _ h=>by cases h) (fun _ h=>by cases h)⟩)
theorem od(hT:TOK P cx.T)(H:FR c N U e h a w S β γ lam ω)(hd:∀t,o.dst=some t->t<N){t f:Nat}{x:Operand}(ho:o.op= .fieldAddr t x f)(hx:∀t,x= .tmp t->t<1000)(hr:aY cx e gid o h≠.fail):
  After P c N (UG U gid) (aY cx e gid o h) o a w:=by
 unfold aY dq at hr |-;rw[ho]at hr |-;cases x<;>simp only at hr |- <;> (try exact absurd rfl hr);rename_i p;have hp:=H.slots p (hx p rfl);unfold eA at hr |-;cases hv:(e.get p).v with
 | loc B off=>
  rw[hv]at hr hp;simp only at hr |-;simp only[dw]at hp;obtain⟨b,hlam,hpv⟩:=hp;cases ht:cx.T t with
  |none=>rw[ht]at hr;exact absurd rfl hr
  | some ti=>
   rw[ht]at hr;simp only at hr |-;cases hf:ti.offs[f]? with
   |none=>rw[hf]at hr;exact absurd rfl hr
   | some q=>
    obtain⟨o',ft,nm⟩:=q;rw[hf]at hr;simp only at hr |-;cases hft:cx.T ft with
    |none=>rw[hft]at hr;exact absurd rfl hr
    | some fi=>
     rw[hft]at hr;simp only at hr |-;cases hz:decide (fi.size=0)with
     |true=>rw[hz]at hr;exact absurd rfl hr
     | false=>
      simp only[Gd];have hfa:aa cx.T t (.hp 0 off) f=some (.hp 0 (off+o')):=by
       unfold aa;rw[ht];simp only;rw[hf];simp only;rw[hft];simp only;rw[if_neg (by simpa using hz)]
      obtain⟨v,h1,h2⟩:=iU (P:=P) (w:=w) (S:=S) (β:=[(b,1)]) hT hfa (vx:=.pointer (some ⟨b,off,none⟩)) (by simp[VR]);simp only[VR]at h2;obtain⟨b',hb',_,rfl⟩:=h2;simp only[Gw,F7]at hb';subst hb';refine xf H hd hlam ?_;have he:a.eval (.tmp p)= .pointer (some ⟨b,off,none⟩):=hpv;simp only[execOp,ho,he,Sem.run_bind,h1,Result.andThen_ok,Sem.run_pure]
 |val av=>
  rw[hv]at hr hp;simp only at hr |-;refine cI H hd (m:=Instr.fieldAt t (a.eval (.tmp p)) f) (by simp[execOp,ho]) (fun r hr'=>iU hT hr' hp) hr
theorem ol(hT:TOK P cx.T)(H:FR c N U e h a w S β γ lam ω)(hd:∀t,o.dst=some t->t<N){t:Nat}{x i:Operand}(ho:o.op= .indexAddr t x i)(hx:∀t,x= .tmp t->t<1000)(hi:∀t,i= .tmp t->t<1000)(hr:aY cx e gid o h≠.fail):
  After P c N (UG U gid) (aY cx e gid o h) o a w:=by
 unfold aY dq at hr |-;rw[ho]at hr |-;cases x<;>simp only at hr |- <;> (try exact absurd rfl hr)
 rotate_left
 ·rename_i g;exact cI H hd (m:=Instr.indexAt t (a.eval (.global g)) (a.eval i)) (by simp[execOp,ho]) (fun r hr'=>fK hT hr' (aU H (.global g) (fun t h=>by cases h)) (aU H i hi)) hr
 rename_i p;have hp:=H.slots p (hx p rfl);unfold cn at hr |-;cases hv:(e.get p).v with
 | loc B off=>
  rw[hv]at hr hp;simp only at hr |-;simp only[dw]at hp;obtain⟨b,hlam,hpv⟩:=hp;cases ht:cx.T t with
  |none=>rw[ht]at hr;exact absurd rfl hr
  | some ti=>
   rw[ht]at hr;cases hci:ll i with
   |none=>rw[hci]at hr;exact absurd rfl hr
   |some n=>
   rw[hci]at hr;simp only at hr |-;obtain⟨ik,rfl⟩:∃ik,i= .const (.int ik n):=by
    unfold ll at hci;split at hci
    ·simp only[F7]at hci;subst hci;exact⟨_,rfl⟩
    ·simp at hci
   cases hk:ti.kind<;>rw[hk]at hr<;>simp only at hr |- <;> (try exact absurd rfl hr);rename_i m el;cases hel:cx.T el with
   |none=>rw[hel]at hr;exact absurd rfl hr
   | some ei=>
    rw[hel]at hr;simp only at hr |-;cases hc:decide (0<=n/\n<m)with
    |false=>rw[hc]at hr;exact absurd rfl hr
    | true=>
     simp only[F9];have hia:ay cx.T t (.hp 0 off) (.int ik n)=some (.hp 0 (off+n.toNat*ei.size)):=by
      unfold ay;rw[ht];simp only;rw[hk];simp only;rw[hel];simp only;rw[Gg (by simpa using hc)]
     obtain⟨v,h1,h2⟩:=fK (P:=P) (w:=w) (S:=S) (β:=[(b,1)]) hT hia (vx:=.pointer (some ⟨b,off,none⟩)) (vi:=.int ik n) (by simp[VR]) (by simp[VR]);simp only[VR]at h2;obtain⟨b',hb',_,rfl⟩:=h2;simp only[Gw,F7]at hb';subst hb';refine xf H hd hlam ?_;have he:a.eval (.tmp p)= .pointer (some ⟨b,off,none⟩):=hpv;have hei:a.eval (.const (.int ik n))= .int ik n:=rfl;simp only[execOp,ho,he,hei,Sem.run_bind,h1,Result.andThen_ok,Sem.run_pure]
 |val av=>
  rw[hv]at hr hp;simp only at hr |-;refine cI H hd (m:=Instr.indexAt t (a.eval (.tmp p)) (a.eval i)) (by simp[execOp,ho]) (fun r hr'=>fK hT hr' hp (aU H i hi)) hr
theorem qk(H:FR c N U e h a w S β γ lam ω)(hd:∀t,o.dst=some t->t<N){x:Operand}(ho:o.op= .nilCheck x)(hx:∀t,x= .tmp t->t<1000)(hr:aY cx e gid o h≠.fail):
  After P c N (UG U gid) (aY cx e gid o h) o a w:=by
 unfold aY dq at hr |-;rw[ho]at hr |-;cases x<;>simp only at hr |- <;> (try exact absurd rfl hr);rename_i p;have hp:=H.slots p (hx p rfl);cases hv:(e.get p).v with
 |loc B off=>
  have hp2:=hp;rw[hv]at hr hp;simp only at hr |-;simp only[dw]at hp;obtain⟨b,hlam,hpv⟩:=hp;have he:a.eval (.tmp p)= .pointer (some ⟨b,off,none⟩):=hpv;exact sN H hd (hx p rfl) (by simp[execOp,ho,he,hpv])
 | val av=>
  rw[hv]at hr hp;simp only at hr |-;have he:a.eval (.tmp p)=a.tmps.getD p undef:=rfl;cases hn:jb av with
  |none=>rw[hn]at hr;exact absurd rfl hr
  | some r=>
   have hrun:(execOp a.eval o).run P w= .ok (.value (a.tmps.getD p undef)) w/\r=av:=by
    simp only[dw]at hp;unfold jb at hn;split at hn<;>simp only[F7,reduceCtorEq]at hn<;>subst hn<;>simp only[VR]at hp
    ·obtain⟨b,off,vs,hpv,_⟩:=hp;exact⟨by simp[execOp,ho,he,hpv],rfl⟩
    ·obtain⟨b,hb,hpv⟩:=hp;exact⟨by simp[execOp,ho,he,hpv],rfl⟩
    ·obtain⟨y,hpv,_⟩:=hp;exact⟨by simp[execOp,ho,he,hpv],rfl⟩
    ·obtain⟨y,z,hpv,_⟩:=hp;exact⟨by simp[execOp,ho,he,hpv],rfl⟩
   obtain⟨hrun,rfl⟩:=hrun;exact After.val hrun (dj.up ⟨S,β,γ,lam,ω,H.setV hd hp⟩)
end
end Go.Av
namespace Go.Av
variable [Dr]
section
variable {P:Program} {cx:Cx} {c:Entry} {N:Nat} {U:Nat->Prop} {e:Env} {h:Hp} {a:Act} {w:World} {S:ap} {β:List aZ} {γ:Nat->Value} {lam:Nat->Option Nat} {ω:Nat->Owner} {o:Oper} {gid:Nat}
theorem FR.out'(H:FR c N U e h a w S β γ lam ω){S':ap}{β':List aZ}{w':World}{h':Hp}(L:Left (a8 β h) S β w S' β' w' h'):Out c h' w' S' β':=by
 obtain⟨ω',F,_⟩:=H.left L;exact F.out
theorem iw(hC:bD P cx.own cx.call)(H:FR c N U e h a w S β γ lam ω)(hd:∀t,o.dst=some t->t<N)(hU:∀g,gid<=g->g<gid+1000->¬U g){f:FuncId}{args:List AV}{vs:List Value}(hargs:aP S β args vs)(hrun:(P.funcs[f]?).any (fun fn=>fn.body.isSome&&!(fn.name== "runtime.NumGoroutine"))=true->(execOp a.eval o).run P w= .ok (.enter f vs.toArray) w){sh:AV->Upd}(hsh:(∀v,sh v= .ofV v)\/∃sz,cx.own f=some sz/\∀v,sh v= .own v gid (some sz))(hr:(af (cx.call f args) fun v=>aw (e.upd o.dst (sh v))) h≠.fail):After P c N (UG U gid) ((af (cx.call f args) fun v=>aw (e.upd o.dst (sh v))) h) o a w:=by
 have hne:cx.call f args h≠.fail:=by
  intro hf;unfold af at hr;rw[hf]at hr;exact hr rfl
 obtain⟨hcalls,hfn⟩:=hC f args h S β w vs hne H.gok H.wf H.heapX hargs;have hrun:=hrun hfn;intro next Q hn hp
 unfold Oper.wp;rw[hrun];simp only[Oper.upon];refine hcalls.mono fun en w' hpost=>?_;unfold af at hn hp;cases hres:cx.call f args h with
 |fail=>exact absurd hres hne
 |pan pv h'=>
  rw[hres]at hpost hp;obtain⟨S',β',v,rfl,hv,hleft⟩:=hpost;exact hp pv h' v w' rfl ⟨S',β',H.out' hleft,hv⟩
 | ok rv h'=>
  rw[hres]at hpost hn;obtain⟨S',β',v,rfl,hv,hleft,hown⟩:=hpost;obtain⟨ω',F,hno⟩:=H.left hleft;refine hn (e.upd o.dst (sh rv)) h' _ _ rfl ?_ (put_defers a o.dst v);rcases hsh with hsh|⟨sz,hof,hsh⟩
  ·rw[hsh];exact dj.up ⟨_,_,_,_,_,F.setV hd hv⟩
  ·rw[hsh];obtain⟨ad,len,cap,rfl,h1,h2,h3⟩:=hown sz hof;obtain⟨ω2,F2⟩:=F.own (z:=some sz) hd hv hU (by
    rcases h3 with h3|⟨b,off,x,rfl,g1,g2,g3,g4,g5⟩
    ·subst h3;exact .inl ⟨ad,len,rfl,h2⟩
    ·exact .inr ⟨len,cap,sz,b,off,x,rfl,h1,rfl,g1,g2,hno b g3 g4,G5 H.size g3,g5⟩)
   exact⟨_,_,_,_,ω2,F2⟩
omit [Dr]in
theorem ey{f:FuncId}{args:Array Value}(hf:(P.funcs[f]?).any (fun fn=>fn.body.isSome&&!(fn.name== "runtime.NumGoroutine"))=true):(callFunc f args).run P w= .ok (.enter f args) w:=by
 cases hfn:P.funcs[f]? with
 |none=>rw[hfn]at hf;simp at hf
 |some fn=>
  rw[hfn]at hf;simp only[Option.any_some,F8,GW]at hf;obtain⟨h1,h2⟩:=hf;have h3:fn.body.isNone=false:=by cases hb:fn.body<;>simp_all
  simp only[callFunc,Sem.run_bind,run_program,Result.andThen_ok,hfn,h2,Gq,GH,h3,Sem.run_pure]
omit [Dr]in
theorem m9{z:Option Nat}{g sz:Nat}{v:Value}(hf:jR S w ω g z v)(hz:oN z (some sz)=true):kQ w sz v/\(z=none\/z=some sz):=by
 have hz':z=none\/z=some sz:=by
  unfold oN at hz;cases z with
  |none=>exact .inl rfl
  |some n=>simp only at hz;exact .inr (by rw[Gh hz])
 refine⟨?_,hz'⟩;obtain⟨ad,len,cap,h1,h2,h3,h4⟩:=hf;refine⟨ad,len,cap,h1,h2,h3,h4.imp id ?_⟩;rintro⟨sz',b,off,x,g1,g2,g3,g4,_⟩;rcases hz' with rfl|rfl
 ·cases g1
 ·cases g1;exact⟨b,off,x,g2,g3,g4⟩
omit [Dr]in
theorem vA{T:TT}{t:Nat}{as:List AV}{y r:AV}(h:ew T t (.sl as) y=some r):∃ti e ei bs,T t=some ti/\ti.kind= .slice e/\T e=some ei/\fW y=some bs/\b6 ei.size as=true/\b6 ei.size bs=true/\
  (as.length+bs.length)*ei.bytes<=140737488355328/\0<ei.bytes/\r= .sl (as++bs)/\bW T t=some ei.size/\jl y ei.size=true:=by
 unfold ew at h;cases ht:T t with
 |none=>rw[ht]at h;simp at h
 | some ti=>
  rw[ht]at h;simp only at h;split at h
  ·rename_i e hk;cases he:T e with
   |none=>rw[he]at h;simp at h
   | some ei=>
    rw[he]at h;simp only at h;cases hb:fW y with
    |none=>rw[hb]at h;simp at h
    | some bs=>
     rw[hb]at h;simp only at h;cases hc:(b6 ei.size as&&b6 ei.size bs&&decide ((as.length+bs.length)*ei.bytes<=140737488355328)&&decide (0<ei.bytes)&&jl y ei.size)with
     |false=>rw[hc]at h;simp at h
     |true=>
      rw[hc]at h;simp only[F9,F7]at h;simp only[F8,Ge]at hc;obtain⟨⟨⟨⟨h1,h2⟩,h3⟩,h4⟩,h5⟩:=hc;exact⟨ti,e,ei,bs,rfl,hk,he,rfl,h1,h2,h3,h4,h.symm,by simp[bW,ht,hk,he],h5⟩
  ·simp at h
omit [Dr]in
theorem xO{T:TT}{t:Nat}{x y r:AV}(h:ew T t x y=some r):∃as,x= .sl as:=by
 unfold ew at h;split at h
 ·simp at h
 ·split at h
  ·split at h
   ·simp at h
   ·split at h
    ·exact⟨_,rfl⟩
    ·simp at h
  ·simp at h
omit [Dr]in
theorem nJ{y:AV}{n:Nat}(h:jl y n=true):∀s,y= .str s->n=1:=by
 rintro s rfl;exact Gh h
omit [Dr]in
theorem cT{t u:TypeId}{x y:Operand}{cc:Call}(ho:o.op= .call cc)(hb:cc.callee= .builtin .append)(ht:cc.argTypes.toList=[t,u])(hx:cc.args.toList=[x,y]){v:Value}{w':World}(hrun:(Builtin.append_ #[t,u] o.type #[a.eval x,a.eval y]).run P w= .ok v w'):(execOp a.eval o).run P w= .ok (.value v) w':=by
 have h1:cc.argTypes= #[t,u]:=by apply Hr;simpa using ht
 have h2:cc.args= #[x,y]:=by apply Hr;simpa using hx
 have h3:cc.args.map a.eval= #[a.eval x,a.eval y]:=by rw[h2];simp
 simp only[execOp,ho,resolve,hb,Sem.run_bind,Sem.run_pure,Result.andThen_ok,invoke,builtin,h1,h3,hrun]
omit [Dr]in
theorem kg{ag:Bool}{sz:Nat}(hs:ag=true\/sz=1):∀(n:Nat)(cs:List AV)(vs:List Value),aP S β cs vs->n*sz<=cs.length->(cs.take (n*sz)).all aE=true->cg S β (eV ag sz n cs) (vs.take (n*sz)) sz
 |0,cs,vs,_,_,_=>by rw[HO,Is];exact .nil sz
 | n + 1,cs,vs,hv,hl,hok=>by
  have hm:(n+1)*sz=sz+n*sz:=by rw[GK,Nat.one_mul,Nat.add_comm]
  have hle:sz<=cs.length:=by omega
  have hvl:=hv.length
  have h1:cg S β [bif ag then .agg (cs.take sz)else ah cs 0] (vs.take sz) sz:=by
   have hcl:(vs.take sz).length=sz:=by simp;omega
   have hone:∀(c:AV)(x:Value)(j:Nat),j<sz->cs[j]? = some c->vs[j]? = some x->x.cells= #[x]/\x.oneCell'=true:=fun c x j hj hc hx=>by
    obtain⟨y,hy,hr⟩:=hv.get hc;rw[hx]at hy;cases hy;refine dN (Gk.1 hok c (He (i:=j) ?_)) hr;rw[Gj,Gg (by omega)];exact hc
   have hex:∀(j:Nat)(x:Value),j<sz->vs[j]? = some x->∃c,cs[j]? = some c:=fun j x hj hx=>⟨_,Gm (by omega)⟩;refine⟨by rw[hcl];simp,fun i e he=>?_,fun x hx=>?_⟩
   ·cases i with
    |succ i=>simp at he
    | zero=>
     simp only[Gw,F7]at he;subst he;cases ag with
     |true=>
      refine⟨.agg (vs.take sz).toArray,by simp only[F9,VR];exact⟨_,rfl,hv.take sz⟩,by simp[Value.cells];omega,fun j x hx=>?_⟩;simpa [Value.cells]using hx
     | false=>
      rcases hs with hs|hs
      ·cases hs
      ·subst hs;have hc0:cs[0]? = some (ah cs 0):=by
        unfold ah;rw[Gm (by omega),GG,Gm (by omega)];rfl
       obtain⟨y,hy,hr⟩:=hv.get hc0;have ho:=hone _ y 0 (by omega) hc0 hy;refine⟨y,hr,by rw[ho.1];rfl,fun j x hx=>?_⟩;rw[ho.1]at hx;cases j with
       |succ j=>simp at hx
       |zero=>
        simp only[G2,Gw,F7]at hx;subst hx;simp only[HO,GE,G2];rw[Gj,Gg (by omega)];exact hy
   ·obtain⟨j,hj⟩:=Ik hx;rw[Gj]at hj;split at hj
    ·rename_i hlt;obtain⟨c,hc⟩:=hex j x hlt hj;exact (hone c x j hlt hc hj).2
    ·simp at hj
  have h2:=kg hs n (cs.drop sz) (vs.drop sz) (hv.drop sz) (by simp;omega) (by
   rw[Gk]at hok |-;intro x hx;obtain⟨j,hj⟩:=Ik hx;rw[Gj]at hj;split at hj
   ·rename_i hlt;rw[GR]at hj;refine hok x (He (i:=sz+j) ?_);rw[Gj,Gg (by omega)];exact hj
   ·simp at hj)
  have:=h1.append h2
  rw[hm,List.take_add];exact this
def oW(P:Program)(S:ap)(β:List aZ)(w:World)(v:Value)(Y:AV):Prop:=
 ∀(sz:Nat)(bs:List AV),fW Y=some bs->b6 sz bs=true->(∀s,Y= .str s->sz=1)->(Builtin.lenOf v).run P w= .ok bs.length w/\∃cs:List Value,cg S β bs cs sz/\
  ∀w':World,(∀a:Addr,w'.cell? a=w.cell? a)->(Builtin.firstCells sz bs.length v).run P w'= .ok cs.toArray w'
omit [Dr]in
theorem jk{Y:AV}{v:Value}(hw:Wf S w)(hv:VR S β Y v):oW P S β w v Y:=fun sz bs he hok hs=>by
 obtain⟨h1,cs,h2,h3⟩:=src_ok (P:=P) hw he hv hok hs;exact⟨h1,cs,h2,fun w' hw'=>h3 w' fun b o x hx=>by rw[hw'];exact hw b o x hx⟩
omit [Dr]in
theorem lh(ag:Bool)(sz:Nat):∀(n:Nat)(cs:List AV),(eV ag sz n cs).length=n
 |0,_=>rfl
 |n+1,cs=>by simp[eV,lh ag sz n]
theorem mb(H:FR c N U e h a w S β γ lam ω){Y:AV}{v:Value}{es:List AV}(hv:VR S β Y v)(hsrc:mJ h Y=some es):oW P S β w v (.sl es):=fun sz' bs he hok _=>by
 simp only[fW,F7]at he;subst he;unfold mJ at hsrc;split at hsrc
 ·rename_i l off len sz ag;cases hcs:h[l]? with
  |none=>rw[hcs]at hsrc;cases hsrc
  | some cs=>
   rw[hcs]at hsrc;simp only at hsrc;cases hb:((ag||Nat.beq sz 1)&&decide (off+len*sz<=cs.length)&&((cs.drop off).take (len*sz)).all aE)with
   |false=>rw[hb]at hsrc;cases hsrc
   | true =>
    rw[hb]at hsrc;simp only[F9,F7]at hsrc;subst hsrc;simp only[F8,Ge,G9]at hb;obtain⟨⟨h1,h2⟩,h3⟩:=hb;have hag:ag=true\/sz=1:=h1.imp id Gh;rw[lh];rcases GN len with rfl|h0
    ·obtain⟨q,cap,rfl,_⟩:=hv.hs_some;exact⟨rfl,[],by simp only[eV];exact .nil sz',fun w' _=>run_firstCells_some w' sz' 0 q 0 cap [] (by simp) fun j x hx=>by simp at hx⟩
    ·obtain⟨⟨b',nb⟩,cap,hβ,hb0,rfl,hlc,hcn⟩:=hv.hs_pos h0;have hne:cs≠[]\/sz=0:=by
      rcases GN sz with hz|hz
      ·exact .inr hz
      ·refine .inl ?_;rintro rfl
       have:=HL h0 hz
       simp at h2;omega
     -- the size of an element is that of the slice
     have hsz:sz'=sz:=by
      have hall:=Gk.1 hok (bif ag then .agg ((cs.drop off).take sz)else ah (cs.drop off) 0) (by
       cases len with
       |zero=>omega
       |succ n=>simp[eV])
      simp only[bo,F8,GU]at hall;have hsa:=hall.1;have hle:sz<=(cs.drop off).length:=by
       have:1*sz<=len*sz:=Gr _ h0;simp;omega
      cases ag with
      |true=>
       simp only[F9,bP,F7,Gl]at hsa;omega
      | false=>
       rcases hag with hag|hag
       ·cases hag
       ·subst hag;simp only[Gd]at hsa;have hc0:(cs.drop off)[0]? = some (ah (cs.drop off) 0):=by
         unfold ah;rw[Gm (by omega),GG,Gm (by omega)];rfl
        have hoc:=Gk.1 h3 (ah (cs.drop off) 0) (He (i:=0) (by rw[Gj,Gg (by omega)];exact hc0));generalize ah (cs.drop off) 0=q at hsa hoc;cases q<;>simp[aE,bP]at hsa hoc<;>omega
     subst hsz;rcases hne with hne|hz
     ·obtain⟨z,j1,j2,j3,j4,j5⟩:=H.heap.cells hcs hne hβ hb0;rw[hβ]at j1;cases j1;have hzl:cs.length<=z.size:=by have:=j4.length;simp at this;omega
      have j6:aP S β (cs.drop off) ((z.toList.take cs.length).drop off):=j4.drop off;have hF:=kg hag len (cs.drop off) _ j6 (by simp;omega) h3;refine⟨rfl,_,hF,fun w' hw'=>?_⟩;refine run_firstCells_some w' sz' len ⟨b',off,none⟩ len cap _ (by simp;omega) fun j q hq=>?_;rw[addr_add,hw',j2.cell];rw[Gj]at hq;split at hq
      ·rw[GR,Gj]at hq;split at hq
       ·simpa using hq
       ·simp at hq
      ·simp at hq
     ·subst hz;rcases hag with rfl|hag
      ·have hall:∀n cs,cg S β (eV true 0 n cs) [] 0:=by
        intro n
        induction n with
        |zero=>intro cs;exact .nil 0
        | succ n ih=>
         intro cs;have:cg S β [AV.agg (cs.take 0)] [] 0:=⟨by simp,fun i e he=>by
          cases i with
          |zero=>
           simp only[Gw,F7]at he;subst he;exact⟨.agg #[],by simp only[VR,Is];exact⟨[],rfl,by simp[aP]⟩,rfl,fun j x hx=>by simp[Value.cells]at hx⟩
          |succ i=>simp at he,fun x hx=>by simp at hx⟩
         exact this.append (ih _)
       exact⟨rfl,[],hall _ _,fun w' _=>run_firstCells_some w' 0 len _ len cap [] (by simp) fun j x hx=>by simp at hx⟩
      ·omega
 ·cases hsrc;exact jk (P:=P) H.wf hv sz' [] rfl hok (fun s h=>by cases h)
 ·cases hsrc;exact jk (P:=P) H.wf hv sz' _ rfl hok (fun s h=>by cases h)
 ·cases hsrc
theorem mP(hT:TOK P cx.T)(H:FR c N U e h a w S β γ lam ω)(hd:∀t,o.dst=some t->t<N)(hU:∀g,gid<=g->g<gid+1000->¬U g){t u:TypeId}{x y:Operand}{cc:Call}(ho:o.op= .call cc)(hb:cc.callee= .builtin .append)(hts:cc.argTypes.toList=[t,u])(hxs:cc.args.toList=[x,y])(hu:ep cx.T u=true){as:List AV}{vx:Value}{g0:Option Nat}{r Y:AV}(hav:a.eval x=vx)(hx:VR S β (.sl as) vx)(hfree:(g0=none/\vx= .slice none 0 0)\/∃g z,g0=some g/\jR S w ω g z vx/\oN z (bW cx.T t)=true)(happ:ew cx.T t (.sl as) Y=some r)(hsrc:oW P S β w (a.eval y) Y):
  After P c N (UG U gid) (.ok (e.upd o.dst { Upd.own r gid (bW cx.T t)with drop:=g0 }) h) o a w:=by
 obtain⟨ti,el,ei,bs,ht,hk,hei,hels,hoa,hob,hby,hb0,rfl,hes,hstr⟩:=vA happ;rw[hes]at hfree |-;have hroom:kQ w ei.size vx:=by
  rcases hfree with⟨_,rfl⟩|⟨g,z,_,hf,hz⟩
  ·exact⟨none,0,0,rfl,Ga _,fun _=>rfl,.inl rfl⟩
  ·exact (m9 hf hz).1
 obtain⟨hlen,cs,hflat,hfirst⟩:=hsrc ei.size bs hels hob (nJ hstr);obtain⟨v,w',hrun,hA⟩:=qY (ty:=o.type) hT H.wf ht hk hei hu hx hlen hflat hfirst hoa hby hb0 hroom;have hfr2:∃z,((g0=none/\vx= .slice none 0 0)\/∃g,g0=some g/\jR S w ω g z vx)/\(z=none\/z=some ei.size):=by
  rcases hfree with h1|⟨g,z,h1,hf,hz⟩
  ·exact⟨none,.inl h1,.inl rfl⟩
  ·exact⟨z,.inr ⟨g,h1,hf⟩,(m9 hf hz).2⟩
 obtain⟨z,hf2,hz2⟩:=hfr2;obtain⟨S',ω',F⟩:=H.app hd hU hx hoa hf2 hz2 hA;exact After.val (cT ho hb hts hxs (by rw[hav];exact hrun)) ⟨_,_,_,_,_,F⟩
end
end Go.Av
namespace Go.Av
variable [Dr]
section
variable {P:Program} {cx:Cx} {c:Entry} {N:Nat} {U:Nat->Prop} {e:Env} {h:Hp} {a:Act} {w:World} {S:ap} {β:List aZ} {γ:Nat->Value} {lam:Nat->Option Nat} {ω:Nat->Owner} {o:Oper} {gid:Nat}
omit [Dr]in
theorem iB{sz:Nat}{x:Array Value}:(es:List AV)->(off:Nat)->(∀(i:Nat)(e:AV),es[i]? = some e->∃v,VR S β e v/\v.cells.size=sz/\∀(j:Nat)(y:Value),v.cells[j]? = some y->x[off+i*sz+j]? = some y)->
  b6 sz es=true->(es.flatMap ae).length=es.length*sz/\aP S β (es.flatMap ae) ((x.toList.drop off).take (es.length*sz))
 |[],off,_,_=>by simp[aP]
 | e:: es,off,hh,hok=>by
  simp only[b6,GO,F8]at hok;obtain⟨v,v1,v2,v3⟩:=hh 0 e (by simp);obtain⟨k1,k2,k3⟩:=dC hok.1 v1;obtain⟨h1,h2⟩:=iB es (off+sz) (fun i e' he=>by
   obtain⟨u,u1,u2,u3⟩:=hh (i+1) e' (by simpa using he);exact⟨u,u1,u2,fun j y hy=>by
    have:=u3 j y hy
    rwa [show off+(i+1)*sz+j=off+sz+i*sz+j by rw[GK];omega]at this⟩) hok.2
  have hacl:(ae e).length=sz:=by rw[<- k2.length];simpa using k1
  refine⟨by simp[h1,hacl,GK];omega,?_⟩;have hfirst:(x.toList.drop off).take sz=v.cells.toList:=by
   apply List.ext_getElem?;intro j;rw[Gj];split
   ·rename_i hj;rw[GR,Gv,Gv];have:j<v.cells.size:=by omega
    have hv:=v3 j v.cells[j] (GT this);simp only[HO,G4]at hv;rw[hv,GT this]
   ·rename_i hj;rw[Gi];simp;omega
  have hsplit:(x.toList.drop off).take ((e:: es).length*sz)=v.cells.toList++(x.toList.drop (off+sz)).take (es.length*sz):=by
   rw[<- hfirst,Gu,GK,Nat.one_mul,Nat.add_comm (es.length*sz) sz,List.take_add,IX]
  rw[hsplit,H8];exact k2.append h2
inductive AppRaw (w:World) (el sz n0 n:Nat) (olds news:List Value) (vx:Value):Value->World->Prop where
 |same (h:n=0):AppRaw w el sz n0 n olds news vx vx w
 | place (b off cap:Nat) (x:Array Value) (hv:vx= .slice (some ⟨b,off,none⟩) n0 cap) (hr:Row w b x) (hlt:n0+n<=cap) (hc:off+cap*sz<=x.size) (hn:n≠0):
   AppRaw w el sz n0 n olds news vx (.slice (some ⟨b,off,none⟩) (n0+n) cap)
    (w.setRow b (x.toList.take (off+n0*sz)++news++x.toList.drop (off+n0*sz+news.length)).toArray)
 | fresh (x:Array Value) (e cap:Nat) (hlt:n0+n<=cap) (hc:x.size=cap*sz) (hr:∀(i:Nat)(y:Value),(olds++news)[i]? = some y->x[i]? = some y) (hn:n≠0) (he:e=el):
   AppRaw w el sz n0 n olds news vx (.slice (some ⟨w.heap.size,0,none⟩) (n0+n) cap) (w.drew.alloc (.cells x e))
omit [Dr]in
theorem dK{T:TT}(hT:TOK P T){t u e ty:Nat}{ti ei:TI}{n0 n:Nat}{olds news:List Value}{vx vy:Value}(ht:T t=some ti)(hk:ti.kind= .slice e)(hei:T e=some ei)(hu:ep T u=true)(hvx:∃a cap,vx= .slice a n0 cap)(hlen:(Builtin.lenOf vy).run P w= .ok n w)(hfirst:∀w':World,(∀a:Addr,w'.cell? a=w.cell? a)->(Builtin.firstCells ei.size n vy).run P w'= .ok news.toArray w')(hold:∀w':World,(∀a:Addr,w'.cell? a=w.cell? a)->(Builtin.firstCells ei.size n0 vx).run P w'= .ok olds.toArray w')(hol:olds.length=n0*ei.size)(hnl:news.length=n*ei.size)(hone:∀x∈news,x.oneCell'=true)(hby:(n0+n)*ei.bytes<=140737488355328)(hb0:0<ei.bytes)(hroom:kQ w ei.size vx):
  ∃v w',(Builtin.append_ #[t,u] ty #[vx,vy]).run P w= .ok v w'/\AppRaw w e ei.size n0 n olds news vx v w':=by
 obtain⟨_,d,_,_,hd,_,_,_,_,hkd,_⟩:=(hT.get ht).ex;have hd':d= .slice e:=by cases d<;>simp_all[kindOf]
 subst hd';obtain⟨ii,_,zz,hii,_,hzz,hzs,hsz,hbb,_⟩:=(hT.get hei).ex;have hz:∃du,P.underlying u=some du/\((∃e',du= .slice e')\/du= .string):=by
  unfold ep at hu;split at hu
  ·rename_i tu htu;obtain⟨_,du,_,_,hdu,_,_,_,_,hku,_⟩:=(hT.get htu).ex;refine⟨du,hdu,?_⟩;split at hu
   ·rename_i e' hk';exact .inl ⟨e',by cases du<;>simp_all[kindOf]⟩
   ·exact .inr (by cases du<;>simp_all[kindOf])
   ·simp at hu
  ·simp at hu
 obtain⟨du,hdu,hduk⟩:=hz;obtain⟨a,len,cap,rfl,hlc,hnone,hspare⟩:=hroom;obtain⟨a',cap',he⟩:=hvx;simp only[Value.slice.injEq]at he;obtain⟨rfl,rfl,rfl⟩:=he;by_cases hfit:len+n<=cap
 ·by_cases hn0:n=0
  ·subst hn0;refine⟨.slice a len cap,w,?_,.same rfl⟩;have hns:news=[]:=Gz (by simpa using hnl);subst hns;have hf:(Builtin.firstCells ei.size 0 vy).run P w= .ok #[] w:=by simpa using hfirst w (fun _=>rfl)
   rcases hduk with⟨e',rfl⟩|rfl<;>cases a <;>
    simp[Builtin.append_,run_underlying hd,run_underlying hdu,sizeOf,typeInfo,hii,hsz,hlen,hlc,hf,storeCells]
  ·rcases hspare with hsp|⟨b,off,x,rfl,⟨ce,hrow⟩,hcap⟩
   ·omega
   ·refine⟨_,_,?_,.place b off cap x rfl ⟨ce,hrow⟩ hfit hcap hn0⟩;have hf:=hfirst w (fun _=>rfl);have hle:(len+n)*ei.size<=cap*ei.size:=Gr _ hfit;rw[GK]at hle;have hst:=run_storeCells_at P b (off+len*ei.size) ce news 0 x w hrow (by omega) hone;simp only[G4]at hst;rcases hduk with⟨e',rfl⟩|rfl <;>
     simp[Builtin.append_,run_underlying hd,run_underlying hdu,sizeOf,typeInfo,hii,hsz,hlen,hfit,hf,addr_add,hst]
 ·have hne:n≠0:=by rintro rfl;omega
  have hgt:cap<len+n:=by omega
  have h63:¬(9223372036854775807<((len:Int)+(n:Int))):=by
   have:=G5 (IM (len+n) hb0) hby
   omega
  have hfit48:=growslice_fits hgt hby;have h48:¬(281474976710656<Builtin.nextslicecap (len+n) cap*ei.bytes):=by omega
  have hb0':ei.bytes≠0:=by omega
  have hof:=hold w.drew (fun a=>World.cell?_drew ..);have hf:=hfirst w.drew (fun a=>World.cell?_drew ..);have hcapn:len+n<=grownCap w (len+n) cap e:=Nat.le_add_right _ _;have hzcs:(Builtin.zeroCells zz.cells (grownCap w (len+n) cap e-(len+n))).size=(grownCap w (len+n) cap e-(len+n))*ei.size:=by
   rw[size_zeroCells,hzs,hsz]
  refine⟨_,_,?_,.fresh ((olds++news).toArray++Builtin.zeroCells zz.cells (grownCap w (len+n) cap e-(len+n))) e (grownCap w (len+n) cap e) hcapn ?_ ?_ hne rfl⟩
  ·rcases hduk with⟨e',rfl⟩|rfl <;>
    (simp[Builtin.append_,run_underlying hd,run_underlying hdu,sizeOf,typeInfo,zeroValue,hii,hsz,hzz,hlen,hfit,hbb,h48,hb0',Question.forced,hf,hof,newRow,grownCap]
     congr 2;apply Hr;simp)
  ·rw[Array.size_append,hzcs];simp only[Hm,Gf,hol,hnl];rw[<- GK,<- GK];congr 1;omega
  ·intro i y hy;rw[Array.getElem?_append];split
   ·simpa using hy
   ·rename_i hlt;rw[Gi (by simpa using hlt)]at hy;simp at hy
end
end Go.Av
namespace Go.Av
variable [Dr]
section
variable {P:Program} {cx:Cx} {c:Entry} {N:Nat} {U:Nat->Prop} {e:Env} {h:Hp} {a:Act} {w:World} {S:ap} {β:List aZ} {γ:Nat->Value} {lam:Nat->Option Nat} {ω:Nat->Owner} {o:Oper} {gid:Nat}
omit [Dr]in
theorem kB{es:List AV}{cs:List Value}{sz:Nat}(hf:cg S β es cs sz)(hok:b6 sz es=true):(es.flatMap ae).length=es.length*sz/\aP S β (es.flatMap ae) cs:=by
 obtain⟨h1,h2,_⟩:=hf;obtain⟨g1,g2⟩:=iB (x:=cs.toArray) es 0 (fun i e he=>by
  obtain⟨v,v1,v2,v3⟩:=h2 i e he;exact⟨v,v1,v2,fun j y hy=>by rw[GE];exact v3 j y hy⟩) hok
 refine⟨g1,?_⟩;have:(cs.toArray.toList.drop 0).take (es.length*sz)=cs:=by simp[<- h1]
 rw[this]at g2;exact g2
theorem tU(hT:TOK P cx.T)(H:FR c N U e h a w S β γ lam ω)(hd:∀t,o.dst=some t->t<N){t n:Nat}{ps:Array (Nat×Operand)}(ho:o.op= .buildSlice t n ps)(ht:∀p∈ps.toList,∀t,p.2= .tmp t->t<1000)(hr:aJ e o.dst (.dyn (fF cx.T t n (ps.toList.map fun p=>(p.1,opnd e p.2))) .ofV) h≠.fail):
  After P c N (UG U gid) (aJ e o.dst (.dyn (fF cx.T t n (ps.toList.map fun p=>(p.1,opnd e p.2))) .ofV) h) o a w:=by
 simp only[aJ,af,aw]at hr |-;unfold fF at hr |-;cases hb:bm cx.T t n (ps.toList.map fun p=>(p.1,opnd e p.2))with
 |none=>rw[hb]at hr;exact absurd rfl hr
 | some r=>
  obtain⟨es,x,el,sz,rfl,hlen,hrow,hrun⟩:=ic (w:=w) (qs:=ps.map fun p=>(p.1,a.eval p.2)) hT hb (by simpa using gW H ps.toList ht);rw[hb]at hr;simp only at hr |-;cases htt:cx.T t with
  |none=>rw[htt]at hr;exact absurd rfl hr
  | some ti=>
   rw[htt]at hr;simp only at hr |-;cases hk:ti.kind<;>rw[hk]at hr<;>simp only at hr |- <;> (try exact absurd rfl hr);rename_i e';cases hei:cx.T e' with
   |none=>rw[hei]at hr;exact absurd rfl hr
   | some ei=>
    rw[hei]at hr;simp only at hr |-;cases hc:(b6 ei.size es&&decide (0<ei.size)&&decide (0<n))with
    |false=>rw[hc]at hr;exact absurd rfl hr
    | true=>
     simp only[F9];simp only[F8,Ge]at hc;obtain⟨⟨h1,h2⟩,h3⟩:=hc;have hsz:sz=ei.size:=by
      obtain⟨v,v1,v2,_⟩:=hrow 0 es[0] (Gm (by omega))
      have:=(dC (Gk.1 h1 es[0] (GC (by omega))) v1).1
      omega
     subst hsz;obtain⟨g1,g2⟩:=iB (x:=x) es 0 (fun i e he=>by
      obtain⟨v,v1,v2,v3⟩:=hrow i e he;exact⟨v,v1,v2,fun j y hy=>by rw[GE];exact v3 j y hy⟩) h1
     rw[It,<- g1]at g2;have hle:n*ei.size<=x.size:=by
      have:=g2.length
      simp only[Gl,g1,hlen,Gs]at this;omega
     have hex:(execOp a.eval o).run P w= .ok (.value (.slice (some ⟨w.heap.size,0,none⟩) n n)) (w.alloc (.cells x el)):=by
      simp only[execOp,ho,Sem.run_bind,hrun,Result.andThen_ok,Sem.run_pure]
     obtain⟨ω',F,hnew,hext⟩:=H.newH x el g2 (fun t ht=>absurd ht (fq h1 t));refine After.val hex (dj.up ⟨_,_,γ,lam,ω',F.setV hd ?_⟩);simp only[VR];have hx0:x.size≠0:=by
      have:=HL h3 h2
      omega
     exact .inl ⟨(w.heap.size,x.size),n,hnew,hx0,rfl,Ga _,by simpa using hle⟩
theorem wK(hT:TOK P cx.T)(H:FR c N U e h a w S β γ lam ω)(hd:∀t,o.dst=some t->t<N){t:Nat}{l k:Operand}(ho:o.op= .makeSlice t l k)(hl:∀t,l= .tmp t->t<1000)(hk:∀t,k= .tmp t->t<1000)(hr:aJ e o.dst (.dyn (tf cx.T t (opnd e l) (opnd e k)) .ofV) h≠.fail):
  After P c N (UG U gid) (aJ e o.dst (.dyn (tf cx.T t (opnd e l) (opnd e k)) .ofV) h) o a w:=absurd rfl hr
theorem xR(hT:TOK P cx.T)(H:FR c N U e h a w S β γ lam ω)(hd:∀t,o.dst=some t->t<N){t u:TypeId}{x y:Operand}{cc:Call}(ho:o.op= .call cc)(hb:cc.callee= .builtin .append)(hts:cc.argTypes.toList=[t,u])(hxs:cc.args.toList=[x,y])(hx:∀t,x= .tmp t->t<1000)(hy:∀t,y= .tmp t->t<1000)(hu:ep cx.T u=true)(hr:aJ e o.dst (.dyn (appH cx.T t (ez e x) (opnd e x) (opnd e y)) .ofV) h≠.fail):After P c N (UG U gid) (aJ e o.dst (.dyn (appH cx.T t (ez e x) (opnd e x) (opnd e y)) .ofV) h) o a w:=by
 have hvx:=aU H x hx;have hvy:=aU H y hy;simp only[aJ,af,aw]at hr |-
 have hz:ez e x=true->opnd e x= .sl []->∃a0,a.eval x= .slice a0 0 0:=by
  intro hz hX;unfold ez at hz;split at hz
  ·rename_i s;have hs1:=hx s rfl;have hs2:=H.slots s hs1;split at hz
   ·rename_i g hg;split at hz
    ·rename_i hal;obtain⟨a0,len,cap,e1,e2,e3,e4⟩:=H.free g none hal;have e5:=H.grps s g none hs1 hg hal;have e6:a.eval (.tmp s)=γ g:=e5;rw[hX]at hvx;simp only[VR]at hvx;obtain⟨a1,cap1,f1,f2,f3,_⟩:=hvx;rw[e6,e1]at f1;cases f1;rcases e4 with e4|⟨sz,_,_,_,e4,_⟩
     ·simp only[GM]at e4;subst e4;exact⟨a0,by rw[e6,e1];rfl⟩
     ·cases e4
    ·cases hz
   ·cases hz
  ·cases hz
 generalize ez e x=zz at hr hz |-;generalize hX:opnd e x=X at hr hvx hz |-;unfold appH at hr |-;cases ht:cx.T t with
 |none=>rw[ht]at hr;exact absurd rfl hr
 | some ti =>
  rw[ht]at hr;simp only at hr |-;cases hk:ti.kind<;>rw[hk]at hr<;>simp only at hr |- <;> (try exact absurd rfl hr);rename_i el;cases hei:cx.T el with
  |none=>rw[hei]at hr;exact absurd rfl hr
  | some ei =>
   rw[hei]at hr;simp only at hr |-;cases hels:fW (opnd e y)with
   |none=>rw[hels]at hr;exact absurd rfl hr
   | some bs =>
    rw[hels]at hr;simp only at hr |-;cases hc:(b6 ei.size bs&&decide (0<ei.bytes)&&decide (0<ei.size)&&jl (opnd e y) ei.size)with
    |false=>rw[hc]at hr;exact absurd rfl hr
    | true =>
     rw[hc]at hr;simp only[F9]at hr |-;simp only[F8,Ge]at hc;obtain⟨⟨⟨h1,h2⟩,h3⟩,h4⟩:=hc;obtain⟨hlen,news,hflat,hfirst⟩:=src_ok (P:=P) H.wf hels hvy h1 (nJ h4);obtain⟨hfl,hfv⟩:=kB hflat h1;have hfirst':∀w':World,(∀a:Addr,w'.cell? a=w.cell? a)->(Builtin.firstCells ei.size bs.length (a.eval y)).run P w'= .ok news.toArray w':=fun w' hw'=>
      hfirst w' (fun b o x hx=>by rw[hw'];exact H.wf b o x hx)
     have hna:ei.agg=false->ei.size=1:=by
      intro hag;obtain⟨ii,_,zz,_,_,_,hzs,hsz,_,_,_,_,_,_,_,hnn⟩:=(hT.get hei).ex;have hz1:zz.cells.size=1:=by cases zz<;>first|rfl|exact absurd rfl (hnn hag _)
      omega
     by_cases hXs:X= .sl []/\zz=true
     ·obtain⟨rfl,hzz⟩:=hXs;subst hzz;simp only[F9]at hr |-;obtain⟨a0,hvx0⟩:=hz rfl rfl;have hvr:=hvx
      replace hvx:=hvx0
      cases hbe:bs.isEmpty with
      | true=>
       have hbs:bs=[]:=by simpa using hbe
       subst hbs;simp only[F9];obtain⟨v,w',hrun,hA⟩:=dK (ty:=o.type) hT ht hk hei hu (n0:=0) (olds:=[]) ⟨a0,0,hvx⟩ hlen hfirst' (fun w' _=>by rw[hvx];cases a0 with|none=>simp[Builtin.firstCells]|some q=>exact run_firstCells_some w' _ 0 q 0 0 [] (by simp) (fun j x hx=>by simp at hx)) (by simp) hflat.1 hflat.2.2 (by simp) h2
        (by rw[hvx];exact⟨a0,0,0,rfl,Ga _,fun _=>rfl,.inl rfl⟩)
       cases hA with
       |same _=>
        exact After.val (cT ho hb hts hxs hrun) (dj.up ⟨S,β,γ,lam,ω,H.setV hd hvr⟩)
       |place _ _ _ _ _ _ _ _ hn=>exact absurd rfl hn
       |fresh _ _ _ _ _ _ hn=>exact absurd rfl hn
      | false=>
       rw[hbe]at hr;simp only[Gd]at hr |-;cases hby:decide (bs.length*ei.bytes<=140737488355328)with
       |false=>rw[hby]at hr;exact absurd rfl hr
       | true=>
        simp only[F9];have hne:bs.length≠0:=by
         intro h0
         have:=Gz h0
         subst this;simp at hbe
        obtain⟨v,w',hrun,hA⟩:=dK (ty:=o.type) hT ht hk hei hu (n0:=0) (olds:=[]) ⟨a0,0,hvx⟩ hlen hfirst' (fun w' _=>by rw[hvx];cases a0 with|none=>simp[Builtin.firstCells]|some q=>exact run_firstCells_some w' _ 0 q 0 0 [] (by simp) (fun j x hx=>by simp at hx)) (by simp) hflat.1 hflat.2.2 (by simpa using hby) h2
         (by rw[hvx];exact⟨a0,0,0,rfl,Ga _,fun _=>rfl,.inl rfl⟩)
        cases hA with
        |same h0=>exact absurd h0 hne
        |place b off cap z hv _ hlt _ _=>rw[hvx]at hv;cases hv;omega
        | fresh z te cap hlt hzc hzr hn=>
         obtain⟨ω',F,hnew,hext⟩:=(H.drew).newH z te (cs:=bs.flatMap ae) (by
          refine .of_get ?_ fun i q v hq hv=>?_
          ·have:bs.length*ei.size<=cap*ei.size:=Gr _ (by omega);rw[Gl];apply Hu;have hz':z.toList.length=cap*ei.size:=by simpa using hzc
           have hfl':(bs.flatMap ae).length=bs.length*ei.size:=hfl;rw[hz',hfl'];exact this
          ·obtain⟨v',h1',h2'⟩:=hfv.get hq
           have:=hzr i v' (by simpa using h1')
           rw[Gj]at hv;split at hv
           ·rw[Gv,this]at hv;cases hv;exact h2'
           ·simp at hv) (fun t ht=>absurd ht (fq h1 t))
         have hnew':(β++[(w.drew.heap.size,z.size)])[h.length]? = some (w.heap.size,z.size):=hnew;refine After.val (cT ho hb hts hxs hrun) (dj.up ⟨_,_,γ,lam,ω',F.setV hd ?_⟩);simp only[VR];have hz0:z.size≠0:=by
          have:0<cap*ei.size:=HL (by omega) h3;omega
         exact .inl ⟨(w.heap.size,z.size),cap,hnew',hz0,by simp,by omega,by simp[hzc]⟩
     by_cases hXn:X= .hn
     ·subst hXn;simp only at hr |-;simp only[VR]at hvx;cases hbe:bs.isEmpty with
      | true=>
       have hbs:bs=[]:=by simpa using hbe
       subst hbs;simp only[F9];obtain⟨v,w',hrun,hA⟩:=dK (ty:=o.type) hT ht hk hei hu (n0:=0) (olds:=[]) ⟨none,0,hvx⟩ hlen hfirst' (fun w' _=>by rw[hvx];simp[Builtin.firstCells]) (by simp) hflat.1 hflat.2.2 (by simp) h2
        (by rw[hvx];exact⟨none,0,0,rfl,Ga _,fun _=>rfl,.inl rfl⟩)
       cases hA with
       |same _=>
        exact After.val (cT ho hb hts hxs hrun) (dj.up ⟨S,β,γ,lam,ω,H.setV hd (by simp only[VR];exact hvx)⟩)
       |place _ _ _ _ _ _ _ _ hn=>exact absurd rfl hn
       |fresh _ _ _ _ _ _ hn=>exact absurd rfl hn
      | false=>
       rw[hbe]at hr;simp only[Gd]at hr |-;cases hby:decide (bs.length*ei.bytes<=140737488355328)with
       |false=>rw[hby]at hr;exact absurd rfl hr
       | true=>
        simp only[F9];have hne:bs.length≠0:=by
         intro h0
         have:=Gz h0
         subst this;simp at hbe
        obtain⟨v,w',hrun,hA⟩:=dK (ty:=o.type) hT ht hk hei hu (n0:=0) (olds:=[]) ⟨none,0,hvx⟩ hlen hfirst' (fun w' _=>by rw[hvx];simp[Builtin.firstCells]) (by simp) hflat.1 hflat.2.2 (by simpa using hby) h2
         (by rw[hvx];exact⟨none,0,0,rfl,Ga _,fun _=>rfl,.inl rfl⟩)
        cases hA with
        |same h0=>exact absurd h0 hne
        |place b off cap z hv _ _ _ _=>rw[hvx]at hv;cases hv
        | fresh z te cap hlt hzc hzr hn=>
         obtain⟨ω',F,hnew,hext⟩:=(H.drew).newH z te (cs:=bs.flatMap ae) (by
          refine .of_get ?_ fun i q v hq hv=>?_
          ·have:bs.length*ei.size<=cap*ei.size:=Gr _ (by omega);rw[Gl];apply Hu;have hz':z.toList.length=cap*ei.size:=by simpa using hzc
           have hfl':(bs.flatMap ae).length=bs.length*ei.size:=hfl;rw[hz',hfl'];exact this
          ·obtain⟨v',h1',h2'⟩:=hfv.get hq
           have:=hzr i v' (by simpa using h1')
           rw[Gj]at hv;split at hv
           ·rw[Gv,this]at hv;cases hv;exact h2'
           ·simp at hv) (fun t ht=>absurd ht (fq h1 t))
         have hnew':(β++[(w.drew.heap.size,z.size)])[h.length]? = some (w.heap.size,z.size):=hnew;refine After.val (cT ho hb hts hxs hrun) (dj.up ⟨_,_,γ,lam,ω',F.setV hd ?_⟩);simp only[VR];have hz0:z.size≠0:=by
          have:0<cap*ei.size:=HL (by omega) h3;omega
         exact .inl ⟨(w.heap.size,z.size),cap,hnew',hz0,by simp,by omega,by simp[hzc]⟩
     ·-- a row of the heap
      cases X with
      | hs l off len sz ag=>
       cases off with
       |succ k=>exact absurd rfl hr
       | zero =>
        simp only at hr |-;cases hcs:h[l]? with
        |none=>rw[hcs]at hr;exact absurd rfl hr
        | some cs=>
         rw[hcs]at hr;simp only at hr |-;cases hc2:(sz== ei.size&&ag== ei.agg&&cs.all aE&&decide (len*sz<=cs.length)&&decide (0<cs.length)&&decide ((len+bs.length)*ei.bytes<=140737488355328))with
         |false=>rw[hc2]at hr;exact absurd rfl hr
         | true=>
          simp only[F9];simp only[F8,Ge,GU]at hc2;obtain⟨⟨⟨⟨⟨rfl,rfl⟩,k3⟩,k4⟩,k5⟩,k6⟩:=hc2;have hvx0:=hvx;have hne:cs≠[]:=by
           rintro rfl;simp at k5
          have hl:l<h.length:=by
           rcases Gp l h.length with h'|h'
           ·exact h'
           ·rw[Gi h']at hcs;simp at hcs
          simp only[VR]at hvx;rcases hvx with⟨⟨b,nb⟩,cap,hβ,hb0,hvx,hlc,hcn⟩|⟨h00,q,hvx⟩
          ·obtain⟨z,j1,j2,j3,j4,j5⟩:=H.heap.cells hcs hne hβ hb0;rw[hβ]at j1;simp only[F7,Ha,true_and]at j1;subst j1;have hzs:cs.length<=z.size:=by have:=j4.length;simp at this;omega
           have hol:(z.toList.take (len*ei.size)).length=len*ei.size:=by simp;omega
           have j6:aP S β (cs.take (len*ei.size)) (z.toList.take (len*ei.size)):=by
            have:=j4.take (len*ei.size)
            rw[HF,Hu k4]at this;exact this
           have hcl:(cs.take (len*ei.size)).length=len*ei.size:=by simp;omega
           have hold:∀w':World,(∀a:Addr,w'.cell? a=w.cell? a)->(Builtin.firstCells ei.size len (a.eval x)).run P w'= .ok (z.toList.take (len*ei.size)).toArray w':=fun w' hw'=>by
            rw[hvx];refine run_firstCells_some w' ei.size len ⟨b,0,none⟩ len cap _ hol fun j q hq=>?_;rw[addr_add,GE,hw',j2.cell];rw[Gj]at hq;split at hq
            ·simpa using hq
            ·simp at hq
           have hroom:kQ w ei.size (a.eval x):=⟨_,len,cap,hvx,hlc,(fun h=>by cases h),.inr ⟨b,0,z,rfl,j2,hcn⟩⟩;obtain⟨v,w',hrun,hA⟩:=dK (ty:=o.type) hT ht hk hei hu (n0:=len) (olds:=z.toList.take (len*ei.size)) ⟨_,cap,hvx⟩ hlen hfirst' hold hol hflat.1 hflat.2.2 k6 h2 hroom;have hexec:=cT ho hb hts hxs hrun;cases hA with
           |same h0=>
            have hbs:bs=[]:=Gz h0;subst hbs;simp only[List.isEmpty_nil,F9];exact After.val hexec (dj.up ⟨S,β,γ,lam,ω,H.setV hd hvx0⟩)
           | place b2 off2 cap2 z2 hv2 hr2 hlt2 hc2' hn2=>
            have hbe:bs.isEmpty=false:=by cases bs<;>simp_all
            rw[hbe];simp only[Gd];rw[hvx]at hv2;simp only[Value.slice.injEq,F7,Addr.mk.injEq]at hv2;obtain⟨⟨rfl,rfl,_⟩,_,rfl⟩:=hv2;cases j2.inj hr2;have hnl:=hflat.1;have hle:(len+bs.length)*ei.size<=cap*ei.size:=Gr _ hlt2;rw[GK]at hle;have hysz:(z.toList.take (0+len*ei.size)++news++z.toList.drop (0+len*ei.size+news.length)).toArray.size=z.size:=by simp;omega
            have hyv:aP S β (cs.take (len*ei.size)++bs.flatMap ae) ((z.toList.take (0+len*ei.size)++news++z.toList.drop (0+len*ei.size+news.length)).toArray.toList.take (cs.take (len*ei.size)++bs.flatMap ae).length):=by
             have hl1:(z.toList.take (0+len*ei.size)++news).length=(cs.take (len*ei.size)++bs.flatMap ae).length:=by
              rw[Gf,Gf,GE,hol,hcl,hfl,hnl]
             show aP S β _ (List.take _ (z.toList.take (0+len*ei.size)++news++z.toList.drop (0+len*ei.size+news.length)));rw[HX hl1,GE];exact j6.append hfv
            have hne2:cs.take (len*ei.size)++bs.flatMap ae≠[]:=by
             intro h0;have h1':=(List.append_eq_nil_iff.1 h0).2;rw[h1']at hfl;have:0<bs.length*ei.size:=HL (Nat.pos_of_ne_zero fun h=>by rw[Gz h]at hbe;cases hbe) h3;rw[GM]at hfl;omega
            have hnb:∀t,¬b7 t (cs.take (len*ei.size)++bs.flatMap ae):=fun t ht=>by
             rcases ht.append with ht|ht
             ·exact fp k3 t (ht.mono fun a=>Hg)
             ·exact fq h1 t ht
            have F1:=H.turnH hcs hne ⟨_,hβ⟩ j2 hysz hyv (fun t ht=>absurd ht (hnb t));have hcs1:(h.set l (cs.take (len*ei.size)++bs.flatMap ae))[l]? = some (cs.take (len*ei.size)++bs.flatMap ae):=by simp[hl]
            obtain⟨ω',F2,hnew,hext⟩:=F1.moveH hcs1 hne2 ⟨_,hβ⟩ j2.setRow hyv (fun t ht=>ht);have hset:(h.set l (cs.take (len*ei.size)++bs.flatMap ae)).set l []=h.set l []:=by simp
            rw[hset]at F2;rw[GZ]at hnew;refine After.val hexec (dj.up ⟨_,_,γ,lam,ω',F2.setV hd ?_⟩);simp only[VR];exact .inl ⟨_,cap,hnew,by simp only;rw[hysz];exact hb0,rfl,hlt2,by simp only;rw[hysz];exact hcn⟩
           | fresh z2 te cap2 hlt2 hzc hzr hn2=>
            have hbe:bs.isEmpty=false:=by cases bs<;>simp_all
            rw[hbe];simp only[Gd];have F1:=(H.drew).killH l;obtain⟨ω',F2,hnew,hext⟩:=F1.newH z2 te (cs:=cs.take (len*ei.size)++bs.flatMap ae) (by
             refine .of_get ?_ fun i q v hq hv=>?_
             ·have:(len+bs.length)*ei.size<=cap2*ei.size:=Gr _ hlt2;rw[GK]at this;rw[Gl,Gf,hcl,hfl];apply Hu;have hz':z2.toList.length=cap2*ei.size:=by simpa using hzc
              omega
             ·obtain⟨v',h1',h2'⟩:=(j6.append hfv).get hq
              have:=hzr i v' h1'
              rw[Gj]at hv;split at hv
              ·rw[Gv,this]at hv;cases hv;exact h2'
              ·simp at hv) (fun t ht=>absurd ht (fun ht=>by
             rcases ht.append with ht|ht
             ·exact fp k3 t (ht.mono fun a=>Hg)
             ·exact fq h1 t ht))
            rw[GZ]at hnew;have hnew':(β++[(w.drew.heap.size,z2.size)])[h.length]? = some (w.heap.size,z2.size):=hnew;refine After.val hexec (dj.up ⟨_,_,γ,lam,ω',F2.setV hd ?_⟩);simp only[VR];have hz0:z2.size≠0:=by
             have:0<cap2*ei.size:=HL (by omega) h3;omega
            exact .inl ⟨(w.heap.size,z2.size),cap2,hnew',hz0,rfl,hlt2,by simp[hzc]⟩
          ·subst h00;obtain⟨v,w',hrun,hA⟩:=dK (ty:=o.type) hT ht hk hei hu (n0:=0) (olds:=[]) ⟨some q,0,hvx⟩ hlen hfirst' (fun w' _=>by rw[hvx];exact run_firstCells_some w' _ 0 q 0 0 [] (by simp) (fun j x hx=>by simp at hx)) (by simp) hflat.1 hflat.2.2 k6 h2
            (by rw[hvx];exact⟨some q,0,0,rfl,Ga _,fun _=>rfl,.inl rfl⟩)
           have hexec:=cT ho hb hts hxs hrun;cases hA with
           |same h0=>
            have hbs:bs=[]:=Gz h0;subst hbs;simp only[List.isEmpty_nil,F9];exact After.val hexec (dj.up ⟨S,β,γ,lam,ω,H.setV hd hvx0⟩)
           |place b off cap z hv _ hlt _ hn=>
            rw[hvx]at hv;cases hv;have:bs.length≠0:=hn;omega
           | fresh z2 te cap2 hlt2 hzc hzr hn2=>
            have hbe:bs.isEmpty=false:=by cases bs<;>simp_all
            rw[hbe];simp only[Gd,HO,Is,GQ];have F1:=(H.drew).killH l;obtain⟨ω',F2,hnew,hext⟩:=F1.newH z2 te (cs:=bs.flatMap ae) (by
             refine .of_get ?_ fun i q v hq hv=>?_
             ·have:bs.length*ei.size<=cap2*ei.size:=Gr _ (by omega);rw[Gl,hfl];apply Hu;have hz':z2.toList.length=cap2*ei.size:=by simpa using hzc
              omega
             ·obtain⟨v',h1',h2'⟩:=hfv.get hq
              have:=hzr i v' (by simpa using h1')
              rw[Gj]at hv;split at hv
              ·rw[Gv,this]at hv;cases hv;exact h2'
              ·simp at hv) (fun t ht=>absurd ht (fq h1 t))
            rw[GZ]at hnew;have hnew':(β++[(w.drew.heap.size,z2.size)])[h.length]? = some (w.heap.size,z2.size):=hnew;refine After.val hexec (dj.up ⟨_,_,γ,lam,ω',F2.setV hd ?_⟩);simp only[VR];have hz0:z2.size≠0:=by
             have:0<cap2*ei.size:=HL (by omega) h3;omega
            exact .inl ⟨(w.heap.size,z2.size),cap2,hnew',hz0,by simp,by omega,by simp[hzc]⟩
      | sl es=>
       cases es with
       |nil=>
        cases zz with
        |true=>exact absurd ⟨rfl,rfl⟩ hXs
        |false=>exact absurd rfl hr
       |cons _ _=>exact absurd rfl hr
      |_=>first|exact absurd rfl hXn|exact absurd rfl hr
end
end Go.Av
namespace Go.Av
variable [Dr]
section
variable {P:Program} {cx:Cx} {c:Entry} {N:Nat} {U:Nat->Prop} {e:Env} {h:Hp} {a:Act} {w:World} {S:ap} {β:List aZ} {γ:Nat->Value} {lam:Nat->Option Nat} {ω:Nat->Owner} {o:Oper} {gid:Nat}
theorem xQ(hT:TOK P cx.T)(H:FR c N U e h a w S β γ lam ω)(hd:∀t,o.dst=some t->t<N){t u:TypeId}{x y:Operand}{cc:Call}(ho:o.op= .call cc)(hb:cc.callee= .builtin .append)(hts:cc.argTypes.toList=[t,u])(hxs:cc.args.toList=[x,y])(hx:∀t,x= .tmp t->t<1000)(hy:∀t,y= .tmp t->t<1000)(hu:ep cx.T u=true)(hr:aJ e o.dst (.dyn (xP cx.T t (opnd e x) (opnd e y)) .ofV) h≠.fail):After P c N (UG U gid) (aJ e o.dst (.dyn (xP cx.T t (opnd e x) (opnd e y)) .ofV) h) o a w:=absurd rfl hr
end
end Go.Av
namespace Go.Av
variable [Dr]
section
variable {P:Program} {cx:Cx} {c:Entry} {N:Nat} {U:Nat->Prop} {e:Env} {h:Hp} {a:Act} {w:World} {S:ap} {β:List aZ} {γ:Nat->Value} {lam:Nat->Option Nat} {ω:Nat->Owner} {o:Oper} {gid:Nat}
omit [Dr]in
theorem qq{cs:List AV}{vs:List Value}(h:aP S β cs vs)(ho:cs.all aE=true):∀y∈vs,y.oneCell'=true:=by
 induction cs generalizing vs with
 |nil=>simp[aP]at h;subst h;intro y hy;simp at hy
 |cons x cs ih=>
  simp only[aP]at h;obtain⟨v,r,rfl,h1,h2⟩:=h;simp only[GO,F8]at ho;intro y hy;rcases Gt.1 hy with rfl|hy
  ·exact (dN ho.1 h1).2
  ·exact ih h2 ho.2 y hy
theorem FR.putH(H:FR c N U e h a w S β γ lam ω){l off b nb:Nat}{cs acs:List AV}{vs:List Value}(hcs:h[l]? = some cs)(hne:cs≠[])(hb:β[l]? = some (b,nb))(hb0:nb≠0)(hvs:aP S β acs vs)(hle:off+acs.length<=cs.length)(htag:∀t,¬b7 t acs):
  ∃z,Row w b z/\cs.length<=z.size/\FR c N U e (h.set l (setCells cs off acs)) a (w.setRow b (z.toList.take off++vs++z.toList.drop (off+vs.length)).toArray) S β γ lam ω:=by
 obtain⟨z,j1,j2,j3,j4,j5⟩:=H.heap.cells hcs hne hb hb0;rw[hb]at j1;cases j1;have hvl:=hvs.length;have hzs:cs.length<=z.size:=by
  have:=j4.length
  simp at this;omega
 refine⟨z,j2,hzs,H.turnH hcs hne ⟨_,hb⟩ j2 (by simp;omega) ?_ (fun t ht=>ht.setCells.resolve_right (htag t))⟩;rw[eq _ _ _ (by omega)];have hsp:aP S β (setCells cs off acs) (((z.toList.take cs.length).take off++vs++(z.toList.take cs.length).drop (off+vs.length))):=by
  unfold setCells;rw[hvl];exact ((j4.take off).append hvs).append (j4.drop _)
 have heq:(z.toList.take off++vs++z.toList.drop (off+vs.length)).take cs.length=
   (z.toList.take cs.length).take off++vs++(z.toList.take cs.length).drop (off+vs.length):=by
  rw[Ie,Ie];have e1:(z.toList.take off).length=off:=by simp;omega
  rw[HF,HF];have e2:min cs.length off=off:=by omega
  have e3:min off cs.length=off:=by omega
  rw[e2,e3,e1];have e4:vs.take (cs.length-off)=vs:=Ia (by omega);rw[e4];congr 1;rw[List.take_drop,Gf,e1];congr 2;omega
 show aP S β _ (List.take _ _);rw[show (z.toList.take off++vs++z.toList.drop (off+vs.length)).toArray.toList=(z.toList.take off++vs++z.toList.drop (off+vs.length))from rfl,heq];exact hsp
theorem vT(hT:TOK P cx.T)(H:FR c N U e h a w S β γ lam ω)(hd:∀t,o.dst=some t->t<N){cc:Call}(ho:o.op= .call cc)(hcal:cc.callee= .builtin .clear){t:TypeId}{ts:List TypeId}{x:Operand}{xs:List Operand}(hts:cc.argTypes.toList=t:: ts)(hxs:cc.args.toList=x:: xs)(hx:∀t,x= .tmp t->t<1000)(hr:aJ e o.dst (.dyn (nW cx.T t (opnd e x)) .ofV) h≠.fail):After P c N (UG U gid) (aJ e o.dst (.dyn (nW cx.T t (opnd e x)) .ofV) h) o a w:=absurd rfl hr
end
end Go.Av
namespace Go.Av
variable [Dr]
def bC(p:Upd->Prop):Act1->Prop
 |.bad=>True
 |.stat u=>p u
 |.dyn _ sh=>∀v,p (sh v)
 |.thr _=>True
omit [Dr]in
theorem bC.cond{p:Upd->Prop}{b:Bool}{x y:Act1}(h1:b=true->bC p x)(h2:b=false->bC p y):bC p (bif b then x else y):=by
 cases b with
 |true=>exact h1 rfl
 |false=>exact h2 rfl
structure Shape (e:Env) (gid:Nat) (f:Foot) (ss:Option Nat) (u:Upd):Prop where
 ls:f.wl=false->u.ls=[]
 lb:f.wl=false->u.lb=none
 unlb:f.wl=false->u.unlb=none
 add:f.wl=false->∀x∈u.add,x.1=gid
 noad:f.ad=false->u.add=[]
 nodr:f.dr=false->u.drop=none
 loc:f.wl=false->∀C off,u.ent.v= .loc C off->∃t off',(e.get t).v= .loc C off'
 keys:∀x∈u.ls,1000<=x.1\/ss=some x.1
omit [Dr]in
theorem Shape.ofV(e:Env)(gid:Nat)(f:Foot)(ss:Option Nat)(a:AV):Shape e gid f ss (.ofV a):=
 ⟨fun _=>rfl,fun _=>rfl,fun _=>rfl,fun _ x h=>by simp[Upd.ofV]at h,fun _=>rfl,fun _=>rfl,fun _ C off h=>by simp[Upd.ofV]at h,fun x h=>by simp[Upd.ofV]at h⟩
omit [Dr]in
theorem Shape.own(e:Env)(gid:Nat)(f:Foot)(ss:Option Nat)(a:AV)(z:Option Nat)(h:f.ad=true):Shape e gid f ss (.own a gid z):=
 ⟨fun _=>rfl,fun _=>rfl,fun _=>rfl,fun _ x h=>by simp[Upd.own]at h;rw[h],fun h'=>by(rw[h]at h';cases h'),fun _=>rfl,fun _ C off h=>by simp[Upd.own]at h,fun x h=>by simp[Upd.own]at h⟩
omit [Dr]in
theorem Shape.ent(e:Env)(gid:Nat)(f:Foot)(ss:Option Nat)(x:Ent)(h:∀C off,x.v= .loc C off->∃t off',(e.get t).v= .loc C off'):Shape e gid f ss { ent:=x } :=
 ⟨fun _=>rfl,fun _=>rfl,fun _=>rfl,fun _ x h=>by simp at h,fun _=>rfl,fun _=>rfl,fun _ C off h'=>h C off h',fun x h=>by simp at h⟩
omit [Dr]in
theorem Shape.get(e:Env)(gid:Nat)(f:Foot)(ss:Option Nat)(t:Nat):Shape e gid f ss { ent:=e.get t }:=.ent _ _ _ _ _ fun _ off h=>⟨t,off,h⟩
omit [Dr]in
theorem jz{B n gid:Nat}{cs:List AV}{offs:List Nat}(hB:1000<=B):∀x∈fM B cs offs gid n,1000<=x.1:=by
 intro x hx;unfold fM at hx;simp only[H3]at hx;obtain⟨i,_,rfl⟩:=hx;simp only;omega
omit [Dr]in
theorem pQ{offs:List Nat}{gid:Nat}(h:offs.isEmpty=true):kC offs gid=[]:=by
 have:offs=[]:=by simpa using h
 subst this;rfl
variable {cx:Cx} {e:Env} {gid:Nat} {o:Oper}
omit [Dr]in
theorem lR(told:Bool)(x:Operand)(f:Foot)(hf:f.ad=aQ x):bC (Shape e gid f none) (eO told e gid x):=by
 unfold eO;split
 ·exact Shape.get ..
 ·cases h:aQ x with
  |true=>
   cases told with
   |true=>exact Shape.ofV ..
   |false=>exact Shape.own _ _ _ _ _ _ (by rw[hf,h])
  |false=>exact Shape.ofV ..
omit [Dr]in
theorem pU{e:Env}{B off n:Nat}(h:eT e B off n=true):∃m,aI e.lb B=some m/\off+n<=m/\1000<=B:=by
 unfold eT at h;split at h
 ·rename_i m hm;simp at h;exact⟨m,hm,h.1.1.1,h.1.1.2⟩
 ·simp at h
omit [Dr]in
theorem ui{e:Env}{B off n:Nat}(h:eT e B off n=true):∃m,aI e.lb B=some m/\off+n<=m/\1000<=B/\B % 1000=0/\m<=1000:=by
 unfold eT at h;split at h
 ·rename_i m hm;simp at h;exact⟨m,hm,h.1.1.1,h.1.1.2,h.1.2,h.2⟩
 ·simp at h
omit [Dr]in
theorem lL(d:Option Tmp)(t:TypeId)(p:Nat)(f:Foot):bC (Shape e gid f none) (cH cx e d t p):=by
 unfold cH;split
 ·split
  ·trivial
  ·cases eT e _ _ _ with
   |false=>trivial
   | true=>
    simp only[F9];rename_i ti _;cases ti.agg with
    |true=>exact Shape.ofV ..
    |false=>
     simp only[Gd];cases decide (ti.size=1)with
     |true=>exact Shape.get ..
     |false=>trivial
 ·cases bb cx.ann.hl d with
  |true=>exact fun v=>Shape.ofV ..
  |false=>exact fun v=>Shape.ofV ..
omit [Dr]in
theorem Shape.wl{e:Env}{gid:Nat}{f:Foot}{ss:Option Nat}{u:Upd}(hw:f.wl=true)(h1:f.ad=false->u.add=[])(h2:u.drop=none)(h3:∀x∈u.ls,1000<=x.1\/ss=some x.1):Shape e gid f ss u:=
 ⟨fun h=>by(rw[hw]at h;cases h),fun h=>by(rw[hw]at h;cases h),fun h=>by(rw[hw]at h;cases h),fun h=>by(rw[hw]at h;cases h),h1,fun _=>h2,fun h=>by(rw[hw]at h;cases h),h3⟩
omit [Dr]in
theorem qL(t p:Nat)(y:Operand)(f:Foot)(hw:f.wl=true)(ha:f.ad=(!(dh cx.ann.nils p).isEmpty||aQ y)):bC (Shape e gid f (some p)) (dE cx e gid t p y):=by
 unfold dE;split
 ·rename_i B off _;split
  ·trivial
  ·rename_i ti _;cases hlb:eT e B off ti.size with
   |false=>trivial
   | true=>
    obtain⟨m,_,_,hB⟩:=pU hlb;simp only[F9];cases ul (bA cx.ann.kinds p .L)with
    | true=>
     simp only[F9];cases iJ e B off p ti.size with
     |false=>trivial
     |true=>
      simp only[F9];exact fun v=>Shape.wl hw (fun _=>rfl) rfl (fun x hx=>by simp at hx;exact .inr (by rw[hx]))
    | false=>
     simp only[Gd];cases ti.agg with
     |true=>
      simp only[F9];refine fun v=>Shape.wl hw (fun h=>?_) rfl (fun x hx=>.inl (jz (by omega) x hx));rw[ha]at h;simp only[Ht,H1]at h;exact pQ h.1
     | false=>
      simp only[Gd];cases decide (ti.size=1)with
      |false=>trivial
      | true=>
       simp only[F9];split
       ·split
        ·exact fun v=>Shape.wl hw (fun _=>rfl) rfl (fun x hx=>by simp at hx;rw[hx];exact .inl (by simp only;omega))
        ·trivial
       ·cases hn:aQ y with
        |true=>
         refine Shape.wl hw (fun h=>?_) rfl (fun x hx=>by simp at hx;rw[hx];exact .inl (by simp only;omega));rw[ha,hn]at h;simp at h
        |false=>exact fun v=>Shape.wl hw (fun _=>rfl) rfl (fun x hx=>by simp at hx;rw[hx];exact .inl (by simp only;omega))
 ·exact fun v=>Shape.ofV ..
omit [Dr]in
theorem pC(t p i:Nat)(f:Foot):bC (Shape e gid f none) (eA cx e t p i):=by
 unfold eA;split
 ·rename_i B off hv;split
  ·trivial
  ·split
   ·trivial
   ·split
    ·trivial
    ·rename_i fi _;cases decide (fi.size=0)with
     |true=>trivial
     |false=>exact Shape.ent _ _ _ _ _ fun C o' h=>⟨p,off,by simp at h;rw[hv,h.1]⟩
 ·exact fun v=>Shape.ofV ..
omit [Dr]in
theorem pY(t p:Nat)(i:Operand)(f:Foot):bC (Shape e gid f none) (cn cx e t p i):=by
 unfold cn;split
 ·rename_i B off hv;split
  ·split
   ·split
    ·trivial
    ·refine bC.cond (p:=Shape e gid f none) (y:=.bad) (fun _=>?_) (fun _=>trivial);exact Shape.ent _ _ _ _ _ fun C o' h=>⟨p,off,by simp at h;rw[hv,h.1]⟩
   ·trivial
  ·trivial
 ·exact fun v=>Shape.ofV ..
omit [Dr]in
theorem o7(s t:Nat)(f:Foot)(hf:f=(match bA cx.ann.kinds s .L with|.F=>{}|.H=>{ wh:=true }|.B=>{ wh:=true }|_=>{ wl:=true,ad:=!(dh cx.ann.nils s).isEmpty })):bC (Shape e gid f none) (dk cx e gid s t):=by
 unfold dk;split
 ·trivial
 ·rename_i ti _;have key:f.wl=true->(f.ad= !(dh cx.ann.nils s).isEmpty)->bC (Shape e gid f none) (match dh cx.ann.nils s with
   | offs=>bif decide (ti.size<1000)&&aM e.sl (aS s)&&fc (cp true ti) offs ti.size then
     .stat { ent:=⟨.loc (aS s) 0,none⟩,ls:=fM (aS s) (cp (dp cx.ann.hb s) ti) offs gid ti.size,add:=kC offs gid,lb:=some (aS s,ti.size) }else .bad):=by
   intro hw ha;simp only;cases decide (ti.size<1000)&&aM e.sl (aS s)&&fc (cp true ti) (dh cx.ann.nils s) ti.size with
   |false=>trivial
   |true=>exact Shape.wl hw (fun h=>pQ (by rw[ha]at h;simpa using h)) rfl (fun x hx=>.inl (jz (by unfold aS;omega) x hx))
  cases hk:bA cx.ann.kinds s .L with
  |F=>exact Shape.ofV ..
  |H=>exact fun v=>Shape.ofV ..
  |B=>exact fun v=>Shape.ofV ..
  |L=>rw[hk]at hf;exact key (by rw[hf]) (by rw[hf])
  |S=>rw[hk]at hf;exact key (by rw[hf]) (by rw[hf])
omit [Dr]in
theorem tT(s t:Nat)(x:Operand)(f:Foot)(hf:f=(match bA cx.ann.kinds s .F with|.F=>{}|.H=>{ wh:=true }|.B=>{ wh:=true }|_=>{ wl:=true })):bC (Shape e gid f none) (gD cx e s t x):=by
 unfold gD;have key:f.wl=true->bC (Shape e gid f none) (match cx.T t with
  |none=>.bad
  | some ti=>bif decide (ti.size<1000)&&aM e.sl (aS s)then
    .dyn (bn ti.size (opnd e x)) fun v=>{ ent:=⟨.loc (aS s) 0,none⟩,ls:=fM (aS s) (ae v) [] 0 ti.size,lb:=some (aS s,ti.size) }
   else .bad):=by
  intro hw;split
  ·trivial
  ·rename_i ti _;cases decide (ti.size<1000)&&aM e.sl (aS s)with
   |false=>trivial
   |true=>exact fun v=>Shape.wl hw (fun _=>rfl) rfl (fun x hx=>.inl (jz (by unfold aS;omega) x hx))
 cases hk:bA cx.ann.kinds s .F with
 |F=>exact Shape.ofV ..
 |H=>exact fun v=>Shape.ofV ..
 |B=>trivial
 |L=>rw[hk]at hf;exact key (by rw[hf])
 |S=>rw[hk]at hf;exact key (by rw[hf])
omit [Dr]in
theorem rc(c:Call)(f:Foot)(ho:o.op= .call c)(hf:f=ak cx o):bC (Shape e gid f none) (dD cx e gid o c):=by
 unfold dD;cases hc:c.callee with
 |invoke r m=>trivial
 | value x=>
  cases x with
  | func g=>
   simp only;refine bC.cond (fun _=>bC.cond (fun _ v=>Shape.ofV ..) (fun _=>trivial)) fun _=>?_;intro v;cases ho':cx.own g with
   |none=>exact Shape.ofV ..
   |some z=>
    refine Shape.own _ _ _ _ _ _ ?_;rw[hf];unfold ak;rw[ho];simp only[hc,ho'];cases cx.iso g<;>rfl
  |tmp t=>exact fun v=>Shape.ofV ..
  |const t=>exact fun v=>Shape.ofV ..
  |global t=>exact fun v=>Shape.ofV ..
 | builtin b=>
  cases b<;>simp only<;>(try trivial)
  case clear=>
   split
   ·exact fun v=>Shape.ofV ..
   ·trivial
  case append=>
   split
   ·rename_i t u x y hts hxs;cases ep cx.T u with
    |false=>trivial
    | true =>
     simp only[G3,Gd];cases hha:bb cx.ann.ha o.dst with
     |true=>exact fun v=>Shape.ofV ..
     | false=>
      have hfa:f.ad=true/\f.wl=false/\f.dr= !aQ x:=by
       rw[hf];unfold ak;rw[ho];simp only[hc,hha,Gd,hxs];exact⟨trivial,trivial,trivial⟩
      cases hn:aQ x with
      |true=>exact fun v=>Shape.own _ _ _ _ _ _ hfa.1
      | false=>
       simp only[Gd];split
       ·split
        ·trivial
        ·split
         ·trivial
         ·rename_i z _;cases oN z (bW cx.T t)with
          |false=>trivial
          |true=>
           simp only[F9];intro v;have hdr:f.dr=true:=by rw[hfa.2.2,hn];rfl
           exact⟨fun _=>rfl,fun _=>rfl,fun _=>rfl,fun _ x h=>by simp[Upd.own]at h;rw[h],fun h'=>by(rw[hfa.1]at h';cases h'),fun h'=>by(rw[hdr]at h';cases h'),fun _ C off h=>by simp[Upd.own]at h,fun x h=>by simp[Upd.own]at h⟩
       ·trivial
   ·trivial
  case len=>
   split
   ·exact fun v=>Shape.ofV ..
   ·trivial
  case min=>exact fun v=>Shape.ofV ..
  case max=>exact fun v=>Shape.ofV ..
omit [Dr]in
theorem uf(f:Foot)(ss:Option Nat)(A:Act1):bC (Shape e gid f ss) (B2 A):=by
 cases A with
 |bad=>trivial
 |stat u=>exact fun v=>Shape.ofV ..
 |dyn m sh=>exact fun v=>Shape.ofV ..
 |thr v=>trivial
omit [Dr]in
theorem gU(cx:Cx)(e:Env)(gid:Nat)(o:Oper):bC (Shape e gid (ak cx o) (br o)) (dq cx e gid o):=by
 have hss:(∀t p y,o.op≠.store t (.tmp p) y)->br o=none:=by
  intro h;unfold br;split
  ·rename_i t p y hq;exact absurd hq (h t p y)
  ·rfl
 unfold dq;cases ho:o.op
 case store t x y=>
  simp only;cases x<;>(try trivial);rename_i p;cases hd:o.dst with
  |some d=>trivial
  |none=>
   have h1:br o=some p:=by unfold br;rw[ho]
   rw[h1];exact bC.cond (fun _=>trivial) fun _=>qL t p y _ (by unfold ak;rw[ho]) (by unfold ak;rw[ho])
 all_goals
  have hs0:=hss (by rw[ho];intros;simp);rw[hs0];simp only
 case move x=>exact lR _ x _ (by unfold ak;rw[ho])
 case assign x=>exact lR _ x _ (by unfold ak;rw[ho])
 case box t x=>
  cases hd:o.dst with
  |none=>trivial
  |some s=>exact tT s t x _ (by unfold ak;rw[ho];simp only[hd];cases bA cx.ann.kinds s .F<;>rfl)
 case alloc t=>
  cases hd:o.dst with
  |none=>trivial
  |some s=>exact o7 s t _ (by unfold ak;rw[ho];simp only[hd];cases bA cx.ann.kinds s .L<;>rfl)
 case load t x=>cases x<;>first|exact bC.cond (fun _=>trivial) (fun _=>bC.cond (fun _=>uf _ _ _) (fun _=>lL ..))|trivial
 case buildSlice=>
  cases hha:bb cx.ann.ha o.dst with
  |true=>exact fun v=>Shape.ofV ..
  |false=>
   intro v;cases hno:bb cx.ann.no o.dst with
   |true=>exact Shape.ofV ..
   |false=>exact Shape.own _ _ _ _ _ _ (by unfold ak;rw[ho];simp[hno,hha])
 case makeSlice=>
  cases hha:bb cx.ann.ha o.dst with
  |true=>exact fun v=>Shape.ofV ..
  |false=>exact fun v=>Shape.own _ _ _ _ _ _ (by unfold ak;rw[ho];simp[hha])
 case slice t x lo hi mx=>
  cases hso:bb cx.ann.so o.dst with
  | true=>
   simp only[F9];unfold jd;have hf:ak cx o= { ad:=true,dr:=true }:=by unfold ak;rw[ho];simp only[hso,F9]
   rw[hf];split
   ·split
    ·trivial
    ·split
     ·exact bC.cond (fun _ v=>⟨fun _=>rfl,fun _=>rfl,fun _=>rfl,fun _ x h=>by simp[Upd.own]at h;rw[h],fun h'=>(by cases h'),fun h'=>(by cases h'),fun _ C off h=>by simp[Upd.own]at h,fun x h=>by simp[Upd.own]at h⟩) fun _=>trivial
     ·trivial
   ·trivial
  |false=>
  simp only[Gd];cases mx with
  |none=>exact fun v=>Shape.ofV ..
  |some m=>exact fun v=>Shape.own _ _ _ _ _ _ (by unfold ak;rw[ho];simp only[hso,Gd];rfl)
 case nilCheck x=>
  cases x<;>(try trivial);simp only;split
  ·exact Shape.get ..
  ·exact fun v=>Shape.ofV ..
 case fieldAddr t x i=>cases x<;>first|exact pC ..|trivial
 case indexAddr t x i=>cases x<;>first|exact pY ..|exact fun v=>Shape.ofV ..|trivial
 case call c=>exact rc c _ ho rfl
 case panic x=>exact fun v=>Shape.ofV ..
 case makeFunc=>exact Shape.ofV ..
 case makeMap=>exact bC.cond (fun _=>trivial) fun _ v=>Shape.ofV ..
 case mapUpdate=>unfold gE;split;exact fun v=>Shape.ofV ..;trivial
 case insert=>unfold gE;split;exact fun v=>Shape.ofV ..;trivial
 case binOp=>exact bC.cond (fun _=>trivial) fun _ v=>Shape.ofV ..
 all_goals first|trivial|exact fun v=>Shape.ofV ..
end Go.Av
namespace Go.Av
mutual
theorem pn{S S':ap}{β β':List aZ}{g:Nat->Nat->Nat->Nat->Bool->AV}(hS:S.le S')(hg:∀l off len sz ag v,VR S β (.hs l off len sz ag) v->VR S' β' (g l off len sz ag) v):(a:AV)->(v:Value)->VR S β a v->VR S' β' (cl g a) v
 |.any,_,_=>by simp[cl,VR]
 |.bool _,_,x=>by simpa [cl,VR]using x
 |.int _ _,_,x=>by simpa [cl,VR]using x
 |.str _,_,x=>by simpa [cl,VR]using x
 |.nilp,_,x=>by simpa [cl,VR]using x
 |.nilf,_,x=>by simpa [cl,VR]using x
 |.nili,_,x=>by simpa [cl,VR]using x
 |.mp _,_,_=>by simp[cl,VR]
 |.it _,_,_=>by simp[cl,VR]
 |.nilm,_,x=>by simpa [cl,VR]using x
 |.nilb _,_,x=>by simpa [cl,VR]using x
 |.byt _ _,_,x=>by simpa [cl,VR]using x
 |.agg cs,v,x=>by
  simp only[cl,VR]at x |-;obtain⟨vs,rfl,y⟩:=x;exact⟨vs,rfl,ix hS hg cs vs y⟩
 |.tup cs,v,x=>by
  simp only[cl,VR]at x |-;obtain⟨vs,rfl,y⟩:=x;exact⟨vs,rfl,ix hS hg cs vs y⟩
 |.sl es,v,x=>by
  simp only[cl,VR]at x |-;obtain⟨a,cap,rfl,hc,hn,hq⟩:=x;have hl:(cU g es).length=es.length:=lj g es;refine⟨a,cap,by rw[hl],by rw[hl];exact hc,hn,fun q e=>?_⟩;obtain⟨hs,sz,he⟩:=hq q e;exact⟨hs,sz,vY hS hg es _ _ _ he⟩
 |.ip cs,v,x=>by
  simp only[cl,VR]at x |-;obtain⟨b,off,vs,rfl,y,z⟩:=x;exact⟨b,off,vs,rfl,ix hS hg cs vs y,z.mono hS⟩
 |.hp l off,v,x=>by simp[cl,VR]
 |.hn,v,x=>by
  simp only[cl,VR]at x |-;exact⟨none,0,x,Ga _,fun _=>rfl,fun q hq=>by cases hq⟩
 |.hs l off len sz ag,v,x=>by
  simp only[cl];exact hg l off len sz ag v x
 |.fn f a c,v,x=>by
  simp only[cl,VR]at x |-;obtain⟨x,y,rfl,hx,hy⟩:=x;exact⟨x,y,rfl,ix hS hg a x hx,ix hS hg c y hy⟩
 |.iface t a,v,x=>by
  simp only[cl,VR]at x |-;obtain⟨y,rfl,hy⟩:=x;exact⟨y,rfl,pn hS hg a y hy⟩
theorem lj(g:Nat->Nat->Nat->Nat->Bool->AV):(cs:List AV)->(cU g cs).length=cs.length
 |[]=>rfl
 |c:: cs=>by simp[cU,lj g cs]
theorem ix{S S':ap}{β β':List aZ}{g:Nat->Nat->Nat->Nat->Bool->AV}(hS:S.le S')(hg:∀l off len sz ag v,VR S β (.hs l off len sz ag) v->VR S' β' (g l off len sz ag) v):(cs:List AV)->(vs:List Value)->aP S β cs vs->aP S' β' (cU g cs) vs
 |[],_,x=>by simpa [cU,aP]using x
 |c:: cs,vs,x=>by
  simp only[cU,aP]at x |-;obtain⟨y,ys,rfl,hy,hys⟩:=x;exact⟨y,ys,rfl,pn hS hg c y hy,ix hS hg cs ys hys⟩
theorem vY{S S':ap}{β β':List aZ}{g:Nat->Nat->Nat->Nat->Bool->AV}(hS:S.le S')(hg:∀l off len sz ag v,VR S β (.hs l off len sz ag) v->VR S' β' (g l off len sz ag) v):(es:List AV)->(b off sz:Nat)->bg S β es b off sz->bg S' β' (cU g es) b off sz
 |[],_,_,_,_=>by simp[cU,bg]
 |e:: es,b,off,sz,x=>by
  simp only[cU,bg]at x |-;obtain⟨⟨v,hv,hs,hc⟩,hes⟩:=x;exact⟨⟨v,pn hS hg e v hv,hs,hc.mono hS⟩,vY hS hg es b (off+sz) sz hes⟩
end
variable [Dr]
omit [Dr]in
theorem po{S:ap}{β:List aZ}{args:List AV}{vs:List Value}(h:aP S β args vs):aP S [] (cU aB args) vs:=
 ix (ap.le_refl S) (fun _ _ _ _ _ _ _=>by simp[aB,VR]) args vs h
omit [Dr]in
theorem oD{S:ap}{β:List aZ}{a:AV}{v:Value}(h:aE a=true)(hv:VR S β a v):v.cells= #[v]:=by
 cases a<;>simp only[aE,Gq]at h<;>simp only[VR]at hv
 case bool=>subst hv;rfl
 case int=>subst hv;rfl
 case str=>obtain⟨x,rfl,_⟩:=hv;rfl
 case nilp=>subst hv;rfl
 case nilf=>subst hv;rfl
 case nili=>subst hv;rfl
 case sl=>obtain⟨x,c,rfl,_⟩:=hv;rfl
 case ip=>obtain⟨b,o,vs,rfl,_⟩:=hv;rfl
 case hp=>obtain⟨b,_,_,rfl⟩:=hv;rfl
 case mp=>obtain⟨b,_,_,rfl⟩:=hv;rfl
 case nilm=>subst hv;rfl
 case hs=>rcases hv with⟨b,c,_,_,rfl,_⟩|⟨_,_,rfl⟩<;>rfl
 case hn=>subst hv;rfl
 case fn=>obtain⟨x,y,rfl,_⟩:=hv;rfl
 case iface=>obtain⟨x,rfl,_⟩:=hv;rfl
omit [Dr]in
theorem oh{S S2:ap}{β β2:List aZ}{w:World}{ω:Nat->Owner}{h:Hp}(hH:dZ S β w ω h)(hS:S.le S2)(h2:∀(b o:Nat)(x:Array Value),a8 β h b->Row w b x->S2 b o=x[o]?):∀(d:Nat)(a:AV)(v:Value),VR S β a v->VR S2 β2 (gO d h a) v
 |0,a,v,hv=>pn hS (fun _ _ _ _ _ _ _=>by simp[aB,VR]) a v hv
 | d + 1,a,v,hv=>by
  refine pn hS (fun l off len sz ag u hu=>?_) a v hv;cases hl:h[l]? with
  |none=>simp[VR]
  | some cs=>
   simp only;cases hc:(decide (off+len*sz<=cs.length)&&decide (0<sz)&&(ag||(Nat.beq sz 1&&cs.all aE)))with
   |false=>simp[VR]
   | true=>
    simp only[F8,Ge,G9]at hc;obtain⟨⟨hc1,hc2⟩,hc3⟩:=hc;simp only[F9];simp only[VR]at hu |-;rcases hu with⟨⟨b,nb⟩,cap,hβ,hb0,rfl,hlc,hcn⟩|⟨h00,q0,rfl⟩
    rotate_left
    ·subst h00;exact⟨some q0,0,rfl,Ga _,fun _=>rfl,fun q hq=>⟨fun h=>absurd h (by omega),sz,trivial⟩⟩
    refine⟨some ⟨b,off,none⟩,cap,by simp,by simpa using hlc,(fun hh=>by cases hh),fun q hq=>?_⟩;simp only[F7]at hq;subst hq;refine⟨fun _=>rfl,sz,.of_get fun i e he=>?_⟩;have hi:i<len:=by
     rcases Gp i len with h'|h'
     ·exact h'
     ·rw[Gi (by simpa using h')]at he;cases he
    rw[Hk,List.getElem?_range hi]at he;simp only[HJ,F7]at he;have hile:off+i*sz+sz<=cs.length:=by
     have:(i+1)*sz<=len*sz:=Gr _ hi;rw[GK]at this;omega
    have hne:cs≠[]:=by rintro rfl;simp at hile;omega
    obtain⟨x,k1,k2,k3,k4,k5⟩:=hH.cells hl hne hβ hb0;rw[hβ]at k1;simp only[F7,Ha,true_and]at k1;subst k1;have hx:=k4.length;simp only[Gl,Gs]at hx;have hS2:∀o,S2 b o=x[o]?:=fun o=>h2 b o x ⟨l,cs,_,hl,hne,hβ⟩ k2;subst he;cases ag with
    | true=>
     simp only[F9];have hsub:=(k4.drop (off+i*sz)).take sz;refine⟨.agg (((x.toList.take cs.length).drop (off+i*sz)).take sz).toArray,oh hH hS h2 d _ _ (by simp only[VR];exact⟨_,rfl,hsub⟩),?_,fun j y hy=>?_⟩
     ·simp[Value.cells];omega
     ·simp only[Value.cells]at hy;rw[Gj]at hy;split at hy
      ·rw[GR,Gj]at hy;split at hy
       ·rw[hS2];simpa using hy
       ·cases hy
      ·cases hy
    | false=>
     simp only[Gd];simp only[Gq,false_or]at hc3;have hsz:sz=1:=Gh hc3.1;subst hsz;have hlt:off+i*1<cs.length:=by omega
     have hcs:cs[off+i*1]? = some (ah cs (off+i*1)):=by unfold ah;rw[GG,Gm hlt];rfl
     obtain⟨y,hy1,hy2⟩:=k4.get hcs;have hok:=Gk.1 hc3.2 _ (He hcs);have hcells:=oD hok hy2;refine⟨y,oh hH hS h2 d _ _ hy2,by rw[hcells];rfl,fun j z hz=>?_⟩;rw[hcells]at hz;cases j with
     |zero=>
      simp only[Gw,F7]at hz;subst hz;rw[hS2,G4];rw[Gj,Gg hlt]at hy1;rw[<- hy1];simp
     |succ j=>simp at hz
theorem FR.weak{c:Entry}{N:Nat}{U:Nat->Prop}{e e2:Env}{h:Hp}{a:Act}{w:World}{S:ap}{β:List aZ}{γ:Nat->Value}{lam:Nat->Option Nat}{ω:Nat->Owner}(H:FR c N U e h a w S β γ lam ω)(hv:∀t,(e2.get t).v=(e.get t).v\/(e2.get t).v= .val .any/\t<1000)(hg:∀t g,(e2.get t).g=some g->(e.get t).g=some g)(hal:∀g z,aA e2.al g=some z->aA e.al g=some z)(hlb:∀B n,aI e2.lb B=some n->aI e.lb B=some n):FR c N U e2 h a w S β γ lam ω:=by
 refine⟨H.wf,H.gro,H.keep,H.le,H.ext,H.hlen,H.heap,H.tsz,fun t ht=>?_,fun t g z ht hgg hz=>H.grps t g z ht (hg t g hgg) (hal g z hz),fun B n hB=>?_,fun g z hz=>H.free g z (hal g z hz),H.mine,⟨fun t g hgg=>H.used.1 t g (hg t g hgg),fun g z hz=>H.used.2 g z (hal g z hz)⟩⟩
 ·rcases hv t with h1|⟨h1,_⟩
  ·rw[h1];exact H.slots t ht
  ·rw[h1];simp[dw,VR]
 ·obtain⟨h1,h2,h3,b,x,h4,h5,h6,h7,h8⟩:=H.lblk B n (hlb B n hB);refine⟨h1,h2,h3,b,x,h4,h5,h6,h7,fun i hi=>?_⟩;obtain⟨v,a',g1,g2,g3,g4⟩:=h8 i hi;refine⟨v,a',g1,?_,g3,fun g z hgg hz=>g4 g z (hg _ g hgg) (hal g z hz)⟩;rcases hv (B+i)with k1|⟨_,k1⟩
  ·rw[k1];exact g2
  ·omega
theorem FR.acts{c:Entry}{N:Nat}{U:Nat->Prop}{e:Env}{h:Hp}{a a2:Act}{w:World}{S:ap}{β:List aZ}{γ:Nat->Value}{lam:Nat->Option Nat}{ω:Nat->Owner}(H:FR c N U e h a w S β γ lam ω)(ht:a2.tmps=a.tmps):FR c N U e h a2 w S β γ lam ω:=
 ⟨H.wf,H.gro,H.keep,H.le,H.ext,H.hlen,H.heap,by rw[ht];exact H.tsz,fun t h=>by rw[ht];exact H.slots t h,fun t g z h=>by rw[ht];exact H.grps t g z h,H.lblk,H.free,H.mine,H.used⟩
open Classical in
theorem FR.freeze{c:Entry}{N:Nat}{U:Nat->Prop}{e:Env}{h:Hp}{a:Act}{w:World}{S:ap}{β:List aZ}{γ:Nat->Value}{lam:Nat->Option Nat}{ω:Nat->Owner}(H:FR c N U e h a w S β γ lam ω):
  ∃S2 ω2,FR c N U e (h.map fun _=>[]) a w S2 β γ lam ω2/\∀v u,VR S β v u->VR S2 β (gO 6 h v) u:=by
 let S2:ap:=fun b o=>if a8 β h b then w.cell? ⟨b,o,none⟩else S b o;let ω2:Nat->Owner:=fun b=>if a8 β h b then .no else ω b;have hn:∀b,¬a8 β h b->∀o,S2 b o=S b o:=fun b hb o=>if_neg hb;have hy:∀b,a8 β h b->∀o,S2 b o=w.cell? ⟨b,o,none⟩:=fun b hb o=>Gg hb;have hωn:∀b,¬a8 β h b->ω2 b=ω b:=fun b hb=>if_neg hb;have hωy:∀b,a8 β h b->ω2 b= .no:=fun b hb=>Gg hb;have hho:∀b,a8 β h b->∃l,ω b= .heap l:=fun b hb=>by obtain⟨l,_,h1,_⟩:=H.hown hb;exact⟨l,h1⟩
 have hno:∀b,(∀l,ω b≠.heap l)->¬a8 β h b:=fun b hb ho=>by obtain⟨l,hl⟩:=hho b ho;exact hb l hl
 have hle:S.le S2:=by
  intro b o v hv;by_cases hb:a8 β h b
  ·obtain⟨l,x,_,_,_,h5⟩:=H.hown hb;rw[h5]at hv;cases hv
  ·rw[hn b hb];exact hv
 have hwf:Wf S2 w:=by
  intro b o v hv;by_cases hb:a8 β h b
  ·rw[hy b hb]at hv;exact hv
  ·rw[hn b hb]at hv;exact H.wf b o v hv
 refine⟨S2,ω2,⟨hwf,H.gro,fun b hb hE=>⟨(H.keep b hb hE).1,fun o=>?_⟩,ap.le_trans H.le hle,H.ext,by simp[H.hlen],fun l cs hl hcs=>?_,H.tsz,fun t ht=>?_,H.grps,fun B n hB=>?_,fun g z hg=>?_,fun b hb=>?_,H.used⟩,fun v u hv=>?_⟩
 ·have:¬a8 β h b:=fun ho=>by
   obtain⟨l,hl⟩:=hho b ho;rcases (H.mine b (by rw[hl];simp)).1.low with h1|h1
   ·exact hE h1
   ·omega
  rw[hn b this];exact (H.keep b hb hE).2 o
 ·rw[Hk]at hl;cases hq:h[l]? with
  |none=>rw[hq]at hl;cases hl
  |some x=>rw[hq]at hl;simp at hl;exact absurd hl (fun hh=>hcs hh)
 ·have:=H.slots t ht
  cases hv:(e.get t).v with
  |val av=>rw[hv]at this;exact VR.mono hle (cq.refl β) _ _ this
  |loc B off=>rw[hv]at this;exact this
 ·obtain⟨h1,h2,h3,b,x,h4,h5,h6,h7,h8⟩:=H.lblk B n hB;have hb:=hno b (fun l hl=>by rw[h6]at hl;cases hl);refine⟨h1,h2,h3,b,x,h4,h5,by rw[hωn b hb];exact h6,fun o=>by rw[hn b hb];exact h7 o,fun i hi=>?_⟩;obtain⟨v,a',g1,g2,g3,g4⟩:=h8 i hi;exact⟨v,a',g1,g2,VR.mono hle (cq.refl β) _ _ g3,g4⟩
 ·obtain⟨a',len,cap,h1,h2,h3,h4⟩:=H.free g z hg;refine⟨a',len,cap,h1,h2,h3,h4.imp id ?_⟩;rintro⟨sz,b,off,x,g1,g2,g3,g4,g5,g6⟩;have hb:=hno b (fun l hl=>by rw[g5]at hl;cases hl);exact⟨sz,b,off,x,g1,g2,g3,g4,by rw[hωn b hb];exact g5,fun o ho=>by rw[hn b hb];exact g6 o ho⟩
 ·by_cases ho:a8 β h b
  ·exact absurd (hωy b ho) hb
  ·have hb':ω b≠.no:=by rw[<- hωn b ho];exact hb
   exact⟨(H.mine b hb').1.of_eq (hωn b ho),(H.mine b hb').2⟩
 ·exact oh H.heap hle (fun b o x hb hr=>by rw[hy b hb,hr.cell]) 6 v u hv
theorem iC{c:Entry}{N:Nat}{U:Nat->Prop}{e:Env}{h:Hp}{a:Act}{w:World}{gid:Nat}{d:Option Tmp}{u:Upd}(hd:∀t,d=some t->t<N)(hs:Shape e gid {} none u)(H:dj c N U (e.upd d u) h a w):dj c N U (e.upd d (.ofV (gO 6 h u.ent.av))) (h.map fun _=>[]) a w:=by
 obtain⟨S,β,γ,lam,ω,F⟩:=H;obtain⟨S2,ω2,F2,hf⟩:=F.freeze;have h1:=hs.ls rfl;have h2:=hs.lb rfl;have h3:=hs.unlb rfl;have h4:=hs.noad rfl;have h5:=hs.nodr rfl;have hget:∀t,(e.upd d u).get t=if d=some t then u.ent else e.get t:=fun t=>by rw[bB,h1];rfl
 have hget':∀x t,(e.upd d (.ofV x)).get t=if d=some t then⟨.val x,none⟩else e.get t:=fun x t=>by rw[bB];rfl
 have hal:(e.upd d u).al=e.al:=by show u.add++cP e.al u.drop=e.al;rw[h4,h5];rfl
 have hlb:(e.upd d u).lb=e.lb:=by show gd (cu e.lb u.unlb) u.lb=e.lb;rw[h2,h3];rfl
 -- first forget the slot, then tell it anew
 have F3:FR c N U (e.upd d (.ofV .any)) (h.map fun _=>[]) a w S2 β γ lam ω2:=by
  refine F2.weak (fun t=>?_) (fun t g hg=>?_) (fun g z hz=>by rw[hal];exact hz) (fun B n hB=>by rw[hlb];exact hB)
  ·rw[hget,hget'];split
   ·rename_i hdt;exact .inr ⟨rfl,by have h1:=hd t hdt;have h2:=F.tsz.2;exact GD h1 h2⟩
   ·exact .inl rfl
  ·rw[hget']at hg;rw[hget];split at hg
   ·cases hg
   ·rename_i hdt;rw[if_neg hdt];exact hg
 cases d with
 |none=>exact⟨S2,β,γ,lam,ω2,F3⟩
 | some s=>
  have hsl:=F.slots s (GD (hd s rfl) F.tsz.2);rw[hget,Gg rfl]at hsl;generalize hv0:a.tmps.getD s undef=v0 at hsl;have hvr:VR S β u.ent.av v0:=by
   unfold Ent.av;cases hv:u.ent.v with
   |val x=>rw[hv]at hsl;exact hsl
   |loc B off=>simp[VR]
  have F4:=F3.setV (d:=some s) hd (hf _ _ hvr);refine⟨S2,β,γ,lam,ω2,(F4.weak (e2:=e.upd (some s) (.ofV (gO 6 h u.ent.av))) (fun t=>.inl ?_) (fun t g hg=>?_) (fun g z hz=>hz) (fun B n hB=>hB)).acts ?_⟩
  ·rw[hget',bB];split
   ·rfl
   ·rename_i hdt;show (e.get t).v=(bi ((s,⟨.val .any,none⟩):: e.sl) t).v;rw[bw,if_neg (fun hh=>hdt (by rw[hh]))];rfl
  ·rw[hget']at hg;rw[bB];split at hg
   ·cases hg
   ·rename_i hdt;rw[if_neg hdt];show (bi ((s,⟨.val .any,none⟩):: e.sl) t).g=some g;rw[bw,if_neg (fun hh=>hdt (by rw[hh]))];exact hg
  ·have hlt:s<a.tmps.size:=GD (hd s rfl) F.tsz.1;simp only[Act.put];rw[<- hv0,Gy,GT hlt];apply Array.ext_getElem?;intro i;rw[Hy];split
   ·rename_i hi;subst hi;rw[GT hlt];rfl
   ·rfl
end Go.Av
namespace Go.Av
section
variable {P:Program} {T:TT} {w:World} {S:ap} {β:List aZ}
theorem kO.cons{e:AV}{es:List AV}{ents:List MapEntry}(h:kO S β (e:: es) ents):∃k v x ents',e= .tup [k,v]/\ents=x:: ents'/\VR S β k x.key/\VR S β v x.val/\kO S β es ents':=by
 obtain⟨h1,h2⟩:=h;cases ents with
 |nil=>simp at h1
 |cons x ents'=>
  obtain⟨k,v,g1,g2,g3⟩:=h2 0 e x rfl rfl;exact⟨k,v,x,ents',g1,rfl,g2,g3,by simpa using h1,fun i a b ha hb=>h2 (i+1) a b (by simpa using ha) (by simpa using hb)⟩
end
end Go.Av
namespace Go.Av
variable [Dr]
section
variable {P:Program} {cx:Cx} {c:Entry} {N:Nat} {U:Nat->Prop} {e:Env} {h:Hp} {a:Act} {w:World} {S:ap} {β:List aZ} {γ:Nat->Value} {lam:Nat->Option Nat} {ω:Nat->Owner} {o:Oper} {gid:Nat}
theorem rV(H:FR c N U e h a w S β γ lam ω)(hd:∀t,o.dst=some t->t<N){t:TypeId}(ho:o.op= .makeMap t none)(hr:aJ e o.dst (.dyn kJ .ofV) h≠.fail):After P c N (UG U gid) (aJ e o.dst (.dyn kJ .ofV) h) o a w:=absurd rfl hr
theorem ut(hT:TOK P cx.T)(H:FR c N U e h a w S β γ lam ω)(hd:∀t,o.dst=some t->t<N){t:TypeId}{x i:Operand}{ok:Bool}(ho:o.op= .lookup t x i ok)(hx:∀t,x= .tmp t->t<1000)(hi:∀t,i= .tmp t->t<1000)(hr:aJ e o.dst (.dyn (qh cx.T t (opnd e x) (opnd e i) ok) .ofV) h≠.fail):After P c N (UG U gid) (aJ e o.dst (.dyn (qh cx.T t (opnd e x) (opnd e i) ok) .ofV) h) o a w:=absurd rfl hr
theorem wS(hT:TOK P cx.T)(H:FR c N U e h a w S β γ lam ω){t:TypeId}{m k x:Operand}(ho:o.op= .mapUpdate t m k x\/o.op= .insert t m k x)(hm:∀t,m= .tmp t->t<1000)(hk:∀t,k= .tmp t->t<1000)(hx:∀t,x= .tmp t->t<1000)(hr:aJ e o.dst (gE cx e o.dst t m k x) h≠.fail):After P c N (UG U gid) (aJ e o.dst (gE cx e o.dst t m k x) h) o a w:=by unfold gE at hr |-;split at hr<;>exact absurd rfl hr
end
end Go.Av
namespace Go.Av
variable [Dr]
section
variable {c:Entry} {N:Nat} {U:Nat->Prop} {e:Env} {h:Hp} {a:Act} {w:World} {S:ap} {β:List aZ} {γ:Nat->Value} {lam:Nat->Option Nat} {ω:Nat->Owner} {P:Program} {cx:Cx} {gid:Nat} {o:Oper}
theorem wT(hT:TOK P cx.T)(H:FR c N U e h a w S β γ lam ω)(hd:∀t,o.dst=some t->t<N){t:TypeId}{x:Operand}(ho:o.op= .range t x)(hx:∀t,x= .tmp t->t<1000)(hr:aJ e o.dst (.dyn (oI cx.T t (opnd e x)) .ofV) h≠.fail):After P c N (UG U gid) (aJ e o.dst (.dyn (oI cx.T t (opnd e x)) .ofV) h) o a w:=absurd rfl hr
theorem v8(H:FR c N U e h a w S β γ lam ω)(hd:∀t,o.dst=some t->t<N){x:Operand}(ho:o.op= .entry x)(hx:∀t,x= .tmp t->t<1000)(hr:aJ e o.dst (.dyn (ln (opnd e x)) .ofV) h≠.fail):After P c N (UG U gid) (aJ e o.dst (.dyn (ln (opnd e x)) .ofV) h) o a w:=absurd rfl hr
end
end Go.Av
namespace Go.Av
variable [Dr]
section
variable {P:Program} {cx:Cx} {c:Entry} {N:Nat} {U:Nat->Prop} {e:Env} {h:Hp} {a:Act} {w:World} {S:ap} {β:List aZ} {γ:Nat->Value} {lam:Nat->Option Nat} {ω:Nat->Owner} {o:Oper} {gid:Nat}
open Classical in
theorem A7(hT:TOK P cx.T)(H:FR c N U e h a w S β γ lam ω)(hd:∀t,o.dst=some t->t<N)(hU:∀g,gid<=g->g<gid+1000->¬U g){t:Nat}{x:Operand}{lo hi mx:Option Operand}(ho:o.op= .slice t x lo hi mx)(hx:∀t,x= .tmp t->t<1000)(hlo:∀y,lo=some y->∀t,y= .tmp t->t<1000)(hr:aJ e o.dst (jd cx e gid t x lo hi mx) h≠.fail):After P c N (UG U gid) (aJ e o.dst (jd cx e gid t x lo hi mx) h) o a w:=by unfold jd at hr;exfalso;revert hr;(repeat' split)<;>first|(intro hr;exact hr rfl)|(generalize (vX cx.T t _&&hi.isNone&&mx.isNone)=b;cases b<;>exact fun hr=>hr rfl)
end
end Go.Av
namespace Go.Av
variable [Dr]
section
variable {P:Program} {cx:Cx} {c:Entry} {N:Nat} {U:Nat->Prop} {e:Env} {h:Hp} {a:Act} {w:World} {S:ap} {β:List aZ} {γ:Nat->Value} {lam:Nat->Option Nat} {ω:Nat->Owner} {o:Oper} {gid:Nat}
omit [Dr]in
theorem lF{x:Operand}(h:aQ x=true):x= .const (.slice none 0 0):=by
 unfold aQ at h;split at h
 ·rfl
 ·simp at h
theorem wu{m:M AV}(hd:∀t,o.dst=some t->t<N)(hl:aJ e o.dst (.dyn m .ofV) h≠.fail->After P c N (UG U gid) (aJ e o.dst (.dyn m .ofV) h) o a w)(hr:aJ e o.dst (.dyn (af m pO) .ofV) h≠.fail):After P c N (UG U gid) (aJ e o.dst (.dyn (af m pO) .ofV) h) o a w:=by
 intro next Q hn hp
 simp only[aJ,af,pO,aw]at hr hn hp hl;cases hm:m h with
 |fail=>rw[hm]at hr;exact absurd rfl hr
 |pan pv h1=>
  rw[hm]at hp hl;exact hl (by simp) next Q (fun e' h' a' w' h1=>by cases h1) hp
 |ok v h1=>
  rw[hm]at hn hl;refine hl (by simp) next Q (fun e' h' a' w' k1 k2 k3=>?_) (fun pv h' v w' k1=>by cases k1)
  cases k1;exact hn _ _ a' w' rfl (iC (gid:=gid) hd (Shape.ofV ..) k2) k3
omit [Dr]in
theorem lY{x:Operand}(h:VR S β (opnd e x) (a.eval x)):VR S β (je e x) (a.eval x):=by
 unfold je;cases hn:aQ x with
 |false=>exact h
 |true=>
  unfold aQ at hn;split at hn
  ·simp[Act.eval,VR]
  ·cases hn
omit [Dr]in
theorem Fi{f g:Operand->AV}{v:Operand->Value}{l:List Operand}(_:aP S β (l.map f) (l.map v))(h:∀x∈l,VR S β (g x) (v x)):aP S β (l.map g) (l.map v):=by
 induction l with
 |nil=>simp[aP]
 |cons x l ih=>
  rename_i hh;simp only[GY,aP]at hh |-;obtain⟨y,ys,hy,_,h2⟩:=hh;cases hy;exact⟨_,_,rfl,h x (by simp),ih h2 fun y hy=>h y (by simp[hy])⟩
theorem xY(hT:TOK P cx.T)(hC:bD P cx.own cx.call)(H:FR c N U e h a w S β γ lam ω)(hd:∀t,o.dst=some t->t<N)(hU:∀g,gid<=g->g<gid+1000->¬U g){cc:Call}(ho:o.op= .call cc)(ht:∀x∈o.op.operands.toList,∀t,x= .tmp t->t<1000)(hr:aJ e o.dst (dD cx e gid o cc) h≠.fail):After P c N (UG U gid) (aJ e o.dst (dD cx e gid o cc) h) o a w:=by
 have hargs:∀x∈cc.args.toList,∀t,x= .tmp t->t<1000:=fun x hx t hxt=>ht x (by rw[ho];simp[Op.operands,Call.operands];exact .inr (by simpa using hx)) t hxt;have hvs:=jf H cc.args.toList hargs;have hmap:cc.args.map a.eval=(cc.args.toList.map a.eval).toArray:=by apply Hr;simp
 unfold dD at hr |-;cases hcal:cc.callee with
 |invoke r m=>rw[hcal]at hr;exact absurd rfl hr
 | value f=>
  rw[hcal]at hr;have hfv:∀t,f= .tmp t->t<1000:=fun t hft=>ht f (by rw[ho];simp[Op.operands,Call.operands,hcal]) t hft;have hclos:∀(hr:aJ e o.dst (.dyn (bJ cx.call (opnd e f) (cc.args.toList.map (opnd e))) .ofV) h≠.fail),After P c N (UG U gid) (aJ e o.dst (.dyn (bJ cx.call (opnd e f) (cc.args.toList.map (opnd e))) .ofV) h) o a w:=by
   intro hr;have hf:=aU H f hfv;simp only[aJ]at hr |-;generalize hq:opnd e f=q at hr hf |-;unfold bJ at hr |-;split at hr
   ·rename_i g fi cap;simp only[VR]at hf;obtain⟨xs,ys,hav,hx,hy⟩:=hf;refine iw hC H hd hU ((hx.append hvs).append hy) (fun hfn=>?_) (.inl fun v=>rfl) hr;have hargs':(xs++cc.args.toList.map a.eval++ys).toArray=xs.toArray++cc.args.map a.eval++ys.toArray:=by rw[hmap];simp
    simp only[execOp,ho,resolve,hcal,hav,Deferred.ofValue,Sem.run_bind,Sem.run_pure,Result.andThen_ok,invoke];rw[hargs'];exact ey (w:=w) hfn
   ·exact absurd rfl hr
  cases f with
  | func f=>
   simp only at hr |-;have hrunc:∀hfn,(execOp a.eval o).run P w= .ok (.enter f (cc.args.toList.map a.eval).toArray) w:=fun hfn=>by
    simp only[execOp,ho,resolve,hcal,Act.eval,Deferred.ofValue,Sem.run_bind,Sem.run_pure,Result.andThen_ok,invoke];rw[hmap];simpa using ey (w:=w) (args:=(cc.args.toList.map a.eval).toArray) hfn
   cases hfz:bb cx.ann.fz o.dst with
   | true=>
    rw[hfz]at hr;simp only[F9]at hr |-;cases hq:!(cx.iso f)&&!(cx.nw f)&&(cx.own f).isNone with
    |false=>rw[hq]at hr;exact absurd rfl hr
    |true=>
     rw[hq]at hr;simp only[F9]at hr |-;exact wu (m:=cx.call f (cc.args.toList.map (opnd e))) hd (fun hr=>iw hC H hd hU hvs hrunc (.inl fun v=>rfl) hr) hr
   |false=>
   rw[hfz]at hr;simp only[Gd]at hr |-;have hvt:aP S β (cc.args.toList.map (kq (bb cx.ann.hb o.dst) e)) (cc.args.toList.map a.eval):=by
    refine Fi hvs fun x hx=>?_;unfold kq;cases bb cx.ann.hb o.dst with
    |false=>exact aU H x (hargs x hx)
    |true=>exact lY (aU H x (hargs x hx))
   refine iw hC H hd hU hvt (fun hfn=>?_) ?_ hr
   rotate_left
   ·cases hof:cx.own f with
    |none=>exact .inl fun v=>rfl
    |some sz=>exact .inr ⟨sz,rfl,fun v=>rfl⟩
   simp only[execOp,ho,resolve,hcal,Act.eval,Deferred.ofValue,Sem.run_bind,Sem.run_pure,Result.andThen_ok,invoke];rw[hmap];simpa using ey (w:=w) (args:=(cc.args.toList.map a.eval).toArray) hfn
  |tmp t=>exact hclos hr
  |const v=>exact hclos hr
  |global g=>exact hclos hr
 | builtin b=>
  rw[hcal]at hr;cases b<;>simp only at hr |- <;> (try exact absurd rfl hr)
  case append=>
   split at hr
   ·rename_i t u x y hts hxs;cases hu:ep cx.T u with
    |false=>rw[hu]at hr;exact absurd rfl hr
    | true =>
     rw[hu]at hr;simp only[G3,Gd]at hr |-;have hx:∀t,x= .tmp t->t<1000:=hargs x (by rw[hxs];simp);have hy:∀t,y= .tmp t->t<1000:=hargs y (by rw[hxs];simp);cases hha:bb cx.ann.ha o.dst with
     | true=>
      rw[hha]at hr;simp only[F9]at hr |-;cases hhb:bb cx.ann.hb o.dst with
      |true=>
       rw[hhb]at hr;exact xQ hT H hd ho hcal hts hxs hx hy hu hr
      |false=>
       rw[hhb]at hr;exact xR hT H hd ho hcal hts hxs hx hy hu hr
     | false=>
      rw[hha]at hr;simp only[Gd]at hr |-;cases hnc:aQ x with
      | true=>
       rw[hnc]at hr;simp only[F9]at hr |-;have hxc:=lF hnc;subst hxc;have key:∀Y r,ew cx.T t (.sl []) Y=some r->oW P S β w (a.eval y) Y->After P c N (UG U gid) (.ok (e.upd o.dst (Upd.own r gid (bW cx.T t))) h) o a w:=fun Y r happ hsrc=>
        mP hT H hd hU ho hcal hts hxs hu (as:=[]) (g0:=none) rfl (by simp only[VR];exact⟨none,0,rfl,Ga _,fun _=>rfl,fun q hq=>by cases hq⟩) (.inl ⟨rfl,rfl⟩) happ hsrc
       cases hhl:bb cx.ann.hl o.dst with
       | true=>
        rw[hhl]at hr;simp only[F9,aJ,Av.af,o8]at hr |-;cases hsa:mJ h (opnd e y)with
        |none=>rw[hsa]at hr;exact absurd rfl hr
        |some es=>
         rw[hsa]at hr;simp only at hr |-;cases happ:ew cx.T t (.sl []) (.sl es)with
         |none=>rw[happ]at hr;exact absurd rfl hr
         |some r=>exact key _ r happ (mb H (aU H y hy) hsa)
       |false=>
        rw[hhl]at hr;simp only[Gd]at hr |-;cases happ:ew cx.T t (.sl []) (opnd e y)with
        |none=>rw[happ]at hr;exact absurd rfl hr
        |some r=>exact key _ r happ (jk H.wf (aU H y hy))
      | false=>
       rw[hnc]at hr;simp only[Gd]at hr |-;cases x<;>simp only at hr |- <;> (try exact absurd rfl hr);rename_i s;cases hg:(e.get s).g with
       |none=>rw[hg]at hr;exact absurd rfl hr
       | some g=>
        rw[hg]at hr;simp only at hr |-;cases hal:aA e.al g with
        |none=>rw[hal]at hr;exact absurd rfl hr
        | some z=>
         rw[hal]at hr;simp only at hr |-;cases hz:oN z (bW cx.T t)with
         |false=>rw[hz]at hr;exact absurd rfl hr
         | true=>
          rw[hz]at hr;simp only[F9]at hr |-;have key:∀Y r,ew cx.T t (opnd e (.tmp s)) Y=some r->oW P S β w (a.eval y) Y->After P c N (UG U gid) (.ok (e.upd o.dst { Upd.own r gid (bW cx.T t)with drop:=some g }) h) o a w:=fun Y r happ hsrc=>by
           obtain⟨as,has⟩:=xO happ;have hvx:=aU H (.tmp s) hx;rw[has]at hvx happ;have hγ:=H.grps s g z (hx s rfl) hg hal;exact mP hT H hd hU ho hcal hts hxs hu (as:=as) (g0:=some g) rfl hvx (.inr ⟨g,z,rfl,by
            have:a.eval (.tmp s)=γ g:=hγ;rw[this];exact H.free g z hal,hz⟩) happ hsrc
          cases hhl:bb cx.ann.hl o.dst with
          | true=>
           rw[hhl]at hr;simp only[F9,aJ,Av.af,o8]at hr |-;cases hsa:mJ h (opnd e y)with
           |none=>rw[hsa]at hr;exact absurd rfl hr
           |some es=>
            rw[hsa]at hr;simp only at hr |-;cases happ:ew cx.T t (opnd e (.tmp s)) (.sl es)with
            |none=>rw[happ]at hr;exact absurd rfl hr
            |some r=>exact key _ r happ (mb H (aU H y hy) hsa)
          |false=>
           rw[hhl]at hr;simp only[Gd]at hr |-;cases happ:ew cx.T t (opnd e (.tmp s)) (opnd e y)with
           |none=>rw[happ]at hr;exact absurd rfl hr
           |some r=>exact key _ r happ (jk H.wf (aU H y hy))
   ·exact absurd rfl hr
  case clear=>
   split at hr
   ·rename_i t ts x xs hts hxs;exact vT hT H hd ho hcal hts hxs (hargs x (by rw[hxs];simp)) hr
   ·exact absurd rfl hr
  case len=>
   split at hr
   ·rename_i t ts x xs hts hxs;refine cI H hd (m:=Builtin.len_ cc.argTypes o.type (cc.args.map a.eval)) ?_ (fun r hr'=>?_) hr
    ·simp only[execOp,ho,resolve,hcal,invoke,builtin,pure_bind]
    ·have h1:cc.argTypes=(t:: ts).toArray:=by apply Hr;simpa using hts
     have h2:cc.args.map a.eval=(a.eval x:: xs.map a.eval).toArray:=by rw[hmap,hxs];simp
     rw[h1,h2];exact Bg hT ts (xs.map a.eval) hr' (aU H x (hargs x (by rw[hxs];simp)))
   ·exact absurd rfl hr
  case min=>
   refine cI H hd (m:=Builtin.min_ cc.argTypes o.type (cc.args.map a.eval)) ?_ (fun r hr'=>?_) hr
   ·simp only[execOp,ho,resolve,hcal,invoke,builtin,pure_bind]
   ·obtain⟨v,rest,he,hp⟩:=oz (P:=P) (w:=w) _ _ (Ga _) r _ hr' hvs;obtain⟨u,hu,hur⟩:=hp;exact⟨u,by rw[hmap];simp only[Builtin.min_];rw[he];simpa using hu,hur⟩
  case max=>
   refine cI H hd (m:=Builtin.max_ cc.argTypes o.type (cc.args.map a.eval)) ?_ (fun r hr'=>?_) hr
   ·simp only[execOp,ho,resolve,hcal,invoke,builtin,pure_bind]
   ·obtain⟨v,rest,he,hp⟩:=oz (P:=P) (w:=w) _ _ (Ga _) r _ hr' hvs;obtain⟨u,hu,hur⟩:=hp;exact⟨u,by rw[hmap];simp only[Builtin.max_];rw[he];simpa using hu,hur⟩
theorem Dx(hT:TOK P cx.T)(H:FR c N U e h a w S β γ lam ω)(hd:∀t,o.dst=some t->t<N){t p:Nat}(ho:o.op= .load t (.tmp p))(hx:p<1000)(hr:aJ e o.dst (B2 (cH cx e o.dst t p)) h≠.fail):
  After P c N (UG U gid) (aJ e o.dst (B2 (cH cx e o.dst t p)) h) o a w:=by
 have hsh:bC (Shape e gid {} none) (cH cx e o.dst t p):=lL o.dst t p {};have hl:=fun hr=>s8 (gid:=gid) hT H hd ho hx hr;revert hr;generalize cH cx e o.dst t p=A at hsh hl;intro hr;cases A with
 |bad=>exact absurd rfl hr
 | stat u=>
  intro next Q hn hp
  exact hl (by simp[aJ,aw]) next Q (fun e' h' a' w' h1 h2 h3=>by
   cases h1;exact hn _ _ a' w' rfl (iC hd hsh h2) h3) (fun pv h' v w' h1=>by cases h1)
 |thr v=>exact hl hr
 | dyn m sh=>
  intro next Q hn hp
  simp only[aJ,B2,af,pO,aw]at hr hn hp hl;cases hm:m h with
  |fail=>rw[hm]at hr;exact absurd rfl hr
  |pan pv h1=>
   rw[hm]at hp hl;exact hl (by simp) next Q (fun e' h' a' w' h1=>by cases h1) hp
  |ok v h1=>
   rw[hm]at hn hl;refine hl (by simp) next Q (fun e' h' a' w' k1 k2 k3=>?_) (fun pv h' v w' k1=>by cases k1)
   cases k1;exact hn _ _ a' w' rfl (iC hd (hsh v) k2) k3
theorem wQ(hT:TOK P cx.T)(hC:bD P cx.own cx.call)(H:FR c N U e h a w S β γ lam ω)(hd:∀t,o.dst=some t->t<N)(hU:∀g,gid<=g->g<gid+1000->¬U g)(ht:∀x∈o.op.operands.toList,∀t,x= .tmp t->t<1000)(hpN:∀p,ul (bA cx.ann.kinds p .L)=true->p<N)(hr:aY cx e gid o h≠.fail):After P c N (UG U gid) (aY cx e gid o h) o a w:=by
 cases ho:o.op with
 |move x=>exact tg H hd hU (.inl ho) (fun t hx=>ht x (by rw[ho];simp[Op.operands]) t hx)
 |assign x=>exact tg H hd hU (.inr ho) (fun t hx=>ht x (by rw[ho];simp[Op.operands]) t hx)
 |pick k x y=>
  have h1:=fun t hx=>ht k (by rw[ho];simp[Op.operands]) t hx;have h2:=fun t hx=>ht x (by rw[ho];simp[Op.operands]) t hx;have h3:=fun t hx=>ht y (by rw[ho];simp[Op.operands]) t hx;unfold aY dq at hr |-;rw[ho]at hr |-;simp only at hr |-;refine cI H hd (m:=do pure (if <- asBool (a.eval k)then a.eval x else a.eval y)) ?_ (fun r hr'=>yX hr' (aU H k h1) (aU H x h2) (aU H y h3)) hr;simp only[execOp,ho,bind_assoc,pure_bind]
 |alloc t=>exact uW hT H hd hU ho hr
 |box t x=>exact AR H hd hU ho (fun t hx=>ht x (by rw[ho];simp[Op.operands]) t hx) hr
 |build t ps=>
  have hps:∀p∈ps.toList,∀t,p.2= .tmp t->t<1000:=fun p hp t hx=>ht p.2 (by rw[ho];simp[Op.operands];exact⟨p.1,by simpa using hp⟩) t hx;unfold aY dq at hr |-;rw[ho]at hr |-;simp only at hr |-;exact cI H hd (m:=Instr.build t (ps.map fun p=>(p.1,a.eval p.2))) (by simp only[execOp,ho]) (fun r hr'=>pj hT hr' (by simpa using gW H ps.toList hps)) hr
 | buildSlice t n ps=>
  have hps:∀p∈ps.toList,∀t,p.2= .tmp t->t<1000:=fun p hp t hx=>ht p.2 (by rw[ho];simp[Op.operands];exact⟨p.1,by simpa using hp⟩) t hx;cases hha:bb cx.ann.ha o.dst with
  |false=>exact mA hT H hd hU ho hps hha hr
  |true=>
   unfold aY dq at hr |-;rw[ho]at hr |-;simp only[hha,F9]at hr |-;exact tU hT H hd ho hps hr
 | load t x=>
  unfold aY dq at hr |-;rw[ho]at hr |-;cases x with
  | tmp p=>
   have hp:=ht (.tmp p) (by rw[ho];simp[Op.operands]) p rfl;simp only at hr |-;cases hnl:bb cx.ann.nl o.dst&&eL (e.get p)with
   |true=>rw[hnl]at hr;exact absurd rfl hr
   |false=>
   rw[hnl]at hr;simp only[Gd]at hr |-;cases hz:bb cx.ann.fz o.dst with
   |false=>rw[hz]at hr;exact s8 hT H hd ho hp hr
   |true=>
    rw[hz]at hr;simp only[F9]at hr |-;exact Dx hT H hd ho hp hr
  |_=>exact absurd rfl hr
 |store t x y=>
  exact xl hT H (fun _ _=>trivial) hU ho (fun t hx=>ht x (by rw[ho];simp[Op.operands]) t hx) (fun t hx=>ht y (by rw[ho];simp[Op.operands]) t hx) (fun p _ hp=>hpN p hp) hr
 |nilCheck x=>exact qk H hd ho (fun t hx=>ht x (by rw[ho];simp[Op.operands]) t hx) hr
 |binOp op t x y u=>
  have h1:=fun t hx=>ht x (by rw[ho];simp[Op.operands]) t hx;have h2:=fun t hx=>ht y (by rw[ho];simp[Op.operands]) t hx;unfold aY dq at hr |-;rw[ho]at hr |-;simp only at hr |-;cases hlit:lA cx.T op t x y with
  |true=>rw[hlit]at hr;exact absurd rfl hr
  |false=>
  rw[hlit]at hr;simp only[Gd]at hr |-;exact cI H hd (m:=do eqGuard op t x y (a.eval x) (a.eval y);Go.binOp op t (a.eval x) (a.eval y)) (by simp only[execOp,ho]) (fun r hr'=>AQ hT x y hlit hr' (lY (aU H x h1)) (lY (aU H y h2))) hr
 |unOp op t x=>
  have h1:=fun t hx=>ht x (by rw[ho];simp[Op.operands]) t hx;unfold aY dq at hr |-;rw[ho]at hr |-;simp only at hr |-;exact cI H hd (m:=Op.unary op (a.eval x)) (by simp only[execOp,ho]) (fun r hr'=>Ef hr' (aU H x h1)) hr
 |convert s t x=>
  have h1:=fun t hx=>ht x (by rw[ho];simp[Op.operands]) t hx;unfold aY dq at hr |-;rw[ho]at hr |-;simp only at hr |-;exact cI H hd (m:=convert s t (a.eval x)) (by simp only[execOp,ho]) (fun r hr'=>ym hT hr' (aU H x h1)) hr
 |makeInterface t x=>
  have h1:=fun t hx=>ht x (by rw[ho];simp[Op.operands]) t hx;unfold aY dq at hr |-;rw[ho]at hr |-;simp only at hr |-;exact cI H hd (m:=Instr.makeInterface t (a.eval x)) (by simp only[execOp,ho]) (fun r hr'=>rW hT hr' (aU H x h1)) hr
 |makeFunc f x y=>
  have h1:=jf H x.toList (fun z hz t hx=>ht z (by rw[ho];simp[Op.operands];exact .inl (by simpa using hz)) t hx);have h2:=jf H y.toList (fun z hz t hx=>ht z (by rw[ho];simp[Op.operands];exact .inr (by simpa using hz)) t hx);unfold aY dq at hr |-;rw[ho]at hr |-;simp only at hr |-;refine After.val (v:=.func f (x.map a.eval) (y.map a.eval)) (w':=w) (by simp[execOp,ho,Instr.makeFunc]) (dj.up ⟨S,β,γ,lam,ω,H.setV hd ?_⟩);simp only[VR];have hm:∀z:Array Operand,z.map a.eval=(z.toList.map a.eval).toArray:=fun z=>by apply Hr;simp
  exact⟨_,_,by rw[hm x,hm y],h1,h2⟩
 | makeSlice t x y=>
  have hx1:∀t,x= .tmp t->t<1000:=fun t hx=>ht x (by rw[ho];simp[Op.operands]) t hx;have hy1:∀t,y= .tmp t->t<1000:=fun t hx=>ht y (by rw[ho];simp[Op.operands]) t hx;cases hha:bb cx.ann.ha o.dst with
  |false=>exact ov hT H hd hU ho hx1 hy1 hha hr
  |true=>
   unfold aY dq at hr |-;rw[ho]at hr |-;simp only[hha,F9]at hr |-;exact wK hT H hd ho hx1 hy1 hr
 | slice t x lo hi mx=>
  cases hso:bb cx.ann.so o.dst with
  |true=>
   unfold aY dq at hr |-;rw[ho]at hr |-;simp only[hso,F9]at hr |-;exact A7 hT H hd hU ho (fun t hx=>ht x (by rw[ho];simp[Op.operands]) t hx) (fun y hy t hx=>ht y (by rw[ho];simp[Op.operands,hy]) t hx) hr
  |false=>
   exact xi hT H hd hU ho (fun t hx=>ht x (by rw[ho];simp[Op.operands]) t hx) (fun y hy t hx=>ht y (by rw[ho];simp[Op.operands,hy]) t hx) (fun y hy t hx=>ht y (by rw[ho];simp[Op.operands,hy]) t hx) (fun y hy t hx=>ht y (by rw[ho];simp[Op.operands,hy]) t hx) hso hr
 |fieldAddr t x f=>exact od hT H hd ho (fun t hx=>ht x (by rw[ho];simp[Op.operands]) t hx) hr
 |field t x f=>
  have h1:=fun t hx=>ht x (by rw[ho];simp[Op.operands]) t hx;unfold aY dq at hr |-;rw[ho]at hr |-;simp only at hr |-;exact cI H hd (m:=Instr.field t (a.eval x) f) (by simp only[execOp,ho]) (fun r hr'=>wg hT hr' (aU H x h1)) hr
 |indexAddr t x i=>exact ol hT H hd ho (fun t hx=>ht x (by rw[ho];simp[Op.operands]) t hx) (fun t hx=>ht i (by rw[ho];simp[Op.operands]) t hx) hr
 |index t x i=>
  have h1:=fun t hx=>ht x (by rw[ho];simp[Op.operands]) t hx;have h2:=fun t hx=>ht i (by rw[ho];simp[Op.operands]) t hx;unfold aY dq at hr |-;rw[ho]at hr |-;simp only at hr |-;exact cI H hd (m:=Instr.index t (a.eval x) (a.eval i)) (by simp only[execOp,ho]) (fun r hr'=>pW hT hr' (aU H x h1) (aU H i h2)) hr
 |extract x i=>
  have h1:=fun t hx=>ht x (by rw[ho];simp[Op.operands]) t hx;unfold aY dq at hr |-;rw[ho]at hr |-;simp only at hr |-;exact cI H hd (m:=Instr.extract (a.eval x) i) (by simp only[execOp,ho]) (fun r hr'=>rD hr' (aU H x h1)) hr
 |panic x=>
  have h1:=fun t hx=>ht x (by rw[ho];simp[Op.operands]) t hx;have hv:=aU H x h1;unfold aY dq at hr |-;rw[ho]at hr |-;simp only at hr |-;cases hq:opnd e x<;>rw[hq]at hr hv<;>(try exact absurd rfl hr);rename_i t v;intro next Q hn hp
  simp only[VR]at hv;obtain⟨y,hav,hy⟩:=hv;unfold Oper.wp;have hrun:(execOp a.eval o).run P w= .halt (.panic (.iface t y)) w:=by simp[execOp,ho,hav,Instr.panic]
  rw[hrun];exact hp (.iface t v) h (.iface t y) w rfl ⟨S,β,H.out,by simp only[VR];exact⟨y,rfl,hy⟩⟩
 |call cc=>
  unfold aY dq at hr |-;rw[ho]at hr |-;simp only at hr |-;exact xY hT hC H hd hU ho ht hr
 | makeMap t r=>
  unfold aY dq at hr |-;rw[ho]at hr |-;simp only at hr |-;cases r with
  |some r=>exact absurd rfl hr
  |none=>
   simp only[Option.isSome_none,Gd];exact rV H hd ho hr
 |lookup t x i ok=>
  have h1:=fun t hx=>ht x (by rw[ho];simp[Op.operands]) t hx;have h2:=fun t hx=>ht i (by rw[ho];simp[Op.operands]) t hx;unfold aY dq at hr |-;rw[ho]at hr |-;simp only at hr |-;exact ut hT H hd ho h1 h2 hr
 |range t x=>
  have h1:=fun t hx=>ht x (by rw[ho];simp[Op.operands]) t hx;unfold aY dq at hr |-;rw[ho]at hr |-;simp only at hr |-;exact wT hT H hd ho h1 hr
 |entry x=>
  have h1:=fun t hx=>ht x (by rw[ho];simp[Op.operands]) t hx;unfold aY dq at hr |-;rw[ho]at hr |-;simp only at hr |-;exact v8 H hd ho h1 hr
 |mapUpdate t m k x=>
  have h1:=fun t hx=>ht m (by rw[ho];simp[Op.operands]) t hx;have h2:=fun t hx=>ht k (by rw[ho];simp[Op.operands]) t hx;have h3:=fun t hx=>ht x (by rw[ho];simp[Op.operands]) t hx;unfold aY dq at hr |-;rw[ho]at hr |-;simp only at hr |-;exact wS hT H (.inl ho) h1 h2 h3 hr
 |insert t m k x=>
  have h1:=fun t hx=>ht m (by rw[ho];simp[Op.operands]) t hx;have h2:=fun t hx=>ht k (by rw[ho];simp[Op.operands]) t hx;have h3:=fun t hx=>ht x (by rw[ho];simp[Op.operands]) t hx;unfold aY dq at hr |-;rw[ho]at hr |-;simp only at hr |-;exact wS hT H (.inr ho) h1 h2 h3 hr
 |_=>unfold aY dq at hr;rw[ho]at hr;exact absurd rfl hr
end
end Go.Av
namespace Go.Av
variable [Dr]
def Cz(o:Oper)(e e':Env):Prop:=((∀t,1000<=t->e'.get t=e.get t)/\∀B,aI e'.lb B=aI e.lb B)\/
 ∃t p,o.op= .load t (.tmp p)/\∀B off,(e.get p).v= .loc B off->aI e'.lb B=aI e.lb B/\(1000<=B->B % 1000=0->∀k,k<1000->e'.get (B+k)=e.get (B+k))
structure Agree (cx:Cx) (o:Oper) (e e':Env):Prop where
 ops:∀t∈eP o,e'.get t=e.get t
 loc:((ak cx o).rl||(ak cx o).wl)=true->Cz o e e'
 al:(ak cx o).dr=true->∀g,aA e'.al g=aA e.al g
 lf:(ak cx o).wl=true->∀s,o.dst=some s->aM e.sl (aS s)=true->aM e'.sl (aS s)=true
section
variable {cx:Cx} {e e':Env} {gid:Nat} {o:Oper}
omit [Dr]in
theorem Agree.get(A:Agree cx o e e'){t:Nat}(h:Operand.tmp t∈o.op.operands.toList):e'.get t=e.get t:=
 A.ops t (H4.2 ⟨.tmp t,h,rfl⟩)
omit [Dr]in
theorem Agree.opnd(A:Agree cx o e e'){x:Operand}(h:x∈o.op.operands.toList):opnd e' x=opnd e x:=by
 cases x with
 |tmp t=>simp only[Av.opnd,Env.av];rw[A.get h]
 |const v=>rfl
 |func f=>rfl
 |global g=>rfl
omit [Dr]in
theorem Agree.opnds(A:Agree cx o e e'){l:List Operand}(h:∀x∈l,x∈o.op.operands.toList):l.map (Av.opnd e')=l.map (Av.opnd e):=
 Io fun x hx=>A.opnd (h x hx)
omit [Dr]in
theorem Agree.parts(A:Agree cx o e e'){l:List (Nat×Operand)}(h:∀x∈l,x.2∈o.op.operands.toList):l.map (fun p=>(p.1,Av.opnd e' p.2))=l.map (fun p=>(p.1,Av.opnd e p.2)):=
 Io fun x hx=>by rw[A.opnd (h x hx)]
omit [Dr]in
theorem kl(h:∀t,1000<=t->e'.get t=e.get t){B:Nat}(hB:1000<=B):∀n,fY e' B n=fY e B n
 |0=>rfl
 |n+1=>by
  simp only[fY,Env.av];rw[kl h hB n,h (B+n) (by omega)]
omit [Dr]in
theorem iY{B off:Nat}(h:∀k,k<1000->e'.get (B+k)=e.get (B+k)):∀n,off+n<=1000->fY e' (B+off) n=fY e (B+off) n
 |0,_=>rfl
 |n+1,hn=>by
  simp only[fY,Env.av];rw[iY h n (by omega),Nat.add_assoc,h (off+n) (by omega)]
omit [Dr]in
theorem pT{B:Nat}(h:aI e'.lb B=aI e.lb B)(off n:Nat):eT e' B off n=eT e B off n:=by
 unfold eT;rw[h]
omit [Dr]in
theorem lB(h:∀B,aI e'.lb B=aI e.lb B)(B off n:Nat):eT e' B off n=eT e B off n:=by
 unfold eT;rw[h]
omit [Dr]in
theorem oS(h:∀B,aI e'.lb B=aI e.lb B)(B off p n:Nat):iJ e' B off p n=iJ e B off p n:=by
 unfold iJ;rw[h]
omit [Dr]in
theorem lQ{told:Bool}{x:Operand}(A:Agree cx o e e')(h:x∈o.op.operands.toList):eO told e' gid x=eO told e gid x:=by
 unfold eO;cases x with
 |tmp t=>simp only;rw[A.get h]
 |_=>rfl
omit [Dr]in
theorem rQ{d:Option Tmp}{t:TypeId}{p:Nat}(A:Agree cx o e e')(hp:Operand.tmp p∈o.op.operands.toList)(hf:(ak cx o).rl=true\/eL (e.get p)=false):cH cx e' d t p=cH cx e d t p:=by
 unfold cH;rw[A.get hp];cases hv:(e.get p).v with
 |val a=>rfl
 | loc B off=>
  replace hf:(ak cx o).rl=true:=hf.elim id fun h=>by simp[eL,hv]at h
  simp only;cases cx.T t with
  |none=>rfl
  | some ti=>
   rcases A.loc (by rw[hf];rfl)with⟨h1,h2⟩|⟨t',p',ho,h3⟩
   ·simp only;rw[lB h2];cases hlb:eT e B off ti.size with
    |false=>rfl
    |true=>
     obtain⟨m,_,_,hB⟩:=pU hlb;rw[kl h1 (by omega),h1 (B+off) (by omega)]
   ·have hpp:p=p':=by rw[ho]at hp;simpa [Op.operands]using hp
    subst hpp;obtain⟨h4,h5⟩:=h3 B off hv;simp only;rw[pT h4];cases hlb:eT e B off ti.size with
    |false=>rfl
    | true=>
     obtain⟨m,_,hm,hB,hB0,hm0⟩:=ui hlb;rw[iY (h5 hB hB0) _ (by omega)];cases ti.agg with
     |true=>rfl
     |false=>
      by_cases h1:ti.size=1
      ·rw[h5 hB hB0 off (by omega)]
      ·simp[h1]
omit [Dr]in
theorem qK{t:TypeId}{p:Nat}{y:Operand}(A:Agree cx o e e')(hp:Operand.tmp p∈o.op.operands.toList)(hy:y∈o.op.operands.toList)(hf:(ak cx o).wl=true):dE cx e' gid t p y=dE cx e gid t p y:=by
 unfold dE;rw[A.get hp,A.opnd hy];obtain⟨h1,h2⟩:(∀t,1000<=t->e'.get t=e.get t)/\∀B,aI e'.lb B=aI e.lb B:=(A.loc (by rw[hf];simp)).elim id fun⟨t,p,ho,_⟩=>by
  unfold ak at hf;rw[ho]at hf;cases hf
 cases hv:(e.get p).v with
 |val a=>rfl
 | loc B off=>
  simp only;cases cx.T t with
  |none=>rfl
  |some ti=>
   simp only;rw[lB h2,oS h2];cases y with
   |tmp s=>simp only;rw[A.get hy]
   |_=>rfl
omit [Dr]in
theorem pB{t:TypeId}{p i:Nat}(A:Agree cx o e e')(hp:Operand.tmp p∈o.op.operands.toList):eA cx e' t p i=eA cx e t p i:=by
 unfold eA;rw[A.get hp]
omit [Dr]in
theorem pX{t:TypeId}{p:Nat}{i:Operand}(A:Agree cx o e e')(hp:Operand.tmp p∈o.op.operands.toList)(hi:i∈o.op.operands.toList):cn cx e' t p i=cn cx e t p i:=by
 unfold cn;rw[A.get hp,A.opnd hi]
omit [Dr]in
theorem o6{s:Nat}{t:TypeId}(A:Agree cx o e e')(hs:o.dst=some s)(hf:bA cx.ann.kinds s .L≠.F->bA cx.ann.kinds s .L≠.H->bA cx.ann.kinds s .L≠.B->(ak cx o).wl=true)(hb:dk cx e gid s t≠.bad):dk cx e' gid s t=dk cx e gid s t:=by
 unfold dk at hb |-;cases ht:cx.T t with
 |none=>rfl
 | some ti=>
  rw[ht]at hb;simp only at hb |-;cases hk:bA cx.ann.kinds s .L<;>rw[hk]at hb hf<;>simp only at hb |-
  all_goals
   have hw:=hf (by simp) (by simp) (by simp);cases hl:aM e.sl (aS s)with
   |false=>exact absurd (by rw[hl];simp) hb
   |true=>rw[A.lf hw s hs hl]
omit [Dr]in
theorem tS{s:Nat}{t:TypeId}{x:Operand}(A:Agree cx o e e')(hs:o.dst=some s)(hx:x∈o.op.operands.toList)(hf:bA cx.ann.kinds s .F≠.F->bA cx.ann.kinds s .F≠.H->bA cx.ann.kinds s .F≠.B->(ak cx o).wl=true)(hb:gD cx e s t x≠.bad):gD cx e' s t x=gD cx e s t x:=by
 unfold gD at hb |-;rw[A.opnd hx];cases hk:bA cx.ann.kinds s .F<;>rw[hk]at hb hf<;>simp only at hb |-
 all_goals
  cases ht:cx.T t with
  |none=>rfl
  |some ti=>
   rw[ht]at hb;simp only at hb |-;have hw:=hf (by simp) (by simp) (by simp);cases hl:aM e.sl (aS s)with
   |false=>exact absurd (by rw[hl];simp) hb
   |true=>rw[A.lf hw s hs hl]
omit [Dr]in
theorem ra{c:Call}(A:Agree cx o e e')(ho:o.op= .call c):dD cx e' gid o c=dD cx e gid o c:=by
 have hargs:∀x∈c.args.toList,x∈o.op.operands.toList:=fun x hx=>by
  rw[ho];simp[Op.operands,Call.operands];exact .inr (by simpa using hx)
 have hT:∀b:Bool,c.args.toList.map (kq b e')=c.args.toList.map (kq b e):=fun b=>by
  refine Io fun x hx=>?_;unfold kq je;rw[A.opnd (hargs x hx)]
 unfold dD;rw[A.opnds hargs,hT];cases hc:c.callee with
 |invoke r m=>rfl
 |value f=>
  have hf:f∈o.op.operands.toList:=by rw[ho];simp[Op.operands,Call.operands,hc]
  cases f with
  |func g=>rfl
  |_=>simp only;rw[A.opnd hf]
 | builtin b=>
  cases b<;>simp only
  case clear=>
   split
   ·rename_i t ts x xs hts hxs;rw[A.opnd (hargs x (by rw[hxs];simp))]
   ·rfl
  case len=>
   split
   ·rename_i t ts x xs hts hxs;rw[A.opnd (hargs x (by rw[hxs];simp))]
   ·rfl
  case append=>
   split
   ·rename_i t u x y hts hxs;have hx:=hargs x (by rw[hxs];simp);rw[A.opnd hx,A.opnd (hargs y (by rw[hxs];simp))];cases ep cx.T u with
    |false=>rfl
    | true=>
     simp only[G3,Gd];cases hha:bb cx.ann.ha o.dst with
     | true=>
      have hns:ez e' x=ez e x:=by
       cases x with
       | tmp s=>
        have hdr:(ak cx o).dr=true:=by
         unfold ak;rw[ho];simp only[hc,hha,F9]
        unfold ez;simp only;rw[A.get hx];cases (e.get s).g with
        |none=>rfl
        |some g=>simp only;rw[A.al hdr]
       |_=>rfl
      rw[hns];rfl
     | false=>
      simp only[Gd];cases hn:aQ x with
      |true=>rfl
      | false=>
       simp only[Gd];cases x with
       | tmp s=>
        simp only;rw[A.get hx];have hdr:(ak cx o).dr=true:=by
         unfold ak;rw[ho];simp only[hc,hha,Gd,hxs,hn];rfl
        cases (e.get s).g with
        |none=>rfl
        |some g=>simp only;rw[A.al hdr]
       |_=>rfl
   ·rfl
omit [Dr]in
theorem s4{k:Kind}{f g b h:Foot}(hh:h.wl=true)(h1:k≠.F)(h2:k≠.H)(h3:k≠.B):(match k with|.F=>f|.H=>g|.B=>b|_=>h).wl=true:=by
 cases k<;>first|exact absurd rfl h1|exact absurd rfl h2|exact absurd rfl h3|exact hh
omit [Dr]in
theorem uy(A:Agree cx o e e')(hb:dq cx e gid o≠.bad):dq cx e' gid o=dq cx e gid o:=by
 have hm:∀ {x:Operand},x∈o.op.operands.toList->opnd e' x=opnd e x:=fun h=>A.opnd h;unfold dq at hb |-;cases ho:o.op<;>rw[ho]at hb hm<;>simp only[Op.operands]at hm hb |-
 case move x=>exact lQ A (by rw[ho];simp[Op.operands])
 case assign x=>exact lQ A (by rw[ho];simp[Op.operands])
 case pick k x y=>rw[hm (x:=k) (by simp),hm (x:=x) (by simp),hm (x:=y) (by simp)]
 case box t x=>
  cases hd:o.dst with
  |none=>rfl
  |some s=>
   rw[hd]at hb;exact tS A hd (by rw[ho];simp[Op.operands]) (fun h1 h2 h3=>by unfold ak;rw[ho,hd];exact s4 rfl h1 h2 h3) hb
 case alloc t=>
  cases hd:o.dst with
  |none=>rfl
  |some s=>
   rw[hd]at hb;exact o6 A hd (fun h1 h2 h3=>by unfold ak;rw[ho,hd];exact s4 rfl h1 h2 h3) hb
 case load t x=>
  cases x with
  | tmp p=>
   simp only;rw[A.get (t:=p) (by rw[ho];simp[Op.operands])];cases hnl:bb cx.ann.nl o.dst&&eL (e.get p)with
   |true=>rfl
   | false=>
    rw[rQ A (by rw[ho];simp[Op.operands]) (by
     rw[Ii]at hnl;rcases hnl with h|h
     ·exact .inl (by unfold ak;rw[ho];simp[h])
     ·exact .inr h)]
  |_=>rfl
 case store t x y=>
  cases x with
  | tmp p=>
   cases hd:o.dst with
   |some d=>rfl
   |none=>
    simp only;rw[A.get (t:=p) (by rw[ho];simp[Op.operands]),qK A (by rw[ho];simp[Op.operands]) (by rw[ho];simp[Op.operands]) (by unfold ak;rw[ho])]
  |_=>rfl
 case build t ps=>rw[A.parts (l:=ps.toList) (fun p hp=>by rw[ho];simp[Op.operands];exact⟨p.1,by simpa using hp⟩)]
 case buildSlice t n ps=>rw[A.parts (l:=ps.toList) (fun p hp=>by rw[ho];simp[Op.operands];exact⟨p.1,by simpa using hp⟩)]
 case nilCheck x=>
  cases x with
  |tmp p=>simp only;rw[A.get (by rw[ho];simp[Op.operands])]
  |_=>rfl
 case binOp op t x y u=>
  have hn:∀ {x:Operand},x∈o.op.operands.toList->je e' x=je e x:=fun h=>by unfold je;rw[A.opnd h]
  rw[hn (x:=x) (by rw[ho];simp[Op.operands]),hn (x:=y) (by rw[ho];simp[Op.operands])]
 case unOp op t x=>rw[hm (x:=x) (by simp)]
 case convert s t x=>rw[hm (x:=x) (by simp)]
 case makeInterface t x=>rw[hm (x:=x) (by simp)]
 case makeFunc f x y=>
  rw[A.opnds (l:=x.toList) (fun z hz=>by rw[ho];simp[Op.operands];exact .inl (by simpa using hz)),A.opnds (l:=y.toList) (fun z hz=>by rw[ho];simp[Op.operands];exact .inr (by simpa using hz))]
 case makeSlice t x y=>rw[hm (x:=x) (by simp),hm (x:=y) (by simp)]
 case slice t x lo hi mx=>
  have h1:∀z:Option Operand,(∀y,z=some y->y∈o.op.operands.toList)->z.map (opnd e')=z.map (opnd e):=by
   intro z hz;cases z with
   |none=>rfl
   |some y=>simp only[HJ];rw[A.opnd (hz y rfl)]
  have hcut:jd cx e' gid t x lo hi mx=jd cx e gid t x lo hi mx\/bb cx.ann.so o.dst=false:=by
   cases hso:bb cx.ann.so o.dst with
   |false=>exact .inr rfl
   | true=>
    refine .inl ?_;unfold jd;cases x with
    |tmp s=>
     have hdr:(ak cx o).dr=true:=by unfold ak;rw[ho];simp only[hso,F9]
     simp only[A.get (t:=s) (by rw[ho];simp[Op.operands]),A.al hdr,hm (x:=.tmp s) (by simp),h1 lo (fun y hy=>by rw[ho];simp[Op.operands,hy])]
    |_=>rfl
  rcases hcut with hcut|hcut
  ·rw[hcut,hm (x:=x) (by simp),h1 lo (fun y hy=>by rw[ho];simp[Op.operands,hy]),h1 hi (fun y hy=>by rw[ho];simp[Op.operands,hy]),h1 mx (fun y hy=>by rw[ho];simp[Op.operands,hy])]
  rw[hcut];simp only[Gd];rw[hm (x:=x) (by simp),h1 lo (fun y hy=>by rw[ho];simp[Op.operands,hy]),h1 hi (fun y hy=>by rw[ho];simp[Op.operands,hy]),h1 mx (fun y hy=>by rw[ho];simp[Op.operands,hy])]
 case fieldAddr t x i=>
  cases x with
  |tmp p=>exact pB A (by rw[ho];simp[Op.operands])
  |_=>rfl
 case indexAddr t x i=>
  cases x with
  |tmp p=>exact pX A (by rw[ho];simp[Op.operands]) (by rw[ho];simp[Op.operands])
  |global g=>simp only;rw[hm (x:=i) (by simp)];rfl
  |_=>rfl
 case field t x f=>rw[hm (x:=x) (by simp)]
 case index t x i=>rw[hm (x:=x) (by simp),hm (x:=i) (by simp)]
 case extract x i=>rw[hm (x:=x) (by simp)]
 case lookup t x i ok=>rw[hm (x:=x) (by simp),hm (x:=i) (by simp)]
 case mapUpdate t m k x=>unfold gE;rw[hm (x:=m) (by simp),hm (x:=k) (by simp),hm (x:=x) (by simp)]
 case insert t m k x=>unfold gE;rw[hm (x:=m) (by simp),hm (x:=k) (by simp),hm (x:=x) (by simp)]
 case panic x=>rw[hm (x:=x) (by simp)]
 case range t x=>rw[hm (x:=x) (by simp)]
 case entry x=>rw[hm (x:=x) (by simp)]
 case call c=>exact ra A ho
end
end Go.Av
namespace Go.Av
variable [Dr]
def b8:Act1->M Upd
 |.bad=>c7
 |.stat u=>aw u
 |.dyn m sh=>af m fun v=>aw (sh v)
 |.thr v=>dG v
def fX(c:AV)(want:Bool)(m:M Upd):M Upd:=match c with
 |.bool b=>bif b== want then m else aw (.ofV (.tup []))
 |.tup []=>aw (.ofV (.tup []))
 |_=>c7
def de(cx:Cx)(base:Nat)(ops:Array Oper)(i:Nat)(e:Env):M Upd:=match ops[i]? with
 |none=>c7
 | some o=>match o.guard with
  |none=>b8 (dq cx e ((base+i)*1000) o)
  |some (j,want)=>match cj ops j with
   |none=>c7
   |some t=>bif da cx o then fX (e.av t) want (b8 (et (dq cx e ((base+i)*1000) o)))else c7
def stepG(cx:Cx)(base:Nat)(ops:Array Oper)(i:Nat)(e:Env):M Env:=af (de cx base ops i e) fun u=>aw (e.upd (cj ops i) u)
def aL(cx:Cx)(base:Nat)(ops:Array Oper):List Nat->Env->M Env
 |[],e=>aw e
 |i:: is,e=>af (stepG cx base ops i e) (aL cx base ops is)
omit [Dr]in
theorem gY(e:Env)(d:Option Tmp)(A:Act1):aJ e d A=af (b8 A) fun u=>aw (e.upd d u):=by
 cases A with
 |bad=>rfl
 |stat u=>rfl
 |dyn m sh=>simp only[aJ,b8,cO,aO]
 |thr v=>rfl
omit [Dr]in
theorem gI{p:Upd->Prop}{A:Act1}(h:bC p A){x y:Hp}{u:Upd}(hr:b8 A x= .ok u y):p u:=by
 cases A with
 |bad=>cases hr
 |stat v=>cases hr;exact h
 |dyn m sh=>
  simp only[b8,af,aw]at hr;cases hm:m x<;>rw[hm]at hr<;>simp at hr;rw[<- hr.1];exact h _
 |thr v=>cases hr
omit [Dr]in
theorem jV(A:Act1)(x:Hp):b8 (et A) x=(match b8 A x with|.ok u y=>.ok (dU u) y|.pan v y=>.pan v y|.fail=>.fail):=by
 cases A with
 |bad=>rfl
 |stat v=>rfl
 |dyn m sh=>
  simp only[b8,et,af,aw];cases m x<;>rfl
 |thr v=>rfl
section
variable {P:Program} {cx:Cx} {c:Entry} {N:Nat} {e:Env} {h:Hp} {a:Act} {w:World} {ops:Array Oper} {base:Nat}
def UD(base:Nat)(D:List Nat):Nat->Prop:=fun g=>g<base*1000\/∃i∈D,(base+i)*1000<=g/\g<(base+i)*1000+1000
omit [Dr]in
theorem oY{D:List Nat}{i:Nat}(hi:i ∉ D):∀g,(base+i)*1000<=g->g<(base+i)*1000+1000->¬UD base D g:=by
 rintro g h1 h2 (h3|⟨j,hj,h4,h5⟩)
 ·have:base*1000<=(base+i)*1000:=Gr _ (by omega);omega
 ·have:i=j:=by omega
  exact hi (this▸hj)
omit [Dr]in
theorem nQ{D:List Nat}{i:Nat}:∀g,UG (UD base D) ((base+i)*1000) g->UD base (i:: D) g:=by
 rintro g ((h1|⟨j,hj,h2⟩)|h1)
 ·exact .inl h1
 ·exact .inr ⟨j,by simp[hj],h2⟩
 ·exact .inr ⟨i,by simp,h1⟩
structure OpsOk (N:Nat) (cx:Cx) (ops:Array Oper):Prop where
 dst:∀(i:Nat)(o:Oper),ops[i]? = some o->∀t,o.dst=some t->t<N
 src:∀(i:Nat)(o:Oper),ops[i]? = some o->∀x∈o.op.operands.toList,∀t,x= .tmp t->t<1000
 kin:∀p,ul (bA cx.ann.kinds p .L)=true->p<N
omit [Dr]in
theorem ug{x:Array Value}{t:Nat}{b:Bool}(h:x.getD t undef= .bool b):x[t]? = some (.bool b):=by
 rw[Gy]at h;cases hx:x[t]? with
 |none=>rw[hx]at h;cases h
 |some v=>rw[hx]at h;simp at h;rw[h]
theorem uH{U:Nat->Prop}{gid:Nat}{f:Foot}{ss:Option Nat}{d:Option Tmp}{u:Upd}(hs:Shape e gid f ss u)(hw:f.wl=false)(hdr:f.dr=false)(hU:∀g z,aA e.al g=some z->g≠gid){a':Act}{w':World}{h':Hp}(H:dj c N U (e.upd d u) h' a' w'):dj c N U (e.upd d (dU u)) h' a' w':=by
 obtain⟨S,β,γ,lam,ω,F⟩:=H;have h1:=hs.ls hw;have h2:=hs.lb hw;have h3:=hs.unlb hw;have h4:=hs.nodr hdr;have hget:∀t,(e.upd d (dU u)).get t=if d=some t then⟨u.ent.v,none⟩else e.get t:=fun t=>by rw[bB];rfl
 have hget':∀t,(e.upd d u).get t=if d=some t then u.ent else e.get t:=fun t=>by rw[bB,h1];rfl
 refine⟨S,β,γ,lam,ω,F.weak (fun t=>.inl ?_) (fun t g hg=>?_) (fun g z hz=>?_) (fun B n hB=>?_)⟩
 ·rw[hget,hget'];split<;>rfl
 ·rw[hget]at hg;rw[hget'];split at hg
  ·cases hg
  ·rename_i hd;rw[if_neg hd];exact hg
 ·have hz':aA e.al g=some z:=hz;show aA (u.add++cP e.al u.drop) g=some z;rw[h4];have hne:=hU g z hz';have:∀l:List (Nat×Option Nat),(∀x∈l,x.1=gid)->aA (l++cP e.al none) g=some z:=by
   intro l
   induction l with
   |nil=>intro _;exact hz'
   | cons x l ih=>
    intro hl;obtain⟨k,y⟩:=x;rw[GJ,bk,if_neg]
    ·exact ih fun x hx=>hl x (by simp[hx])
    ·have:=hl (k,y) (by simp)
     simp at this;omega
  exact this u.add (hs.add hw)
 ·show aI (gd (cu e.lb u.unlb) u.lb) B=some n;rw[h2,h3];exact hB
theorem md(hT:TOK P cx.T)(hC:bD P cx.own cx.call)(hO:OpsOk N cx ops){D:List Nat}{i:Nat}(hi:i ∉ D)(H:dj c N (UD base D) e h a w)(hr:stepG cx base ops i e h≠.fail){K:Act->World->Prop}{Q:Exit->Act->World->Prop}(hn:∀e' h' a' w',stepG cx base ops i e h= .ok e' h'->dj c N (UD base (i:: D)) e' h' a' w'->a'.defers=a.defers->K a' w')(hp:∀pv h' v w',stepG cx base ops i e h= .pan pv h'->ir c pv h' v w'->Q (.panic [{ v,recovered:=false }]) a w'):wpOp P ops Q i K a w:=by
 obtain⟨S,β,γ,lam,ω,F⟩:=H;unfold stepG de at hr hn hp;simp only[wpOp];cases ho:ops[i]? with
 |none=>rw[ho]at hr;exact absurd rfl hr
 | some o=>
  have hdst:cj ops i=o.dst:=by simp[cj,ho]
  rw[hdst,ho]at hr hn hp;simp only at hr hn hp |-;have hop:=fun(hr:aY cx e ((base+i)*1000) o h≠.fail)=>wQ hT hC F (hO.dst i o ho) (oY hi) (hO.src i o ho) hO.kin hr;cases hg:o.guard with
  |none=>
   rw[hg]at hr hn hp;simp only at hr hn hp;rw[<- gY]at hr hn hp;have hw:Region.wanted o (yielded ops a.tmps)=true:=by unfold Region.wanted;rw[hg]
   rw[Gg hw];exact .inl (hop hr K Q (fun e' h' a' w' h1 h2 h3=>hn e' h' a' w' h1 (h2.wider nQ) h3) hp)
  | some g=>
   obtain⟨j,want⟩:=g;rw[hg]at hr hn hp;simp only at hr hn hp;have hwant:Region.wanted o (yielded ops a.tmps)=(yielded ops a.tmps j== some want):=by unfold Region.wanted;rw[hg]
   cases hdj:cj ops j with
   |none=>rw[hdj]at hr;exact absurd rfl hr
   | some t=>
    rw[hdj]at hr hn hp;simp only at hr hn hp;cases hpl:da cx o with
    |false=>rw[hpl]at hr;exact absurd rfl hr
    |true=>
    rw[hpl]at hr hn hp;simp only[F9]at hr hn hp;have hdj':(ops[j]?).bind (·.dst)=some t:=hdj;have htN:t<N:=by
     cases hoj:ops[j]? with
     |none=>rw[hoj]at hdj';simp at hdj'
     |some oj=>rw[hoj]at hdj';exact hO.dst j oj hoj t hdj'
    have hs:=F.slots t (by have:=F.tsz.2;omega);have hav:VR S β (e.av t) (a.tmps.getD t undef):=by
     simp only[Env.av,Ent.av];cases hv:(e.get t).v with
     |val av=>rw[hv]at hs;exact hs
     |loc B off=>simp[VR]
    have hskip:(∀e' h' a' w',(R.ok (e.upd o.dst (.ofV (.tup []))) h:R Env)= .ok e' h'->dj c N (UD base (i:: D)) e' h' a' w'->a'.defers=a.defers->K a' w')->K (a.put o.dst undef) w:=by
     intro hn;exact hn _ _ _ _ rfl ⟨S,β,γ,lam,ω,(F.setV (v:=undef) (hO.dst i o ho) (by simp only[VR];exact⟨[],rfl,by simp[aP]⟩)).wider (fun g hg=>nQ g (.inl hg))⟩ (put_defers a o.dst undef)
    cases hq:e.av t with
    | bool b=>
     rw[hq]at hr hn hp hav;simp only[VR]at hav;have hy:yielded ops a.tmps j=some b:=by
      unfold yielded;rw[hdj'];simp only[HQ,ug hav]
     rw[hwant,hy];cases hbw:(b== want)with
     | true=>
      simp only[fX,hbw,F9]at hr hn hp;have:b=want:=by simpa using hbw
      subst this;rw[Gg (by simp)];simp only[da,F8,GW]at hpl;simp only[af,jV,aw]at hr hn hp;have hact:b8 (dq cx e ((base+i)*1000) o) h≠.fail:=by
       intro hf;rw[hf]at hr;exact hr rfl
      refine .inl (hop ?_ K Q (fun e' h' a' w' h1 h2 h3=>?_) (fun pv h' v w' h1 h2=>?_))
      ·unfold aY;rw[gY];simp only[af,aw];cases hx:b8 (dq cx e ((base+i)*1000) o) h with
       |fail=>exact absurd hx hact
       |_=>simp
      ·unfold aY at h1;rw[gY]at h1;simp only[af,aw]at h1;cases hx:b8 (dq cx e ((base+i)*1000) o) h with
       |fail=>exact absurd hx hact
       |pan pv hh=>rw[hx]at h1;cases h1
       |ok u hh=>
        rw[hx]at h1 hn;simp only[R.ok.injEq]at h1;obtain⟨rfl,rfl⟩:=h1;have hsh:=gI (gU cx e ((base+i)*1000) o) hx;exact hn _ _ a' w' rfl ((uH hsh hpl.1 hpl.2 (fun g z hz hgg=>oY hi g (by omega) (by omega) (F.used.2 g z hz)) h2).wider nQ) h3
      ·unfold aY at h1;rw[gY]at h1;simp only[af,aw]at h1;cases hx:b8 (dq cx e ((base+i)*1000) o) h with
       |fail=>exact absurd hx hact
       |ok u hh=>rw[hx]at h1;cases h1
       |pan pv2 hh=>
        rw[hx]at h1 hp;simp only[R.pan.injEq]at h1;obtain⟨rfl,rfl⟩:=h1;exact hp _ _ v w' rfl h2
     |false=>
      simp only[fX,hbw,Gd,aO]at hn;have:(some b== some want)=false:=by simpa using hbw
      rw[if_neg (by rw[this];simp)];exact hskip hn
    | tup vs=>
     rw[hq]at hr hn hp hav;cases vs with
     | nil=>
      simp only[fX,aO]at hn;simp only[VR,aP]at hav;obtain⟨vs,hav,rfl⟩:=hav;have hy:yielded ops a.tmps j=none:=by
       unfold yielded;rw[hdj'];simp only[HQ];rw[Gy]at hav;cases hx:a.tmps[t]? with
       |none=>rfl
       |some v=>rw[hx]at hav;simp at hav;rw[hav]
      rw[hwant,hy,if_neg (by simp)];exact hskip hn
     |cons v vs=>exact absurd rfl hr
    |_=>rw[hq]at hr;exact absurd rfl hr
def UR(base n:Nat):Nat->Prop:=fun g=>g<(base+n)*1000
omit [Dr]in
theorem zl{D:List Nat}{n:Nat}(h:∀i∈D,i<n):∀g,UD base D g->UR base n g:=by
 rintro g (h1|⟨i,hi,h2,h3⟩)
 ·exact GD h1 (Gr _ (by omega))
 ·have h4:(base+i)*1000+1000<=(base+n)*1000:=by
   have:=h i hi
   rw[show (base+i)*1000+1000=(base+i+1)*1000 by rw[GK _ 1]];exact Gr _ (by omega)
  exact GD h3 h4
theorem nI(hT:TOK P cx.T)(hC:bD P cx.own cx.call)(hO:OpsOk N cx ops){Q:Exit->Act->World->Prop}:∀(l:List Nat)(D:List Nat)(e:Env)(h:Hp)(a:Act)(w:World),l.Nodup->(∀i∈l,i ∉ D)->
  dj c N (UD base D) e h a w->aL cx base ops l e h≠.fail->
  (∀e' h' a' w',aL cx base ops l e h= .ok e' h'->dj c N (UD base (l.reverse++D)) e' h' a' w'->a'.defers=a.defers->Q .normal a' w')->
  (∀pv h' v w' a',aL cx base ops l e h= .pan pv h'->ir c pv h' v w'->a'.defers=a.defers->Q (.panic [{ v,recovered:=false }]) a' w')->wpOps P ops Q l a w
 |[],D,e,h,a,w,_,_,H,_,hn,_=>by
  simp only[wpOps];exact hn e h a w rfl (by simpa using H) rfl
 | i:: l,D,e,h,a,w,hnd,hdis,H,hr,hn,hp=>by
  simp only[aL,af]at hr hn hp;have hnd':=IR.1 hnd;rw[wpOps_cons];refine md hT hC hO (hdis i (by simp)) H (fun hf=>by rw[hf]at hr;exact hr rfl) (fun e' h' a' w' hst hs hdf=>?_) (fun pv h' v w' hst hps=>?_)
  ·rw[hst]at hr hn hp;simp only at hr hn hp;refine nI hT hC hO l (i:: D) e' h' a' w' hnd'.2 (fun j hj=>?_) hs hr (fun e2 h2 a2 w2 h1 h3 h4=>hn e2 h2 a2 w2 h1 (by simpa using h3) (h4.trans hdf)) (fun pv h2 v w2 a2 h1 h3 h4=>hp pv h2 v w2 a2 h1 h3 (h4.trans hdf));simp only[Gt,not_or];exact⟨fun hji=>hnd'.1 (hji▸hj),hdis j (by simp[hj])⟩
  ·rw[hst]at hp;exact hp pv h' v w' a rfl hps rfl
end
end Go.Av
namespace Go.Av
variable [Dr]
def aT{α:Type}(m:M α):Prop:=∃o,m=aj o
def cz{α:Type}(m:M α):Prop:=∀h,m h= .fail\/∃v,m h= .ok v h
def cL{α:Type}(m:M α):Prop:=∀h v h',m h≠.pan v h'
omit [Dr]in
theorem aT.read{α:Type}{m:M α}(h:aT m):cz m:=by
 obtain⟨o,rfl⟩:=h;intro h;cases o with
 |none=>exact .inl rfl
 |some v=>exact .inr ⟨v,rfl⟩
omit [Dr]in
theorem cz.stay{α:Type}{m:M α}(g:cz m):cL m:=by
 intro h v h' hh;rcases g h with g|⟨x,g⟩<;>rw[g]at hh<;>cases hh
omit [Dr]in
theorem aT.bnd{α β:Type}{m:M α}(h:aT m)(f:α->β):aT (af m fun v=>aw (f v)):=by
 obtain⟨o,rfl⟩:=h;cases o with
 |none=>exact⟨none,rfl⟩
 |some v=>exact⟨some (f v),rfl⟩
omit [Dr]in
theorem cz.bnd{α β:Type}{m:M α}(g:cz m)(f:α->β):cz (af m fun v=>aw (f v)):=by
 intro h;simp only[Av.af,aw];rcases g h with g|⟨x,g⟩<;>rw[g]
 ·exact .inl rfl
 ·exact .inr ⟨_,rfl⟩
omit [Dr]in
theorem cL.bnd{α β:Type}{m:M α}(g:cL m)(f:α->β):cL (af m fun v=>aw (f v)):=by
 intro h v h' hh;simp only[Av.af,aw]at hh;cases hm:m h<;>rw[hm]at hh<;>simp at hh;exact g _ _ _ hm
omit [Dr]in
theorem aT.lft{α:Type}(o:Option α):aT (aj o):=⟨o,rfl⟩
omit [Dr]in
theorem aT.pure{α:Type}(a:α):aT (aw a):=⟨some a,rfl⟩
omit [Dr]in
theorem aT.fail{α:Type}:aT (c7:M α):=⟨none,rfl⟩
def g9{α:Type}(m:M α):Prop:=∀h t v,m h= .ok v h->m (h++t)= .ok v (h++t)
def qV{α:Type}(m:M α):Prop:=∀h v h',m h= .ok v h'->∃t,h'=h++t
omit [Dr]in
theorem aT.app{α:Type}{m:M α}(h:aT m):g9 m:=by
 obtain⟨o,rfl⟩:=h;intro h t v hh;cases o with
 |none=>cases hh
 |some x=>cases hh;rfl
omit [Dr]in
theorem aT.nw{α:Type}{m:M α}(h:aT m):qV m:=by
 obtain⟨o,rfl⟩:=h;intro h v h' hh;cases o with
 |none=>cases hh
 |some x=>cases hh;exact⟨[],by simp⟩
omit [Dr]in
theorem g9.bnd{α β:Type}{m:M α}(g:g9 m/\cz m)(f:α->β):g9 (af m fun v=>aw (f v))/\cz (af m fun v=>aw (f v)):=by
 refine⟨fun h t v hh=>?_,g.2.bnd f⟩;simp only[Av.af,aw]at hh |-;rcases g.2 h with k|⟨x,k⟩
 ·rw[k]at hh;cases hh
 ·rw[k]at hh;cases hh;rw[g.1 h t x k]
omit [Dr]in
theorem qV.bnd{α β:Type}{m:M α}(g:qV m)(f:α->β):qV (af m fun v=>aw (f v)):=by
 intro h v h' hh;simp only[Av.af,aw]at hh;cases hm:m h<;>rw[hm]at hh<;>simp at hh;obtain⟨t,ht⟩:=g _ _ _ hm;exact⟨t,by rw[<- hh.2,ht]⟩
def ba(p:∀ {α:Type},M α->Prop):Act1->Prop
 |.dyn m _=>p m
 |.thr _=>False
 |_=>True
structure IsoPure (cx:Cx):Prop where
 iso:∀f args,cx.iso f=true->aT (cx.call f args)
 nw:∀f args,cx.nw f=true->qV (cx.call f args)
section
variable {cx:Cx} {e:Env} {gid:Nat} {o:Oper}
omit [Dr]in
theorem ba.cond{p:∀ {α:Type},M α->Prop}{b:Bool}{x y:Act1}(h1:b=true->ba p x)(h2:b=false->ba p y):ba p (bif b then x else y):=by
 cases b with
 |true=>exact h1 rfl
 |false=>exact h2 rfl
omit [Dr]in
theorem ba.lft(o:Option AV)(sh:AV->Upd):ba aT (.dyn (aj o) sh):=aT.lft o
omit [Dr]in
theorem lK(T:TT)(t:TypeId)(x:AV):cz (dH T t x):=by
 have key:∀x,cz (fun h:Hp=>(match am T t x with|some v=>R.ok v h|none=>.fail)):=by
  intro x h;cases hq:am T t x with
  |none=>exact .inl rfl
  |some v=>exact .inr ⟨v,rfl⟩
 cases x with
 | hp l off=>
  intro h;simp only[dH];cases T t with
  |none=>exact .inl rfl
  | some ti=>
   cases h[l]? with
   |none=>exact .inl rfl
   | some cs=>
    simp only;cases ti.agg with
    |true=>
     simp only[F9];split
     ·exact .inr ⟨_,rfl⟩
     ·exact .inl rfl
    |false=>
     simp only[Gd];cases cs[off]? with
     |none=>exact .inl rfl
     |some v=>exact .inr ⟨v,rfl⟩
 |_=>exact key _
omit [Dr]in
theorem qJ(T:TT)(t:TypeId)(x y:AV):cL (fS T t x y):=by
 intro h v h' hh;unfold fS at hh;split at hh
 ·split at hh
  ·revert hh;generalize (_&&_:Bool)=b1;cases b1<;>simp
  ·cases hh
 ·cases hh
omit [Dr]in
theorem pp(T:TT)(t:TypeId)(x:AV):cL (nW T t x):=fun h v h' hh=>by cases hh
omit [Dr]in
theorem nu(cs:List AV):cL (newH cs):=by
 intro h v h' hh;unfold newH at hh;revert hh;generalize (_||_:Bool)=b1;cases b1<;>simp
omit [Dr]in
theorem uu(t:Nat)(cs:List AV):cL (yT t cs):=fun h v h' hh=>by cases hh
omit [Dr]in
theorem oA:cL kJ:=fun h v h' hh=>by cases hh
omit [Dr]in
theorem rT(T:TT)(t:TypeId)(x k:AV)(ok:Bool):cz (qh T t x k ok):=fun h=>.inl rfl
omit [Dr]in
theorem uq(T:TT)(t:TypeId)(x k:AV)(ok:Bool):g9 (qh T t x k ok):=fun h s v hh=>by cases hh
omit [Dr]in
theorem qx(T:TT)(t:TypeId)(x:AV):cL (oI T t x):=fun h v h' hh=>by cases hh
omit [Dr]in
theorem pw(x:AV):cz (ln x):=fun h=>.inl rfl
omit [Dr]in
theorem rp(x:AV):g9 (ln x):=fun h s v hh=>by cases hh
omit [Dr]in
theorem nE(T:TT)(t:TypeId)(x k y:AV):cL (BH T t x k y):=fun h v h' hh=>by cases hh
omit [Dr]in
theorem tO(T:TT)(t:TypeId)(z:Bool)(x y:AV):cL (appH T t z x y):=by
 intro h v h' hh;unfold appH at hh;have hc:∀ {b:Bool} {r s:R AV},(∀v h',r≠.pan v h')->(∀v h',s≠.pan v h')->(bif b then r else s)≠.pan v h':=by
  intro b r s h1 h2;cases b
  ·exact h2 _ _
  ·exact h1 _ _
 split at hh
 ·cases hh
 ·split at hh
  ·split at hh
   ·cases hh
   ·split at hh
    ·cases hh
    ·refine hc (fun v h' hh=>?_) (fun v h' hh=>by cases hh) hh;split at hh
     ·revert hh;generalize List.isEmpty _=b1;generalize decide (_<=140737488355328)=b2;cases b1<;>cases b2<;>simp
     ·revert hh;generalize List.isEmpty _=b1;generalize decide (_<=140737488355328)=b2;cases z<;>cases b1<;>cases b2<;>simp
     ·split at hh
      ·cases hh
      ·revert hh;generalize (_&&_:Bool)=b1;generalize List.isEmpty _=b2;cases b1<;>cases b2<;>simp
     ·cases hh
  ·cases hh
omit [Dr]in
theorem tN(T:TT)(t:TypeId)(x y:AV):cL (xP T t x y):=fun h v h' hh=>by cases hh
omit [Dr]in
theorem pi(T:TT)(t n:Nat)(ps:List (Nat×AV)):cL (fF T t n ps):=by
 intro h v h' hh;unfold fF at hh;split at hh
 ·split at hh
  ·cases hh
  ·split at hh
   ·split at hh
    ·cases hh
    ·revert hh;generalize (_&&_:Bool)=b1;cases b1<;>simp
   ·cases hh
 ·cases hh
omit [Dr]in
theorem rU(T:TT)(t:Nat)(x y:AV):cL (tf T t x y):=fun h v h' hh=>by cases hh
omit [Dr]in
theorem nr(told:Bool)(x:Operand):ba aT (eO told e gid x):=by
 unfold eO;split
 ·trivial
 ·exact ba.cond (fun _=>ba.cond (fun _=>trivial) (fun _=>trivial)) (fun _=>trivial)
omit [Dr]in
theorem rR(d:Option Tmp)(t:TypeId)(p:Nat):ba cz (cH cx e d t p)/\(bb cx.ann.hl d=false->ba aT (cH cx e d t p)):=by
 unfold cH;split
 ·split
  ·exact⟨trivial,fun _=>trivial⟩
  ·constructor
   ·exact ba.cond (fun _=>ba.cond (fun _=>trivial) (fun _=>ba.cond (fun _=>trivial) (fun _=>trivial))) (fun _=>trivial)
   ·exact fun _=>ba.cond (fun _=>ba.cond (fun _=>trivial) (fun _=>ba.cond (fun _=>trivial) (fun _=>trivial))) (fun _=>trivial)
 ·cases hm:bb cx.ann.hl d with
  |true=>exact⟨lK _ _ _,fun h=>by cases h⟩
  |false=>exact⟨(aT.lft _).read,fun _=>aT.lft _⟩
omit [Dr]in
theorem uo(T:TT)(t:TypeId)(x:AV):g9 (dH T t x):=by
 intro h s v hh;have hk:∀y,(match am T t y with|some v=>R.ok v h|none=>.fail)=R.ok v h->(match am T t y with|some v=>R.ok v (h++s)|none=>.fail)=R.ok v (h++s):=by
  intro y hy;cases hq:am T t y with
  |none=>rw[hq]at hy;cases hy
  |some u=>rw[hq]at hy;cases hy;rfl
 unfold dH at hh |-;cases x with
 | hp l off=>
  simp only at hh |-;cases hT:T t with
  |none=>rw[hT]at hh;cases hh
  | some ti=>
   rw[hT]at hh;cases hl:h[l]? with
   |none=>rw[hl]at hh;cases hh
   | some cs=>
    have hl':(h++s)[l]? = some cs:=by
     rw[Ij]
     have:=(HE.1 hl).1
     rw[Gg this,hl]
    rw[hl]at hh;rw[hl'];simp only at hh |-;cases hag:ti.agg with
    |true=>
     rw[hag]at hh;simp only[F9]at hh |-;split at hh
     ·rename_i hc;cases hh;rw[Gg hc]
     ·cases hh
    |false=>
     rw[hag]at hh;simp only[Gd]at hh |-;cases hq:cs[off]? with
     |none=>rw[hq]at hh;cases hh
     |some u=>rw[hq]at hh;cases hh;rfl
 |_=>exact hk _ hh
omit [Dr]in
theorem wJ(d:Option Tmp)(t:TypeId)(p:Nat):ba (fun m=>g9 m/\cz m) (cH cx e d t p):=by
 unfold cH;split
 ·split
  ·trivial
  ·exact ba.cond (fun _=>ba.cond (fun _=>trivial) (fun _=>ba.cond (fun _=>trivial) (fun _=>trivial))) (fun _=>trivial)
 ·cases hm:bb cx.ann.hl d with
  |true=>exact⟨uo _ _ _,lK _ _ _⟩
  |false=>exact⟨(aT.lft _).app,(aT.lft _).read⟩
omit [Dr]in
theorem wq{A:Act1}(h:ba cL A):ba cL (B2 A):=by
 cases A with
 |bad=>trivial
 |stat u=>intro h v h' hh;cases hh
 |dyn m sh=>
  intro x v h' hh;simp only[Av.af,pO]at hh;cases hm:m x<;>rw[hm]at hh<;>simp at hh;exact h _ _ _ hm
 |thr v=>exact h.elim
omit [Dr]in
theorem rF(t p i:Nat):ba aT (eA cx e t p i):=by
 unfold eA;split
 ·split
  ·trivial
  ·split
   ·trivial
   ·split
    ·trivial
    ·exact ba.cond (fun _=>trivial) (fun _=>trivial)
 ·exact aT.lft _
omit [Dr]in
theorem rJ(t p:Nat)(i:Operand):ba aT (cn cx e t p i):=by
 unfold cn;split
 ·split
  ·split
   ·split
    ·trivial
    ·exact ba.cond (p:=aT) (fun _=>trivial) (fun _=>trivial)
   ·trivial
  ·trivial
 ·exact aT.lft _
omit [Dr]in
theorem sn(t p:Nat)(y:Operand):ba cL (dE cx e gid t p y):=by
 have hl:∀o:Option AV,cL (Av.aj o):=fun o=>(aT.lft o).read.stay;unfold dE;split
 ·split
  ·trivial
  ·refine ba.cond (fun _=>ba.cond (fun _=>ba.cond (fun _=>hl _) (fun _=>trivial)) (fun _=>ba.cond (fun _=>hl _) (fun _=>ba.cond (fun _=>?_) (fun _=>trivial)))) (fun _=>trivial);split
   ·split
    ·exact hl _
    ·trivial
   ·exact ba.cond (fun _=>trivial) (fun _=>hl _)
 ·exact qJ _ _ _ _
omit [Dr]in
theorem sk(t p:Nat)(y:Operand)(hl:eL (e.get p)=true):ba aT (dE cx e gid t p y):=by
 have hl':∀o:Option AV,aT (Av.aj o):=fun o=>aT.lft o;unfold dE;cases hv:(e.get p).v with
 |val a=>simp[eL,hv]at hl
 | loc B off=>
  simp only;split
  ·trivial
  ·refine ba.cond (fun _=>ba.cond (fun _=>ba.cond (fun _=>hl' _) (fun _=>trivial)) (fun _=>ba.cond (fun _=>hl' _) (fun _=>ba.cond (fun _=>?_) (fun _=>trivial)))) (fun _=>trivial);split
   ·split
    ·exact hl' _
    ·trivial
   ·exact ba.cond (fun _=>trivial) (fun _=>hl' _)
omit [Dr]in
theorem gg(s t:Nat):ba cL (dk cx e gid s t)/\(bA cx.ann.kinds s .L≠.H->bA cx.ann.kinds s .L≠.B->ba aT (dk cx e gid s t)):=by
 unfold dk;split
 ·exact⟨trivial,fun _ _=>trivial⟩
 ·cases hk:bA cx.ann.kinds s .L with
  |F=>exact⟨trivial,fun _ _=>trivial⟩
  |H=>exact⟨nu _,fun h=>absurd rfl h⟩
  |B=>exact⟨uu _ _,fun _ h=>absurd rfl h⟩
  |L=>exact⟨ba.cond (fun _=>trivial) (fun _=>trivial),fun _ _=>ba.cond (fun _=>trivial) (fun _=>trivial)⟩
  |S=>exact⟨ba.cond (fun _=>trivial) (fun _=>trivial),fun _ _=>ba.cond (fun _=>trivial) (fun _=>trivial)⟩
omit [Dr]in
theorem mT(s t:Nat)(x:Operand):ba cL (gD cx e s t x)/\(bA cx.ann.kinds s .F≠.H->ba aT (gD cx e s t x)):=by
 have hl:∀o:Option AV,cL (Av.aj o):=fun o=>(aT.lft o).read.stay;unfold gD;cases hk:bA cx.ann.kinds s .F with
 |F=>exact⟨trivial,fun _=>trivial⟩
 |H=>exact⟨nu _,fun h=>absurd rfl h⟩
 |B=>exact⟨trivial,fun _=>trivial⟩
 |L=>
  simp only;split
  ·exact⟨trivial,fun _=>trivial⟩
  ·exact⟨ba.cond (fun _=>hl _) (fun _=>trivial),fun _=>ba.cond (fun _=>aT.lft _) (fun _=>trivial)⟩
 |S=>
  simp only;split
  ·exact⟨trivial,fun _=>trivial⟩
  ·exact⟨ba.cond (fun _=>hl _) (fun _=>trivial),fun _=>ba.cond (fun _=>aT.lft _) (fun _=>trivial)⟩
structure Class (f:Foot) (A:Act1):Prop where
 stay:f.piv=false->ba cL A
 read:f.wh=false->ba cz A
 pure:f.wh=false->f.rh=false->ba aT A
 app:f.wh=false->ba (fun m=>g9 m/\cz m) A
 nw:f.nw=true->ba qV A
omit [Dr]in
theorem ba.imp{p q:∀ {α:Type},M α->Prop}(hpq:∀ {α:Type} (m:M α),p m->q m){A:Act1}(h:ba p A):ba q A:=by
 cases A<;>first|trivial|exact hpq _ h|exact h
omit [Dr]in
theorem Class.of_pure{f:Foot}{A:Act1}(h:ba aT A):Class f A:=
 ⟨fun _=>h.imp fun _ g=>g.read.stay,fun _=>h.imp fun _ g=>g.read,fun _ _=>h,fun _=>h.imp fun _ g=>⟨g.app,g.read⟩,fun _=>h.imp fun _ g=>g.nw⟩
omit [Dr]in
theorem g9.nw{α:Type}{m:M α}(h:cz m):qV m:=fun x v h' hh=>by
 rcases h x with g|⟨u,g⟩
 ·rw[g]at hh;cases hh
 ·rw[g]at hh;cases hh;exact⟨[],by simp⟩
omit [Dr]in
theorem Class.of_app{f:Foot}{A:Act1}(_hw:f.wh=false)(hr:f.rh=true)(h:ba (fun m=>g9 m/\cz m) A):Class f A:=
 ⟨fun _=>h.imp fun _ g=>g.2.stay,fun _=>h.imp fun _ g=>g.2,fun _ h=>by(rw[hr]at h;cases h),fun _=>h,fun _=>h.imp fun _ g=>g9.nw g.2⟩
omit [Dr]in
theorem mO(T:TT)(t:TypeId)(x y:AV):cz (o8 T t x y):=by
 intro h;unfold o8;cases mJ h y with
 |none=>exact .inl rfl
 |some es=>
  simp only;cases ew T t x (.sl es)with
  |none=>exact .inl rfl
  |some v=>exact .inr ⟨v,rfl⟩
omit [Dr]in
theorem xj{h s:Hp}{y:AV}{es:List AV}(hh:mJ h y=some es):mJ (h++s) y=some es:=by
 unfold mJ at hh |-;split at hh
 ·rename_i l off len sz ag;cases hl:h[l]? with
  |none=>rw[hl]at hh;cases hh
  | some cs=>
   rw[hl]at hh;have hl':(h++s)[l]? = some cs:=by
    rw[Ij]
    have:=(HE.1 hl).1
    rw[Gg this,hl]
   simp only[hl'];exact hh
 ·exact hh
 ·exact hh
 ·cases hh
omit [Dr]in
theorem o9(T:TT)(t:TypeId)(x y:AV):g9 (o8 T t x y):=by
 intro h s v hh;unfold o8 at hh |-;cases hs:mJ h y with
 |none=>rw[hs]at hh;cases hh
 |some es=>
  rw[hs]at hh;rw[xj hs];simp only at hh |-;cases ha:ew T t x (.sl es)with
  |none=>rw[ha]at hh;cases hh
  |some u=>rw[ha]at hh;cases hh;rfl
omit [Dr]in
theorem Class.of_stay{f:Foot}{A:Act1}(hw:f.wh=true)(hn:f.nw=false)(h:ba cL A):Class f A:=
 ⟨fun _=>h,fun h=>by(rw[hw]at h;cases h),fun h=>by(rw[hw]at h;cases h),fun h=>by(rw[hw]at h;cases h),fun h=>by(rw[hn]at h;cases h)⟩
omit [Dr]in
theorem Class.of_piv{f:Foot}{A:Act1}(hw:f.wh=true)(h:f.piv=true)(hn:f.nw=true->ba qV A):Class f A:=
 ⟨fun h'=>by(rw[h]at h';cases h'),fun h=>by(rw[hw]at h;cases h),fun h=>by(rw[hw]at h;cases h),fun h=>by(rw[hw]at h;cases h),hn⟩
omit [Dr]in
theorem rb(hI:IsoPure cx){c:Call}(ho:o.op= .call c):Class (ak cx o) (dD cx e gid o c):=by
 unfold dD;cases hc:c.callee with
 |invoke r m=>exact .of_pure trivial
 | value x=>
  cases x with
  | func f=>
   simp only;cases hfz:bb cx.ann.fz o.dst with
   | true=>
    simp only[F9];cases hq:!(cx.iso f)&&!(cx.nw f)&&(cx.own f).isNone with
    |false=>exact .of_pure trivial
    |true=>
     simp only[F8,GW]at hq;exact .of_piv (by unfold ak;rw[ho];simp only[hc,hq.1.1,Gd]) (by unfold ak;rw[ho];simp only[hc,hq.1.1,Gd]) fun hn=>by unfold ak at hn;rw[ho]at hn;simp only[hc,hq.1.1,Gd,hq.1.2]at hn;cases hn
   |false=>
   simp only[Gd];cases hi:cx.iso f with
   |true=>exact .of_pure (hI.iso f _ hi)
   |false=>exact .of_piv (by unfold ak;rw[ho];simp only[hc,hi,Gd]) (by unfold ak;rw[ho];simp only[hc,hi,Gd]) fun hn=>hI.nw f _ (by unfold ak at hn;rw[ho]at hn;simpa only[hc,hi,Gd]using hn)
  |_=>exact .of_piv (by unfold ak;rw[ho];simp only[hc]) (by unfold ak;rw[ho];simp only[hc]) fun hn=>by unfold ak at hn;rw[ho]at hn;simp[hc]at hn
 | builtin b=>
  cases b<;>simp only<;>(try exact .of_pure trivial)
  case clear=>
   have hw:(ak cx o).wh=true/\(ak cx o).nw=false:=by unfold ak;rw[ho];simp only[hc];exact⟨trivial,trivial⟩
   split
   ·exact .of_stay hw.1 hw.2 (pp _ _ _)
   ·exact .of_pure trivial
  case append=>
   split
   ·cases hu:ep cx.T _ with
    |false=>exact .of_pure trivial
    | true=>
     simp only[G3,Gd];cases hha:bb cx.ann.ha o.dst with
     | true=>exact .of_stay (by unfold ak;rw[ho];simp only[hc,hha,F9]) (by unfold ak;rw[ho];simp only[hc,hha,F9]) (by
       cases bb cx.ann.hb o.dst with
       |true=>simp only[F9];exact tN _ _ _ _
       |false=>exact tO _ _ _ _ _)
     | false=>
      simp only[Gd];cases hhl:bb cx.ann.hl o.dst with
      | true=>
       refine .of_app (by unfold ak;rw[ho];simp only[hc,hha,Gd]) (by unfold ak;rw[ho];simp only[hc,hha,hhl,Gd]) ?_;simp only[F9];refine ba.cond (fun _=>⟨o9 _ _ _ _,mO _ _ _ _⟩) (fun _=>?_);split
       ·split
        ·trivial
        ·split
         ·trivial
         ·exact ba.cond (fun _=>⟨o9 _ _ _ _,mO _ _ _ _⟩) (fun _=>trivial)
       ·trivial
      | false=>
       refine .of_pure ?_;simp only[Gd];refine ba.cond (fun _=>aT.lft _) (fun _=>?_);split
       ·split
        ·trivial
        ·split
         ·trivial
         ·exact ba.cond (fun _=>aT.lft _) (fun _=>trivial)
       ·trivial
   ·exact .of_pure trivial
  case len=>
   split
   ·exact .of_pure (aT.lft _)
   ·exact .of_pure trivial
  case min=>exact .of_pure (aT.lft _)
  case max=>exact .of_pure (aT.lft _)
omit [Dr]in
theorem c8(hI:IsoPure cx)(e:Env)(gid:Nat)(o:Oper):Class (ak cx o) (dq cx e gid o):=by
 unfold dq;cases ho:o.op<;>simp only<;>(try exact .of_pure (aT.lft _))<;>(try exact .of_pure trivial)
 case binOp=>exact .of_pure (ba.cond (fun _=>trivial) fun _=>aT.lft _)
 case buildSlice t n ps=>
  cases hha:bb cx.ann.ha o.dst with
  |true=>exact .of_stay (by unfold ak;rw[ho];simp only[hha,F9]) (by unfold ak;rw[ho];simp only[hha,F9]) (pi _ _ _ _)
  |false=>exact .of_pure (aT.lft _)
 case makeSlice t x y=>
  cases hha:bb cx.ann.ha o.dst with
  |true=>exact .of_stay (by unfold ak;rw[ho];simp only[hha,F9]) (by unfold ak;rw[ho];simp only[hha,F9]) (rU _ _ _ _)
  |false=>exact .of_pure (aT.lft _)
 case move x=>exact .of_pure (nr _ x)
 case assign x=>exact .of_pure (nr _ x)
 case box t x=>
  cases hd:o.dst with
  |none=>exact .of_pure trivial
  |some s=>
   cases hk:bA cx.ann.kinds s .F with
   |H=>exact .of_stay (by unfold ak;rw[ho];simp only[hd,hk]) (by unfold ak;rw[ho];simp only[hd,hk]) (mT s t x).1
   |_=>exact .of_pure ((mT s t x).2 (by rw[hk];simp))
 case alloc t=>
  cases hd:o.dst with
  |none=>exact .of_pure trivial
  |some s=>
   cases hk:bA cx.ann.kinds s .L with
   |H=>exact .of_stay (by unfold ak;rw[ho];simp only[hd,hk]) (by unfold ak;rw[ho];simp only[hd,hk]) (gg s t).1
   |B=>exact .of_stay (by unfold ak;rw[ho];simp only[hd,hk]) (by unfold ak;rw[ho];simp only[hd,hk]) (gg s t).1
   |_=>exact .of_pure ((gg s t).2 (by rw[hk];simp) (by rw[hk];simp))
 case load t x=>
  cases x with
  |tmp p=>
   have h:=rR (cx:=cx) (e:=e) o.dst t p;simp only;cases hnl:bb cx.ann.nl o.dst&&eL (e.get p)with
   |true=>exact .of_pure trivial
   |false=>
   simp only[Gd];cases hz:bb cx.ann.fz o.dst with
   |true=>exact .of_stay (by unfold ak;rw[ho];exact hz) (by unfold ak;rw[ho]) (wq (h.1.imp fun _ g=>g.stay))
   |false=>exact⟨fun _=>h.1.imp fun _ g=>g.stay,fun _=>h.1,fun _ hr=>h.2 (by unfold ak at hr;rw[ho]at hr;exact hr),fun _=>wJ o.dst t p,fun hn=>by unfold ak at hn;rw[ho]at hn;cases hn⟩
  |_=>exact .of_pure trivial
 case store t x y=>
  cases x with
  | tmp p=>
   cases hd:o.dst with
   |some d=>exact .of_pure trivial
   | none=>
    simp only;cases hlw:dp cx.ann.lw p with
    |false=>exact .of_stay (by unfold ak;rw[ho];simp[hlw]) (by unfold ak;rw[ho]) (by simp only[IY,Gd];exact sn t p y)
    |true=>
     cases hlo:eL (e.get p)with
     |false=>exact .of_pure trivial
     |true=>exact .of_pure (by simp only[G3,H5,Gd];exact sk t p y hlo)
  |_=>exact .of_pure trivial
 case nilCheck x=>
  cases x with
  |tmp p=>
   simp only;split
   ·exact .of_pure trivial
   ·exact .of_pure (aT.lft _)
  |_=>exact .of_pure trivial
 case fieldAddr t x i=>cases x<;>first|exact .of_pure (rF _ _ _)|exact .of_pure trivial
 case indexAddr t x i=>cases x<;>first|exact .of_pure (rJ _ _ _)|exact .of_pure (aT.lft _)|exact .of_pure trivial
 case slice t x lo hi mx=>
  refine .of_pure (ba.cond (fun _=>?_) fun _=>aT.lft _);unfold jd;split
  ·split
   ·trivial
   ·split
    ·exact ba.cond (fun _=>aT.lft _) fun _=>trivial
    ·trivial
  ·trivial
 case makeMap t r=>exact .of_stay (by unfold ak;rw[ho]) (by unfold ak;rw[ho]) (ba.cond (fun _=>trivial) fun _=>oA)
 case lookup t x i ok=>exact .of_app (by unfold ak;rw[ho]) (by unfold ak;rw[ho]) ⟨uq _ _ _ _ _,rT _ _ _ _ _⟩
 case mapUpdate t m k x=>exact .of_stay (by unfold ak;rw[ho]) (by unfold ak;rw[ho]) (by unfold gE;split;exact nE _ _ _ _ _;trivial)
 case insert t m k x=>exact .of_stay (by unfold ak;rw[ho]) (by unfold ak;rw[ho]) (by unfold gE;split;exact nE _ _ _ _ _;trivial)
 case range t x=>exact .of_stay (by unfold ak;rw[ho]) (by unfold ak;rw[ho]) (qx _ _ _)
 case entry x=>exact .of_app (by unfold ak;rw[ho]) (by unfold ak;rw[ho]) ⟨rp _,pw _⟩
 case panic x=>
  refine .of_piv ?_ ?_ ?_
  ·unfold ak;rw[ho]
  ·unfold ak;rw[ho]
  ·intro hn;unfold ak at hn;rw[ho]at hn;cases hn
 case call c=>exact rb hI ho
end
end Go.Av
namespace Go.Av
variable [Dr]
structure EqE (e e':Env):Prop where
 get:∀t,e'.get t=e.get t
 al:∀g,aA e'.al g=aA e.al g
 lb:∀B,aI e'.lb B=aI e.lb B
 lf:∀B,aM e'.sl B=aM e.sl B
omit [Dr]in
theorem EqE.refl(e:Env):EqE e e:=⟨fun _=>rfl,fun _=>rfl,fun _=>rfl,fun _=>rfl⟩
omit [Dr]in
theorem EqE.symm{e e':Env}(h:EqE e e'):EqE e' e:=⟨fun t=>(h.get t).symm,fun t=>(h.al t).symm,fun t=>(h.lb t).symm,fun t=>(h.lf t).symm⟩
omit [Dr]in
theorem EqE.trans{a b c:Env}(h:EqE a b)(g:EqE b c):EqE a c:=
 ⟨fun t=>(g.get t).trans (h.get t),fun t=>(g.al t).trans (h.al t),fun t=>(g.lb t).trans (h.lb t),fun t=>(g.lf t).trans (h.lf t)⟩
def RE:R Env->R Env->Prop
 |.fail,_=>True
 |.ok e h,r=>∃e',r= .ok e' h/\EqE e e'
 |.pan v h,r=>r= .pan v h
omit [Dr]in
theorem RE.refl(r:R Env):RE r r:=by
 cases r with
 |ok e h=>exact⟨e,rfl,.refl e⟩
 |pan v h=>exact rfl
 |fail=>trivial
omit [Dr]in
theorem RE.trans{a b c:R Env}(h:RE a b)(g:RE b c):RE a c:=by
 cases a with
 |ok e x=>
  obtain⟨e',rfl,h⟩:=h;obtain⟨e2,rfl,g⟩:=g;exact⟨e2,rfl,h.trans g⟩
 |pan v x=>cases h;exact g
 |fail=>trivial
omit [Dr]in
theorem fl(l r:List (Nat×Ent))(t:Nat):bi (l++r) t=if(∃x∈l,x.1=t)then bi l t else bi r t:=by
 induction l with
 |nil=>simp
 | cons x l ih=>
  obtain⟨k,y⟩:=x;rw[GJ,bw,bw];by_cases hk:k=t
  ·subst hk;simp
  ·rw[if_neg hk,if_neg hk,ih];have:(∃x∈(k,y):: l,x.1=t)↔(∃x∈l,x.1=t):=by
    simp only[Gt,exists_eq_or_imp];constructor
    ·rintro (h|h)
     ·exact absurd h hk
     ·exact h
    ·exact .inr
   simp only[this]
omit [Dr]in
theorem iH{l:List (Nat×Ent)}(r:List (Nat×Ent)){t:Nat}(h:∀x∈l,x.1≠t):bi (l++r) t=bi r t:=by
 rw[fl,if_neg];rintro⟨x,hx,ht⟩;exact h x hx ht
omit [Dr]in
theorem fm(d:Option Tmp)(x:Ent)(r:List (Nat×Ent))(t:Nat):bi (mu d x r) t=if d=some t then x else bi r t:=by
 cases d with
 |none=>simp[mu]
 |some s=>simp only[mu,bw,F7]
omit [Dr]in
theorem kp{l r s:List (Nat×Ent)}{t:Nat}(h:bi r t=bi s t):bi (l++r) t=bi (l++s) t:=by
 rw[fl,fl,h]
omit [Dr]in
theorem d9(l r:List (Nat×Ent))(B:Nat):aM (l++r) B=(aM l B&&aM r B):=by
 unfold aM;rw[IU]
def iR(x:Ent)(B:Nat):Bool:=match x.v with
 |.loc C _=>!(Nat.beq C B)
 |.val _=>true
omit [Dr]in
theorem cW(d:Option Tmp)(x:Ent)(r:List (Nat×Ent))(B:Nat):aM (mu d x r) B=((d.isNone||iR x B)&&aM r B):=by
 cases d with
 |none=>simp[mu]
 |some t=>rfl
omit [Dr]in
theorem fL{l:List (Nat×Ent)}{B t C off:Nat}(h:aM l B=true)(ht:(bi l t).v= .loc C off):C≠B:=by
 induction l with
 |nil=>simp[bi,Ent.none]at ht
 | cons x l ih=>
  obtain⟨k,y⟩:=x;rw[bw]at ht;simp only[aM,GO,F8]at h;split at ht
  ·rw[ht]at h;have h1:=h.1;simp only[GW]at h1;intro hc;rw[hc,Il]at h1;cases h1
  ·exact ih (by unfold aM;exact h.2) ht
omit [Dr]in
theorem cS(l r:List (Nat×Option Nat))(g:Nat):aA (l++r) g=(match aA l g with|some z=>some z|none=>aA r g):=by
 induction l with
 |nil=>rfl
 |cons x l ih=>
  obtain⟨k,y⟩:=x;rw[GJ,bk,bk];split
  ·rfl
  ·exact ih
omit [Dr]in
theorem jW{l:List (Nat×Option Nat)}{k g:Nat}(h:∀x∈l,x.1=k)(hg:g≠k):aA l g=none:=by
 induction l with
 |nil=>rfl
 | cons x l ih=>
  obtain⟨j,y⟩:=x;rw[bk,if_neg]
  ·exact ih fun x hx=>h x (by simp[hx])
  ·have:=h (j,y) (by simp)
   simp at this;omega
omit [Dr]in
theorem i8(r:List (Nat×Nat))(k B:Nat):aI (ig r k) B=if k=B then none else aI r B:=by
 induction r with
 |nil=>simp[ig,aI]
 | cons x r ih=>
  obtain⟨j,y⟩:=x;simp only[ig];by_cases hj:j=k
  ·subst hj;simp only[Il,F9,ih,cm];split<;>rfl
  ·have:Nat.beq j k=false:=by rw[Hd];intro hh;exact hj (Gh hh)
   simp only[this,Gd,cm,ih];by_cases hg:j=B
   ·subst hg;rw[Gg rfl,if_neg (fun h=>hj h.symm),Gg rfl]
   ·rw[if_neg hg,if_neg hg]
omit [Dr]in
theorem EqE.upd{e e':Env}(h:EqE e e')(d:Option Tmp)(u:Upd):EqE (e.upd d u) (e'.upd d u):=by
 refine⟨fun t=>?_,fun g=>?_,fun B=>?_,fun B=>?_⟩
 ·show bi (mu d u.ent (u.ls++e'.sl)) t=bi (mu d u.ent (u.ls++e.sl)) t;rw[fm,fm,kp (h.get t)]
 ·show aA (u.add++cP e'.al u.drop) g=aA (u.add++cP e.al u.drop) g;have:aA (cP e'.al u.drop) g=aA (cP e.al u.drop) g:=by
   cases u.drop with
   |none=>exact h.al g
   |some k=>simp only[cP,ge,h.al g]
  rw[cS,cS,this]
 ·show aI (gd (cu e'.lb u.unlb) u.lb) B=aI (gd (cu e.lb u.unlb) u.lb) B;have:aI (cu e'.lb u.unlb) B=aI (cu e.lb u.unlb) B:=by
   cases u.unlb with
   |none=>exact h.lb B
   |some k=>simp only[cu,i8,h.lb B]
  cases u.lb with
  |none=>exact this
  |some x=>
   obtain⟨k,n⟩:=x;simp only[gd,cm,this]
 ·show aM (mu d u.ent (u.ls++e'.sl)) B=aM (mu d u.ent (u.ls++e.sl)) B;rw[cW,cW,d9,d9,h.lf B]
section
variable {cx:Cx} {ops:Array Oper} {base:Nat}
def c6(ops:Array Oper)(o:Oper):List Nat:=match o.guard with
 |some (j,_)=>(match (ops[j]?).bind (·.dst)with|some t=>[t]|none=>[])
 |none=>[]
omit [Dr]in
theorem dO{i:Nat}{o:Oper}(ho:ops[i]? = some o):bQ ops i=c6 ops o++eP o:=by
 unfold bQ c6;rw[ho];rfl
omit [Dr]in
theorem dJ{e e':Env}{i:Nat}{o:Oper}(ho:ops[i]? = some o)(hg:∀t∈c6 ops o,e'.get t=e.get t)(A:Agree cx o e e'){h:Hp}(hr:de cx base ops i e h≠.fail):de cx base ops i e' h=de cx base ops i e h:=by
 unfold de at hr |-;rw[ho]at hr;rw[ho];simp only at hr |-;have key:∀ {A':Act1->Act1} ,(∀h,b8 (A' .bad) h= .fail)->b8 (A' (dq cx e ((base+i)*1000) o)) h≠.fail->b8 (A' (dq cx e' ((base+i)*1000) o)) h=b8 (A' (dq cx e ((base+i)*1000) o)) h:=by
  intro A' h1 h2;rw[uy A];intro hb;rw[hb]at h2;exact h2 (h1 h)
 cases hgd:o.guard with
 |none=>
  rw[hgd]at hr;exact key (A':=id) (fun _=>rfl) hr
 | some g=>
  obtain⟨j,want⟩:=g;rw[hgd]at hr;simp only at hr |-;cases hdj:cj ops j with
  |none=>rfl
  | some t=>
   rw[hdj]at hr;simp only at hr |-;cases hpl:da cx o with
   |false=>rfl
   | true=>
    rw[hpl]at hr;simp only[F9]at hr |-;have ht:e'.get t=e.get t:=hg t (by unfold c6;rw[hgd];simp only;rw[show (ops[j]?).bind (·.dst)=some t from hdj];simp);have hav:e'.av t=e.av t:=by simp only[Env.av,ht]
    rw[hav];cases hq:e.av t with
    | bool b=>
     rw[hq]at hr;simp only[fX]at hr |-;cases hb:(b== want)with
     |false=>rfl
     |true=>
      rw[hb]at hr;exact key (A':=et) (fun _=>rfl) hr
    |tup vs=>cases vs<;>rfl
    |_=>rfl
omit [Dr]in
theorem EqE.agree{e e':Env}(h:EqE e e')(o:Oper):Agree cx o e e':=
 ⟨fun t _=>h.get t,fun _=>.inl ⟨fun t _=>h.get t,h.lb⟩,fun _=>h.al,fun _ s _ hl=>by rw[h.lf];exact hl⟩
omit [Dr]in
theorem qI{e e':Env}(h:EqE e e')(i:Nat)(x:Hp):RE (stepG cx base ops i e x) (stepG cx base ops i e' x):=by
 unfold stepG;simp only[af,aw];cases hr:de cx base ops i e x with
 |fail=>trivial
 | _=>
  have ho:∃o,ops[i]? = some o:=by
   cases ho:ops[i]? with
   |none=>unfold de at hr;rw[ho]at hr;cases hr
   |some o=>exact⟨o,rfl⟩
  obtain⟨o,ho⟩:=ho;rw[dJ ho (fun t _=>h.get t) (h.agree o) (by rw[hr];simp),hr]
  first
   |exact⟨_,rfl,h.upd _ _⟩
   |exact rfl
omit [Dr]in
theorem RE.bind{m m':M Env}{x x':Hp}(h:RE (m x) (m' x')){f f':Env->M Env}(hf:∀e e' x,EqE e e'->RE (f e x) (f' e' x)):RE (af m f x) (af m' f' x'):=by
 simp only[af];revert h;generalize m x=r;generalize m' x'=r';intro h;cases r with
 |ok e x=>obtain⟨e',rfl,h⟩:=h;exact hf e e' x h
 |pan v x=>cases h;exact rfl
 |fail=>trivial
omit [Dr]in
theorem ji:∀(l:List Nat){e e':Env}(_:EqE e e')(x:Hp),RE (aL cx base ops l e x) (aL cx base ops l e' x)
 |[],e,e',h,x=>⟨e',rfl,h⟩
 |i:: l,e,e',h,x=>by
  exact RE.bind (qI h i x) fun e e' x h=>ji l h x
end
end Go.Av
namespace Go.Av
variable [Dr]
omit [Dr]in
theorem qi{l:List Nat}{t:Nat}(h:t∈l):dp l t=true:=(eb l t).2 h
omit [Dr]in
theorem jc{l:List Nat}{d:Option Nat}(h:bb l d=false):∀t∈l,d≠some t:=by
 intro t ht hd;rw[hd]at h;simp only[bb]at h;rw[qi ht]at h;cases h
omit [Dr]in
theorem jJ{a b:Option Nat}(h:clash a b=false):∀t,a=some t->b≠some t:=by
 intro t ha hb;rw[ha,hb]at h;simp[clash]at h
section
variable {cx:Cx} {ops:Array Oper} {base:Nat} {e:Env}
omit [Dr]in
theorem oM{gid:Nat}{f:Foot}{ss:Option Nat}{u:Upd}(h:Shape e gid f ss u):Shape e gid f ss (dU u):=
 ⟨fun _=>rfl,fun _=>rfl,fun _=>rfl,fun _ x h=>by simp[dU]at h,fun _=>rfl,fun _=>rfl,fun hw C off hh=>h.loc hw C off hh,fun x h=>by simp[dU]at h⟩
omit [Dr]in
theorem sq{p q:Upd->Prop}(hpq:∀u,p u->q (dU u)){A:Act1}(h:bC p A):bC q (et A):=by
 cases A with
 |bad=>trivial
 |stat u=>exact hpq _ h
 |dyn m sh=>exact fun v=>hpq _ (h v)
 |thr v=>trivial
omit [Dr]in
theorem xn{p:∀ {α:Type},M α->Prop}{A:Act1}(h:ba p A):ba p (et A):=by
 cases A<;>exact h
omit [Dr]in
theorem kY{i:Nat}{o:Oper}(ho:ops[i]? = some o){h h':Hp}{u:Upd}(hr:de cx base ops i e h= .ok u h'):Shape e ((base+i)*1000) (ak cx o) (br o) u:=by
 unfold de at hr;rw[ho]at hr;simp only at hr;cases hgd:o.guard with
 |none=>rw[hgd]at hr;exact gI (gU _ _ _ _) hr
 | some g=>
  obtain⟨j,want⟩:=g;rw[hgd]at hr;simp only at hr;cases hdj:cj ops j with
  |none=>rw[hdj]at hr;cases hr
  | some t=>
   rw[hdj]at hr;simp only at hr;cases hpl:da cx o with
   |false=>rw[hpl]at hr;cases hr
   | true=>
    rw[hpl]at hr;simp only[F9]at hr;have h0:∀ {h h':Hp},(aw (Upd.ofV (.tup [])):M Upd) h= .ok u h'->Shape e ((base+i)*1000) (ak cx o) (br o) u:=by
     intro h h' hh;cases hh;exact Shape.ofV ..
    generalize e.av t=q at hr;cases q with
    |bool b=>
     simp only[fX]at hr;cases hb:(b== want)with
     |false=>rw[hb]at hr;exact h0 hr
     |true=>rw[hb]at hr;exact gI (sq (fun u=>oM) (gU _ _ _ _)) hr
    |tup vs=>
     cases vs with
     |nil=>exact h0 hr
     |cons v vs=>cases hr
    |_=>cases hr
omit [Dr]in
theorem sI{p:∀ {α:Type},M α->Prop}(h1:∀ {α:Type} (m:M α),aT m->p m)(h2:∀ {α β:Type} (m:M α) (f:α->β),p m->p (af m fun v=>aw (f v))){A:Act1}(h:ba p A):p (b8 A):=by
 cases A with
 |bad=>exact h1 _ aT.fail
 |stat u=>exact h1 _ (aT.pure u)
 |dyn m sh=>exact h2 _ _ h
 |thr v=>exact h.elim
omit [Dr]in
theorem fD{p:∀ {α:Type},M α->Prop}(h1:∀ {α:Type} (m:M α),aT m->p m)(h2:∀ {α β:Type} (m:M α) (f:α->β),p m->p (af m fun v=>aw (f v))){i:Nat}{o:Oper}(ho:ops[i]? = some o)(h:ba p (dq cx e ((base+i)*1000) o)):p (de cx base ops i e):=by
 unfold de;rw[ho];simp only;cases hgd:o.guard with
 |none=>exact sI h1 h2 h
 | some g=>
  obtain⟨j,want⟩:=g;simp only;cases hdj:cj ops j with
  |none=>exact h1 _ aT.fail
  | some t=>
   simp only;cases hpl:da cx o with
   |false=>exact h1 _ aT.fail
   | true=>
    simp only[F9];unfold fX;split
    ·rename_i b _;cases hb:(b== want)with
     |false=>exact h1 _ (aT.pure _)
     |true=>exact sI h1 h2 (xn h)
    ·exact h1 _ (aT.pure _)
    ·exact h1 _ aT.fail
structure Small (ops:Array Oper):Prop where
 dst:∀(i:Nat)(o:Oper),ops[i]? = some o->∀t,o.dst=some t->t<1000
 src:∀(i:Nat)(o:Oper),ops[i]? = some o->∀t∈eP o,t<1000
omit [Dr]in
theorem Small.reads(hS:Small ops){i:Nat}{o:Oper}(ho:ops[i]? = some o):∀t∈bQ ops i,t<1000:=by
 intro t ht;rw[dO ho,Gx]at ht;rcases ht with ht|ht
 ·unfold c6 at ht;split at ht
  ·rename_i j _ _;cases hj:ops[j]? with
   |none=>rw[hj]at ht;simp at ht
   |some oj=>
    rw[hj]at ht;simp only[HQ]at ht;cases hd:oj.dst with
    |none=>rw[hd]at ht;simp at ht
    |some s=>rw[hd]at ht;simp at ht;rw[ht];exact hS.dst j oj hj s hd
  ·simp at ht
 ·exact hS.src i o ho t ht
omit [Dr]in
theorem gP{gid:Nat}{x:Foot}{ss:Option Nat}{u:Upd}{d:Option Tmp}(hsh:Shape e gid x ss u){t:Nat}(h1:d≠some t)(h2:ss≠some t)(h3:t<1000):(e.upd d u).get t=e.get t:=by
 rw[bB,if_neg h1];refine iH _ fun y hy hyt=>?_;rcases hsh.keys y hy with h|h
 ·omega
 ·exact h2 (by rw[h,hyt])
omit [Dr]in
theorem pP{gid:Nat}{x:Foot}{ss:Option Nat}{u:Upd}{d:Option Tmp}(hsh:Shape e gid x ss u)(hw:x.wl=false){t:Nat}(h1:d≠some t):(e.upd d u).get t=e.get t:=by
 rw[bB,if_neg h1,hsh.ls hw];rfl
omit [Dr]in
theorem mM{gid:Nat}{x:Foot}{ss:Option Nat}{u:Upd}{d:Option Tmp}{o:Oper}(hsh:Shape e gid x ss u)(hd:∀t,d=some t->t<1000)(hops:∀t∈eP o,d≠some t/\ss≠some t/\t<1000)(hloc:((ak cx o).rl||(ak cx o).wl)=true->x.wl=false)(hal:(ak cx o).dr=true->x.ad=false/\x.dr=false):Agree cx o e (e.upd d u):=by
 refine⟨fun t ht=>gP hsh (hops t ht).1 (hops t ht).2.1 (hops t ht).2.2,fun h=>.inl ⟨fun t ht=>pP hsh (hloc h) (fun hh=>IZ.2 ht (hd t hh)),fun B=>?_⟩,fun h g=>?_,fun h s _ hl=>?_⟩
 ·show aI (gd (cu e.lb u.unlb) u.lb) B=aI e.lb B;rw[hsh.lb (hloc h),hsh.unlb (hloc h)];rfl
 ·show aA (u.add++cP e.al u.drop) g=aA e.al g;rw[hsh.noad (hal h).1,hsh.nodr (hal h).2];rfl
 ·have hw:=hloc (by rw[h];simp);show aM (mu d u.ent (u.ls++e.sl)) (aS s)=true;rw[hsh.ls hw,cW,GQ,hl,HU];have:iR u.ent (aS s)=true:=by
   unfold iR;split
   ·rename_i C off hv;obtain⟨t,off',ht⟩:=hsh.loc hw C off hv
    have:=fL hl ht
    rw[GW,Hd];intro hh;exact this (Gh hh)
   ·rfl
  rw[this,Bool.or_true]
omit [Dr]in
theorem tK{gid:Nat}{x:Foot}{ss:Option Nat}{u:Upd}{d:Option Tmp}{o:Oper}(hsh:Shape e gid x ss u)(hd:∀t,d=some t->t<1000)(hops:∀t∈eP o,d≠some t/\ss≠some t/\t<1000)(hloc:((ak cx o).rl||(ak cx o).wl)=true->x.wl=false)(hal:(ak cx o).dr=true->x.ad=false/\x.dr=false):Agree cx o (e.upd d u) e:=by
 have A:=mM (cx:=cx) hsh hd hops hloc hal;refine⟨fun t ht=>(A.ops t ht).symm,fun h=>.inl ⟨fun t ht=>(pP hsh (hloc h) (fun hh=>IZ.2 ht (hd t hh))).symm,fun B=>?_⟩,fun h g=>(A.al h g).symm,fun _ s _ hl=>?_⟩
 case refine_1=>
  show aI e.lb B=aI (gd (cu e.lb u.unlb) u.lb) B;rw[hsh.lb (hloc h),hsh.unlb (hloc h)];rfl
 have hl':aM (mu d u.ent (u.ls++e.sl)) (aS s)=true:=hl;rw[cW,d9]at hl';simp only[F8]at hl';exact hl'.2.2
omit [Dr]in
theorem r4{B n gid:Nat}{cs:List AV}{offs:List Nat}:∀x∈fM B cs offs gid n,B<=x.1/\x.1<B+n:=by
 intro x hx;unfold fM at hx;simp only[H3,List.mem_range]at hx;obtain⟨i,hi,rfl⟩:=hx;simp only;omega
omit [Dr]in
theorem nv{s:Nat}{B k:Nat}(h:s=B+k)(hs:s<1000)(hB:1000<=B):False:=by omega
omit [Dr]in
theorem o5{gid:Nat}{a b:Oper}{u:Upd}{t:TypeId}{p:Nat}{t':TypeId}{h h':Hp}(hsh:Shape e gid (ak cx b) (br b) u)(ha:a.op= .load t (.tmp p))(hb:b.op= .alloc t')(hd:∀s,b.dst=some s->s<1000)(hops:∀t∈eP a,b.dst≠some t/\br b≠some t/\t<1000)(hr:b8 (dq cx e gid b) h= .ok u h'):Agree cx a e (e.upd b.dst u):=by
 refine⟨fun t ht=>gP hsh (hops t ht).1 (hops t ht).2.1 (hops t ht).2.2,fun _=>.inr ⟨t,p,ha,fun B off hB=>?_⟩,fun hdr=>?_,fun hw=>?_⟩
 ·unfold dq at hr;rw[hb]at hr;cases hdst:b.dst with
  |none=>rw[hdst]at hr;cases hr
  | some s=>
   rw[hdst]at hr;have hs:=hd s hdst;simp only at hr;have plain:u.ls=[]->u.lb=none->u.unlb=none->aI (e.upd (some s) u).lb B=aI e.lb B/\(1000<=B->B % 1000=0->∀k,k<1000->(e.upd (some s) u).get (B+k)=e.get (B+k)):=fun h1 h2 h3=>by
    refine⟨by show aI (gd (cu e.lb u.unlb) u.lb) B=_;rw[h2,h3];rfl,fun hB1 _ k _=>?_⟩;rw[bB,if_neg (fun hh=>nv (HY hh) hs hB1),h1];rfl
   unfold dk at hr;cases hT:cx.T t' with
   |none=>rw[hT]at hr;cases hr
   | some ti=>
    rw[hT]at hr;simp only at hr;split at hr
    ·cases hr;exact plain rfl rfl rfl
    ·simp only[b8,af,aw]at hr;split at hr<;>cases hr;exact plain rfl rfl rfl
    ·simp only[b8,af,aw]at hr;split at hr<;>cases hr;exact plain rfl rfl rfl
    ·cases hc:(decide (ti.size<1000)&&aM e.sl (aS s)&&fc (cp true ti) (dh cx.ann.nils s) ti.size)with
     |false=>rw[hc]at hr;cases hr
     | true=>
      rw[hc]at hr;simp only[F8,Ge]at hc;obtain⟨⟨hz,hf⟩,_⟩:=hc;cases hr;have hne:=fL hf hB;refine⟨?_,fun hB1 hB0 k hk=>?_⟩
      ·show aI ((aS s,ti.size):: e.lb) B=aI e.lb B;rw[cm,if_neg (fun hh=>hne hh.symm)]
      ·rw[bB,if_neg (fun hh=>nv (HY hh) hs hB1)];refine iH _ fun y hy hyt=>?_
       have:=r4 y hy
       unfold aS at this hne;omega
 ·unfold ak at hdr;rw[ha]at hdr;cases hdr
 ·unfold ak at hw;rw[ha]at hw;cases hw
omit [Dr]in
theorem qR{gi gj:Nat}{x y:Foot}{si sj:Option Nat}{u v:Upd}{d f:Option Tmp}(hu:Shape e gi x si u)(hv:Shape e gj y sj v)(hy:y.wl=false)(hf:∀t,f=some t->t<1000)(hdf:∀t,d=some t->f≠some t)(hsf:∀t,si=some t->f≠some t)(hg:gi≠gj)(h1:x.dr=true->y.dr=false/\y.ad=false)(h2:x.ad=true->y.dr=false)(h3:x.ad=true->y.ad=true->x.wl=false):EqE ((e.upd d u).upd f v) ((e.upd f v).upd d u):=by
 have e1:=hv.ls hy;have e2:=hv.lb hy;have e3:=hv.unlb hy;refine⟨fun t=>?_,fun g=>?_,fun B=>?_,fun B=>?_⟩
 ·rw[bB,bB,e1];show (if d=some t then u.ent else bi (u.ls++mu f v.ent (v.ls++e.sl)) t)=if f=some t then v.ent else bi (mu d u.ent (u.ls++e.sl)) t;rw[e1,fm,GQ];by_cases hft:f=some t
  ·rw[Gg hft,if_neg (fun h=>hdf t h hft),iH,fm,Gg hft];intro z hz hzt;rcases hu.keys z hz with h|h
   ·exact IZ.2 h (by rw[hzt];exact hf t hft)
   ·exact hsf z.1 h (by rw[hzt];exact hft)
  ·rw[if_neg hft];split
   ·rfl
   ·exact kp (by rw[fm,if_neg hft])
 ·show aA (u.add++cP (v.add++cP e.al v.drop) u.drop) g=aA (v.add++cP (u.add++cP e.al u.drop) v.drop) g;cases hxd:x.dr with
  |true=>
   obtain⟨h4,h5⟩:=h1 hxd;rw[hv.noad h5,hv.nodr h4];rfl
  | false=>
   rw[hu.nodr hxd];cases hxa:x.ad with
   |false=>rw[hu.noad hxa];rfl
   | true=>
    rw[hv.nodr (h2 hxa)];cases hya:y.ad with
    |false=>rw[hv.noad hya];rfl
    |true=>
     have k1:=hu.add (h3 hxa hya);have k2:=hv.add hy;show aA (u.add++(v.add++e.al)) g=aA (v.add++(u.add++e.al)) g;rw[cS,cS,cS,cS];by_cases hgi:g=gi
     ·rw[jW k2 (by omega)]
     ·rw[jW k1 hgi]
 ·show aI (gd (cu (gd (cu e.lb v.unlb) v.lb) u.unlb) u.lb) B=aI (gd (cu (gd (cu e.lb u.unlb) u.lb) v.unlb) v.lb) B;rw[e2,e3];rfl
 ·show aM (mu d u.ent (u.ls++mu f v.ent (v.ls++e.sl))) B=aM (mu f v.ent (v.ls++mu d u.ent (u.ls++e.sl))) B;simp only[cW,d9]
  ac_rfl
end
end Go.Av
namespace Go.Av
variable [Dr]
section
variable {cx:Cx} {ops:Array Oper} {base:Nat}
structure Ind (cx:Cx) (ops:Array Oper) (i j:Nat) (a b:Oper):Prop where
 ha:ops[i]? = some a
 hb:ops[j]? = some b
 piv:(ak cx a).piv=false
 l1:(ak cx a).wl=true->(ak cx b).rl=false/\(ak cx b).wl=false
 l2:(ak cx a).rl=true->(ak cx b).wl=false\/((∃t p,a.op= .load t (.tmp p))/\(∃t,b.op= .alloc t)/\b.guard=none)
 h1:(ak cx a).wh=true->(ak cx b).rh=false/\(ak cx b).wh=false
 h2:(ak cx a).rh=true->(ak cx b).wh=false\/(ak cx b).nw=true
 g1:(ak cx a).dr=true->(ak cx b).dr=false/\(ak cx b).ad=false
 g2:(ak cx a).ad=true->(ak cx b).dr=false
 g3:(ak cx a).ad=true->(ak cx b).ad=true->(ak cx a).wl=false/\(ak cx b).wl=false
 r1:∀t∈bQ ops j,a.dst≠some t
 r2:∀t∈bQ ops i,b.dst≠some t
 s1:∀t∈bQ ops j,br a≠some t
 s2:∀t∈bQ ops i,br b≠some t
 c1:∀t,br a=some t->b.dst≠some t
 c2:∀t,a.dst=some t->br b≠some t
 c3:∀t,a.dst=some t->b.dst≠some t
omit [Dr]in
theorem uj{i j:Nat}(h:iZ cx ops i j=true):∃a b,Ind cx ops i j a b:=by
 unfold iZ at h;split at h
 ·rename_i a b ha hb;refine⟨a,b,?_⟩;simp only[F8,GW]at h;obtain⟨⟨⟨⟨⟨⟨⟨⟨⟨⟨⟨⟨⟨⟨k1,k2⟩,k3⟩,k4⟩,k5⟩,k6⟩,k7⟩,k8⟩,k9⟩,k10⟩,k11⟩,k12⟩,k13⟩,k14⟩,k15⟩:=h;refine⟨ha,hb,k1,fun q=>?_,fun q=>?_,fun q=>?_,fun q=>?_,fun q=>?_,fun q=>?_,fun q q'=>?_,jc k9,jc k10,jc k11,jc k12,jJ k13,jJ k14,jJ k15⟩
  ·rw[q]at k2;simpa using k2
  ·rw[q]at k3;cases hw:(ak cx b).wl with
   |false=>exact .inl rfl
   | true=>
    rw[hw]at k3;simp only[HC,F8,GW,H1]at k3;refine .inr ⟨?_,?_⟩
    ·have h1:=k3.1;unfold DC at h1;split at h1
     ·rename_i t p ho;exact⟨t,p,ho⟩
     ·cases h1
    ·have h1:=k3.2;unfold Dz at h1;split at h1
     ·rename_i t ho;exact⟨⟨t,ho⟩,by simpa using h1⟩
     ·cases h1
  ·rw[q]at k4;simpa using k4
  ·rw[q]at k5;simp only[HC]at k5;cases hb:(ak cx b).wh<;>simp_all
  ·rw[q]at k6;simpa using k6
  ·rw[q]at k7;simpa using k7
  ·rw[q,q']at k8;simpa using k8
 ·cases h
omit [Dr]in
theorem swap(hI:IsoPure cx)(hS:Small ops){i j:Nat}(hij:iZ cx ops i j=true)(hne:i≠j)(e:Env)(h:Hp):
  RE (af (stepG cx base ops i e) (stepG cx base ops j) h) (af (stepG cx base ops j e) (stepG cx base ops i) h):=by
 obtain⟨a,b,I⟩:=uj hij;have hda:cj ops i=a.dst:=by simp[cj,I.ha]
 have hdb:cj ops j=b.dst:=by simp[cj,I.hb]
 unfold stepG;rw[hda,hdb];simp only[af,aw];cases hri:de cx base ops i e h with
 |fail=>trivial
 |pan v h'=>exact absurd hri (fD (p:=@cL) (fun _ g=>g.read.stay) (fun _ f g=>g.bnd f) I.ha ((c8 hI e _ a).stay I.piv) h v h')
 | ok u h1=>
  simp only;have shu:=kY I.ha hri;have hra:=dO (ops:=ops) I.ha;have hrb:=dO (ops:=ops) I.hb;have hbo:∀t∈eP b,a.dst≠some t/\br a≠some t/\t<1000:=fun t ht=>⟨I.r1 t (by rw[hrb];simp[ht]),I.s1 t (by rw[hrb];simp[ht]),hS.src j b I.hb t ht⟩;have hao:∀t∈eP a,b.dst≠some t/\br b≠some t/\t<1000:=fun t ht=>⟨I.r2 t (by rw[hra];simp[ht]),I.s2 t (by rw[hra];simp[ht]),hS.src i a I.ha t ht⟩;have Abwd:Agree cx b (e.upd a.dst u) e:=tK shu (hS.dst i a I.ha) hbo (fun q=>by
   cases hw:(ak cx a).wl with
   |false=>rfl
   |true=>obtain⟨q1,q2⟩:=I.l1 hw;rw[q1,q2]at q;cases q) (fun q=>by
   constructor
   ·cases hw:(ak cx a).ad with
    |false=>rfl
    |true=>have:=I.g2 hw;rw[this]at q;cases q
   ·cases hw:(ak cx a).dr with
    |false=>rfl
    |true=>have:=(I.g1 hw).1;rw[this]at q;cases q)
  have hgb:∀t∈c6 ops b,e.get t=(e.upd a.dst u).get t:=fun t ht=>by
   have htr:t∈bQ ops j:=by rw[hrb];simp[ht]
   exact (gP shu (I.r1 t htr) (I.s1 t htr) (hS.reads I.hb t htr)).symm
  -- the second, after the first
  cases hrj:de cx base ops j (e.upd a.dst u) h1 with
  |fail=>trivial
  | pan v h2=>
   have hj:=dJ (base:=base) I.hb hgb Abwd (h:=h1) (by rw[hrj];simp);rw[hrj]at hj
   -- j leaves: so it may write, and i did not touch the heap
   have hwb:(ak cx b).wh=true:=by
    cases hw:(ak cx b).wh with
    |true=>rfl
    |false=>exact absurd hj ((fD (p:=@cz) (fun _ g=>g.read) (fun _ f g=>g.bnd f) I.hb ((c8 hI e _ b).read hw)).stay _ _ _)
   have hwa:(ak cx a).wh=false:=by
    cases hw:(ak cx a).wh with
    |false=>rfl
    |true=>have:=(I.h1 hw).2;rw[this]at hwb;cases hwb
   have hh:h1=h:=by
    have hR:cz (de cx base ops i e):=fD (p:=@cz) (fun _ g=>g.read) (fun _ f g=>g.bnd f) I.ha ((c8 hI e _ a).read hwa);rcases hR h with hx|⟨u',hx⟩<;>rw[hri]at hx<;>cases hx;rfl
   subst hh;rw[hj];exact rfl
  | ok v h2=>
   have hj:=dJ (base:=base) I.hb hgb Abwd (h:=h1) (by rw[hrj];simp);rw[hrj]at hj;have shv:=kY I.hb hj
   have Afwd:Agree cx a e (e.upd b.dst v):=by
     by_cases hla:(ak cx b).wl=true/\(ak cx a).rl=true
     ·rcases I.l2 hla.2 with hw|⟨⟨t,p,ho⟩,⟨t',ho'⟩,hgd⟩
      ·rw[hw]at hla;cases hla.1
      ·have hr':b8 (dq cx e ((base+j)*1000) b) h1= .ok v h2:=by
        have:=hj
        unfold de at this;rw[I.hb]at this;simp only[hgd]at this;exact this
       exact o5 shv ho ho' (hS.dst j b I.hb) hao hr'
     exact mM shv (hS.dst j b I.hb) hao (fun q=>by
    cases hw:(ak cx b).wl with
    |false=>rfl
    | true=>
     exfalso;cases hrl:(ak cx a).rl with
     |true=>exact hla ⟨hw,hrl⟩
     |false=>
      rw[hrl]at q;have hwl:(ak cx a).wl=true:=by simpa using q
      have:=(I.l1 hwl).2
      rw[this]at hw;cases hw) (fun q=>⟨(I.g1 q).2,(I.g1 q).1⟩)
   have hga:∀t∈c6 ops a,(e.upd b.dst v).get t=e.get t:=fun t ht=>by
    have htr:t∈bQ ops i:=by rw[hra];simp[ht]
    exact gP shv (I.r2 t htr) (I.s2 t htr) (hS.reads I.ha t htr)
   have hcomm:EqE ((e.upd a.dst u).upd b.dst v) ((e.upd b.dst v).upd a.dst u):=by
    have hgij:(base+i)*1000≠(base+j)*1000:=by omega
    cases hwb:(ak cx b).wl with
    |false=>
     exact qR shu shv hwb (hS.dst j b I.hb) I.c3 I.c1 hgij I.g1 I.g2 (fun q q'=>(I.g3 q q').1)
    | true=>
     have hwa:(ak cx a).wl=false:=by
      cases hw:(ak cx a).wl with
      |false=>rfl
      |true=>have:=(I.l1 hw).2;rw[this]at hwb;cases hwb
     refine (qR shv shu hwa (hS.dst i a I.ha) (fun t ht hh=>I.c3 t hh ht) (fun t ht hh=>I.c2 t hh ht) (Ne.symm hgij) (fun q=>⟨?_,?_⟩) (fun q=>?_) (fun q q'=>?_)).symm
     ·cases hw:(ak cx a).dr with
      |false=>rfl
      |true=>have:=(I.g1 hw).1;rw[this]at q;cases q
     ·cases hw:(ak cx a).ad with
      |false=>rfl
      |true=>have:=I.g2 hw;rw[this]at q;cases q
     ·cases hw:(ak cx a).dr with
      |false=>rfl
      |true=>have:=(I.g1 hw).2;rw[this]at q;cases q
     ·have:=(I.g3 q' q).2;rw[this]at hwb;cases hwb
   cases hwa:(ak cx a).wh with
   | false=>
    have hR:cz (de cx base ops i e):=fD (p:=@cz) (fun _ g=>g.read) (fun _ f g=>g.bnd f) I.ha ((c8 hI e _ a).read hwa);have hh:h1=h:=by
     rcases hR h with hx|⟨u',hx⟩<;>rw[hri]at hx<;>cases hx;rfl
    subst hh;rw[hj];simp only;have hi2:de cx base ops i e h2= .ok u h2:=by
     cases hra':(ak cx a).rh with
     |false=>
      obtain⟨q,hq⟩:aT (de cx base ops i e):=fD (p:=@aT) (fun _ g=>g) (fun _ f g=>g.bnd f) I.ha ((c8 hI e _ a).pure hwa hra');rw[hq]at hri |-;cases q with
      |none=>cases hri
      |some u'=>cases hri;rfl
     | true=>
      rcases I.h2 hra' with hwb|hnw
      case inr=>
       have hNw:qV (de cx base ops j e):=fD (p:=@qV) (fun _ g=>g.nw) (fun _ f g=>g.bnd f) I.hb ((c8 hI e _ b).nw hnw);have hAp:g9 (de cx base ops i e)/\cz (de cx base ops i e):=fD (p:=fun m=>g9 m/\cz m) (fun _ g=>⟨g.app,g.read⟩) (fun _ f g=>g9.bnd g f) I.ha ((c8 hI e _ a).app hwa);obtain⟨t,rfl⟩:=hNw _ _ _ hj;exact hAp.1 _ t _ hri
      have hRb:cz (de cx base ops j e):=fD (p:=@cz) (fun _ g=>g.read) (fun _ f g=>g.bnd f) I.hb ((c8 hI e _ b).read hwb);rcases hRb h1 with hx|⟨u',hx⟩<;>rw[hj]at hx<;>cases hx;exact hri
    rw[dJ I.ha hga Afwd (by rw[hi2];simp),hi2];exact⟨_,rfl,hcomm⟩
   | true=>
    obtain⟨hrb',hwb⟩:=I.h1 hwa;obtain⟨q,hq⟩:aT (de cx base ops j e):=fD (p:=@aT) (fun _ g=>g) (fun _ f g=>g.bnd f) I.hb ((c8 hI e _ b).pure hwb hrb');rw[hq]at hj |-;cases q with
    |none=>cases hj
    |some u'=>
     cases hj;simp only[aj];rw[dJ I.ha hga Afwd (by rw[hri];simp),hri];exact⟨_,rfl,hcomm⟩
omit [Dr]in
theorem zR(hI:IsoPure cx)(hS:Small ops){i:Nat}(q:List Nat):∀(p:List Nat),(∀x∈p,iZ cx ops x i=true/\x≠i)->∀(e:Env)(h:Hp),RE (aL cx base ops (p++i:: q) e h) (aL cx base ops (i:: (p++q)) e h)
 |[],_,e,h=>RE.refl _
 | x:: p,hp,e,h=>by
  have ih:=fun e h=>zR hI hS q p (fun y hy=>hp y (by simp[hy])) e h;have h1:RE (aL cx base ops (x:: (p++i:: q)) e h) (aL cx base ops (x:: i:: (p++q)) e h):=by
   simp only[aL,af]at ih |-;cases stepG cx base ops x e h with
   |ok e' h'=>exact ih e' h'
   |pan v h'=>exact rfl
   |fail=>trivial
  refine h1.trans ?_;have e1:aL cx base ops (x:: i:: (p++q)) e=af (af (stepG cx base ops x e) (stepG cx base ops i)) (aL cx base ops (p++q)):=by rw[cO];rfl
  have e2:aL cx base ops (i:: x:: (p++q)) e=af (af (stepG cx base ops i e) (stepG cx base ops x)) (aL cx base ops (p++q)):=by rw[cO];rfl
  show RE (aL cx base ops (x:: i:: (p++q)) e h) (aL cx base ops (i:: x:: (p++q)) e h);rw[e1,e2];exact RE.bind (swap hI hS (hp x (by simp)).1 (hp x (by simp)).2 e h) fun e e' x h=>ji _ h x
end
end Go.Av
